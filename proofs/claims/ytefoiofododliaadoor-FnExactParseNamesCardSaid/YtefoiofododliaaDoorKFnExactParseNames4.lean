/- Texts of this session for the law FnExactParseNames, put together by a program (merge.py): each ends with its namespace; conditions stand with each theorem. -/
import Derived.Test.YtefoiofododliaaDoorKFnExactParseNames2
import Derived.Test.YtefoiofododliaaDoorKFnExactParseNames3
import Derived.Test.YtefoiofododliaaDoorKFnExactParseNames1
import Derived.Lib.Strings
import Derived.Deep.Slices
import Derived.Lib.SplitLaws
import Derived.Lib.IndexBytes
import Derived.Lib.IndexLaws
namespace Go.Proofs.YtefoiofododliaaDoor.G
open Go.RowKit Go.Proofs.YtefoiofododliaaDoorW.PrintWords Go.Proofs.YtefoiofododliaaDoorW.PrintLast Go.Proofs.YtefoiofododliaaDoorW.PrintMore
open Go.Proofs.YtefoiofododliaaDoor.Gl Go.Proofs.YtefoiofododliaaDoor.Ext
attribute [local go_sem] max2_int min2_int max_two min_two max_three min_three max_four min_four   -- for this text's walks alone
set_option linter.unusedVariables false
set_option linter.unusedSimpArgs false

/-! ### impl_parseNames: function 10 -/
def impl_parseNames.l0 : Nat → List (S31) → List ByteArray → Int → Int → Option ((List (S31)) × Bool)
 | 0, _, _, _, _ => none
 | k + 1, x4, x14, x15, x16 => if x16 < x15 then (if 0 ≤ x16 then (if x16 < (x14.length : Int) then ((impl_ParseInverse.f k (rdOf ByteArray.empty x14 x16)).bind fun bt287 => (if bt287.2.2.2.2 = true then (if (x4.length : Int) = 4 then (some (([] : List (S31)), false)) else (if x4.length < 1954687338268 then (impl_parseNames.l0 k (x4 ++ [(⟨bt287.1, bt287.2.1, bt287.2.2.1, bt287.2.2.2.1⟩ : S31)]) x14 x15 (wrap64 (x16 + 1))) else (none))) else (some (([] : List (S31)), false)))) else (none)) else (none)) else (some (x4, true))
def impl_parseNames.f (k : Nat) (a0 : ByteArray) : Option ((List (S31)) × Bool) := (some (([] : List (S31)) : List (S31))).bind fun y280 => (if a0.toList = ([] : List UInt8) then (some (y280, true)) else ((strings_Split.f a0 (⟨#[59, 32]⟩ : ByteArray)).bind fun t283 => (impl_parseNames.l0 k y280 t283 (t283.length : Int) 0)))
theorem impl_parseNames.mono_l : ∀ k, (∀ y0 y1 y2 y3, LeO (impl_parseNames.l0 k y0 y1 y2 y3) (impl_parseNames.l0 (k + 1) y0 y1 y2 y3))
 | 0 => fun _ _ _ _ r h => by simp [impl_parseNames.l0] at h
 | k + 1 => by
  have ih0 := impl_parseNames.mono_l k
  ·
   intro y0 y1 y2 y3
   unfold impl_parseNames.l0
   repeat' first
   | (with_reducible exact ih0 _ _ _ _)
   | (with_reducible exact impl_ParseInverse.mono _ _)
   | (with_reducible exact LeO.refl _)
   | (with_reducible exact LeO.none _)
   | (with_reducible refine LeO.ite ?_ ?_)
   | (with_reducible refine LeO.bind ?_ (fun _ => ?_))
   | exact ih0 _ _ _ _
   | exact impl_ParseInverse.mono _ _
   | exact LeO.none _
   | refine LeO.ite ?_ ?_
   | refine LeO.bind ?_ (fun _ => ?_)
theorem impl_parseNames.mono : ∀ a0 k, LeO (impl_parseNames.f k a0) (impl_parseNames.f (k + 1) a0) := by
 intro a0 k
 have ih0 := impl_parseNames.mono_l k
 unfold impl_parseNames.f
 repeat' first
   | (with_reducible exact ih0 _ _ _ _)
   | (with_reducible exact impl_ParseInverse.mono _ _)
   | (with_reducible exact LeO.refl _)
   | (with_reducible exact LeO.none _)
   | (with_reducible refine LeO.ite ?_ ?_)
   | (with_reducible refine LeO.bind ?_ (fun _ => ?_))
   | exact ih0 _ _ _ _
   | exact impl_ParseInverse.mono _ _
   | exact LeO.none _
   | refine LeO.ite ?_ ?_
   | refine LeO.bind ?_ (fun _ => ?_)
set_option maxRecDepth 100000 in
theorem impl_parseNames.L0 {P : Prop} (h : P := by
  go_wp2_with (first | ((with_reducible refine gate_callee (f := 19) rfl ?_); refine goesL_ (some 22) rfl rfl Tryd.func19 (by kernel_rfl) rfl #[.string (rdOf ByteArray.empty t283 x16_1)] rfl au24 ?_; (with_reducible refine (impl_ParseInverse.calls (hG := au4) k1 (rdOf ByteArray.empty t283 x16_1) t287 t290 t291 t292 _ _ A13.out).mono ?_); rintro e w16 ⟨v288, rfl, ho0, hb⟩; refine ⟨_, rfl, ?_⟩; replace HO_4 := Aside0.mk (Kd.S_elder' au71 (Kd.R_base ho0) hb); have HO289 := Aside0.mk (Kd.R_lower (Kd.R_new' ho0 (Kd.R_lt au64)) (below_size au27)); replace HO_14 := Aside0.mk (Kd.R_elder' au64 (Kd.R_base ho0) hb); replace HB := Aside0.mk (below_step au27 hb); (try clear hb); (try clear ho0)) | ((with_reducible refine gate_dst (N := 7) rfl ?_); (try (refine gate_guard (by rfl) ?_; dsimp only)); refine box_event ?hg (N := 7) ?hd (cs := #[.slice none 0 0, .string (⟨#[]⟩ : ByteArray), .string (⟨#[]⟩ : ByteArray), .string (⟨#[]⟩ : ByteArray)]) (t := 31) ?hr ?_; (case hd => rfl); (case hg => rfl); (case hr => first | (go_simp; done) | (go_simp; rfl)); intro gb294 hg w17 hbox hb; replace HO_4 := Aside0.mk (Kd.S_below (Kd.S_elderB au71 gb294 (Nat.le_of_eq hg.symm)) hb); replace HO_14 := Aside0.mk (Kd.R_below au64 hb); replace HO289 := Aside0.mk (Kd.R_below au65 hb); have BK294 := Aside0.mk (hbox); have GW294 := Aside0.mk (bsz hg au27); have GE294 := Aside0.mk (bsz hg au27); replace HB := Aside0.mk (below_step au27 hb); clear hb hbox hg; obtain ⟨Ao18, co18, eo18⟩ := Kd.R_slice HO289.out; subst eo18; obtain ⟨hcz19_0, hcz19_1, hcz19_2, hcz19_3, hfz19_0, hfz19_1, hfz19_2, hfz19_3⟩ := blkc4 BK294.out; obtain ⟨Ao20, co20, eo20⟩ := Kd.S_slice HO_4.out; subst eo20))
  go_ret2
  first | (exact ⟨_, by first | rfl | (simp [errW_none, errW_some] <;> rfl) | (simp [*, errW_none, errW_some] <;> rfl), by first | exact Kd.S_nil _ _ _ _ _ | exact Kd.N_nil _ _ _ _ _ | exact Kd.V_nil _ _ _ _ _ | exact Kd.Q_nil _ _ _ _ _ | exact Kd.R_nil _ _ _ _ _, by repeat (first | (with_reducible first | exact HB.out | apply below_alloc | apply pw_below_drewN | apply below_drew1 | refine below_set ?_ GE294.out) | exact HB.out)⟩) | (exact ⟨_, by first | rfl | (simp [errW_none, errW_some] <;> rfl) | (simp [*, errW_none, errW_some] <;> rfl), by (with_reducible repeat (first | apply Kd.S_alloc | apply Kd.S_drewN | apply Kd.S_drew)); exact Kd.S_mono HO_4.out (fun _ hk => trivial), by repeat (first | (with_reducible first | exact HB.out | apply below_alloc | apply pw_below_drewN | apply below_drew1) | exact HB.out)⟩)) : P := h
set_option maxHeartbeats 8000000 in
set_option maxRecDepth 100000 in
theorem impl_parseNames.calls (k : Nat) (a0 : ByteArray) (r1 : List (S31)) (r2 : Bool) (w : World) {gF1 gF2 gF3 : Bool} (hG : GL gF1 gF2 gF3 w) (h : impl_parseNames.f k a0 = some (r1, r2)) :
  Calls Tryd.prog 10 #[.string a0] w fun e w' => ∃ v0_ : Value, e = .returned (.tuple #[v0_, .bool r2]) ∧ Kd.S k31 31 w' w.heap.size (fun _ => True) v0_ r1 ∧ Below w.heap.size w w' := by
 have HG := Aside0.mk hG
 clear hG
 have hu31 := Tryd.underlying31
 have HB := Aside0.mk (Below.refl w.heap.size w)
 have H : ((some (([] : List (S31)) : List (S31))).bind fun y280 => (if a0.toList = ([] : List UInt8) then (some (y280, true)) else ((strings_Split.f a0 (⟨#[59, 32]⟩ : ByteArray)).bind fun t283 => (impl_parseNames.l0 k y280 t283 (t283.length : Int) 0)))) = some (r1, r2) := h
 clear h
 obtain ⟨y280, hy280⟩ : ∃ y_ : List (S31), y_ = (([] : List (S31))) := ⟨_, rfl⟩
 replace H : (if a0.toList = ([] : List UInt8) then (some (y280, true)) else ((strings_Split.f a0 (⟨#[59, 32]⟩ : ByteArray)).bind fun t283 => (impl_parseNames.l0 k y280 t283 (t283.length : Int) 0))) = some (r1, r2) := by first | (rw [hy280]; with_reducible exact H) | (have H2_ := (Option.bind_some _ _).symm.trans H; rw [hy280]; with_reducible exact H2_) | (have H2_ := (Option.bind_some _ _).symm.trans H; with_reducible exact H2_) | with_reducible exact H | (rw [hy280]; exact H) | exact H
 have Ny280 := Aside0.mk hy280
 clear hy280
 by_cases c2 : a0.toList = ([] : List UInt8)
 ·
  rw [if_pos c2] at H
  have c2b0 : (a0.toList == ([] : List UInt8)) = true := beq_iff_eq.mpr c2
  have c2b1 : (a0.toList != ([] : List UInt8)) = false := bne_eq_false_iff_eq.mpr c2
  clear c2
  simp only [Option.some.injEq, Prod.mk.injEq] at H
  obtain ⟨rfl, rfl⟩ := H
  go_enter Tryd.func10, Tryd.ntmps10
  go_wp2_with (first | ((with_reducible refine gate_dst (N := 9) rfl ?_); (try (refine gate_guard (by rfl) ?_; dsimp only)); refine Kd.S_lit k31 _ 31 ?hg (N := 9) ?hd (xs := ([] : List (S31))) (inner := []) (ok := fun _ => True) (okp := fun _ => True) ?hr ?hp (fun _ hk => hk) trivial (Below.refl _ _) (Nat.le_refl _) (by simp) ?_; (case hd => rfl); (case hg => rfl); (case hr => first | (go_simp; done) | (go_simp; rfl)); (case hp => exact (Reps.none _ _)); intro v281 w3 ho4 hb hg_ hnew_; clear hg_ hnew_; (first | rw [← Ny280.out] at ho4 | (simp only [Int.reduceToNat] at ho4; rw [← Ny280.out] at ho4)); have HO282 := Aside0.mk (Kd.S_lower ho4 (below_size au27)); replace HB := Aside0.mk (below_step au27 hb); clear hb ho4))
  go_ret2
  exact ⟨_, by first | rfl | (simp [errW_none, errW_some] <;> rfl) | (simp [*, errW_none, errW_some] <;> rfl), by (with_reducible repeat (first | apply Kd.S_alloc | apply Kd.S_drewN | apply Kd.S_drew)); exact HO282.out, by repeat (first | (with_reducible first | exact HB.out | apply below_alloc | apply pw_below_drewN | apply below_drew1) | exact HB.out)⟩
 ·
  rw [if_neg c2] at H
  have c2b0 : (a0.toList == ([] : List UInt8)) = false := beq_eq_false_iff_ne.mpr c2
  have c2b1 : (a0.toList != ([] : List UInt8)) = true := bne_iff_ne.mpr c2
  replace H := Option.bind_eq_some_iff.mp H
  obtain ⟨t283, A50, H⟩ := H
  try dsimp only at H
  have A5 := Aside0.mk A50
  clear A50
  have H' := Aside0.mk H
  clear H
  go_enter Tryd.func10, Tryd.ntmps10
  go_wp2_with (first | ((with_reducible refine gate_dst (N := 9) rfl ?_); (try (refine gate_guard (by rfl) ?_; dsimp only)); refine Kd.S_lit k31 _ 31 ?hg (N := 9) ?hd (xs := ([] : List (S31))) (inner := []) (ok := fun _ => True) (okp := fun _ => True) ?hr ?hp (fun _ hk => hk) trivial (Below.refl _ _) (Nat.le_refl _) (by simp) ?_; (case hd => rfl); (case hg => rfl); (case hr => first | (go_simp; done) | (go_simp; rfl)); (case hp => exact (Reps.none _ _)); intro v281 w6 ho7 hb hg_ hnew_; clear hg_ hnew_; (first | rw [← Ny280.out] at ho7 | (simp only [Int.reduceToNat] at ho7; rw [← Ny280.out] at ho7)); have HO282 := Aside0.mk (Kd.S_lower ho7 (below_size au27)); replace HB := Aside0.mk (below_step au27 hb); clear hb ho7) | ((with_reducible refine gate_callee (f := 18) rfl ?_); refine goesL_ (some 14) rfl rfl Tryd.func18 (by kernel_rfl) rfl #[.string a0, .string (⟨#[59, 32]⟩ : ByteArray)] rfl au24 ?_; (with_reducible refine (strings_Split.calls (hG := au4) a0 (⟨#[59, 32]⟩ : ByteArray) t283 _ A5.out).mono ?_); rintro e w8 ⟨v284, rfl, ho0, hb⟩; refine ⟨_, rfl, ?_⟩; replace HO282 := Aside0.mk (Kd.S_elder' (by (with_reducible repeat (first | apply Kd.S_alloc | apply Kd.S_drewN | apply Kd.S_drew)); exact HO282.out) (Kd.R_base ho0) hb); have HO285 := Aside0.mk (Kd.R_lower ho0 (below_size au27)); replace HB := Aside0.mk (below_step au27 hb); (try clear hb); (try clear ho0); obtain ⟨Ao9, co9, eo9⟩ := Kd.R_slice HO285.out; subst eo9))
  go_loopg [4, 16] k (fun kq v4 v16 w' => ∃ (x4_1 : List (S31)) (x16_1 : Int), v16 = .int .i64 x16_1 ∧ Aside0 (impl_parseNames.l0 kq x4_1 t283 (t283.length : Int) x16_1 = some (r1, r2)) ∧ Aside0 (kq ≤ k) ∧ Aside0 (Kd.S k31 31 w' w.heap.size (fun k_ => some k_ ≠ ((.slice Ao9 t283.length co9) : Value).ownBlock) v4 x4_1) ∧ Aside0 (Kd.R Kd.string 9 w' w.heap.size (fun _ => True) (.slice Ao9 t283.length co9) t283) ∧ Aside0 (Below w.heap.size w w'))
  case atStart => exact ⟨(y280), (0), au76, H', ⟨Nat.le_refl _⟩, ⟨by (with_reducible repeat (first | apply Kd.S_alloc | apply Kd.S_drewN | apply Kd.S_drew)); exact Kd.S_mono HO282.out (fun _ hk => hk.2)⟩, ⟨by (with_reducible repeat (first | apply Kd.R_alloc | apply Kd.R_drewN | apply Kd.R_drew)); exact HO285.out⟩, ⟨by repeat (first | (with_reducible first | exact HB.out | apply below_alloc | apply pw_below_drewN | apply below_drew1) | exact HB.out)⟩⟩
  case round =>
   clear H'
   try clear c1
   try clear c2
   try clear c2b0
   try clear c2b1
   try clear p2
   obtain ⟨x4_1, x16_1, rfl, HA, HK1, HO_4, HO_14, HB⟩ := hrel
   cases gk with
   | zero => exact absurd HA.out (by simp [impl_parseNames.l0])
   | succ k1 =>
    have H := HA.out
    clear HA
    simp only [impl_parseNames.l0] at H
    by_cases c10 : x16_1 < (t283.length : Int)
    ·
     rw [if_pos c10] at H
     have c10b0 : decide (x16_1 < (t283.length : Int)) = true := decide_eq_true c10
     clear c10
     by_cases c11 : 0 ≤ x16_1
     ·
      rw [if_pos c11] at H
      have c11b0 : decide (0 ≤ x16_1) = true := decide_eq_true c11
      clear c11
      by_cases c12 : x16_1 < (t283.length : Int)
      ·
       rw [if_pos c12] at H
       have c12b0 : decide (x16_1 < (t283.length : Int)) = true := decide_eq_true c12
       clear c12
       replace H := Option.bind_eq_some_iff.mp H
       obtain ⟨⟨t287, t290, t291, t292, t293⟩, A130, H⟩ := H
       replace H : (if t293 = true then (if (x4_1.length : Int) = 4 then (some (([] : List (S31)), false)) else (if x4_1.length < 1954687338268 then (impl_parseNames.l0 k1 (x4_1 ++ [(⟨t287, t290, t291, t292⟩ : S31)]) t283 (t283.length : Int) (wrap64 (x16_1 + 1))) else (none))) else (some (([] : List (S31)), false))) = some (r1, r2) := H
       have A13 := Aside0.mk A130
       clear A130
       by_cases c14 : t293 = true
       ·
        subst c14
        replace H := (if_pos rfl).symm.trans H
        by_cases c15 : (x4_1.length : Int) = 4
        ·
         rw [if_pos c15] at H
         have c15b0 : ((x4_1.length : Int) == 4) = true := beq_iff_eq.mpr c15
         have c15b1 : ((x4_1.length : Int) != 4) = false := bne_eq_false_iff_eq.mpr c15
         clear c15
         simp only [Option.some.injEq, Prod.mk.injEq] at H
         obtain ⟨rfl, rfl⟩ := H
         have p286 : 0 ≤ (x16_1 : Int) := of_decide_eq_true au75
         have q286 : x16_1 < (t283.length : Int) := of_decide_eq_true au75
         obtain ⟨ad286, e286, hx286_0⟩ := Kd.at_string (Kd.R_reads' HO_14.out).2.2 x16_1 p286 q286
         cases e286
         replace p286 := eq_true p286
         replace q286 := eq_true q286
         exact impl_parseNames.L0
        ·
         rw [if_neg c15] at H
         have c15b0 : ((x4_1.length : Int) == 4) = false := beq_eq_false_iff_ne.mpr c15
         have c15b1 : ((x4_1.length : Int) != 4) = true := bne_iff_ne.mpr c15
         by_cases c21 : x4_1.length < 1954687338268
         ·
          rw [if_pos c21] at H
          have LMc21 := Aside0.mk c21
          clear c21
          obtain ⟨y295, hy295⟩ : ∃ y_ : List (S31), y_ = (x4_1 ++ [(⟨t287, t290, t291, t292⟩ : S31)]) := ⟨_, rfl⟩
          replace H : (impl_parseNames.l0 k1 y295 t283 (t283.length : Int) (wrap64 (x16_1 + 1))) = some (r1, r2) := by first | (rw [hy295]; with_reducible exact H) | (have H2_ := (Option.bind_some _ _).symm.trans H; rw [hy295]; with_reducible exact H2_) | (have H2_ := (Option.bind_some _ _).symm.trans H; with_reducible exact H2_) | with_reducible exact H | (rw [hy295]; exact H) | exact H
          have Ny295 := Aside0.mk hy295
          clear hy295
          have H' := Aside0.mk H
          clear H
          have p286 : 0 ≤ (x16_1 : Int) := of_decide_eq_true au75
          have q286 : x16_1 < (t283.length : Int) := of_decide_eq_true au75
          obtain ⟨ad286, e286, hx286_0⟩ := Kd.at_string (Kd.R_reads' HO_14.out).2.2 x16_1 p286 q286
          cases e286
          replace p286 := eq_true p286
          replace q286 := eq_true q286
          go_wp2_with (first | ((with_reducible refine gate_callee (f := 19) rfl ?_); refine goesL_ (some 22) rfl rfl Tryd.func19 (by kernel_rfl) rfl #[.string (rdOf ByteArray.empty t283 x16_1)] rfl au24 ?_; (with_reducible refine (impl_ParseInverse.calls (hG := au4) k1 (rdOf ByteArray.empty t283 x16_1) t287 t290 t291 t292 _ _ A13.out).mono ?_); rintro e w22 ⟨v288, rfl, ho0, hb⟩; refine ⟨_, rfl, ?_⟩; replace HO_4 := Aside0.mk (Kd.S_elder' au71 (Kd.R_base ho0) hb); have HO289 := Aside0.mk (Kd.R_lower (Kd.R_new' ho0 (Kd.R_lt au64)) (below_size au27)); replace HO_14 := Aside0.mk (Kd.R_elder' au64 (Kd.R_base ho0) hb); replace HB := Aside0.mk (below_step au27 hb); (try clear hb); (try clear ho0)) | ((with_reducible refine gate_dst (N := 7) rfl ?_); (try (refine gate_guard (by rfl) ?_; dsimp only)); refine box_event ?hg (N := 7) ?hd (cs := #[.slice none 0 0, .string (⟨#[]⟩ : ByteArray), .string (⟨#[]⟩ : ByteArray), .string (⟨#[]⟩ : ByteArray)]) (t := 31) ?hr ?_; (case hd => rfl); (case hg => rfl); (case hr => first | (go_simp; done) | (go_simp; rfl)); intro gb294 hg w23 hbox hb; replace HO_4 := Aside0.mk (Kd.S_below (Kd.S_elderB au71 gb294 (Nat.le_of_eq hg.symm)) hb); replace HO_14 := Aside0.mk (Kd.R_below au64 hb); replace HO289 := Aside0.mk (Kd.R_below au65 hb); have BK294 := Aside0.mk (hbox); have GW294 := Aside0.mk (bsz hg au27); have GE294 := Aside0.mk (bsz hg au27); replace HB := Aside0.mk (below_step au27 hb); clear hb hbox hg; obtain ⟨Ao24, co24, eo24⟩ := Kd.R_slice HO289.out; subst eo24; obtain ⟨hcz25_0, hcz25_1, hcz25_2, hcz25_3, hfz25_0, hfz25_1, hfz25_2, hfz25_3⟩ := blkc4 BK294.out) | ((with_reducible refine gate_store (t := 31) (p := 7) rfl ?_); refine store_event (t := 31) (p := 7) (v := ?vo_w26) (w1 := ((((w23.setCell ⟨gb294, 0, none⟩ (.slice Ao24 t287.length co24)).setCell ⟨gb294, 1, none⟩ (.string t290)).setCell ⟨gb294, 2, none⟩ (.string t291)).setCell ⟨gb294, 3, none⟩ (.string t292))) ?hg ?ho ?hn ?hr ?_; (case ho => rfl); (case hg => rfl); (case hn => rfl); (case hr => first | (go_simp; done) | (go_simp; rfl)); intro w26 hw; have n0_ : Aside0 (Kd.S k31 31 w26 w.heap.size (fun k_ => some k_ ≠ (.slice (some ad286) t283.length co9 : Value).ownBlock ∧ some k_ ≠ (.slice Ao24 t287.length co24 : Value).ownBlock ∧ k_ ≠ gb294) u4 x4_1) := ⟨(by rw [hw]; exact (by (with_reducible repeat (first | apply Kd.S_alloc | apply Kd.S_drewN | apply Kd.S_drew)); exact Kd.S_mono (Kd.S_far (p := ⟨gb294, 3, none⟩) (Kd.S_far (p := ⟨gb294, 2, none⟩) (Kd.S_far (p := ⟨gb294, 1, none⟩) (Kd.S_far (p := ⟨gb294, 0, none⟩) (Kd.S_mono HO_4.out (fun k_ hk => (⟨hk, hk.2⟩ : _ ∧ k_ ≠ gb294))) (fun _ hk => hk.2) (.slice Ao24 t287.length co24)) (fun _ hk => hk.2) (.string t290)) (fun _ hk => hk.2) (.string t291)) (fun _ hk => hk.2) (.string t292)) (fun _ hk => ⟨hk.1.1.1, ⟨hk.1.1.2, hk.1.2⟩⟩)))⟩; have n1_ : Aside0 (Kd.R Kd.string 9 w26 w.heap.size (fun k_ => some k_ ≠ (.slice Ao24 t287.length co24 : Value).ownBlock) (.slice (some ad286) t283.length co9) t283) := ⟨(by rw [hw]; exact (by (with_reducible repeat (first | apply Kd.R_alloc | apply Kd.R_drewN | apply Kd.R_drew)); exact Kd.R_mono (Kd.R_far (p := ⟨gb294, 3, none⟩) (Kd.R_far (p := ⟨gb294, 2, none⟩) (Kd.R_far (p := ⟨gb294, 1, none⟩) (Kd.R_far (p := ⟨gb294, 0, none⟩) (Kd.R_types HO_14.out BK294.out (by decide)) (fun _ hk => hk.2) (.slice Ao24 t287.length co24)) (fun _ hk => hk.2) (.string t290)) (fun _ hk => hk.2) (.string t291)) (fun _ hk => hk.2) (.string t292)) (fun _ hk => hk.1.2)))⟩; have n2_ : Aside0 (Kd.R Kd.string 9 w26 w.heap.size (fun k_ => some k_ ≠ (.slice (some ad286) t283.length co9 : Value).ownBlock) (.slice Ao24 t287.length co24) t287) := ⟨(by rw [hw]; exact (by (with_reducible repeat (first | apply Kd.R_alloc | apply Kd.R_drewN | apply Kd.R_drew)); exact Kd.R_mono (Kd.R_far (p := ⟨gb294, 3, none⟩) (Kd.R_far (p := ⟨gb294, 2, none⟩) (Kd.R_far (p := ⟨gb294, 1, none⟩) (Kd.R_far (p := ⟨gb294, 0, none⟩) (Kd.R_types HO289.out BK294.out (by decide)) (fun _ hk => hk.2) (.slice Ao24 t287.length co24)) (fun _ hk => hk.2) (.string t290)) (fun _ hk => hk.2) (.string t291)) (fun _ hk => hk.2) (.string t292)) (fun _ hk => hk.1.2)))⟩; have n3_ : Aside0 (w26.heap[gb294]? = some (.cells #[.slice Ao24 t287.length co24, .string t290, .string t291, .string t292] 31 (0, 0))) := ⟨(by rw [hw]; exact (by (with_reducible repeat (first | refine blk_drewN ?_ _ | refine blk_drew ?_ | refine blk_alloc ?_ _)); refine blk_put (cs := #[.slice Ao24 t287.length co24, .string t290, .string t291, .string (⟨#[]⟩ : ByteArray)]) ?_ 3 _ rfl; (with_reducible repeat (first | refine blk_drewN ?_ _ | refine blk_drew ?_ | refine blk_alloc ?_ _)); refine blk_put (cs := #[.slice Ao24 t287.length co24, .string t290, .string (⟨#[]⟩ : ByteArray), .string (⟨#[]⟩ : ByteArray)]) ?_ 2 _ rfl; (with_reducible repeat (first | refine blk_drewN ?_ _ | refine blk_drew ?_ | refine blk_alloc ?_ _)); refine blk_put (cs := #[.slice Ao24 t287.length co24, .string (⟨#[]⟩ : ByteArray), .string (⟨#[]⟩ : ByteArray), .string (⟨#[]⟩ : ByteArray)]) ?_ 1 _ rfl; (with_reducible repeat (first | refine blk_drewN ?_ _ | refine blk_drew ?_ | refine blk_alloc ?_ _)); refine blk_put (cs := #[.slice none 0 0, .string (⟨#[]⟩ : ByteArray), .string (⟨#[]⟩ : ByteArray), .string (⟨#[]⟩ : ByteArray)]) ?_ 0 _ rfl; (with_reducible repeat (first | refine blk_drewN ?_ _ | refine blk_drew ?_ | refine blk_alloc ?_ _)); exact BK294.out))⟩; have n4_ : Aside0 (Below w.heap.size w w26) := ⟨(by rw [hw]; exact au22)⟩; clear hw; clear HO_4; clear HO_14; clear HO289; clear BK294; clear HB; have HO_4 := n0_; have HO_14 := n1_; have HO289 := n2_; have BK294 := n3_; have HB := n4_; clear n0_ n1_ n2_ n3_ n4_; obtain ⟨Ao27, co27, eo27⟩ := Kd.S_slice HO_4.out; subst eo27; obtain ⟨hcz28_0, hcz28_1, hcz28_2, hcz28_3, hfz28_0, hfz28_1, hfz28_2, hfz28_3⟩ := blkc4 BK294.out) | ((with_reducible refine gate_builtin (b := .append) (xs := #[.tmp 32, .tmp 34]) rfl ?_); (try (refine gate_guard (by rfl) ?_; dsimp only)); at_builtin; refine Kd.S_append k31 (w0 := w) w.heap.size rfl (.tmp 32) (.tmp 34) 22 31 (.agg #[(.slice none 0 0), (.string ⟨#[]⟩), (.string ⟨#[]⟩), (.string ⟨#[]⟩)]) 72 rfl Tryd.underlying22 info31 rfl (by decide) (by omega) (.slice Ao27 x4_1.length co27) x4_1 (⟨t287, t290, t291, t292⟩ : S31) [.slice Ao24 t287.length co24, .string t290, .string t291, .string t292] (fun k_ => some k_ ≠ (.slice (some ad286) t283.length co9 : Value).ownBlock ∧ k_ ≠ gb294) (fun k_ => some k_ = (.slice Ao24 t287.length co24 : Value).ownBlock) rfl rfl ?aP (fun k_ hk_ => ((Kd.R_mono (ok' := fun k_ => ((fun k_ => some k_ ≠ (.slice (some ad286) t283.length co9 : Value).ownBlock ∧ k_ ≠ gb294)) k_ ∧ some k_ ≠ (.slice Ao27 x4_1.length co27 : Value).ownBlock) (Kd.R_types (Kd.R_apart' (HO289.out) (Kd.S_typed HO_4.out) (by decide)) BK294.out (by decide)) (fun k_ hk => ⟨⟨hk.1.1, hk.2⟩, hk.1.2⟩))).1 k_ hk_.symm) ?aF ?aO ?aB ?aS ?aL ?_; (case aP => exact k31_mkM _ _ _ (⟨t287, t290, t291, t292⟩ : S31) (Kd.R_mono (Kd.R_tight rfl (Kd.R_mono (ok' := fun k_ => ((fun k_ => some k_ ≠ (.slice (some ad286) t283.length co9 : Value).ownBlock ∧ k_ ≠ gb294)) k_ ∧ some k_ ≠ (.slice Ao27 x4_1.length co27 : Value).ownBlock) (Kd.R_types (Kd.R_apart' (HO289.out) (Kd.S_typed HO_4.out) (by decide)) BK294.out (by decide)) (fun k_ hk => ⟨⟨hk.1.1, hk.2⟩, hk.1.2⟩))) (fun _ h_ => h_))); (case aB => exact au22); (case aF => exact (fun k_ hk => ⟨Kd.fresh' (Kd.R_lt au64) k_ hk, Kd.freshB (g := gb294) (o := .cells #[.slice Ao24 t287.length co24, .string t290, .string t291, .string t292] 31 (0, 0)) au55 k_ hk⟩)); (case aO => exact au11); (case aS => exact (below_size au22)); (case aL => have := LMc21.out; omega); intro v296 w29 ho hb hg hat; rw [← Ny295.out] at ho; have n0_ := Aside0.mk (Kd.R_over' au64 (Kd.S_typed au71) (by decide) hg); have n1_ := Aside0.mk (blk_grown (g := gb294) (o := .cells #[.slice Ao24 t287.length co24, .string t290, .string t291, .string t292] 31 (0, 0)) au55 hg (Kd.S_away HO_4.out (fun _ hk => hk.2.2))); have n2_ := Aside0.mk (hb); have n3_ := Aside0.mk (ho); clear HO_14; clear BK294; clear HB; clear HO_4; clear HO289; have HO_14 := n0_; have BK294 := n1_; have HB := n2_; have HO297 := n3_; clear n0_ n1_ n2_ n3_; clear ho hb hg hat))
          go_roundg k1
          case measure => have := HK1.out; omega
          case rel => exact ⟨(y295), (wrap64 (x16_1 + 1)), au76, H', ⟨by have := HK1.out; omega⟩, ⟨by (with_reducible repeat (first | apply Kd.S_alloc | apply Kd.S_drewN | apply Kd.S_drew)); exact Kd.S_mono HO297.out (fun _ hk => hk.1)⟩, ⟨by (with_reducible repeat (first | apply Kd.R_alloc | apply Kd.R_drewN | apply Kd.R_drew)); exact Kd.R_mono HO_14.out (fun _ hk => trivial)⟩, ⟨by repeat (first | (with_reducible first | exact HB.out | apply below_alloc | apply pw_below_drewN | apply below_drew1 | refine below_set ?_ GE294.out) | exact HB.out)⟩⟩
         ·
          rw [if_neg c21] at H
          exact absurd H (by simp)
       ·
        replace c14 := Bool.eq_false_iff.mpr c14
        subst c14
        replace H := (if_neg (show ¬ (false = true) by decide)).symm.trans H
        simp only [Option.some.injEq, Prod.mk.injEq] at H
        obtain ⟨rfl, rfl⟩ := H
        have p286 : 0 ≤ (x16_1 : Int) := of_decide_eq_true au75
        have q286 : x16_1 < (t283.length : Int) := of_decide_eq_true au75
        obtain ⟨ad286, e286, hx286_0⟩ := Kd.at_string (Kd.R_reads' HO_14.out).2.2 x16_1 p286 q286
        cases e286
        replace p286 := eq_true p286
        replace q286 := eq_true q286
        go_wp2_with (first | ((with_reducible refine gate_callee (f := 19) rfl ?_); refine goesL_ (some 22) rfl rfl Tryd.func19 (by kernel_rfl) rfl #[.string (rdOf ByteArray.empty t283 x16_1)] rfl au24 ?_; (with_reducible refine (impl_ParseInverse.calls (hG := au4) k1 (rdOf ByteArray.empty t283 x16_1) t287 t290 t291 t292 _ _ A13.out).mono ?_); rintro e w30 ⟨v288, rfl, ho0, hb⟩; refine ⟨_, rfl, ?_⟩; replace HO_4 := Aside0.mk (Kd.S_elder' au71 (Kd.R_base ho0) hb); have HO289 := Aside0.mk (Kd.R_lower (Kd.R_new' ho0 (Kd.R_lt au64)) (below_size au27)); replace HO_14 := Aside0.mk (Kd.R_elder' au64 (Kd.R_base ho0) hb); replace HB := Aside0.mk (below_step au27 hb); (try clear hb); (try clear ho0)) | ((with_reducible refine gate_dst (N := 7) rfl ?_); (try (refine gate_guard (by rfl) ?_; dsimp only)); refine box_event ?hg (N := 7) ?hd (cs := #[.slice none 0 0, .string (⟨#[]⟩ : ByteArray), .string (⟨#[]⟩ : ByteArray), .string (⟨#[]⟩ : ByteArray)]) (t := 31) ?hr ?_; (case hd => rfl); (case hg => rfl); (case hr => first | (go_simp; done) | (go_simp; rfl)); intro gb294 hg w31 hbox hb; replace HO_4 := Aside0.mk (Kd.S_below (Kd.S_elderB au71 gb294 (Nat.le_of_eq hg.symm)) hb); replace HO_14 := Aside0.mk (Kd.R_below au64 hb); replace HO289 := Aside0.mk (Kd.R_below au65 hb); have BK294 := Aside0.mk (hbox); have GW294 := Aside0.mk (bsz hg au27); have GE294 := Aside0.mk (bsz hg au27); replace HB := Aside0.mk (below_step au27 hb); clear hb hbox hg; obtain ⟨Ao32, co32, eo32⟩ := Kd.R_slice HO289.out; subst eo32; obtain ⟨hcz33_0, hcz33_1, hcz33_2, hcz33_3, hfz33_0, hfz33_1, hfz33_2, hfz33_3⟩ := blkc4 BK294.out))
        go_ret2
        exact ⟨_, by first | rfl | (simp [errW_none, errW_some] <;> rfl) | (simp [*, errW_none, errW_some] <;> rfl), by first | exact Kd.S_nil _ _ _ _ _ | exact Kd.N_nil _ _ _ _ _ | exact Kd.V_nil _ _ _ _ _ | exact Kd.Q_nil _ _ _ _ _ | exact Kd.R_nil _ _ _ _ _, by repeat (first | (with_reducible first | exact HB.out | apply below_alloc | apply pw_below_drewN | apply below_drew1 | refine below_set ?_ GE294.out) | exact HB.out)⟩
      ·
       rw [if_neg c12] at H
       exact absurd H (by simp)
     ·
      rw [if_neg c11] at H
      exact absurd H (by simp)
    ·
     rw [if_neg c10] at H
     have c10b0 : decide (x16_1 < (t283.length : Int)) = false := decide_eq_false c10
     clear c10
     simp only [Option.some.injEq, Prod.mk.injEq] at H
     obtain ⟨rfl, rfl⟩ := H
     exact impl_parseNames.L0


/-! ### impl_ParseNames: function 5 -/
def impl_ParseNames.f (k : Nat) (a0 : ByteArray) : Option ((List (S31)) × Bool) := (impl_parseNames.f k a0).bind fun bt298 => (some (bt298.1, bt298.2))
theorem impl_ParseNames.mono : ∀ a0 k, LeO (impl_ParseNames.f k a0) (impl_ParseNames.f (k + 1) a0) := by
 intro a0 k
 unfold impl_ParseNames.f
 repeat' first
   | (with_reducible exact impl_parseNames.mono _ _)
   | (with_reducible exact LeO.refl _)
   | (with_reducible exact LeO.none _)
   | (with_reducible refine LeO.ite ?_ ?_)
   | (with_reducible refine LeO.bind ?_ (fun _ => ?_))
   | exact impl_parseNames.mono _ _
   | exact LeO.none _
   | refine LeO.ite ?_ ?_
   | refine LeO.bind ?_ (fun _ => ?_)
set_option maxHeartbeats 8000000 in
set_option maxRecDepth 100000 in
theorem impl_ParseNames.calls (k : Nat) (a0 : ByteArray) (r1 : List (S31)) (r2 : Bool) (w : World) {gF1 gF2 gF3 : Bool} (hG : GL gF1 gF2 gF3 w) (h : impl_ParseNames.f k a0 = some (r1, r2)) :
  Calls Tryd.prog 5 #[.string a0] w fun e w' => ∃ v0_ : Value, e = .returned (.tuple #[v0_, .bool r2]) ∧ Kd.S k31 31 w' w.heap.size (fun _ => True) v0_ r1 ∧ Below w.heap.size w w' := by
 have HG := Aside0.mk hG
 clear hG
 have HB := Aside0.mk (Below.refl w.heap.size w)
 have H : ((impl_parseNames.f k a0).bind fun bt298 => (some (bt298.1, bt298.2))) = some (r1, r2) := h
 clear h
 replace H := Option.bind_eq_some_iff.mp H
 obtain ⟨⟨t298, t299⟩, A20, H⟩ := H
 replace H : (some (t298, t299)) = some (r1, r2) := H
 have A2 := Aside0.mk A20
 clear A20
 simp only [Option.some.injEq, Prod.mk.injEq] at H
 obtain ⟨rfl, rfl⟩ := H
 go_enter Tryd.func5, Tryd.ntmps5
 go_wp2_with (first | ((with_reducible refine gate_callee (f := 10) rfl ?_); refine goesL_ (some 5) rfl rfl Tryd.func10 (by kernel_rfl) rfl #[.string a0] rfl au24 ?_; (with_reducible refine (impl_parseNames.calls (hG := au4) k a0 t298 t299 _ A2.out).mono ?_); rintro e w3 ⟨v300, rfl, ho0, hb⟩; refine ⟨_, rfl, ?_⟩; have HO301 := Aside0.mk (Kd.S_lower ho0 (below_size au27)); replace HB := Aside0.mk (below_step au27 hb); (try clear hb); (try clear ho0)))
 go_ret2
 exact ⟨_, by first | rfl | (simp [errW_none, errW_some] <;> rfl) | (simp [*, errW_none, errW_some] <;> rfl), by (with_reducible repeat (first | apply Kd.S_alloc | apply Kd.S_drewN | apply Kd.S_drew)); exact HO301.out, by repeat (first | (with_reducible first | exact HB.out | apply below_alloc | apply pw_below_drewN | apply below_drew1) | exact HB.out)⟩


/-! ### laws_eqStringS: function 20 -/
def laws_eqStringS.l0 : Nat → List ByteArray → List ByteArray → Int → Option (Bool)
 | 0, _, _, _ => none
 | k + 1, x0, x1, x5 => if x5 < (x0.length : Int) then (if 0 ≤ x5 then (if x5 < (x1.length : Int) then (if (rdOf ByteArray.empty x0 x5).toList = (rdOf ByteArray.empty x1 x5).toList then (laws_eqStringS.l0 k x0 x1 (wrap64 (x5 + 1))) else (some false)) else (none)) else (none)) else (some true)
def laws_eqStringS.f (k : Nat) (l0 : List ByteArray) (l1 : List ByteArray) : Option (Bool) := if (l0.length : Int) = (l1.length : Int) then (laws_eqStringS.l0 k l0 l1 0) else (some false)
theorem laws_eqStringS.mono_l : ∀ k, (∀ y0 y1 y2, LeO (laws_eqStringS.l0 k y0 y1 y2) (laws_eqStringS.l0 (k + 1) y0 y1 y2))
 | 0 => fun _ _ _ r h => by simp [laws_eqStringS.l0] at h
 | k + 1 => by
  have ih0 := laws_eqStringS.mono_l k
  ·
   intro y0 y1 y2
   unfold laws_eqStringS.l0
   repeat' first
   | (with_reducible exact ih0 _ _ _)
   | (with_reducible exact LeO.refl _)
   | (with_reducible exact LeO.none _)
   | (with_reducible refine LeO.ite ?_ ?_)
   | (with_reducible refine LeO.bind ?_ (fun _ => ?_))
   | exact ih0 _ _ _
   | exact LeO.none _
   | refine LeO.ite ?_ ?_
   | refine LeO.bind ?_ (fun _ => ?_)
theorem laws_eqStringS.mono : ∀ a0 a1 k, LeO (laws_eqStringS.f k a0 a1) (laws_eqStringS.f (k + 1) a0 a1) := by
 intro a0 a1 k
 have ih0 := laws_eqStringS.mono_l k
 unfold laws_eqStringS.f
 repeat' first
   | (with_reducible exact ih0 _ _ _)
   | (with_reducible exact LeO.refl _)
   | (with_reducible exact LeO.none _)
   | (with_reducible refine LeO.ite ?_ ?_)
   | (with_reducible refine LeO.bind ?_ (fun _ => ?_))
   | exact ih0 _ _ _
   | exact LeO.none _
   | refine LeO.ite ?_ ?_
   | refine LeO.bind ?_ (fun _ => ?_)
set_option maxHeartbeats 8000000 in
set_option maxRecDepth 100000 in
theorem laws_eqStringS.calls (k : Nat) (A0 : Option Addr) (c0 : Nat) (l0 : List ByteArray) (A1 : Option Addr) (c1 : Nat) (l1 : List ByteArray) (r : Bool) (w : World) (hr0 : Kd.C Kd.string w A0 l0.length l0) (hc0 : l0.length ≤ c0) (hr1 : Kd.C Kd.string w A1 l1.length l1) (hc1 : l1.length ≤ c1) (h : laws_eqStringS.f k l0 l1 = some r) :
  Calls Tryd.prog 20 #[.slice A0 l0.length c0, .slice A1 l1.length c1] w fun e w' => e = .returned (.bool r) ∧ Drawn0 w w' := by
 have HR0 := Aside0.mk hr0
 have HC0 := Aside0.mk hc0
 clear hr0 hc0
 have HR1 := Aside0.mk hr1
 have HC1 := Aside0.mk hc1
 clear hr1 hc1
 have H : (if (l0.length : Int) = (l1.length : Int) then (laws_eqStringS.l0 k l0 l1 0) else (some false)) = some r := h
 clear h
 by_cases c3 : (l0.length : Int) = (l1.length : Int)
 ·
  rw [if_pos c3] at H
  have c3b0 : ((l0.length : Int) == (l1.length : Int)) = true := beq_iff_eq.mpr c3
  have c3b1 : ((l0.length : Int) != (l1.length : Int)) = false := bne_eq_false_iff_eq.mpr c3
  have c3b2 : (l0.length == l1.length) = true := by first | simpa using c3 | (simp at c3 ⊢; omega)
  clear c3
  have H' := Aside0.mk H
  clear H
  go_enter Tryd.func20, Tryd.ntmps20
  go_wp2
  repeat (go_quiet (fail); try go_wp2)
  go_loopg [5] k (fun kq v5 w' => ∃ (x5_1 : Int), v5 = .int .i64 x5_1 ∧ Aside0 (laws_eqStringS.l0 kq l0 l1 x5_1 = some r) ∧ Aside0 (kq ≤ k) ∧ Drawn0 w w')
  case atStart => exact ⟨(0), au76, H', ⟨Nat.le_refl _⟩, by repeat (first | exact Drawn0.refl _ | apply Drawn0.step)⟩
  case round =>
   clear H'
   try clear c1
   try clear c2
   try clear p2
   try clear c3
   try clear c3b0
   try clear c3b1
   try clear c3b2
   obtain ⟨x5_1, rfl, HA, HK1, ⟨m1, rfl⟩⟩ := hrel
   cases gk with
   | zero => exact absurd HA.out (by simp [laws_eqStringS.l0])
   | succ k1 =>
    have H := HA.out
    clear HA
    simp only [laws_eqStringS.l0] at H
    by_cases c4 : x5_1 < (l0.length : Int)
    ·
     rw [if_pos c4] at H
     have c4b0 : decide (x5_1 < (l0.length : Int)) = true := decide_eq_true c4
     clear c4
     by_cases c5 : 0 ≤ x5_1
     ·
      rw [if_pos c5] at H
      have c5b0 : decide (0 ≤ x5_1) = true := decide_eq_true c5
      clear c5
      by_cases c6 : x5_1 < (l1.length : Int)
      ·
       rw [if_pos c6] at H
       have c6b0 : decide (x5_1 < (l1.length : Int)) = true := decide_eq_true c6
       clear c6
       by_cases c7 : (rdOf ByteArray.empty l0 x5_1).toList = (rdOf ByteArray.empty l1 x5_1).toList
       ·
        rw [if_pos c7] at H
        have c7b0 : ((rdOf ByteArray.empty l0 x5_1).toList == (rdOf ByteArray.empty l1 x5_1).toList) = true := beq_iff_eq.mpr c7
        have c7b1 : ((rdOf ByteArray.empty l0 x5_1).toList != (rdOf ByteArray.empty l1 x5_1).toList) = false := bne_eq_false_iff_eq.mpr c7
        clear c7
        have H' := Aside0.mk H
        clear H
        have p302 : 0 ≤ (x5_1 : Int) := of_decide_eq_true au75
        have q302 : x5_1 < (l0.length : Int) := of_decide_eq_true au75
        obtain ⟨ad302, e302, hx302_0⟩ := Kd.at_string HR0.out x5_1 p302 q302
        cases e302
        replace p302 := eq_true p302
        replace q302 := eq_true q302
        have p303 : 0 ≤ (x5_1 : Int) := of_decide_eq_true au75
        have q303 : x5_1 < (l1.length : Int) := of_decide_eq_true au75
        obtain ⟨ad303, e303, hx303_0⟩ := Kd.at_string HR1.out x5_1 p303 q303
        cases e303
        replace p303 := eq_true p303
        replace q303 := eq_true q303
        go_wp2
        repeat (go_quiet (fail); try go_wp2)
        go_roundg k1
        case measure => have := HK1.out; omega
        case rel => exact ⟨(wrap64 (x5_1 + 1)), au76, H', ⟨by have := HK1.out; omega⟩, by repeat (first | exact Drawn0.refl _ | apply Drawn0.step)⟩
       ·
        rw [if_neg c7] at H
        have c7b0 : ((rdOf ByteArray.empty l0 x5_1).toList == (rdOf ByteArray.empty l1 x5_1).toList) = false := beq_eq_false_iff_ne.mpr c7
        have c7b1 : ((rdOf ByteArray.empty l0 x5_1).toList != (rdOf ByteArray.empty l1 x5_1).toList) = true := bne_iff_ne.mpr c7
        obtain rfl := Option.some.inj H
        have p302 : 0 ≤ (x5_1 : Int) := of_decide_eq_true au75
        have q302 : x5_1 < (l0.length : Int) := of_decide_eq_true au75
        obtain ⟨ad302, e302, hx302_0⟩ := Kd.at_string HR0.out x5_1 p302 q302
        cases e302
        replace p302 := eq_true p302
        replace q302 := eq_true q302
        have p303 : 0 ≤ (x5_1 : Int) := of_decide_eq_true au75
        have q303 : x5_1 < (l1.length : Int) := of_decide_eq_true au75
        obtain ⟨ad303, e303, hx303_0⟩ := Kd.at_string HR1.out x5_1 p303 q303
        cases e303
        replace p303 := eq_true p303
        replace q303 := eq_true q303
        go_wp2
        repeat (go_quiet (fail); try go_wp2)
        go_ret
        exact ax0
      ·
       rw [if_neg c6] at H
       exact absurd H (by simp)
     ·
      rw [if_neg c5] at H
      exact absurd H (by simp)
    ·
     rw [if_neg c4] at H
     have c4b0 : decide (x5_1 < (l0.length : Int)) = false := decide_eq_false c4
     clear c4
     obtain rfl := Option.some.inj H
     go_wp2
     repeat (go_quiet (fail); try go_wp2)
     go_ret
     exact ax0
 ·
  rw [if_neg c3] at H
  have c3b0 : ((l0.length : Int) == (l1.length : Int)) = false := beq_eq_false_iff_ne.mpr c3
  have c3b1 : ((l0.length : Int) != (l1.length : Int)) = true := bne_iff_ne.mpr c3
  have c3b2 : (l0.length == l1.length) = false := by first | simpa using c3 | (simp at c3 ⊢; omega)
  obtain rfl := Option.some.inj H
  go_enter Tryd.func20, Tryd.ntmps20
  go_wp2
  repeat (go_quiet (fail); try go_wp2)
  go_ret
  exact ax0


/-! ### laws_eqName: function 11 -/
def laws_eqName.f (k : Nat) (l0_0 : List ByteArray) (a0_1 : ByteArray) (a0_2 : ByteArray) (a0_3 : ByteArray) (l1_0 : List ByteArray) (a1_1 : ByteArray) (a1_2 : ByteArray) (a1_3 : ByteArray) : Option (Bool) := (laws_eqStringS.f k l0_0 l1_0).bind fun t306 => (if t306 = true then (if a0_1.toList = a1_1.toList then (if a0_2.toList = a1_2.toList then (if a0_3.toList = a1_3.toList then (some true) else (some false)) else (some false)) else (some false)) else (some false))
theorem laws_eqName.mono : ∀ a0 a1 a2 a3 a4 a5 a6 a7 k, LeO (laws_eqName.f k a0 a1 a2 a3 a4 a5 a6 a7) (laws_eqName.f (k + 1) a0 a1 a2 a3 a4 a5 a6 a7) := by
 intro a0 a1 a2 a3 a4 a5 a6 a7 k
 unfold laws_eqName.f
 repeat' first
   | (with_reducible exact laws_eqStringS.mono _ _ _)
   | (with_reducible exact LeO.refl _)
   | (with_reducible exact LeO.none _)
   | (with_reducible refine LeO.ite ?_ ?_)
   | (with_reducible refine LeO.bind ?_ (fun _ => ?_))
   | exact laws_eqStringS.mono _ _ _
   | exact LeO.none _
   | refine LeO.ite ?_ ?_
   | refine LeO.bind ?_ (fun _ => ?_)
set_option maxRecDepth 100000 in
theorem laws_eqName.L0 {P : Prop} (h : P := by
  go_enter Tryd.func11, Tryd.ntmps11
  go_wp2_with (first | ((with_reducible refine gate_dst (N := 2) rfl ?_); refine box_event ?hg (N := 2) ?hd (cs := #[.slice A0_0 l0_0.length c0_0, .string a0_1, .string a0_2, .string a0_3]) (t := 31) ?hr ?_; (case hd => rfl); (case hg => rfl); (case hr => first | (go_simp; done) | (go_simp; rfl)); intro gb304 hg w13 hbox hb; have BK304 := Aside0.mk (hbox); have GW304 := Aside0.mk (bsz hg au27); have GE304 := Aside0.mk (bsz hg au27); replace HB := Aside0.mk (below_step au27 hb); clear hb hbox hg) | ((with_reducible refine gate_dst (N := 3) rfl ?_); refine box_event ?hg (N := 3) ?hd (cs := #[.slice A1_0 l1_0.length c1_0, .string a1_1, .string a1_2, .string a1_3]) (t := 31) ?hr ?_; (case hd => rfl); (case hg => rfl); (case hr => first | (go_simp; done) | (go_simp; rfl)); intro gb305 hg w14 hbox hb; have BK305 := Aside0.mk (hbox); have GW305 := Aside0.mk (bsz hg au23); have GE305 := Aside0.mk (bsz hg au23); replace HB := Aside0.mk (below_step au23 hb); have NB304_305 := Aside0.mk (bne (g := gb304) hg au56); have NB305_304 := Aside0.mk (ben (g := gb304) hg au56); replace BK304 := Aside0.mk (blk_below (g := gb304) au56 hb); clear hb hbox hg; have hnb15 := NB304_305.out; have hnc15 := NB305_304.out; obtain ⟨hcz16_0, hcz16_1, hcz16_2, hcz16_3, hfz16_0, hfz16_1, hfz16_2, hfz16_3⟩ := blkc4 BK304.out; obtain ⟨hcz17_0, hcz17_1, hcz17_2, hcz17_3, hfz17_0, hfz17_1, hfz17_2, hfz17_3⟩ := blkc4 BK305.out) | ((with_reducible refine gate_callee (f := 20) rfl ?_); refine goesL_ (some 9) rfl rfl Tryd.func20 (by kernel_rfl) rfl #[.slice A0_0 l0_0.length c0_0, .slice A1_0 l1_0.length c1_0] rfl au24 ?_; (with_reducible refine (laws_eqStringS.calls k _ _ l0_0 _ _ l1_0 _ _ ?side1 ?side2 ?side3 ?side4 A3.out).mono ?_); (case side1 => repeat (first | exact (Kd.C_below HR0_0.out HB.out) | (with_reducible refine Kd.C_alloc ?_ _) | (with_reducible refine Kd.C_drewN ?_ _) | (with_reducible refine Kd.C_drew ?_))); (case side2 => exact HC0_0.out); (case side3 => repeat (first | exact (Kd.C_below HR1_0.out HB.out) | (with_reducible refine Kd.C_alloc ?_ _) | (with_reducible refine Kd.C_drewN ?_ _) | (with_reducible refine Kd.C_drew ?_))); (case side4 => exact HC1_0.out); rintro e w' ⟨rfl, ⟨nd, rfl⟩⟩; refine ⟨_, rfl, ?_⟩))
  go_ret
  exact ⟨by first | rfl | (simp [errW_none, errW_some] <;> rfl) | (simp [*, errW_none, errW_some] <;> rfl), by repeat (first | (with_reducible first | exact HB.out | apply below_alloc | apply pw_below_drewN | apply below_drew1 | refine below_set ?_ GE304.out | refine below_set ?_ GE305.out) | exact HB.out)⟩) : P := h
set_option maxHeartbeats 8000000 in
set_option maxRecDepth 100000 in
theorem laws_eqName.calls (k : Nat) (A0_0 : Option Addr) (c0_0 : Nat) (l0_0 : List ByteArray) (a0_1 : ByteArray) (a0_2 : ByteArray) (a0_3 : ByteArray) (A1_0 : Option Addr) (c1_0 : Nat) (l1_0 : List ByteArray) (a1_1 : ByteArray) (a1_2 : ByteArray) (a1_3 : ByteArray) (r : Bool) (w : World) (hr0_0 : Kd.C Kd.string w A0_0 l0_0.length l0_0) (hc0_0 : l0_0.length ≤ c0_0) (hr1_0 : Kd.C Kd.string w A1_0 l1_0.length l1_0) (hc1_0 : l1_0.length ≤ c1_0) (h : laws_eqName.f k l0_0 a0_1 a0_2 a0_3 l1_0 a1_1 a1_2 a1_3 = some r) :
  Calls Tryd.prog 11 #[.agg #[.slice A0_0 l0_0.length c0_0, .string a0_1, .string a0_2, .string a0_3], .agg #[.slice A1_0 l1_0.length c1_0, .string a1_1, .string a1_2, .string a1_3]] w fun e w' => e = .returned (.bool r) ∧ Below w.heap.size w w' := by
 have hu31 := Tryd.underlying31
 have HR0_0 := Aside0.mk hr0_0
 have HC0_0 := Aside0.mk hc0_0
 clear hr0_0 hc0_0
 have HR1_0 := Aside0.mk hr1_0
 have HC1_0 := Aside0.mk hc1_0
 clear hr1_0 hc1_0
 have HB := Aside0.mk (Below.refl w.heap.size w)
 have H : ((laws_eqStringS.f k l0_0 l1_0).bind fun t306 => (if t306 = true then (if a0_1.toList = a1_1.toList then (if a0_2.toList = a1_2.toList then (if a0_3.toList = a1_3.toList then (some true) else (some false)) else (some false)) else (some false)) else (some false))) = some r := h
 clear h
 replace H := Option.bind_eq_some_iff.mp H
 obtain ⟨t306, A30, H⟩ := H
 try dsimp only at H
 have A3 := Aside0.mk A30
 clear A30
 by_cases c4 : t306 = true
 ·
  subst c4
  replace H := (if_pos rfl).symm.trans H
  by_cases c5 : a0_1.toList = a1_1.toList
  ·
   rw [if_pos c5] at H
   have c5b0 : (a0_1.toList == a1_1.toList) = true := beq_iff_eq.mpr c5
   have c5b1 : (a0_1.toList != a1_1.toList) = false := bne_eq_false_iff_eq.mpr c5
   clear c5
   by_cases c6 : a0_2.toList = a1_2.toList
   ·
    rw [if_pos c6] at H
    have c6b0 : (a0_2.toList == a1_2.toList) = true := beq_iff_eq.mpr c6
    have c6b1 : (a0_2.toList != a1_2.toList) = false := bne_eq_false_iff_eq.mpr c6
    clear c6
    by_cases c7 : a0_3.toList = a1_3.toList
    ·
     rw [if_pos c7] at H
     have c7b0 : (a0_3.toList == a1_3.toList) = true := beq_iff_eq.mpr c7
     have c7b1 : (a0_3.toList != a1_3.toList) = false := bne_eq_false_iff_eq.mpr c7
     clear c7
     obtain rfl := Option.some.inj H
     exact laws_eqName.L0
    ·
     rw [if_neg c7] at H
     have c7b0 : (a0_3.toList == a1_3.toList) = false := beq_eq_false_iff_ne.mpr c7
     have c7b1 : (a0_3.toList != a1_3.toList) = true := bne_iff_ne.mpr c7
     obtain rfl := Option.some.inj H
     exact laws_eqName.L0
   ·
    rw [if_neg c6] at H
    have c6b0 : (a0_2.toList == a1_2.toList) = false := beq_eq_false_iff_ne.mpr c6
    have c6b1 : (a0_2.toList != a1_2.toList) = true := bne_iff_ne.mpr c6
    obtain rfl := Option.some.inj H
    exact laws_eqName.L0
  ·
   rw [if_neg c5] at H
   have c5b0 : (a0_1.toList == a1_1.toList) = false := beq_eq_false_iff_ne.mpr c5
   have c5b1 : (a0_1.toList != a1_1.toList) = true := bne_iff_ne.mpr c5
   obtain rfl := Option.some.inj H
   exact laws_eqName.L0
 ·
  replace c4 := Bool.eq_false_iff.mpr c4
  subst c4
  replace H := (if_neg (show ¬ (false = true) by decide)).symm.trans H
  obtain rfl := Option.some.inj H
  exact laws_eqName.L0


/-! ### laws_eqNameS: function 6 -/
def laws_eqNameS.l0 : Nat → List (S31) → List (S31) → Int → Option (Bool)
 | 0, _, _, _ => none
 | k + 1, x0, x1, x5 => if x5 < (x0.length : Int) then (if 0 ≤ x5 then (if x5 < (x1.length : Int) then ((laws_eqName.f k ((rd_T31 x0 x5).f0) ((rd_T31 x0 x5).f1) ((rd_T31 x0 x5).f2) ((rd_T31 x0 x5).f3) ((rd_T31 x1 x5).f0) ((rd_T31 x1 x5).f1) ((rd_T31 x1 x5).f2) ((rd_T31 x1 x5).f3)).bind fun t309 => (if t309 = true then (laws_eqNameS.l0 k x0 x1 (wrap64 (x5 + 1))) else (some false))) else (none)) else (none)) else (some true)
def laws_eqNameS.f (k : Nat) (l0 : List (S31)) (l1 : List (S31)) : Option (Bool) := if (l0.length : Int) = (l1.length : Int) then (laws_eqNameS.l0 k l0 l1 0) else (some false)
theorem laws_eqNameS.mono_l : ∀ k, (∀ y0 y1 y2, LeO (laws_eqNameS.l0 k y0 y1 y2) (laws_eqNameS.l0 (k + 1) y0 y1 y2))
 | 0 => fun _ _ _ r h => by simp [laws_eqNameS.l0] at h
 | k + 1 => by
  have ih0 := laws_eqNameS.mono_l k
  ·
   intro y0 y1 y2
   unfold laws_eqNameS.l0
   repeat' first
   | (with_reducible exact ih0 _ _ _)
   | (with_reducible exact laws_eqName.mono _ _ _ _ _ _ _ _ _)
   | (with_reducible exact LeO.refl _)
   | (with_reducible exact LeO.none _)
   | (with_reducible refine LeO.ite ?_ ?_)
   | (with_reducible refine LeO.bind ?_ (fun _ => ?_))
   | exact ih0 _ _ _
   | exact laws_eqName.mono _ _ _ _ _ _ _ _ _
   | exact LeO.none _
   | refine LeO.ite ?_ ?_
   | refine LeO.bind ?_ (fun _ => ?_)
theorem laws_eqNameS.mono : ∀ a0 a1 k, LeO (laws_eqNameS.f k a0 a1) (laws_eqNameS.f (k + 1) a0 a1) := by
 intro a0 a1 k
 have ih0 := laws_eqNameS.mono_l k
 unfold laws_eqNameS.f
 repeat' first
   | (with_reducible exact ih0 _ _ _)
   | (with_reducible exact laws_eqName.mono _ _ _ _ _ _ _ _ _)
   | (with_reducible exact LeO.refl _)
   | (with_reducible exact LeO.none _)
   | (with_reducible refine LeO.ite ?_ ?_)
   | (with_reducible refine LeO.bind ?_ (fun _ => ?_))
   | exact ih0 _ _ _
   | exact laws_eqName.mono _ _ _ _ _ _ _ _ _
   | exact LeO.none _
   | refine LeO.ite ?_ ?_
   | refine LeO.bind ?_ (fun _ => ?_)
def laws_eqNameS.T6 : Bool × List (List Nat × List Nat) := (true, [([], []), ([], []), ([0, 1], [0, 1]), ([2], [2]), ([], []), ([], []), ([4, 5], [4, 5]), ([6], [6]), ([3, 7], [3, 7]), ([8], [8])])
def laws_eqNameS.B6 : List Nat := [0, 0, 3, 7, 0, 0, 48, 112, 255, 511]
theorem laws_eqNameS.tab6 : rtab .any (opsOf Tryd.f6 6) = laws_eqNameS.T6 := by kernel_rfl
theorem laws_eqNameS.bits6 : waitsOk laws_eqNameS.T6.2 laws_eqNameS.B6 = true := by kernel_rfl
set_option maxHeartbeats 8000000 in
set_option maxRecDepth 100000 in
theorem laws_eqNameS.calls (k : Nat) (A0 : Option Addr) (c0 : Nat) (l0 : List (S31)) (A1 : Option Addr) (c1 : Nat) (l1 : List (S31)) (r : Bool) (w : World) (hr0 : Kd.C k31 w A0 l0.length l0) (hc0 : l0.length ≤ c0) (hr1 : Kd.C k31 w A1 l1.length l1) (hc1 : l1.length ≤ c1) (h : laws_eqNameS.f k l0 l1 = some r) :
  Calls Tryd.prog 6 #[.slice A0 l0.length c0, .slice A1 l1.length c1] w fun e w' => e = .returned (.bool r) ∧ Below w.heap.size w w' := by
 have hu31 := Tryd.underlying31
 have HR0 := Aside0.mk hr0
 have HC0 := Aside0.mk hc0
 clear hr0 hc0
 have HR1 := Aside0.mk hr1
 have HC1 := Aside0.mk hc1
 clear hr1 hc1
 have HB := Aside0.mk (Below.refl w.heap.size w)
 have H : (if (l0.length : Int) = (l1.length : Int) then (laws_eqNameS.l0 k l0 l1 0) else (some false)) = some r := h
 clear h
 by_cases c3 : (l0.length : Int) = (l1.length : Int)
 ·
  rw [if_pos c3] at H
  have c3b0 : ((l0.length : Int) == (l1.length : Int)) = true := beq_iff_eq.mpr c3
  have c3b1 : ((l0.length : Int) != (l1.length : Int)) = false := bne_eq_false_iff_eq.mpr c3
  have c3b2 : (l0.length == l1.length) = true := by first | simpa using c3 | (simp at c3 ⊢; omega)
  clear c3
  have H' := Aside0.mk H
  clear H
  go_enter Tryd.func6, Tryd.ntmps6
  go_wp2
  go_loopg [5] k (fun kq v5 w' => ∃ (x5_1 : Int), v5 = .int .i64 x5_1 ∧ Aside0 (laws_eqNameS.l0 kq l0 l1 x5_1 = some r) ∧ Aside0 (kq ≤ k) ∧ Aside0 (Below w.heap.size w w'))
  case atStart => exact ⟨(0), au76, H', ⟨Nat.le_refl _⟩, ⟨by repeat (first | (with_reducible first | exact HB.out | apply below_alloc | apply pw_below_drewN | apply below_drew1) | exact HB.out)⟩⟩
  case round =>
   clear H'
   try clear c1
   try clear p2
   try clear c3
   try clear c3b0
   try clear c3b1
   try clear c3b2
   obtain ⟨x5_1, rfl, HA, HK1, HB⟩ := hrel
   cases gk with
   | zero => exact absurd HA.out (by simp [laws_eqNameS.l0])
   | succ k1 =>
    have H := HA.out
    clear HA
    simp only [laws_eqNameS.l0] at H
    by_cases c4 : x5_1 < (l0.length : Int)
    ·
     rw [if_pos c4] at H
     have c4b0 : decide (x5_1 < (l0.length : Int)) = true := decide_eq_true c4
     clear c4
     by_cases c5 : 0 ≤ x5_1
     ·
      rw [if_pos c5] at H
      have c5b0 : decide (0 ≤ x5_1) = true := decide_eq_true c5
      clear c5
      by_cases c6 : x5_1 < (l1.length : Int)
      ·
       rw [if_pos c6] at H
       have c6b0 : decide (x5_1 < (l1.length : Int)) = true := decide_eq_true c6
       clear c6
       replace H := Option.bind_eq_some_iff.mp H
       obtain ⟨t309, A70, H⟩ := H
       try dsimp only at H
       have A7 := Aside0.mk A70
       clear A70
       by_cases c8 : t309 = true
       ·
        subst c8
        replace H := (if_pos rfl).symm.trans H
        have H' := Aside0.mk H
        clear H
        try go_wp2
        replace HB := Aside0.mk (below_drew1 HB.out)
        have p307 : 0 ≤ (x5_1 : Int) := of_decide_eq_true au75
        have q307 : x5_1 < (l0.length : Int) := of_decide_eq_true au75
        obtain ⟨ad307, A307_0, c307_0, e307, hx307_0, hx307_1, hx307_2, hx307_3, hl307_0, hi307_0⟩ := at_T31 HR0.out x5_1 p307 q307
        have hw307_3 := hx307_3
        have hw307_2 := hx307_2
        have hw307_1 := hx307_1
        have hw307_0 := hx307_0
        cases e307
        replace hx307_0 := bcl HB.out hx307_0
        replace hx307_1 := bcl HB.out hx307_1
        replace hx307_2 := bcl HB.out hx307_2
        replace hx307_3 := bcl HB.out hx307_3
        have HR307_0 := Aside0.mk hi307_0
        have HC307_0 := Aside0.mk hl307_0
        clear hi307_0 hl307_0
        replace p307 := eq_true p307
        replace q307 := eq_true q307
        have p308 : 0 ≤ (x5_1 : Int) := of_decide_eq_true au75
        have q308 : x5_1 < (l1.length : Int) := of_decide_eq_true au75
        obtain ⟨ad308, A308_0, c308_0, e308, hx308_0, hx308_1, hx308_2, hx308_3, hl308_0, hi308_0⟩ := at_T31 HR1.out x5_1 p308 q308
        have hw308_3 := hx308_3
        have hw308_2 := hx308_2
        have hw308_1 := hx308_1
        have hw308_0 := hx308_0
        cases e308
        replace hx308_0 := bcl HB.out hx308_0
        replace hx308_1 := bcl HB.out hx308_1
        replace hx308_2 := bcl HB.out hx308_2
        replace hx308_3 := bcl HB.out hx308_3
        have HR308_0 := Aside0.mk hi308_0
        have HC308_0 := Aside0.mk hl308_0
        clear hi308_0 hl308_0
        replace p308 := eq_true p308
        replace q308 := eq_true q308
        refine start_ (n := 10) (S := fun w' => w'.cell? (ad307.add ((x5_1).toNat * 4)) = some (.slice A307_0 ((rd_T31 l0 x5_1).f0).length c307_0) ∧ w'.cell? ⟨(ad307.add ((x5_1).toNat * 4)).block, (ad307.add ((x5_1).toNat * 4)).off + 1, none⟩ = some (.string ((rd_T31 l0 x5_1).f1)) ∧ w'.cell? ⟨(ad307.add ((x5_1).toNat * 4)).block, (ad307.add ((x5_1).toNat * 4)).off + 2, none⟩ = some (.string ((rd_T31 l0 x5_1).f2)) ∧ w'.cell? ⟨(ad307.add ((x5_1).toNat * 4)).block, (ad307.add ((x5_1).toNat * 4)).off + 3, none⟩ = some (.string ((rd_T31 l0 x5_1).f3)) ∧ w'.cell? (ad308.add ((x5_1).toNat * 4)) = some (.slice A308_0 ((rd_T31 l1 x5_1).f0).length c308_0) ∧ w'.cell? ⟨(ad308.add ((x5_1).toNat * 4)).block, (ad308.add ((x5_1).toNat * 4)).off + 1, none⟩ = some (.string ((rd_T31 l1 x5_1).f1)) ∧ w'.cell? ⟨(ad308.add ((x5_1).toNat * 4)).block, (ad308.add ((x5_1).toNat * 4)).off + 2, none⟩ = some (.string ((rd_T31 l1 x5_1).f2)) ∧ w'.cell? ⟨(ad308.add ((x5_1).toNat * 4)).block, (ad308.add ((x5_1).toNat * 4)).off + 3, none⟩ = some (.string ((rd_T31 l1 x5_1).f3))) (ds := []) #[false, false, false, false, false, false, false, false, false, false] (by kernel_rfl) rfl rfl ⟨(bcl HB.out hw307_0), (bcl HB.out hw307_1), (bcl HB.out hw307_2), (bcl HB.out hw307_3), (bcl HB.out hw308_0), (bcl HB.out hw308_1), (bcl HB.out hw308_2), (bcl HB.out hw308_3)⟩ (fun hHeld => ?_); refine with_tabW laws_eqNameS.tab6 laws_eqNameS.bits6 (fun HT_ HW_ => ?_)
        generalize wr.drew = w9 at HB HR307_0 HR308_0 hx307_0 hx307_1 hx307_2 hx307_3 hx308_0 hx308_1 hx308_2 hx308_3 hHeld ⊢
        refine pu_ 0 (some 17) #[true, false, false, false, false, false, false, false, false, false] HT_.out ?_
        refine pu_ 1 (some 18) #[true, true, false, false, false, false, false, false, false, false] HT_.out ?_
        refine pu_ 2 (some 19) #[true, true, true, false, false, false, false, false, false, false] HT_.out ?_
        refine pu_ 4 (some 21) #[true, true, true, false, true, false, false, false, false, false] HT_.out ?_
        refine pu_ 5 (some 22) #[true, true, true, false, true, true, false, false, false, false] HT_.out ?_
        refine pu_ 6 (some 23) #[true, true, true, false, true, true, true, false, false, false] HT_.out ?_
        refine ta0_ 3 (some 20) #[true, true, true, true, true, true, true, false, false, false] HT_.out HW_.out hHeld ?_
        refine ta0_ 7 (some 24) #[true, true, true, true, true, true, true, true, false, false] HT_.out HW_.out hHeld ?_
        refine on_ 8 (some 25) #[true, true, true, true, true, true, true, true, true, false] HT_.out (fun K hK => ?_)
        refine gs_ Tryd.func11 #[.agg #[.slice A307_0 ((rd_T31 l0 x5_1).f0).length c307_0, .string ((rd_T31 l0 x5_1).f1), .string ((rd_T31 l0 x5_1).f2), .string ((rd_T31 l0 x5_1).f3)], .agg #[.slice A308_0 ((rd_T31 l1 x5_1).f0).length c308_0, .string ((rd_T31 l1 x5_1).f1), .string ((rd_T31 l1 x5_1).f2), .string ((rd_T31 l1 x5_1).f3)]] ?_
        with_reducible refine (laws_eqName.calls k1 _ _ ((rd_T31 l0 x5_1).f0) ((rd_T31 l0 x5_1).f1) ((rd_T31 l0 x5_1).f2) ((rd_T31 l0 x5_1).f3) _ _ ((rd_T31 l1 x5_1).f0) ((rd_T31 l1 x5_1).f1) ((rd_T31 l1 x5_1).f2) ((rd_T31 l1 x5_1).f3) true _ ?side1 ?side2 ?side3 ?side4 A7.out).mono ?_
        (case side1 => repeat (first | exact (Kd.C_below HR307_0.out HB.out) | (with_reducible refine Kd.C_alloc ?_ _) | (with_reducible refine Kd.C_drewN ?_ _) | (with_reducible refine Kd.C_drew ?_)))
        (case side2 => exact HC307_0.out)
        (case side3 => repeat (first | exact (Kd.C_below HR308_0.out HB.out) | (with_reducible refine Kd.C_alloc ?_ _) | (with_reducible refine Kd.C_drewN ?_ _) | (with_reducible refine Kd.C_drew ?_)))
        (case side4 => exact HC308_0.out)
        rintro e w10 ⟨rfl, hb⟩
        refine ⟨_, rfl, ?_⟩
        replace HB := Aside0.mk (below_step au27 hb)
        (try clear hb)
        refine hK.out _ _ ⟨(bcl HB.out hw307_0), (bcl HB.out hw307_1), (bcl HB.out hw307_2), (bcl HB.out hw307_3), (bcl HB.out hw308_0), (bcl HB.out hw308_1), (bcl HB.out hw308_2), (bcl HB.out hw308_3)⟩ (fun hHeld => ?_)
        clear hK K
        refine no_ (some 25) ?_
        refine pu_ 9 (some 26) #[true, true, true, true, true, true, true, true, true, true] HT_.out ?_
        refine done_ (done_of HT_.out (by kernel_rfl)) ?_
        try go_wp2
        go_roundg k1
        case measure => have := HK1.out; omega
        case rel => exact ⟨(wrap64 (x5_1 + 1)), au76, H', ⟨by have := HK1.out; omega⟩, ⟨by repeat (first | (with_reducible first | exact HB.out | apply below_alloc | apply pw_below_drewN | apply below_drew1) | exact HB.out)⟩⟩
       ·
        replace c8 := Bool.eq_false_iff.mpr c8
        subst c8
        replace H := (if_neg (show ¬ (false = true) by decide)).symm.trans H
        obtain rfl := Option.some.inj H
        try go_wp2
        replace HB := Aside0.mk (below_drew1 HB.out)
        have p307 : 0 ≤ (x5_1 : Int) := of_decide_eq_true au75
        have q307 : x5_1 < (l0.length : Int) := of_decide_eq_true au75
        obtain ⟨ad307, A307_0, c307_0, e307, hx307_0, hx307_1, hx307_2, hx307_3, hl307_0, hi307_0⟩ := at_T31 HR0.out x5_1 p307 q307
        have hw307_3 := hx307_3
        have hw307_2 := hx307_2
        have hw307_1 := hx307_1
        have hw307_0 := hx307_0
        cases e307
        replace hx307_0 := bcl HB.out hx307_0
        replace hx307_1 := bcl HB.out hx307_1
        replace hx307_2 := bcl HB.out hx307_2
        replace hx307_3 := bcl HB.out hx307_3
        have HR307_0 := Aside0.mk hi307_0
        have HC307_0 := Aside0.mk hl307_0
        clear hi307_0 hl307_0
        replace p307 := eq_true p307
        replace q307 := eq_true q307
        have p308 : 0 ≤ (x5_1 : Int) := of_decide_eq_true au75
        have q308 : x5_1 < (l1.length : Int) := of_decide_eq_true au75
        obtain ⟨ad308, A308_0, c308_0, e308, hx308_0, hx308_1, hx308_2, hx308_3, hl308_0, hi308_0⟩ := at_T31 HR1.out x5_1 p308 q308
        have hw308_3 := hx308_3
        have hw308_2 := hx308_2
        have hw308_1 := hx308_1
        have hw308_0 := hx308_0
        cases e308
        replace hx308_0 := bcl HB.out hx308_0
        replace hx308_1 := bcl HB.out hx308_1
        replace hx308_2 := bcl HB.out hx308_2
        replace hx308_3 := bcl HB.out hx308_3
        have HR308_0 := Aside0.mk hi308_0
        have HC308_0 := Aside0.mk hl308_0
        clear hi308_0 hl308_0
        replace p308 := eq_true p308
        replace q308 := eq_true q308
        refine start_ (n := 10) (S := fun w' => w'.cell? (ad307.add ((x5_1).toNat * 4)) = some (.slice A307_0 ((rd_T31 l0 x5_1).f0).length c307_0) ∧ w'.cell? ⟨(ad307.add ((x5_1).toNat * 4)).block, (ad307.add ((x5_1).toNat * 4)).off + 1, none⟩ = some (.string ((rd_T31 l0 x5_1).f1)) ∧ w'.cell? ⟨(ad307.add ((x5_1).toNat * 4)).block, (ad307.add ((x5_1).toNat * 4)).off + 2, none⟩ = some (.string ((rd_T31 l0 x5_1).f2)) ∧ w'.cell? ⟨(ad307.add ((x5_1).toNat * 4)).block, (ad307.add ((x5_1).toNat * 4)).off + 3, none⟩ = some (.string ((rd_T31 l0 x5_1).f3)) ∧ w'.cell? (ad308.add ((x5_1).toNat * 4)) = some (.slice A308_0 ((rd_T31 l1 x5_1).f0).length c308_0) ∧ w'.cell? ⟨(ad308.add ((x5_1).toNat * 4)).block, (ad308.add ((x5_1).toNat * 4)).off + 1, none⟩ = some (.string ((rd_T31 l1 x5_1).f1)) ∧ w'.cell? ⟨(ad308.add ((x5_1).toNat * 4)).block, (ad308.add ((x5_1).toNat * 4)).off + 2, none⟩ = some (.string ((rd_T31 l1 x5_1).f2)) ∧ w'.cell? ⟨(ad308.add ((x5_1).toNat * 4)).block, (ad308.add ((x5_1).toNat * 4)).off + 3, none⟩ = some (.string ((rd_T31 l1 x5_1).f3))) (ds := []) #[false, false, false, false, false, false, false, false, false, false] (by kernel_rfl) rfl rfl ⟨(bcl HB.out hw307_0), (bcl HB.out hw307_1), (bcl HB.out hw307_2), (bcl HB.out hw307_3), (bcl HB.out hw308_0), (bcl HB.out hw308_1), (bcl HB.out hw308_2), (bcl HB.out hw308_3)⟩ (fun hHeld => ?_); refine with_tabW laws_eqNameS.tab6 laws_eqNameS.bits6 (fun HT_ HW_ => ?_)
        generalize wr.drew = w11 at HB HR307_0 HR308_0 hx307_0 hx307_1 hx307_2 hx307_3 hx308_0 hx308_1 hx308_2 hx308_3 hHeld ⊢
        refine pu_ 0 (some 17) #[true, false, false, false, false, false, false, false, false, false] HT_.out ?_
        refine pu_ 1 (some 18) #[true, true, false, false, false, false, false, false, false, false] HT_.out ?_
        refine pu_ 2 (some 19) #[true, true, true, false, false, false, false, false, false, false] HT_.out ?_
        refine pu_ 4 (some 21) #[true, true, true, false, true, false, false, false, false, false] HT_.out ?_
        refine pu_ 5 (some 22) #[true, true, true, false, true, true, false, false, false, false] HT_.out ?_
        refine pu_ 6 (some 23) #[true, true, true, false, true, true, true, false, false, false] HT_.out ?_
        refine ta0_ 3 (some 20) #[true, true, true, true, true, true, true, false, false, false] HT_.out HW_.out hHeld ?_
        refine ta0_ 7 (some 24) #[true, true, true, true, true, true, true, true, false, false] HT_.out HW_.out hHeld ?_
        refine on_ 8 (some 25) #[true, true, true, true, true, true, true, true, true, false] HT_.out (fun K hK => ?_)
        refine gs_ Tryd.func11 #[.agg #[.slice A307_0 ((rd_T31 l0 x5_1).f0).length c307_0, .string ((rd_T31 l0 x5_1).f1), .string ((rd_T31 l0 x5_1).f2), .string ((rd_T31 l0 x5_1).f3)], .agg #[.slice A308_0 ((rd_T31 l1 x5_1).f0).length c308_0, .string ((rd_T31 l1 x5_1).f1), .string ((rd_T31 l1 x5_1).f2), .string ((rd_T31 l1 x5_1).f3)]] ?_
        with_reducible refine (laws_eqName.calls k1 _ _ ((rd_T31 l0 x5_1).f0) ((rd_T31 l0 x5_1).f1) ((rd_T31 l0 x5_1).f2) ((rd_T31 l0 x5_1).f3) _ _ ((rd_T31 l1 x5_1).f0) ((rd_T31 l1 x5_1).f1) ((rd_T31 l1 x5_1).f2) ((rd_T31 l1 x5_1).f3) false _ ?side1 ?side2 ?side3 ?side4 A7.out).mono ?_
        (case side1 => repeat (first | exact (Kd.C_below HR307_0.out HB.out) | (with_reducible refine Kd.C_alloc ?_ _) | (with_reducible refine Kd.C_drewN ?_ _) | (with_reducible refine Kd.C_drew ?_)))
        (case side2 => exact HC307_0.out)
        (case side3 => repeat (first | exact (Kd.C_below HR308_0.out HB.out) | (with_reducible refine Kd.C_alloc ?_ _) | (with_reducible refine Kd.C_drewN ?_ _) | (with_reducible refine Kd.C_drew ?_)))
        (case side4 => exact HC308_0.out)
        rintro e w12 ⟨rfl, hb⟩
        refine ⟨_, rfl, ?_⟩
        replace HB := Aside0.mk (below_step au27 hb)
        (try clear hb)
        refine hK.out _ _ ⟨(bcl HB.out hw307_0), (bcl HB.out hw307_1), (bcl HB.out hw307_2), (bcl HB.out hw307_3), (bcl HB.out hw308_0), (bcl HB.out hw308_1), (bcl HB.out hw308_2), (bcl HB.out hw308_3)⟩ (fun hHeld => ?_)
        clear hK K
        refine no_ (some 25) ?_
        refine pu_ 9 (some 26) #[true, true, true, true, true, true, true, true, true, true] HT_.out ?_
        refine done_ (done_of HT_.out (by kernel_rfl)) ?_
        try go_wp2
        go_ret
        exact ax2
      ·
       rw [if_neg c6] at H
       exact absurd H (by simp)
     ·
      rw [if_neg c5] at H
      exact absurd H (by simp)
    ·
     rw [if_neg c4] at H
     have c4b0 : decide (x5_1 < (l0.length : Int)) = false := decide_eq_false c4
     clear c4
     obtain rfl := Option.some.inj H
     go_wp2
     go_ret
     exact ax2
 ·
  rw [if_neg c3] at H
  have c3b0 : ((l0.length : Int) == (l1.length : Int)) = false := beq_eq_false_iff_ne.mpr c3
  have c3b1 : ((l0.length : Int) != (l1.length : Int)) = true := bne_iff_ne.mpr c3
  have c3b2 : (l0.length == l1.length) = false := by first | simpa using c3 | (simp at c3 ⊢; omega)
  obtain rfl := Option.some.inj H
  go_enter Tryd.func6, Tryd.ntmps6
  go_wp2
  go_ret
  exact ax2

end Go.Proofs.YtefoiofododliaaDoor.G

namespace Go.Proofs.YtefoiofododliaaDoor.B
open Go.RowKit Go.Proofs.YtefoiofododliaaDoorW.PrintWords Go.Proofs.YtefoiofododliaaDoorW.PrintLast
set_option linter.unusedVariables false
set_option linter.unusedSimpArgs false
theorem w64 {x : Int} (h : -9223372036854775808 ≤ x) (h' : x ≤ 9223372036854775807) : wrap64 x = x := by unfold wrap64; omega
theorem ev_pos {α : Type} {c : Prop} [Decidable c] {g f : Nat → Option α} {r : α} (h : c) (e : Ev g r) : Ev (fun k => if c then g k else f k) r := Ev.congr (fun _ => if_pos h) e
theorem ev_neg {α : Type} {c : Prop} [Decidable c] {g f : Nat → Option α} {r : α} (h : ¬ c) (e : Ev f r) : Ev (fun k => if c then g k else f k) r := Ev.congr (fun _ => if_neg h) e
theorem ev_ite {α : Type} {c : Prop} [Decidable c] {g f : Nat → Option α} {a b : α} (h : c → Ev g a) (h' : ¬ c → Ev f b) : Ev (fun k => if c then g k else f k) (if c then a else b) := by
  by_cases hc : c
  · rw [if_pos hc]; exact ev_pos hc (h hc)
  · rw [if_neg hc]; exact ev_neg hc (h' hc)
theorem ev_bind0 {α β : Type} {o : Option α} {f : Nat → α → Option β} {a : α} {r : β} (h : o = some a) (k : Ev (fun n => f n a) r) : Ev (fun n => o.bind (f n)) r := Ev.congr (fun _ => by rw [h]; rfl) k
theorem ev_eq {α : Type} {g : Nat → Option α} {a b : α} (h : Ev g a) (e : a = b) : Ev g b := e ▸ h
abbrev L (s : ByteArray) : List UInt8 := s.data.toList
def mkB (l : List UInt8) : ByteArray := ⟨l.toArray⟩
theorem L_mk (l : List UInt8) : L (mkB l) = l := by simp [mkB]
theorem mk_L (s : ByteArray) : mkB (L s) = s := by cases s; simp [mkB, L]
theorem L_inj {a b : ByteArray} (h : L a = L b) : a = b := by rw [← mk_L a, h, mk_L]
theorem L_iff {a b : ByteArray} : a = b ↔ L a = L b := ⟨fun h => by rw [h], L_inj⟩
theorem L_len (s : ByteArray) : (L s).length = s.size := (Lib.size_eq s).symm
theorem size_mk (l : List UInt8) : (mkB l).size = l.length := by rw [← L_len, L_mk]
theorem toList_L (s : ByteArray) : s.toList = L s := Lib.toList_data s
theorem L_extract (s : ByteArray) (a b : Nat) : L (s.extract a b) = ((L s).drop a).take (b - a) := Lib.extract_data s a b
theorem L_append (a b : ByteArray) : L (a ++ b) = L a ++ L b := by simp [L, ByteArray.data_append]
theorem size_append (a b : ByteArray) : (a ++ b).size = a.size + b.size := by rw [← L_len, L_append, List.length_append, L_len, L_len]
theorem bt_get (s : ByteArray) (i : Nat) (h : i < s.size) : bt s (i : Int) = (((L s)[i]'(by rw [L_len]; exact h)).toNat : Int) := by
  unfold bt
  simp only [Int.toNat_natCast, h, dif_pos]
  rfl
theorem bt_getD (s : ByteArray) (i : Nat) (h : i < s.size) : bt s (i : Int) = (((L s).getD i 0).toNat : Int) := by
  rw [bt_get s i h, List.getD_eq_getElem?_getD, List.getElem?_eq_getElem (by rw [L_len]; exact h)]; rfl
theorem size_pos_iff (s : ByteArray) : s.size = 0 ↔ L s = [] := by rw [← L_len, List.length_eq_zero_iff]
theorem u8_inj {a b : UInt8} (h : (a.toNat : Int) = (b.toNat : Int)) : a = b := UInt8.toNat_inj.1 (by omega)
theorem toList_eq_iff {a b : ByteArray} : a.toList = b.toList ↔ a = b := by rw [toList_L, toList_L, L_iff]
end Go.Proofs.YtefoiofododliaaDoor.B

namespace Go.Proofs.YtefoiofododliaaDoor.G
open Go.RowKit Go.Proofs.YtefoiofododliaaDoorW.PrintWords Go.Proofs.YtefoiofododliaaDoorW.PrintLast Go.Proofs.YtefoiofododliaaDoor.B
set_option linter.unusedVariables false
set_option linter.unusedSimpArgs false
def SimV (v v' : Value) : Prop := v' = v ∨ (∃ a b, v = .string a ∧ v' = .string b) ∨ (∃ k a b, v = .int k a ∧ v' = .int k b) ∨ ∃ a b, v = .bool a ∧ v' = .bool b
def SimC (l l' : List Value) : Prop := l'.length = l.length ∧ ∀ (i : Nat) (v v' : Value), l[i]? = some v → l'[i]? = some v' → SimV v v'
def SimO (o o' : Option Obj) : Prop := o' = o ∨ ∃ (cs cs' : Array Value) (t : TypeId), o = some (.cells cs t (0, 0)) ∧ o' = some (.cells cs' t (0, 0)) ∧ SimC cs.toList cs'.toList
def Sim (P : Nat → Prop) (w w' : World) : Prop := w.heap.size ≤ w'.heap.size ∧ ∀ k, k < w.heap.size → SimO w.heap[k]? w'.heap[k]? ∧ (¬ P k → w'.heap[k]? = w.heap[k]?)
theorem SimV.trans {a b c : Value} (h : SimV a b) (h' : SimV b c) : SimV a c := by
  rcases h with rfl | ⟨x, y, rfl, rfl⟩ | ⟨k, x, y, rfl, rfl⟩ | ⟨x, y, rfl, rfl⟩
  · exact h'
  · rcases h' with rfl | ⟨p, q, e, rfl⟩ | ⟨k, p, q, e, rfl⟩ | ⟨p, q, e, rfl⟩
    · exact .inr (.inl ⟨_, _, rfl, rfl⟩)
    · exact .inr (.inl ⟨_, _, rfl, rfl⟩)
    · cases e
    · cases e
  · rcases h' with rfl | ⟨p, q, e, rfl⟩ | ⟨k', p, q, e, rfl⟩ | ⟨p, q, e, rfl⟩
    · exact .inr (.inr (.inl ⟨_, _, _, rfl, rfl⟩))
    · cases e
    · injection e with e1 e2
      subst e1
      exact .inr (.inr (.inl ⟨_, _, _, rfl, rfl⟩))
    · cases e
  · rcases h' with rfl | ⟨p, q, e, rfl⟩ | ⟨k', p, q, e, rfl⟩ | ⟨p, q, e, rfl⟩
    · exact .inr (.inr (.inr ⟨_, _, rfl, rfl⟩))
    · cases e
    · cases e
    · exact .inr (.inr (.inr ⟨_, _, rfl, rfl⟩))
theorem SimC.refl (l : List Value) : SimC l l := ⟨rfl, fun i v v' h h' => .inl (by rw [h] at h'; exact (Option.some.inj h').symm)⟩
theorem SimC.trans {a b c : List Value} (h : SimC a b) (h' : SimC b c) : SimC a c := by
  refine ⟨h'.1.trans h.1, fun i v v' hv hv' => ?_⟩
  have hi : i < b.length := by
    rw [h.1]
    exact (List.getElem?_eq_some_iff.1 hv).1
  exact (h.2 i v _ hv (List.getElem?_eq_getElem hi)).trans (h'.2 i _ v' (List.getElem?_eq_getElem hi) hv')
theorem SimC.take {a b : List Value} (h : SimC a b) (n : Nat) : SimC (a.take n) (b.take n) := by
  refine ⟨by rw [List.length_take, List.length_take, h.1], fun i v v' hv hv' => ?_⟩
  rw [List.getElem?_take] at hv hv'
  by_cases c : i < n
  · rw [if_pos c] at hv hv'; exact h.2 i v v' hv hv'
  · rw [if_neg c] at hv; cases hv
theorem SimC.drop {a b : List Value} (h : SimC a b) (n : Nat) : SimC (a.drop n) (b.drop n) := by
  refine ⟨by rw [List.length_drop, List.length_drop, h.1], fun i v v' hv hv' => ?_⟩
  rw [List.getElem?_drop] at hv hv'
  exact h.2 _ v v' hv hv'
theorem SimC.one {v : Value} {l : List Value} (h : SimC [v] l) : ∃ v', l = [v'] ∧ SimV v v' := by
  obtain ⟨hl, hv⟩ := h
  match l, hl with
  | [v'], _ => exact ⟨v', rfl, hv 0 v v' rfl rfl⟩
theorem SimO.trans {a b c : Option Obj} (h : SimO a b) (h' : SimO b c) : SimO a c := by
  rcases h with rfl | ⟨cs, cs', t, rfl, rfl, hc⟩
  · exact h'
  · rcases h' with rfl | ⟨ds, ds', t', e, rfl, hd⟩
    · exact .inr ⟨cs, cs', t, rfl, rfl, hc⟩
    · injection e with e
      injection e with e1 e2
      subst e1 e2
      exact .inr ⟨cs, ds', _, rfl, rfl, hc.trans hd⟩
theorem Sim.refl (P : Nat → Prop) (w : World) : Sim P w w := ⟨Nat.le_refl _, fun k _ => ⟨.inl rfl, fun _ => rfl⟩⟩
theorem Sim.trans {P : Nat → Prop} {a b c : World} (h : Sim P a b) (h' : Sim P b c) : Sim P a c :=
  ⟨Nat.le_trans h.1 h'.1, fun k hk => ⟨(h.2 k hk).1.trans (h'.2 k (Nat.lt_of_lt_of_le hk h.1)).1, fun hp => ((h'.2 k (Nat.lt_of_lt_of_le hk h.1)).2 hp).trans ((h.2 k hk).2 hp)⟩⟩
theorem Sim.mono {P Q : Nat → Prop} {a b : World} (h : Sim P a b) (hq : ∀ k, P k → Q k) : Sim Q a b := ⟨h.1, fun k hk => ⟨(h.2 k hk).1, fun hn => (h.2 k hk).2 (fun hp => hn (hq k hp))⟩⟩
theorem Sim.below {P : Nat → Prop} {a b c : World} (h : Sim P a b) (hb : Below b.heap.size b c) : Sim P a c :=
  h.trans ⟨hb.size, fun k hk => ⟨.inl (hb.block k hk), fun _ => hb.block k hk⟩⟩
theorem Sim.alloc {P : Nat → Prop} {a b : World} (h : Sim P a b) (o : Obj) : Sim P a (b.alloc o) := h.below (below_alloc (Below.refl _ _) o)
theorem Sim.drewN {P : Nat → Prop} {a b : World} (h : Sim P a b) (m : Nat) : Sim P a (b.drewN m) := h.below (pw_below_drewN (Below.refl _ _) m)
theorem Sim.drew {P : Nat → Prop} {a b : World} (h : Sim P a b) : Sim P a b.drew := h.below (below_drew1 (Below.refl _ _))
theorem Sim.kept {P : Nat → Prop} {a b : World} (h : Sim P a b) : Kept a b P := ⟨h.1, fun i hi hn => (h.2 i hi).2 hn⟩
theorem heap_set_row {w : World} {g j : Nat} {cs : Array Value} {t : TypeId} (hb : w.heap[g]? = some (.cells cs t (0, 0))) (u : Value) : (w.setCell ⟨g, j, none⟩ u).heap[g]? = some (.cells (cs.setIfInBounds j u) t (0, 0)) := by
  simp [World.setCell, Array.getElem?_modify, hb]
theorem Sim.store {P : Nat → Prop} {a b : World} {g j : Nat} {cs : Array Value} {t : TypeId} {old u : Value} (h : Sim P a b) (hP : P g) (hb : b.heap[g]? = some (.cells cs t (0, 0))) (hc : b.cell? ⟨g, j, none⟩ = some old) (hv : SimV old u) : Sim P a (b.setCell ⟨g, j, none⟩ u) := by
  refine h.trans ⟨by simp [World.setCell], fun k hk => ?_⟩
  by_cases e : k = g
  · subst e
    refine ⟨?_, fun hn => absurd hP hn⟩
    rw [heap_set_row hb, hb]
    refine .inr ⟨cs, _, t, rfl, rfl, by simp, fun i v v' hi hi' => ?_⟩
    rw [cell_of_row b k j cs t _ hb] at hc
    rw [Array.getElem?_toList] at hi hi'
    by_cases ei : i = j
    · subst ei
      rw [hc] at hi
      obtain rfl := Option.some.inj hi
      have hlt : i < cs.size := (Array.getElem?_eq_some_iff.1 hc).1
      rw [Array.getElem?_setIfInBounds_self_of_lt hlt] at hi'
      obtain rfl := Option.some.inj hi'
      exact hv
    · rw [Array.getElem?_setIfInBounds_ne (Ne.symm ei), hi] at hi'
      exact .inl (Option.some.inj hi').symm
  · have := Below.heap_setCell b ⟨g, j, none⟩ u k e
    exact ⟨.inl this, fun _ => this⟩
end Go.Proofs.YtefoiofododliaaDoor.G

namespace Go.Proofs.YtefoiofododliaaDoor.G
open Go.RowKit Go.Proofs.YtefoiofododliaaDoorW.PrintWords Go.Proofs.YtefoiofododliaaDoorW.PrintLast Go.Proofs.YtefoiofododliaaDoorW.PrintMore
open Go.Proofs.YtefoiofododliaaDoor.Gl Go.Proofs.YtefoiofododliaaDoor.Ext
attribute [local go_sem] max2_int min2_int max_two min_two max_three min_three max_four min_four   -- for this text's walks alone
set_option linter.unusedVariables false
set_option linter.unusedSimpArgs false

/-! ### laws_markText: function 13 -/
def laws_markText.l0 : Nat → Int → ByteArray → Option (ByteArray)
 | 0, _, _ => none
 | k + 1, x0, x3 => if x0 > 0 then ((some (([(wrap64 (48 + (Int.tmod x0 10))) % 256] : List Int) : List Int)).bind fun y310 => (if (strOfNums y310).size + x3.size ≤ 9223372036854775807 then (laws_markText.l0 k (wrap64 (Int.tdiv x0 10)) ((strOfNums y310) ++ x3)) else (none))) else (if 1 + x3.size ≤ 9223372036854775807 then (some ((⟨#[109]⟩ : ByteArray) ++ x3)) else (none))
def laws_markText.f (k : Nat) (a0 : Int) : Option (ByteArray) := if a0 ≤ 0 then (some (⟨#[109, 48]⟩ : ByteArray)) else (laws_markText.l0 k a0 (⟨#[]⟩ : ByteArray))
theorem laws_markText.mono_l : ∀ k, (∀ y0 y1, LeO (laws_markText.l0 k y0 y1) (laws_markText.l0 (k + 1) y0 y1))
 | 0 => fun _ _ r h => by simp [laws_markText.l0] at h
 | k + 1 => by
  have ih0 := laws_markText.mono_l k
  ·
   intro y0 y1
   unfold laws_markText.l0
   repeat' first
   | (with_reducible exact ih0 _ _)
   | (with_reducible exact LeO.refl _)
   | (with_reducible exact LeO.none _)
   | (with_reducible refine LeO.ite ?_ ?_)
   | (with_reducible refine LeO.bind ?_ (fun _ => ?_))
   | exact ih0 _ _
   | exact LeO.none _
   | refine LeO.ite ?_ ?_
   | refine LeO.bind ?_ (fun _ => ?_)
theorem laws_markText.mono : ∀ a0 k, LeO (laws_markText.f k a0) (laws_markText.f (k + 1) a0) := by
 intro a0 k
 have ih0 := laws_markText.mono_l k
 unfold laws_markText.f
 repeat' first
   | (with_reducible exact ih0 _ _)
   | (with_reducible exact LeO.refl _)
   | (with_reducible exact LeO.none _)
   | (with_reducible refine LeO.ite ?_ ?_)
   | (with_reducible refine LeO.bind ?_ (fun _ => ?_))
   | exact ih0 _ _
   | exact LeO.none _
   | refine LeO.ite ?_ ?_
   | refine LeO.bind ?_ (fun _ => ?_)
set_option maxHeartbeats 8000000 in
set_option maxRecDepth 100000 in
theorem laws_markText.calls (k : Nat) (a0 : Int) (r : ByteArray) (w : World) (h : laws_markText.f k a0 = some r) :
  Calls Tryd.prog 13 #[.int .i64 a0] w fun e w' => e = .returned (.string r) ∧ Below w.heap.size w w' := by
 have HB := Aside0.mk (Below.refl w.heap.size w)
 have H : (if a0 ≤ 0 then (some (⟨#[109, 48]⟩ : ByteArray)) else (laws_markText.l0 k a0 (⟨#[]⟩ : ByteArray))) = some r := h
 clear h
 by_cases c2 : a0 ≤ 0
 ·
  rw [if_pos c2] at H
  have c2b0 : decide (a0 ≤ 0) = true := decide_eq_true c2
  clear c2
  obtain rfl := Option.some.inj H
  go_enter Tryd.func13, Tryd.ntmps13
  go_wp2
  go_ret
  exact ax2
 ·
  rw [if_neg c2] at H
  have c2b0 : decide (a0 ≤ 0) = false := decide_eq_false c2
  clear c2
  have H' := Aside0.mk H
  clear H
  go_enter Tryd.func13, Tryd.ntmps13
  go_wp2
  go_loopg [0, 3] k (fun kq v0 v3 w' => ∃ (x0_1 : Int) (x3_1 : ByteArray), v0 = .int .i64 x0_1 ∧ v3 = .string x3_1 ∧ Aside0 (laws_markText.l0 kq x0_1 x3_1 = some r) ∧ Aside0 (kq ≤ k) ∧ Aside0 (Below w.heap.size w w'))
  case atStart => exact ⟨(a0), ((⟨#[]⟩ : ByteArray)), au76, au76, H', ⟨Nat.le_refl _⟩, ⟨by repeat (first | (with_reducible first | exact HB.out | apply below_alloc | apply pw_below_drewN | apply below_drew1) | exact HB.out)⟩⟩
  case round =>
   clear H'
   try clear c1
   try clear c2
   try clear c2b0
   try clear p2
   obtain ⟨x0_1, x3_1, rfl, rfl, HA, HK1, HB⟩ := hrel
   cases gk with
   | zero => exact absurd HA.out (by simp [laws_markText.l0])
   | succ k1 =>
    have H := HA.out
    clear HA
    simp only [laws_markText.l0] at H
    by_cases c3 : x0_1 > 0
    ·
     rw [if_pos c3] at H
     have c3b0 : decide (0 < x0_1) = true := decide_eq_true c3
     clear c3
     obtain ⟨y310, hy310⟩ : ∃ y_ : List Int, y_ = (([(wrap64 (48 + (Int.tmod x0_1 10))) % 256] : List Int)) := ⟨_, rfl⟩
     replace H : (if (strOfNums y310).size + x3_1.size ≤ 9223372036854775807 then (laws_markText.l0 k1 (wrap64 (Int.tdiv x0_1 10)) ((strOfNums y310) ++ x3_1)) else (none)) = some r := by first | (rw [hy310]; with_reducible exact H) | (have H2_ := (Option.bind_some _ _).symm.trans H; rw [hy310]; with_reducible exact H2_) | (have H2_ := (Option.bind_some _ _).symm.trans H; with_reducible exact H2_) | with_reducible exact H | (rw [hy310]; exact H) | exact H
     have Ny310 := Aside0.mk hy310
     clear hy310
     by_cases c4 : (strOfNums y310).size + x3_1.size ≤ 9223372036854775807
     ·
      rw [if_pos c4] at H
      have c4b0 := eq_true c4
      have c4b1 : decide ((strOfNums y310).size + x3_1.size ≤ 9223372036854775807) = true := decide_eq_true c4
      try have c4b2 : (9223372036854775807 < (strOfNums y310).size + x3_1.size) = False := eq_false (Nat.not_lt.2 c4)
      have H' := Aside0.mk H
      clear H
      go_wp2_with (first | ((with_reducible refine gate_dst (N := 12) rfl ?_); refine Kd.R_lit (Kd.int .u8) _ 5 ?hg (N := 12) ?hd (xs := ([(wrap64 (48 + (Int.tmod x0_1 10))) % 256] : List Int)) (inner := [.int .u8 ((wrap64 (48 + (Int.tmod x0_1 10))) % 256)]) (ok := fun _ => True) (okp := fun _ => True) ?hr ?hp (fun _ hk => hk) trivial (Below.refl _ _) (Nat.le_refl _) (by simp) ?_; (case hd => rfl); (case hg => rfl); (case hr => first | (go_simp; done) | (go_simp; rfl)); (case hp => exact (Reps.one (show Kd.M (Kd.int .u8) _ _ _ ((wrap64 (48 + (Int.tmod x0_1 10))) % 256) [.int .u8 ((wrap64 (48 + (Int.tmod x0_1 10))) % 256)] from rfl) (Reps.none _ _))); intro v311 w5 ho6 hb hg_ hnew_; clear hg_ hnew_; (first | rw [← Ny310.out] at ho6 | (simp only [Int.reduceToNat] at ho6; rw [← Ny310.out] at ho6)); have HO312 := Aside0.mk (Kd.R_lower ho6 (below_size au27)); replace HB := Aside0.mk (below_step au27 hb); clear hb ho6; have hcv7 := own_string (P := Tryd.prog) Tryd.underlying40 Tryd.underlying5 Tryd.underlying9 (Kd.own_of_R HO312.out)))
      go_roundg k1
      case measure => have := HK1.out; omega
      case rel => exact ⟨(wrap64 (Int.tdiv x0_1 10)), ((strOfNums y310) ++ x3_1), au76, au76, H', ⟨by have := HK1.out; omega⟩, ⟨by repeat (first | (with_reducible first | exact HB.out | apply below_alloc | apply pw_below_drewN | apply below_drew1) | exact HB.out)⟩⟩
     ·
      rw [if_neg c4] at H
      exact absurd H (by simp)
    ·
     rw [if_neg c3] at H
     have c3b0 : decide (0 < x0_1) = false := decide_eq_false c3
     clear c3
     by_cases c8 : 1 + x3_1.size ≤ 9223372036854775807
     ·
      rw [if_pos c8] at H
      have c8b0 := eq_true c8
      have c8b1 : decide (1 + x3_1.size ≤ 9223372036854775807) = true := decide_eq_true c8
      try have c8b2 : (9223372036854775807 < 1 + x3_1.size) = False := eq_false (Nat.not_lt.2 c8)
      obtain rfl := Option.some.inj H
      go_wp2
      go_ret
      exact ax2
     ·
      rw [if_neg c8] at H
      exact absurd H (by simp)


/-! ### laws_markStringS: function 12 -/
def laws_markStringS.l0 : Nat → List ByteArray → Int → Int → Option (Int × List ByteArray)
 | 0, _, _, _ => none
 | k + 1, x0, x1, x5 => if x5 < (x0.length : Int) then ((laws_markText.f k x1).bind fun t313 => (if 0 ≤ x5 then (laws_markStringS.l0 k (x0.set (x5 : Int).toNat t313) (wrap64 (x1 + 1)) (wrap64 (x5 + 1))) else (none))) else (some (x1, x0))
def laws_markStringS.f (k : Nat) (l0 : List ByteArray) (a1 : Int) : Option (Int × List ByteArray) := laws_markStringS.l0 k l0 a1 0
theorem laws_markStringS.mono_l : ∀ k, (∀ y0 y1 y2, LeO (laws_markStringS.l0 k y0 y1 y2) (laws_markStringS.l0 (k + 1) y0 y1 y2))
 | 0 => fun _ _ _ r h => by simp [laws_markStringS.l0] at h
 | k + 1 => by
  have ih0 := laws_markStringS.mono_l k
  ·
   intro y0 y1 y2
   unfold laws_markStringS.l0
   repeat' first
   | (with_reducible exact ih0 _ _ _)
   | (with_reducible exact laws_markText.mono _ _)
   | (with_reducible exact LeO.refl _)
   | (with_reducible exact LeO.none _)
   | (with_reducible refine LeO.ite ?_ ?_)
   | (with_reducible refine LeO.bind ?_ (fun _ => ?_))
   | exact ih0 _ _ _
   | exact laws_markText.mono _ _
   | exact LeO.none _
   | refine LeO.ite ?_ ?_
   | refine LeO.bind ?_ (fun _ => ?_)
theorem laws_markStringS.mono : ∀ a0 a1 k, LeO (laws_markStringS.f k a0 a1) (laws_markStringS.f (k + 1) a0 a1) := by
 intro a0 a1 k
 have ih0 := laws_markStringS.mono_l k
 unfold laws_markStringS.f
 repeat' first
   | (with_reducible exact ih0 _ _ _)
   | (with_reducible exact laws_markText.mono _ _)
   | (with_reducible exact LeO.refl _)
   | (with_reducible exact LeO.none _)
   | (with_reducible refine LeO.ite ?_ ?_)
   | (with_reducible refine LeO.bind ?_ (fun _ => ?_))
   | exact ih0 _ _ _
   | exact laws_markText.mono _ _
   | exact LeO.none _
   | refine LeO.ite ?_ ?_
   | refine LeO.bind ?_ (fun _ => ?_)
set_option maxHeartbeats 8000000 in
set_option maxRecDepth 100000 in
theorem laws_markStringS.calls (k : Nat) (P0_ : Nat → Prop) (u9000_ : Value) (l0 : List ByteArray) (a1 : Int) (r1 : Int) (r2 : List ByteArray) (w0 w : World) (hB : Below w0.heap.size w0 w) (ho0 : Kd.R Kd.string 9 w w0.heap.size P0_ u9000_ l0) (h : laws_markStringS.f k l0 a1 = some (r1, r2)) :
  Calls Tryd.prog 12 #[u9000_, .int .i64 a1] w fun e w' => e = .returned (.int .i64 r1) ∧ Kd.R Kd.string 9 w' w0.heap.size (fun k_ => (P0_ k_ ∨ w.heap.size ≤ k_)) u9000_ r2 ∧ Below w0.heap.size w0 w' ∧ Kept w w' (fun k_ => P0_ k_) := by
 have HO0 := Aside0.mk (show Kd.R Kd.string 9 w w0.heap.size (fun k_ => (P0_ k_ ∨ w.heap.size ≤ k_)) u9000_ l0 from Kd.R_mono ho0 (fun k_ hk => (.inl hk)))
 have HK := Aside0.mk (Kept.refl w (fun k_ => P0_ k_))
 have HW0 := Aside0.mk hB.size
 have HB := Aside0.mk hB
 clear hB
 have H : (laws_markStringS.l0 k l0 a1 0) = some (r1, r2) := h
 clear h
 have H' := Aside0.mk H
 clear H
 go_enter Tryd.func12, Tryd.ntmps12
 go_wp2
 go_loopg [1, 5] k (fun kq v1 v5 w' => ∃ (x0_1 : List ByteArray) (x1_1 : Int) (x5_1 : Int), v1 = .int .i64 x1_1 ∧ v5 = .int .i64 x5_1 ∧ Aside0 (laws_markStringS.l0 kq x0_1 x1_1 x5_1 = some (r1, r2)) ∧ Aside0 (kq ≤ k) ∧ Aside0 (Kd.R Kd.string 9 w' w0.heap.size (fun k_ => (P0_ k_ ∨ w.heap.size ≤ k_)) u9000_ x0_1) ∧ Aside0 (Kept w w' (fun k_ => P0_ k_)) ∧ Aside0 (Below w0.heap.size w0 w'))
 case atStart => exact ⟨(l0), (a1), (0), au76, au76, H', ⟨Nat.le_refl _⟩, ⟨by (with_reducible repeat (first | apply Kd.R_alloc | apply Kd.R_drewN | apply Kd.R_drew)); exact HO0.out⟩, ⟨by repeat (first | (with_reducible first | exact HK.out | apply Kept.alloc | apply Kept.drewN | apply Kept.drew) | exact HK.out)⟩, ⟨by repeat (first | (with_reducible first | exact HB.out | apply below_alloc | apply pw_below_drewN | apply below_drew1) | exact HB.out)⟩⟩
 case round =>
  clear H'
  try clear c1
  try clear p2
  obtain ⟨x0_1, x1_1, x5_1, rfl, rfl, HA, HK1, HO_0, HK, HB⟩ := hrel
  cases gk with
  | zero => exact absurd HA.out (by simp [laws_markStringS.l0])
  | succ k1 =>
   have H := HA.out
   clear HA
   simp only [laws_markStringS.l0] at H
   by_cases c3 : x5_1 < (x0_1.length : Int)
   ·
    rw [if_pos c3] at H
    have c3b0 : decide (x5_1 < (x0_1.length : Int)) = true := decide_eq_true c3
    clear c3
    replace H := Option.bind_eq_some_iff.mp H
    obtain ⟨t313, A40, H⟩ := H
    try dsimp only at H
    have A4 := Aside0.mk A40
    clear A40
    by_cases c5 : 0 ≤ x5_1
    ·
     rw [if_pos c5] at H
     have c5b0 : decide (0 ≤ x5_1) = true := decide_eq_true c5
     clear c5
     obtain ⟨y314, hy314⟩ : ∃ y_ : List ByteArray, y_ = (x0_1.set (x5_1 : Int).toNat t313) := ⟨_, rfl⟩
     replace H : (laws_markStringS.l0 k1 y314 (wrap64 (x1_1 + 1)) (wrap64 (x5_1 + 1))) = some (r1, r2) := by first | (rw [hy314]; with_reducible exact H) | (have H2_ := (Option.bind_some _ _).symm.trans H; rw [hy314]; with_reducible exact H2_) | (have H2_ := (Option.bind_some _ _).symm.trans H; with_reducible exact H2_) | with_reducible exact H | (rw [hy314]; exact H) | exact H
     have Ny314 := Aside0.mk hy314
     clear hy314
     have H' := Aside0.mk H
     clear H
     obtain ⟨Ao7, co7, eo7⟩ := Kd.R_slice HO_0.out
     subst eo7
     go_wp2_with (first | ((with_reducible refine gate_callee (f := 13) rfl ?_); refine goesL_ (some 15) rfl rfl Tryd.func13 (by kernel_rfl) rfl #[.int .i64 x1_1] rfl au24 ?_; (with_reducible refine (laws_markText.calls k1 x1_1 t313 _ A4.out).mono ?_); rintro e w8 ⟨rfl, hb⟩; refine ⟨_, rfl, ?_⟩; replace HO_0 := Aside0.mk (Kd.R_below (by (with_reducible repeat (first | apply Kd.R_alloc | apply Kd.R_drewN | apply Kd.R_drew)); exact HO_0.out) hb); replace HK := Aside0.mk (Kept.below (S := (fun k_ => P0_ k_)) au28 hb); replace HB := Aside0.mk (below_step au27 hb); (try clear hb); have p6 : 0 ≤ (x5_1 : Int) := of_decide_eq_true au75; have q6 : (x5_1 : Int) < ((x0_1.length : Int) : Int) := of_decide_eq_true au75; obtain ⟨go6, co6, eo6, gb6, gl6, cl6, HG6⟩ := Kd.R_form HO_0.out (by omega); (first | cases eo6 | (injection eo6 with ea_ en_ ec_; (first | subst ea_ | (injection ea_ with ea_; subst ea_)); subst ec_; clear en_)); have GB6 := Aside0.mk gb6; have GG6 := Aside0.mk HG6; clear gb6 gl6 HG6; have HMgo6 := Aside0.mk (show (P0_ go6 ∨ w.heap.size ≤ go6) from (HO_0.out.1 _ rfl)); obtain ⟨hx6_0, hf6_0⟩ := Kd.R_celln (⟨#[]⟩ : ByteArray) HO_0.out (x5_1 : Int) p6 q6; replace p6 := eq_true p6; replace q6 := eq_true q6; obtain ⟨hy9_, hz9_⟩ := Kd.R_celln (⟨#[]⟩ : ByteArray) HO_0.out (x5_1 : Int) (of_decide_eq_true au75) (of_decide_eq_true au75); have HP9 := Kd.R_putg HO_0.out (x5_1 : Int) t313) | ((with_reducible refine gate_store (t := 9) (p := 16) rfl ?_); refine store_event (t := 9) (p := 16) (v := ?vo_w10) (w1 := (w8.setCell ⟨go6, (x5_1 : Int).toNat, none⟩ (.string t313))) ?hg ?ho ?hn ?hr ?_; (case ho => rfl); (case hg => rfl); (case hn => rfl); (case hr => first | (go_simp; done) | (go_simp; rfl)); intro w10 hw; have hg : w8.grownBy w10 (some go6) := (by rw [hw]; exact HP9.2); have hp_ : Kd.R Kd.string 9 w10 w0.heap.size (fun k_ => (P0_ k_ ∨ w.heap.size ≤ k_)) (.slice (some ⟨go6, 0, none⟩) x0_1.length co7) y314 := (by rw [hw, Ny314.out]; exact HP9.1); clear HP9; replace HB := Aside0.mk ((by rw [hw]; exact below_set (HB.out) GB6.out : Below w0.heap.size w0 w10)); replace HK := Aside0.mk (Kept.of_grown (S := (fun k_ => P0_ k_)) hg au28 (fun k_ e_ => (HO_0.out.1 k_ e_))); replace HO_0 := Aside0.mk (hp_); clear hg hw hp_))
     go_roundg k1
     case measure => have := HK1.out; omega
     case rel => exact ⟨(y314), (wrap64 (x1_1 + 1)), (wrap64 (x5_1 + 1)), au76, au76, H', ⟨by have := HK1.out; omega⟩, ⟨by (with_reducible repeat (first | apply Kd.R_alloc | apply Kd.R_drewN | apply Kd.R_drew)); exact HO_0.out⟩, ⟨by repeat (first | (with_reducible first | exact HK.out | apply Kept.alloc | apply Kept.drewN | apply Kept.drew) | exact HK.out)⟩, ⟨by repeat (first | (with_reducible first | exact HB.out | apply below_alloc | apply pw_below_drewN | apply below_drew1) | exact HB.out)⟩⟩
    ·
     rw [if_neg c5] at H
     exact absurd H (by simp)
   ·
    rw [if_neg c3] at H
    have c3b0 : decide (x5_1 < (x0_1.length : Int)) = false := decide_eq_false c3
    clear c3
    simp only [Option.some.injEq, Prod.mk.injEq] at H
    obtain ⟨rfl, rfl⟩ := H
    obtain ⟨Ao11, co11, eo11⟩ := Kd.R_slice HO_0.out
    subst eo11
    go_wp2
    go_ret
    exact ⟨by first | rfl | (simp [errW_none, errW_some] <;> rfl) | (simp [*, errW_none, errW_some] <;> rfl), by (with_reducible repeat (first | apply Kd.R_alloc | apply Kd.R_drewN | apply Kd.R_drew)); exact HO_0.out, by repeat (first | (with_reducible first | exact HB.out | apply below_alloc | apply pw_below_drewN | apply below_drew1) | exact HB.out), by repeat (first | (with_reducible first | exact HK.out | apply Kept.alloc | apply Kept.drewN | apply Kept.drew) | exact HK.out)⟩


/-! ### laws_heldStringS: function 14 -/
def laws_heldStringS.l0 : Nat → List ByteArray → Int → Int → Option (Int)
 | 0, _, _, _ => none
 | k + 1, x0, x1, x5 => if x5 < (x0.length : Int) then (if 0 ≤ x5 then ((laws_markText.f k x1).bind fun t316 => (if (rdOf ByteArray.empty x0 x5).toList = t316.toList then (laws_heldStringS.l0 k x0 (wrap64 (x1 + 1)) (wrap64 (x5 + 1))) else (some (-1)))) else (none)) else (some x1)
def laws_heldStringS.f (k : Nat) (l0 : List ByteArray) (a1 : Int) : Option (Int) := laws_heldStringS.l0 k l0 a1 0
theorem laws_heldStringS.mono_l : ∀ k, (∀ y0 y1 y2, LeO (laws_heldStringS.l0 k y0 y1 y2) (laws_heldStringS.l0 (k + 1) y0 y1 y2))
 | 0 => fun _ _ _ r h => by simp [laws_heldStringS.l0] at h
 | k + 1 => by
  have ih0 := laws_heldStringS.mono_l k
  ·
   intro y0 y1 y2
   unfold laws_heldStringS.l0
   repeat' first
   | (with_reducible exact ih0 _ _ _)
   | (with_reducible exact laws_markText.mono _ _)
   | (with_reducible exact LeO.refl _)
   | (with_reducible exact LeO.none _)
   | (with_reducible refine LeO.ite ?_ ?_)
   | (with_reducible refine LeO.bind ?_ (fun _ => ?_))
   | exact ih0 _ _ _
   | exact laws_markText.mono _ _
   | exact LeO.none _
   | refine LeO.ite ?_ ?_
   | refine LeO.bind ?_ (fun _ => ?_)
theorem laws_heldStringS.mono : ∀ a0 a1 k, LeO (laws_heldStringS.f k a0 a1) (laws_heldStringS.f (k + 1) a0 a1) := by
 intro a0 a1 k
 have ih0 := laws_heldStringS.mono_l k
 unfold laws_heldStringS.f
 repeat' first
   | (with_reducible exact ih0 _ _ _)
   | (with_reducible exact laws_markText.mono _ _)
   | (with_reducible exact LeO.refl _)
   | (with_reducible exact LeO.none _)
   | (with_reducible refine LeO.ite ?_ ?_)
   | (with_reducible refine LeO.bind ?_ (fun _ => ?_))
   | exact ih0 _ _ _
   | exact laws_markText.mono _ _
   | exact LeO.none _
   | refine LeO.ite ?_ ?_
   | refine LeO.bind ?_ (fun _ => ?_)
set_option maxHeartbeats 8000000 in
set_option maxRecDepth 100000 in
theorem laws_heldStringS.calls (k : Nat) (A0 : Option Addr) (c0 : Nat) (l0 : List ByteArray) (a1 : Int) (r : Int) (w : World) (hr0 : Kd.C Kd.string w A0 l0.length l0) (hc0 : l0.length ≤ c0) (h : laws_heldStringS.f k l0 a1 = some r) :
  Calls Tryd.prog 14 #[.slice A0 l0.length c0, .int .i64 a1] w fun e w' => e = .returned (.int .i64 r) ∧ Below w.heap.size w w' := by
 have HR0 := Aside0.mk hr0
 have HC0 := Aside0.mk hc0
 clear hr0 hc0
 have HB := Aside0.mk (Below.refl w.heap.size w)
 have H : (laws_heldStringS.l0 k l0 a1 0) = some r := h
 clear h
 have H' := Aside0.mk H
 clear H
 go_enter Tryd.func14, Tryd.ntmps14
 go_wp2
 go_loopg [1, 5] k (fun kq v1 v5 w' => ∃ (x1_1 : Int) (x5_1 : Int), v1 = .int .i64 x1_1 ∧ v5 = .int .i64 x5_1 ∧ Aside0 (laws_heldStringS.l0 kq l0 x1_1 x5_1 = some r) ∧ Aside0 (kq ≤ k) ∧ Aside0 (Below w.heap.size w w'))
 case atStart => exact ⟨(a1), (0), au76, au76, H', ⟨Nat.le_refl _⟩, ⟨by repeat (first | (with_reducible first | exact HB.out | apply below_alloc | apply pw_below_drewN | apply below_drew1) | exact HB.out)⟩⟩
 case round =>
  clear H'
  try clear c1
  try clear p2
  obtain ⟨x1_1, x5_1, rfl, rfl, HA, HK1, HB⟩ := hrel
  cases gk with
  | zero => exact absurd HA.out (by simp [laws_heldStringS.l0])
  | succ k1 =>
   have H := HA.out
   clear HA
   simp only [laws_heldStringS.l0] at H
   by_cases c3 : x5_1 < (l0.length : Int)
   ·
    rw [if_pos c3] at H
    have c3b0 : decide (x5_1 < (l0.length : Int)) = true := decide_eq_true c3
    clear c3
    by_cases c4 : 0 ≤ x5_1
    ·
     rw [if_pos c4] at H
     have c4b0 : decide (0 ≤ x5_1) = true := decide_eq_true c4
     clear c4
     replace H := Option.bind_eq_some_iff.mp H
     obtain ⟨t316, A50, H⟩ := H
     try dsimp only at H
     have A5 := Aside0.mk A50
     clear A50
     by_cases c6 : (rdOf ByteArray.empty l0 x5_1).toList = t316.toList
     ·
      rw [if_pos c6] at H
      have c6b0 : ((rdOf ByteArray.empty l0 x5_1).toList == t316.toList) = true := beq_iff_eq.mpr c6
      have c6b1 : ((rdOf ByteArray.empty l0 x5_1).toList != t316.toList) = false := bne_eq_false_iff_eq.mpr c6
      clear c6
      have H' := Aside0.mk H
      clear H
      try go_wp2
      replace HB := Aside0.mk (below_drew1 HB.out)
      have p315 : 0 ≤ (x5_1 : Int) := of_decide_eq_true au75
      have q315 : x5_1 < (l0.length : Int) := of_decide_eq_true au75
      obtain ⟨ad315, e315, hx315_0⟩ := Kd.at_string HR0.out x5_1 p315 q315
      have hw315_0 := hx315_0
      cases e315
      replace hx315_0 := bcl HB.out hx315_0
      replace p315 := eq_true p315
      replace q315 := eq_true q315
      refine start_ (n := 7) (S := fun w' => w'.cell? (ad315.add (x5_1).toNat) = some (.string (rdOf ByteArray.empty l0 x5_1))) (ds := []) #[false, false, false, false, false, false, false] (by kernel_rfl) rfl rfl ((bcl HB.out hw315_0)) (fun hHeld => ?_)
      generalize wr.drew = w7 at HB hx315_0 hHeld ⊢
      refine pure_ (i := 0) (N := some 12) (v := ?_) (a' := ?_) #[true, false, false, false, false, false, false] rfl rfl (by kernel_rfl) (fun _ _ _ h => h) (Or.inl ⟨by rfl, ?_⟩) ?_ ?_
      rotate_left
      ·
       intro w'
       go_simp
       with_reducible rfl
      rotate_left
      ·
       simp only [Act.put, List.setIfInBounds_toArray, List.set_cons_zero, List.set_cons_succ, i64_w, i32_w]
       rfl
      refine pure_ (i := 1) (N := some 13) (v := ?_) (a' := ?_) #[true, true, false, false, false, false, false] rfl rfl (by kernel_rfl) (fun _ _ _ h => h) (Or.inl ⟨by rfl, ?_⟩) ?_ ?_
      rotate_left
      ·
       intro w'
       go_simp
       with_reducible rfl
      rotate_left
      ·
       simp only [Act.put, List.setIfInBounds_toArray, List.set_cons_zero, List.set_cons_succ, i64_w, i32_w]
       rfl
      refine pure_ (i := 2) (N := some 14) (v := ?_) (a' := ?_) #[true, true, true, false, false, false, false] rfl rfl (by kernel_rfl) (fun _ _ _ h => h) (Or.inl ⟨by rfl, ?_⟩) ?_ ?_
      rotate_left
      ·
       intro w'
       go_simp
       with_reducible rfl
      rotate_left
      ·
       simp only [Act.put, List.setIfInBounds_toArray, List.set_cons_zero, List.set_cons_succ, i64_w, i32_w]
       rfl
      refine pure_ (i := 4) (N := some 16) (v := ?_) (a' := ?_) #[true, true, true, false, true, false, false] rfl rfl (by kernel_rfl) (fun _ _ _ h => h) (Or.inl ⟨by rfl, ?_⟩) ?_ ?_
      rotate_left
      ·
       intro w'
       go_simp
       with_reducible rfl
      rotate_left
      ·
       simp only [Act.put, List.setIfInBounds_toArray, List.set_cons_zero, List.set_cons_succ, i64_w, i32_w]
       rfl
      refine take_ (i := 3) (N := some 15) (v := ?_) (a' := ?_) #[true, true, true, true, true, false, false] rfl rfl (by kernel_rfl) (fun _ _ _ h => h) (Or.inl ⟨by rfl, ?_⟩) hHeld ?_ ?_
      rotate_left
      ·
       intro w' s0
       go_simp
       with_reducible rfl
      rotate_left
      ·
       simp only [Act.put, List.setIfInBounds_toArray, List.set_cons_zero, List.set_cons_succ, i64_w, i32_w]
       rfl
      refine one_ (i := 5) (N := some 17) #[true, true, true, true, true, true, false] rfl rfl (by kernel_rfl) (by decide) (fun K hK => ?_)
      refine gs_ Tryd.func13 #[.int .i64 x1_1] ?_
      with_reducible refine (laws_markText.calls k1 x1_1 t316 _ A5.out).mono ?_
      rintro e w8 ⟨rfl, hb⟩
      refine ⟨_, rfl, ?_⟩
      replace HB := Aside0.mk (below_step au27 hb)
      (try clear hb)
      refine hK.out _ _ ((bcl HB.out hw315_0)) (fun hHeld => ?_)
      clear hK K
      refine no_ (some 17) ?_
      refine pure_ (i := 6) (N := some 18) (v := ?_) (a' := ?_) #[true, true, true, true, true, true, true] rfl rfl (by kernel_rfl) (fun _ _ _ h => h) (Or.inl ⟨by rfl, ?_⟩) ?_ ?_
      rotate_left
      ·
       intro w'
       go_simp
       with_reducible rfl
      rotate_left
      ·
       simp only [Act.put, List.setIfInBounds_toArray, List.set_cons_zero, List.set_cons_succ, i64_w, i32_w]
       rfl
      refine done_ (by kernel_rfl) ?_
      try go_wp2
      go_roundg k1
      case measure => have := HK1.out; omega
      case rel => exact ⟨(wrap64 (x1_1 + 1)), (wrap64 (x5_1 + 1)), au76, au76, H', ⟨by have := HK1.out; omega⟩, ⟨by repeat (first | (with_reducible first | exact HB.out | apply below_alloc | apply pw_below_drewN | apply below_drew1) | exact HB.out)⟩⟩
     ·
      rw [if_neg c6] at H
      have c6b0 : ((rdOf ByteArray.empty l0 x5_1).toList == t316.toList) = false := beq_eq_false_iff_ne.mpr c6
      have c6b1 : ((rdOf ByteArray.empty l0 x5_1).toList != t316.toList) = true := bne_iff_ne.mpr c6
      obtain rfl := Option.some.inj H
      try go_wp2
      replace HB := Aside0.mk (below_drew1 HB.out)
      have p315 : 0 ≤ (x5_1 : Int) := of_decide_eq_true au75
      have q315 : x5_1 < (l0.length : Int) := of_decide_eq_true au75
      obtain ⟨ad315, e315, hx315_0⟩ := Kd.at_string HR0.out x5_1 p315 q315
      have hw315_0 := hx315_0
      cases e315
      replace hx315_0 := bcl HB.out hx315_0
      replace p315 := eq_true p315
      replace q315 := eq_true q315
      refine start_ (n := 7) (S := fun w' => w'.cell? (ad315.add (x5_1).toNat) = some (.string (rdOf ByteArray.empty l0 x5_1))) (ds := []) #[false, false, false, false, false, false, false] (by kernel_rfl) rfl rfl ((bcl HB.out hw315_0)) (fun hHeld => ?_)
      generalize wr.drew = w9 at HB hx315_0 hHeld ⊢
      refine pure_ (i := 0) (N := some 12) (v := ?_) (a' := ?_) #[true, false, false, false, false, false, false] rfl rfl (by kernel_rfl) (fun _ _ _ h => h) (Or.inl ⟨by rfl, ?_⟩) ?_ ?_
      rotate_left
      ·
       intro w'
       go_simp
       with_reducible rfl
      rotate_left
      ·
       simp only [Act.put, List.setIfInBounds_toArray, List.set_cons_zero, List.set_cons_succ, i64_w, i32_w]
       rfl
      refine pure_ (i := 1) (N := some 13) (v := ?_) (a' := ?_) #[true, true, false, false, false, false, false] rfl rfl (by kernel_rfl) (fun _ _ _ h => h) (Or.inl ⟨by rfl, ?_⟩) ?_ ?_
      rotate_left
      ·
       intro w'
       go_simp
       with_reducible rfl
      rotate_left
      ·
       simp only [Act.put, List.setIfInBounds_toArray, List.set_cons_zero, List.set_cons_succ, i64_w, i32_w]
       rfl
      refine pure_ (i := 2) (N := some 14) (v := ?_) (a' := ?_) #[true, true, true, false, false, false, false] rfl rfl (by kernel_rfl) (fun _ _ _ h => h) (Or.inl ⟨by rfl, ?_⟩) ?_ ?_
      rotate_left
      ·
       intro w'
       go_simp
       with_reducible rfl
      rotate_left
      ·
       simp only [Act.put, List.setIfInBounds_toArray, List.set_cons_zero, List.set_cons_succ, i64_w, i32_w]
       rfl
      refine pure_ (i := 4) (N := some 16) (v := ?_) (a' := ?_) #[true, true, true, false, true, false, false] rfl rfl (by kernel_rfl) (fun _ _ _ h => h) (Or.inl ⟨by rfl, ?_⟩) ?_ ?_
      rotate_left
      ·
       intro w'
       go_simp
       with_reducible rfl
      rotate_left
      ·
       simp only [Act.put, List.setIfInBounds_toArray, List.set_cons_zero, List.set_cons_succ, i64_w, i32_w]
       rfl
      refine take_ (i := 3) (N := some 15) (v := ?_) (a' := ?_) #[true, true, true, true, true, false, false] rfl rfl (by kernel_rfl) (fun _ _ _ h => h) (Or.inl ⟨by rfl, ?_⟩) hHeld ?_ ?_
      rotate_left
      ·
       intro w' s0
       go_simp
       with_reducible rfl
      rotate_left
      ·
       simp only [Act.put, List.setIfInBounds_toArray, List.set_cons_zero, List.set_cons_succ, i64_w, i32_w]
       rfl
      refine one_ (i := 5) (N := some 17) #[true, true, true, true, true, true, false] rfl rfl (by kernel_rfl) (by decide) (fun K hK => ?_)
      refine gs_ Tryd.func13 #[.int .i64 x1_1] ?_
      with_reducible refine (laws_markText.calls k1 x1_1 t316 _ A5.out).mono ?_
      rintro e w10 ⟨rfl, hb⟩
      refine ⟨_, rfl, ?_⟩
      replace HB := Aside0.mk (below_step au27 hb)
      (try clear hb)
      refine hK.out _ _ ((bcl HB.out hw315_0)) (fun hHeld => ?_)
      clear hK K
      refine no_ (some 17) ?_
      refine pure_ (i := 6) (N := some 18) (v := ?_) (a' := ?_) #[true, true, true, true, true, true, true] rfl rfl (by kernel_rfl) (fun _ _ _ h => h) (Or.inl ⟨by rfl, ?_⟩) ?_ ?_
      rotate_left
      ·
       intro w'
       go_simp
       with_reducible rfl
      rotate_left
      ·
       simp only [Act.put, List.setIfInBounds_toArray, List.set_cons_zero, List.set_cons_succ, i64_w, i32_w]
       rfl
      refine done_ (by kernel_rfl) ?_
      try go_wp2
      go_ret
      exact ax2
    ·
     rw [if_neg c4] at H
     exact absurd H (by simp)
   ·
    rw [if_neg c3] at H
    have c3b0 : decide (x5_1 < (l0.length : Int)) = false := decide_eq_false c3
    clear c3
    obtain rfl := Option.some.inj H
    go_wp2
    go_ret
    exact ax2

end Go.Proofs.YtefoiofododliaaDoor.G

namespace Go.Proofs.YtefoiofododliaaDoor.G
open Go.RowKit Go.Proofs.YtefoiofododliaaDoorW.PrintWords Go.Proofs.YtefoiofododliaaDoorW.PrintLast Go.Proofs.YtefoiofododliaaDoor.B
set_option linter.unusedVariables false
set_option linter.unusedSimpArgs false
theorem markText_loop (d : Nat) : ∀ (n : Int) (s : ByteArray), 0 ≤ n → n.toNat < 10 ^ d → s.size + d + 1 ≤ 9223372036854775807 → n ≤ 4611686018427387904 → ∃ r, Ev (fun k => laws_markText.l0 k n s) r := by
  have done : ∀ (n : Int) (s : ByteArray), ¬ n > 0 → s.size + 1 ≤ 9223372036854775807 → ∃ r, Ev (fun k => laws_markText.l0 k n s) r := fun n s hn h =>
    ⟨_, Ev.step (f := fun _ => some ((⟨#[109]⟩ : ByteArray) ++ s)) (fun k => by simp only [laws_markText.l0]; rw [if_neg hn, if_pos (by omega)]) (Ev.now _)⟩
  induction d with
  | zero => intro n s h0 h1 h2 h3; exact done n s (by simp at h1; omega) (by omega)
  | succ d ih =>
    intro n s h0 h1 h2 h3
    by_cases hn : n > 0
    · have hq : wrap64 (Int.tdiv n 10) = n / 10 := by rw [Int.tdiv_eq_ediv_of_nonneg h0, w64 (by omega) (by omega)]
      have hs : (strOfNums [(wrap64 (48 + (Int.tmod n 10))) % 256]).size = 1 := by simp [strOfNums, ByteArray.size]
      obtain ⟨r, hr⟩ := ih (wrap64 (Int.tdiv n 10)) (strOfNums [(wrap64 (48 + (Int.tmod n 10))) % 256] ++ s) (by rw [hq]; omega) (by rw [hq]; rw [Nat.pow_succ] at h1; omega) (by rw [size_append, hs]; omega) (by rw [hq]; omega)
      refine ⟨r, Ev.step (fun k => ?_) hr⟩
      simp only [laws_markText.l0]
      rw [if_pos hn]
      simp only [Option.bind_some]
      rw [if_pos (by rw [hs]; omega)]
    · exact done n s hn (by omega)
theorem markText_ex (n : Int) (h0 : 0 ≤ n) (h : n ≤ 4611686018427387904) : ∃ r, Ev (fun k => laws_markText.f k n) r := by
  unfold laws_markText.f
  by_cases hn : n ≤ 0
  · exact ⟨_, ev_pos hn (Ev.now _)⟩
  · have e1 : (10 : Nat) ^ 20 = 100000000000000000000 := by decide
    have e2 : (⟨#[]⟩ : ByteArray).size = 0 := rfl
    obtain ⟨r, hr⟩ := markText_loop 20 n ⟨#[]⟩ h0 (by rw [e1]; omega) (by rw [e2]; omega) h
    exact ⟨r, ev_neg hn hr⟩
noncomputable def mt (n : Int) : ByteArray := open Classical in if h : ∃ r, Ev (fun k => laws_markText.f k n) r then h.choose else ⟨#[]⟩
theorem mt_ev (n : Int) (h0 : 0 ≤ n) (h : n ≤ 4611686018427387904) : Ev (fun k => laws_markText.f k n) (mt n) := by
  unfold mt
  rw [dif_pos (markText_ex n h0 h)]
  exact (markText_ex n h0 h).choose_spec
noncomputable def mts (m : Int) (n : Nat) : List ByteArray := (List.range n).map fun i => mt (m + (i : Nat))
theorem mts_len (m : Int) (n : Nat) : (mts m n).length = n := by simp [mts]
theorem markS_loop (d : Nat) : ∀ (a : List ByteArray) (m : Int) (i : Nat), 0 ≤ m → m + a.length ≤ 4611686018427387904 → a.length - i = d → i ≤ a.length →
    Ev (fun k => laws_markStringS.l0 k (mts m i ++ a.drop i) (m + i) i) (m + a.length, mts m a.length) := by
  induction d with
  | zero =>
    intro a m i h0 h1 hd hi
    have e : i = a.length := by omega
    subst e
    refine Ev.step (f := fun _ => some (m + (a.length : Nat), mts m a.length)) (fun k => ?_) (Ev.now _)
    simp only [laws_markStringS.l0]
    rw [if_neg (by simp [mts_len]), List.drop_of_length_le (by omega), List.append_nil]
  | succ d ih =>
    intro a m i h0 h1 hd hi
    have hlt : i < a.length := by omega
    refine Ev.step (f := fun k => (laws_markText.f k (m + i)).bind fun t => laws_markStringS.l0 k ((mts m i ++ a.drop i).set i t) (m + ((i + 1 : Nat) : Int)) ((i + 1 : Nat) : Int)) (fun k => ?_) ?_
    · simp only [laws_markStringS.l0]
      rw [if_pos (by simp [mts_len]; omega)]
      congr 1
      funext t
      rw [if_pos (by omega), w64 (by omega) (by omega), w64 (by omega) (by omega)]
      congr 1
      omega
    · refine Ev.bind (mt_ev (m + i) (by omega) (by omega)) ?_
      have e : (mts m i ++ a.drop i).set i (mt (m + (i : Nat))) = mts m (i + 1) ++ a.drop (i + 1) := by
        rw [List.drop_eq_getElem_cons hlt]
        have hl : (mts m i).length = i := mts_len m i
        rw [List.set_append_right _ _ (by omega), hl, Nat.sub_self, List.set_cons_zero]
        unfold mts
        rw [List.range_succ, List.map_append]
        simp
      rw [e]
      exact ih a m (i + 1) h0 h1 (by omega) (by omega)
theorem markS_ev (a : List ByteArray) (m : Int) (h0 : 0 ≤ m) (h1 : m + a.length ≤ 4611686018427387904) : Ev (fun k => laws_markStringS.f k a m) (m + a.length, mts m a.length) := by
  have := markS_loop a.length a m 0 h0 h1 rfl (by omega)
  simpa [laws_markStringS.f, mts] using this
theorem heldS_loop (d : Nat) : ∀ (m : Int) (n i : Nat), 0 ≤ m → m + n ≤ 4611686018427387904 → n - i = d → i ≤ n →
    Ev (fun k => laws_heldStringS.l0 k (mts m n) (m + i) i) (m + n) := by
  induction d with
  | zero =>
    intro m n i h0 h1 hd hi
    have e : i = n := by omega
    subst e
    refine Ev.step (f := fun _ => some (m + (i : Nat))) (fun k => ?_) (Ev.now _)
    simp only [laws_heldStringS.l0]
    rw [if_neg (by simp [mts_len])]
  | succ d ih =>
    intro m n i h0 h1 hd hi
    have hlt : i < n := by omega
    refine Ev.step (f := fun k => (laws_markText.f k (m + i)).bind fun t => if (rdOf ByteArray.empty (mts m n) i).toList = t.toList then laws_heldStringS.l0 k (mts m n) (m + ((i + 1 : Nat) : Int)) ((i + 1 : Nat) : Int) else some (-1)) (fun k => ?_) ?_
    · simp only [laws_heldStringS.l0]
      rw [if_pos (by rw [mts_len]; omega), if_pos (by omega)]
      congr 1
      funext t
      rw [w64 (by omega) (by omega), w64 (by omega) (by omega)]
      have e1 : m + (i : Int) + 1 = m + ((i + 1 : Nat) : Int) := by omega
      rw [e1]
      rfl
    · refine Ev.bind (mt_ev (m + i) (by omega) (by omega)) (ev_pos ?_ (ih m n (i + 1) h0 h1 (by omega) (by omega)))
      simp [rdOf, mts, hlt]
theorem heldS_ev (m : Int) (n : Nat) (h0 : 0 ≤ m) (h1 : m + n ≤ 4611686018427387904) : Ev (fun k => laws_heldStringS.f k (mts m n) m) (m + n) := by
  have := heldS_loop n m n 0 h0 h1 rfl (by omega)
  simpa [laws_heldStringS.f] using this
end Go.Proofs.YtefoiofododliaaDoor.G

namespace Go.Proofs.YtefoiofododliaaDoor.G
open Go.RowKit Go.Proofs.YtefoiofododliaaDoorW.PrintWords Go.Proofs.YtefoiofododliaaDoorW.PrintLast Go.Proofs.YtefoiofododliaaDoorW.PrintMore Go.Proofs.YtefoiofododliaaDoor.B
set_option linter.unusedVariables false
set_option linter.unusedSimpArgs false
theorem mk_w1 (x : Int) (h0 : 0 ≤ x) (h1 : x ≤ 4611686018427387904) : wrap64 (x + 1) = x + 1 := w64 (by omega) (by omega)
theorem mk_i (i : Nat) (h : i ≤ 4611686018427387904) : wrap64 ((i : Int) + 1) = ((i + 1 : Nat) : Int) := by rw [w64 (by omega) (by omega)]; rfl
def elN (x : S31) : Int := (x.f0.length : Int) + 3
theorem elN_eq (x : S31) : elN x = (x.f0.length : Int) + 3 := rfl
def cntN : List S31 → Int
  | [] => 0
  | x :: l => elN x + cntN l
theorem cntN_len (l : List S31) : (l.length : Int) ≤ cntN l := by
  induction l with
  | nil => exact Int.le_refl _
  | cons x l ih => simp only [cntN, elN, List.length_cons]; omega
theorem cntN_nonneg (l : List S31) : 0 ≤ cntN l := Int.le_trans (Int.natCast_nonneg _) (cntN_len l)
theorem cntN_step (l : List S31) : ∀ i (h : i < l.length), cntN (l.take (i + 1)) = cntN (l.take i) + elN l[i] ∧ cntN (l.take (i + 1)) ≤ cntN l := by
  induction l with
  | nil => intro i h; simp at h
  | cons x l ih =>
    intro i h
    cases i with
    | zero => have := cntN_nonneg l; simp [cntN]; omega
    | succ i =>
      have := ih i (by simpa using h)
      simp only [List.take_succ_cons, cntN, List.getElem_cons_succ]
      omega
theorem cntN_at {l : List S31} {a n : Int} {i : Nat} (h : n = a + cntN (l.take i)) (hl : 0 ≤ a ∧ a + cntN l ≤ 4611686018427387904) (hi : i < l.length) : (0 ≤ n ∧ n + elN l[i] ≤ 4611686018427387904) ∧ n + elN l[i] = a + cntN (l.take (i + 1)) := by
  have h1 := cntN_step l i hi
  have h2 := cntN_nonneg (l.take i)
  omega
end Go.Proofs.YtefoiofododliaaDoor.G

namespace Go.Proofs.YtefoiofododliaaDoor.G
open Go.RowKit Go.Proofs.YtefoiofododliaaDoorW.PrintWords Go.Proofs.YtefoiofododliaaDoorW.PrintLast Go.Proofs.YtefoiofododliaaDoor.B
set_option linter.unusedVariables false
theorem blk_keptP {w w' : World} {P : Nat → Prop} {g : Nat} {o : Obj} (h : w.heap[g]? = some o) (hk : Kept w w' P) (hp : ¬ P g) : w'.heap[g]? = some o := by
  have hlt : g < w.heap.size := by
    rcases Nat.lt_or_ge g w.heap.size with q | q
    · exact q
    · rw [Array.getElem?_eq_none q] at h; cases h
  exact (hk.2 g hlt hp).trans h
theorem Sim.of_heap {P : Nat → Prop} {a b c : World} (h : Sim P a b) (e : c.heap = a.heap) : Sim P c b := by
  unfold Sim at h ⊢
  rw [e]
  exact h
end Go.Proofs.YtefoiofododliaaDoor.G

namespace Go.Proofs.YtefoiofododliaaDoor.G
open Go.RowKit Go.Proofs.YtefoiofododliaaDoorW.PrintWords Go.Proofs.YtefoiofododliaaDoorW.PrintLast Go.Proofs.YtefoiofododliaaDoorW.PrintMore Go.Proofs.YtefoiofododliaaDoor.B
set_option linter.unusedVariables false
set_option linter.unusedSimpArgs false
theorem S_put {α : Type} {d : Kd α} {e base : Nat} {w w2 : World} {P : Nat → Prop} {g cap : Nat} {l : List α} {f : Nat → Nat} (h : (Kd.tag f d).R e w base P (.slice (some ⟨g, 0, none⟩) l.length cap) l.zipIdx) {i : Nat} (hi : i < l.length) {cur cur2 : Array Value}
    (hw : w.heap[g]? = some (.cells cur e (0, 0))) (hw2 : w2.heap[g]? = some (.cells cur2 e (0, 0))) (hsz : cur2.size = cur.size) (hcell : ∀ j, ¬ (i * d.sz ≤ j ∧ j < i * d.sz + d.sz) → cur2[j]? = cur[j]?) (hk : ∀ k, P k → k ≠ g → f k ≠ i → k < w.heap.size → w2.heap[k]? = w.heap[k]?)
    {x' : α} (hx : d.M w2 base (fun k => (P k ∧ some k ≠ (Value.slice (some ⟨g, 0, none⟩) l.length cap).ownBlock) ∧ f k = i) x' ((cur2.toList.drop (i * d.sz)).take d.sz)) :
    (Kd.tag f d).R e w2 base P (.slice (some ⟨g, 0, none⟩) l.length cap) (l.set i x').zipIdx := by
  obtain ⟨h0, inner, ho, hr⟩ := h
  have hls : (l.set i x').zipIdx.length = l.length := by rw [List.length_zipIdx, List.length_set]
  rw [List.length_zipIdx] at ho
  rcases ho.2 with ⟨hv, _⟩ | ⟨g', cap', cur', hv, hg, hh, r1, r2, r3, r4⟩
  · cases hv
  · injection hv with hv1 hv2 hv3
    injection hv1 with hv1
    injection hv1 with hv1 _ _
    subst hv1 hv3
    rw [hw] at hh
    injection hh with hh
    injection hh with hh _
    subst hh
    have hsz' : (Kd.tag f d).sz = d.sz := rfl
    rw [hsz'] at r3 r4
    have hC : l.length * d.sz ≤ cur.size := by rw [r3]; exact Nat.mul_le_mul_right _ r1
    have hone : ∀ j, j < l.length → j * d.sz + d.sz ≤ l.length * d.sz := fun j hj => by rw [← Nat.succ_mul]; exact Nat.mul_le_mul_right _ hj
    have hchunk : ∀ (c : Array Value) (j : Nat), j < l.length → ((c.toList.take (l.length * d.sz)).drop (j * d.sz)).take d.sz = (c.toList.drop (j * d.sz)).take d.sz := fun c j hj => by
      rw [List.drop_take, List.take_take]
      have := hone j hj
      rw [Nat.min_eq_left (by omega)]
    refine ⟨h0, cur2.toList.take (l.length * d.sz), ⟨?_, .inr ⟨g, cap, cur2, by rw [hls], hg, hw2, by rw [hls]; exact r1, r2, by rw [hsz, r3]; rfl, by rw [hls]; rfl⟩⟩, ?_, fun j p hp => ?_⟩
    · rw [hls, List.length_take]
      show min _ cur2.size = _
      rw [hsz]
      exact Nat.min_eq_left hC
    · rw [hls, List.length_take]
      show min _ cur2.size = _
      rw [hsz]
      exact Nat.min_eq_left hC
    · have hj : j < l.length := by have := (List.getElem?_eq_some_iff.1 hp).1; omega
      rw [List.getElem?_zipIdx, Nat.zero_add] at hp
      rw [hsz', hchunk cur2 j hj]
      by_cases ej : j = i
      · subst ej
        rw [List.getElem?_set_self hi] at hp
        obtain rfl := Option.some.inj hp
        exact hx
      · rw [List.getElem?_set_ne (Ne.symm ej)] at hp
        rw [List.getElem?_eq_getElem hj] at hp
        obtain rfl := Option.some.inj hp
        have hM := hr.2 j (l[j], j) (by rw [List.getElem?_zipIdx, List.getElem?_eq_getElem hj, Nat.zero_add]; rfl)
        rw [hsz', ← r4, hchunk cur j hj] at hM
        have hsame : (cur2.toList.drop (j * d.sz)).take d.sz = (cur.toList.drop (j * d.sz)).take d.sz := by
          apply List.ext_getElem?
          intro q
          rw [List.getElem?_take, List.getElem?_take]
          by_cases cq : q < d.sz
          · rw [if_pos cq, if_pos cq, List.getElem?_drop, List.getElem?_drop, Array.getElem?_toList, Array.getElem?_toList]
            apply hcell
            rintro ⟨h1, h2⟩
            rcases Nat.lt_or_gt_of_ne ej with lt | gt
            · have := Nat.mul_le_mul_right d.sz (show j + 1 ≤ i from lt)
              rw [Nat.succ_mul] at this
              omega
            · have := Nat.mul_le_mul_right d.sz (show i + 1 ≤ j from gt)
              rw [Nat.succ_mul] at this
              omega
          · rw [if_neg cq, if_neg cq]
        rw [hsame]
        refine Kd.M_step (d := d) (ok := fun k => (P k ∧ some k ≠ (Value.slice (some ⟨g, 0, none⟩) l.length cap).ownBlock) ∧ f k = j) hM (fun k hk' hlt => ?_)
        have hne : k ≠ g := fun eg => hk'.1.2 (by rw [eg]; rfl)
        exact hk k hk'.1.1 hne (by rw [hk'.2]; exact ej) hlt
noncomputable def mkN : Int → List S31 → List S31
  | _, [] => []
  | k, x :: l => ⟨mts k x.f0.length, mt (k + (x.f0.length : Int)), mt (k + (x.f0.length : Int) + 1), mt (k + (x.f0.length : Int) + 2)⟩ :: mkN (k + elN x) l
theorem mkN_len (l : List S31) : ∀ k, (mkN k l).length = l.length := by
  induction l with
  | nil => intro k; rfl
  | cons x l ih => intro k; simp only [mkN, List.length_cons, ih]
theorem mkN_app (l : List S31) : ∀ (k : Int) (r : List S31), mkN k (l ++ r) = mkN k l ++ mkN (k + cntN l) r := by
  induction l with
  | nil => intro k r; simp [mkN, cntN]
  | cons x l ih =>
    intro k r
    simp only [mkN, cntN, List.cons_append, ih]
    rw [show k + elN x + cntN l = k + (elN x + cntN l) from Int.add_assoc _ _ _]
noncomputable def rowV (a : Int) (l : List S31) (i : Nat) : List S31 := mkN a (l.take i) ++ l.drop i
theorem rowV_len (a : Int) (l : List S31) (i : Nat) (hi : i ≤ l.length) : (rowV a l i).length = l.length := by
  unfold rowV
  rw [List.length_append, mkN_len, List.length_take, List.length_drop]
  omega
theorem rowV_at (a : Int) (l : List S31) (i : Nat) (hi : i < l.length) : (rowV a l i)[i]'(by rw [rowV_len a l i (by omega)]; exact hi) = l[i] := by
  unfold rowV
  rw [List.getElem_append_right (by rw [mkN_len, List.length_take]; omega)]
  simp only [mkN_len, List.length_take, List.getElem_drop]
  congr 1
  omega
theorem rowV_next (a : Int) (l : List S31) (i : Nat) (hi : i < l.length) : rowV a l (i + 1) = (rowV a l i).set i ⟨mts (a + cntN (l.take i)) l[i].f0.length, mt (a + cntN (l.take i) + (l[i].f0.length : Int)), mt (a + cntN (l.take i) + (l[i].f0.length : Int) + 1), mt (a + cntN (l.take i) + (l[i].f0.length : Int) + 2)⟩ := by
  have hl : (mkN a (l.take i)).length = i := by rw [mkN_len, List.length_take]; omega
  unfold rowV
  rw [List.take_succ_eq_append_getElem hi, mkN_app, List.set_append, if_neg (show ¬ i < (mkN a (l.take i)).length by omega), hl, Nat.sub_self, List.drop_eq_getElem_cons hi, List.set_cons_zero, List.append_assoc]
  rfl
theorem rowS_at {W : World} {P : Nat → Prop} {f : Nat → Nat} {base g cap n : Nat} {L : List S31} (HR : (Kd.tag f k31).R 31 W base P (.slice (some ⟨g, 0, none⟩) n cap) L.zipIdx) (i : Nat) (hi : i < L.length) :
    ∃ (A : Option Addr) (c : Nat) (cur : Array Value), W.heap[g]? = some (.cells cur 31 (0, 0)) ∧ n = L.length ∧ i * 4 + 4 ≤ cur.size ∧ cur[i * 4]? = some (.slice A L[i].f0.length c) ∧ cur[i * 4 + 1]? = some (.string L[i].f1) ∧ cur[i * 4 + 2]? = some (.string L[i].f2) ∧ cur[i * 4 + 3]? = some (.string L[i].f3) ∧
      Kd.R Kd.string 9 W base (fun k => (P k ∧ k ≠ g) ∧ f k = i) (.slice A L[i].f0.length c) L[i].f0 := by
  have hn : n = L.length := by have := (Kd.R_reads' HR).1; rw [List.length_zipIdx] at this; exact this
  subst hn
  obtain ⟨cur, hG⟩ := Kd.R_typed HR g rfl
  obtain ⟨c, hcl, hM, hc, hf⟩ := Kd.R_elem HR ((⟨[], ⟨#[]⟩, ⟨#[]⟩, ⟨#[]⟩⟩ : S31), 0) (i : Int) (by omega) (by omega)
  have he : L.zipIdx.getD (i : Int).toNat ((⟨[], ⟨#[]⟩, ⟨#[]⟩, ⟨#[]⟩⟩ : S31), 0) = (L[i], i) := by
    rw [show ((i : Int)).toNat = i by omega, List.getD_eq_getElem?_getD, List.getElem?_zipIdx, List.getElem?_eq_getElem hi, Nat.zero_add]; rfl
  rw [he] at hM
  obtain ⟨_, _, rfl, ⟨v, rfl, hRs⟩, _, _, rfl, rfl, _, _, rfl, rfl, rfl⟩ := hM
  obtain ⟨A, cc, rfl⟩ := Kd.R_slice hRs
  have e0 := hc 0 _ rfl
  have e1 := hc 1 _ rfl
  have e2 := hc 2 _ rfl
  have e3 := hc 3 _ rfl
  have q : ∀ j, W.cell? ⟨g, (i : Int).toNat * 4 + j, none⟩ = cur[i * 4 + j]? := fun j => by rw [cell_of_row W g _ cur _ _ hG]; rfl
  have e0' := (q 0).symm.trans e0
  have e1' := (q 1).symm.trans e1
  have e2' := (q 2).symm.trans e2
  have e3' := (q 3).symm.trans e3
  have hs := (Array.getElem?_eq_some_iff.1 e3').1
  exact ⟨A, cc, cur, hG, rfl, by omega, e0', e1', e2', e3', hRs⟩
theorem seg4 {cur : Array Value} {i : Nat} {v0 v1 v2 v3 : Value} (hs : i * 4 + 4 ≤ cur.size) (h0 : cur[i * 4]? = some v0) :
    ((((cur.setIfInBounds (i * 4 + 1) v1).setIfInBounds (i * 4 + 2) v2).setIfInBounds (i * 4 + 3) v3).toList.drop (i * 4)).take 4 = [v0, v1, v2, v3] := by
  apply List.ext_getElem?
  intro j
  rw [List.getElem?_take]
  by_cases c : j < 4
  · rw [if_pos c, List.getElem?_drop, Array.getElem?_toList]
    have : j = 0 ∨ j = 1 ∨ j = 2 ∨ j = 3 := by omega
    rcases this with rfl | rfl | rfl | rfl
    · rw [Array.getElem?_setIfInBounds_ne (by omega), Array.getElem?_setIfInBounds_ne (by omega), Array.getElem?_setIfInBounds_ne (by omega)]; exact h0
    · rw [Array.getElem?_setIfInBounds_ne (by omega), Array.getElem?_setIfInBounds_ne (by omega), Array.getElem?_setIfInBounds_self_of_lt (by omega)]; rfl
    · rw [Array.getElem?_setIfInBounds_ne (by omega), Array.getElem?_setIfInBounds_self_of_lt (by rw [Array.size_setIfInBounds]; omega)]; rfl
    · rw [Array.getElem?_setIfInBounds_self_of_lt (by rw [Array.size_setIfInBounds, Array.size_setIfInBounds]; omega)]; rfl
  · rw [if_neg c, List.getElem?_eq_none (by simp; omega)]
theorem seg4_out {cur : Array Value} {i : Nat} {v1 v2 v3 : Value} (j : Nat) (hj : ¬ (i * 4 ≤ j ∧ j < i * 4 + 4)) :
    (((cur.setIfInBounds (i * 4 + 1) v1).setIfInBounds (i * 4 + 2) v2).setIfInBounds (i * 4 + 3) v3)[j]? = cur[j]? := by
  rw [Array.getElem?_setIfInBounds_ne (by omega), Array.getElem?_setIfInBounds_ne (by omega), Array.getElem?_setIfInBounds_ne (by omega)]
theorem blk_ltH {w : World} {g : Nat} {o : Obj} (h : w.heap[g]? = some o) : g < w.heap.size := by
  rcases Nat.lt_or_ge g w.heap.size with q | q
  · exact q
  · rw [Array.getElem?_eq_none q] at h; cases h
theorem S_putn {α : Type} {d : Kd α} {e base : Nat} {w w2 : World} {P : Nat → Prop} {g cap n : Nat} {l : List α} {f : Nat → Nat} (h : (Kd.tag f d).R e w base P (.slice (some ⟨g, 0, none⟩) n cap) l.zipIdx) (hn : n = l.length) {i : Nat} (hi : i < l.length) {cur cur2 : Array Value}
    (hw : w.heap[g]? = some (.cells cur e (0, 0))) (hw2 : w2.heap[g]? = some (.cells cur2 e (0, 0))) (hsz : cur2.size = cur.size) (hcell : ∀ j, ¬ (i * d.sz ≤ j ∧ j < i * d.sz + d.sz) → cur2[j]? = cur[j]?) (hk : ∀ k, P k → k ≠ g → f k ≠ i → k < w.heap.size → w2.heap[k]? = w.heap[k]?)
    {x' : α} (hx : d.M w2 base (fun k => (P k ∧ some k ≠ (Value.slice (some ⟨g, 0, none⟩) n cap).ownBlock) ∧ f k = i) x' ((cur2.toList.drop (i * d.sz)).take d.sz)) :
    (Kd.tag f d).R e w2 base P (.slice (some ⟨g, 0, none⟩) n cap) (l.set i x').zipIdx := by
  subst hn
  exact S_put h hi hw hw2 hsz hcell hk hx
theorem heap_step {a b c : World} {k : Nat} (hb : Below b.heap.size b c) (h : b.heap[k]? = a.heap[k]?) (hlt : k < a.heap.size) : c.heap[k]? = a.heap[k]? :=
  (hb.block k (by rw [Array.getElem?_eq_getElem hlt] at h; exact blk_ltH h)).trans h
theorem kept_step {P Q : Nat → Prop} {a b c : World} (h : Kept a b P) (h' : Kept b c Q) (hq : ∀ k, Q k → P k) : Kept a c P :=
  ⟨Nat.le_trans h.1 h'.1, fun k hk hn => (h'.2 k (Nat.lt_of_lt_of_le hk h.1) (fun q => hn (hq k q))).trans (h.2 k hk hn)⟩
theorem kept_set {P : Nat → Prop} {a b : World} {g j : Nat} {u : Value} (h : Kept a b P) (hg : P g) : Kept a (b.setCell ⟨g, j, none⟩ u) P :=
  ⟨by simpa [World.setCell] using h.1, fun k hk hn => (Below.heap_setCell b ⟨g, j, none⟩ u k (fun e => hn (by rw [e]; exact hg))).trans (h.2 k hk hn)⟩
set_option maxHeartbeats 8000000 in
set_option maxRecDepth 100000 in
theorem markN_s (P : Nat → Prop) (u : Value) (l : List S31) (a1 : Int) (w0 w : World) (h0 : 0 ≤ a1) (h1 : a1 + cntN l ≤ 4611686018427387904) (hB : Below w0.heap.size w0 w) (ho : Kd.S k31 31 w w0.heap.size P u l) :
    Calls Tryd.prog 7 #[u, .int .i64 a1] w fun e w' => e = .returned (.int .i64 (a1 + cntN l)) ∧ Kd.S k31 31 w' w0.heap.size P u (mkN a1 l) ∧ Below w0.heap.size w0 w' ∧ Kept w w' P := by
  have HL := Aside0.mk (And.intro h0 h1)
  have HZ := Aside0.mk (show (l.length : Int) ≤ 4611686018427387904 from Int.le_trans (cntN_len l) (by omega))
  obtain ⟨f, hR⟩ := ho
  obtain ⟨A, c, e⟩ := Kd.R_slice hR
  rw [List.length_zipIdx] at e
  subst e
  have HRW := Aside0.mk (show (Kd.tag f k31).R 31 w w0.heap.size P (.slice A l.length c) (rowV a1 l 0).zipIdx from by rw [show rowV a1 l 0 = l from by simp [rowV, mkN]]; exact hR)
  have HB := Aside0.mk hB
  have HK := Aside0.mk (Kept.refl w P)
  obtain ⟨kk, hkk⟩ : ∃ kk, kk = l.length + 1 := ⟨_, rfl⟩
  have HKK := Aside0.mk hkk
  have hu1 := Tryd.underlying31
  clear hR hB hkk h0 h1
  go_enter Tryd.func7, Tryd.ntmps7
  go_wp2
  go_loopg [1, 5] kk (fun kq v1 v5 w' => ∃ (i : Nat) (n : Int), v1 = .int .i64 n ∧ v5 = .int .i64 (i : Int) ∧ Aside0 (n = a1 + cntN (l.take i)) ∧ Aside0 (i ≤ l.length ∧ l.length - i < kq) ∧ Aside0 (kq ≤ kk) ∧ Aside0 ((Kd.tag f k31).R 31 w' w0.heap.size P (.slice A l.length c) (rowV a1 l i).zipIdx) ∧ Aside0 (Below w0.heap.size w0 w') ∧ Aside0 (Kept w w' P))
  case atStart => exact ⟨0, a1, rfl, (by first | rfl | simp), ⟨by simp [cntN]⟩, ⟨Nat.zero_le _, by have := HKK.out; omega⟩, ⟨Nat.le_refl _⟩, ⟨(by (with_reducible repeat (first | apply Kd.R_alloc | apply Kd.R_drewN | apply Kd.R_drew)); exact HRW.out)⟩, ⟨by repeat (first | exact HB.out | apply pw_below_drewN | apply below_drew1 | apply below_alloc)⟩, ⟨by repeat (first | exact HK.out | apply Kept.alloc | apply Kept.drewN | apply Kept.drew)⟩⟩
  case round =>
    clear HRW HB HK
    obtain ⟨i, n, rfl, rfl, HN, HI, HK1, HRW, HB, HK⟩ := hrel
    cases gk with
    | zero => exact absurd HI.out.2 (Nat.not_lt_zero _)
    | succ k1 =>
      by_cases ci : i < l.length
      · have c0 : decide ((i : Int) < (l.length : Int)) = true := decide_eq_true (by omega)
        have c1 : decide ((0 : Int) ≤ (i : Int)) = true := decide_eq_true (by omega)
        have CI := Aside0.mk ci
        have HW2 := Aside0.mk (mk_i i (by have := HZ.out; omega))
        have HQ := Aside0.mk (show (0 ≤ n ∧ n + elN l[i] ≤ 4611686018427387904) ∧ n + elN l[i] = a1 + cntN (l.take (i + 1)) from cntN_at HN.out HL.out ci)
        obtain ⟨m, hm⟩ : ∃ m : Nat, m = l[i].f0.length := ⟨_, rfl⟩
        have HM := Aside0.mk hm
        have HQN := Aside0.mk (show 0 ≤ n ∧ n + ((m : Int) + 3) ≤ 4611686018427387904 from by have h_ := HQ.out.1; rw [elN_eq, ← hm] at h_; exact h_)
        clear hm
        have hlz : (rowV a1 l i).zipIdx.length = l.length := by rw [List.length_zipIdx, rowV_len a1 l i (by omega)]
        obtain ⟨g, cap, eo, gb, gl, cl, HG0⟩ := Kd.R_form HRW.out (by rw [hlz]; omega)
        rw [hlz] at eo
        cases eo
        have hri : i < (rowV a1 l i).length := by rw [rowV_len a1 l i (by omega)]; exact ci
        obtain ⟨Ag, cg, cur, hG, hn, hs, hc0, hc1, hc2, hc3, hRi⟩ := rowS_at HRW.out i hri
        rw [rowV_at a1 l i ci] at hc0 hc1 hc2 hc3 hRi
        rw [← HM.out] at hc0 hRi
        have GB := Aside0.mk gb
        have PG := Aside0.mk (HRW.out.1 g rfl)
        have NI := Aside0.mk (show ∀ k, some k = (Value.slice Ag m cg).ownBlock → (P k ∧ k ≠ g) ∧ f k = i from fun k e => hRi.1 k e.symm)
        have HRI := Aside0.mk (Kd.R_tight rfl hRi)
        have HC := Aside0.mk (And.intro hs (And.intro hc0 (And.intro hc1 (And.intro hc2 hc3))))
        have HGS := Aside0.mk hG
        have HG := Aside0.mk hG
        have hx0 := (blk_cell hG (i * 4)).trans hc0
        have hf0 := blk_frozen hG (i * 4)
        clear hlz gb gl HG0 hG hn hs hc0 hc1 hc2 hc3 hRi hri
        go_wp2_with (first
          | ((with_reducible refine gate_callee (f := 12) rfl ?_); refine goesL_ (some 18) rfl rfl Tryd.func12 (by kernel_rfl) rfl #[.slice Ag m cg, .int .i64 n] rfl (by (try simp only [List.map_toArray, List.map_cons, List.map_nil]); first | done | rfl) ?_; obtain ⟨ks, hks⟩ := markS_ev l[i].f0 n HQN.out.1 (by have z1_ := HQN.out; rw [← HM.out]; omega); (refine (laws_markStringS.calls ks (fun k_ => some k_ = (Value.slice Ag m cg).ownBlock) (.slice Ag m cg) l[i].f0 n _ _ w0 _ (show Below w0.heap.size w0 _ from by repeat (first | exact HB.out | apply pw_below_drewN | apply below_drew1 | apply below_alloc)) (by (with_reducible repeat (first | apply Kd.R_alloc | apply Kd.R_drewN | apply Kd.R_drew)); exact HRI.out) (hks ks (Nat.le_refl _))).mono ?_); rintro e w101 ⟨rfl, hy, hb, hkp⟩; rw [← HM.out]; refine ⟨_, rfl, ?_⟩; clear hks hx0 hf0; rw [← HM.out] at hy; have HG2 := Aside0.mk (blk_keptP (g := g) (by (with_reducible repeat (first | refine blk_drewN ?_ _ | refine blk_drew ?_ | refine blk_alloc ?_ _)); exact HG.out) hkp (fun e_ => (NI.out g e_).1.2 rfl)); have HK2 := Aside0.mk (kept_step (show Kept w _ P from by repeat (first | exact HK.out | apply Kept.alloc | apply Kept.drewN | apply Kept.drew)) hkp (fun k e_ => (NI.out k e_).1.1)); have HQ1 := Aside0.mk (fun (k : Nat) (_ : P k) (_ : k ≠ g) (hf_ : f k ≠ i) (hlt_ : k < _) => hkp.2 k hlt_ (fun e_ => hf_ (NI.out k e_).2)); have HRI2 := Aside0.mk (Kd.R_tight rfl hy); have HB2 := Aside0.mk hb; clear HG HK HRI HB hy hb hkp; have HG := HG2; have HK := HK2; have HRI := HRI2; have HB := HB2; clear HG2 HK2 HRI2 HB2; have HK_0 := Aside0.mk (show n + (m : Int) = n + (m : Int) from rfl))
          | ((with_reducible refine gate_callee (f := 13) rfl ?_); refine goesL_ (some 22) rfl rfl Tryd.func13 (by kernel_rfl) rfl #[.int .i64 (n + (m : Int))] rfl (by (try simp only [List.map_toArray, List.map_cons, List.map_nil]); first | done | rfl) ?_; obtain ⟨kt, hkt⟩ := (mt_ev (n + (m : Int)) (by rw [HK_0.out]; have z1_ := HQN.out; omega) (by rw [HK_0.out]; have z1_ := HQN.out; omega)); (refine (laws_markText.calls kt (n + (m : Int)) (mt (n + (m : Int))) _ (hkt kt (Nat.le_refl _))).mono ?_); rintro e w102 ⟨rfl, hb⟩; refine ⟨_, rfl, ?_⟩; clear hkt; have HG2 := Aside0.mk (blk_below (g := g) (by (with_reducible repeat (first | refine blk_drewN ?_ _ | refine blk_drew ?_ | refine blk_alloc ?_ _)); exact HG.out) hb); have HK2 := Aside0.mk (Kept.below (S := fun k_ => P k_) (show Kept w _ P from by repeat (first | exact HK.out | apply Kept.alloc | apply Kept.drewN | apply Kept.drew)) hb); have HRI2 := Aside0.mk (Kd.R_below (by (with_reducible repeat (first | apply Kd.R_alloc | apply Kd.R_drewN | apply Kd.R_drew)); exact HRI.out) hb); have HQ2 := Aside0.mk (fun (k : Nat) (hp_ : P k) (hg_ : k ≠ g) (hf_ : f k ≠ i) hlt_ => heap_step hb (HQ1.out k hp_ hg_ hf_ hlt_) hlt_); have HB2 := Aside0.mk (below_step (show Below w0.heap.size w0 _ from by repeat (first | exact HB.out | apply pw_below_drewN | apply below_drew1 | apply below_alloc)) hb); clear HG HK HRI HB HQ1 hb; have HG := HG2; have HK := HK2; have HRI := HRI2; have HB := HB2; clear HG2 HK2 HRI2 HB2; have hx1 := (blk_cell HG.out (i * 4 + 1)).trans HC.out.2.2.1; have hf1 := blk_frozen HG.out (i * 4 + 1))
          | ((with_reducible refine gate_store (t := 9) (p := 24) rfl ?_); refine store_event (t := 9) (p := 24) (v := ?vo_0) (w1 := (w102.setCell ⟨g, i * 4 + 1, none⟩ (.string (mt (n + (m : Int)))))) ?hg ?ho ?hn ?hr ?_; (case ho => rfl); (case hg => rfl); (case hn => rfl); (case hr => first | (go_simp; done) | (go_simp; rfl)); intro w200 hw; clear hx1 hf1; have HG2 := Aside0.mk ((congrArg (fun z_ : World => z_.heap[g]?) hw).trans (heap_set_row HG.out _)); have HK2 := Aside0.mk (show Kept w w200 P from by rw [hw]; exact kept_set HK.out PG.out); have HRI2 := Aside0.mk (show Kd.R Kd.string 9 w200 w0.heap.size (fun k => some k = (Value.slice Ag m cg).ownBlock) (.slice Ag m cg) (mts n m) from by rw [hw]; exact Kd.R_far HRI.out (fun k e_ => (NI.out k e_).1.2) _); have HQ3 := Aside0.mk (fun (k : Nat) (hp_ : P k) (hg_ : k ≠ g) (hf_ : f k ≠ i) hlt_ => ((congrArg (fun z_ : World => z_.heap[k]?) hw).trans (Below.heap_setCell _ _ _ _ hg_)).trans (HQ2.out k hp_ hg_ hf_ hlt_)); have HB2 := Aside0.mk (show Below w0.heap.size w0 w200 from by rw [hw]; exact HB.out.setCell GB.out _); clear HG HK HRI HB HQ2 hw; have HG := HG2; have HK := HK2; have HRI := HRI2; have HB := HB2; clear HG2 HK2 HRI2 HB2; have HK_1 := Aside0.mk (show (wrap64 ((n + (m : Int)) + 1)) = ((n + (m : Int)) + 1) from by rw [HK_0.out]; exact mk_w1 _ (by have z1_ := HQN.out; omega) (by have z1_ := HQN.out; omega)))
          | ((with_reducible refine gate_callee (f := 13) rfl ?_); refine goesL_ (some 30) rfl rfl Tryd.func13 (by kernel_rfl) rfl #[.int .i64 (wrap64 ((n + (m : Int)) + 1))] rfl (by (try simp only [List.map_toArray, List.map_cons, List.map_nil]); first | done | rfl) ?_; obtain ⟨kt, hkt⟩ := (mt_ev (wrap64 ((n + (m : Int)) + 1)) (by rw [HK_1.out]; have z1_ := HQN.out; omega) (by rw [HK_1.out]; have z1_ := HQN.out; omega)); (refine (laws_markText.calls kt (wrap64 ((n + (m : Int)) + 1)) (mt (wrap64 ((n + (m : Int)) + 1))) _ (hkt kt (Nat.le_refl _))).mono ?_); rintro e w103 ⟨rfl, hb⟩; refine ⟨_, rfl, ?_⟩; clear hkt; have HG2 := Aside0.mk (blk_below (g := g) (by (with_reducible repeat (first | refine blk_drewN ?_ _ | refine blk_drew ?_ | refine blk_alloc ?_ _)); exact HG.out) hb); have HK2 := Aside0.mk (Kept.below (S := fun k_ => P k_) (show Kept w _ P from by repeat (first | exact HK.out | apply Kept.alloc | apply Kept.drewN | apply Kept.drew)) hb); have HRI2 := Aside0.mk (Kd.R_below (by (with_reducible repeat (first | apply Kd.R_alloc | apply Kd.R_drewN | apply Kd.R_drew)); exact HRI.out) hb); have HQ4 := Aside0.mk (fun (k : Nat) (hp_ : P k) (hg_ : k ≠ g) (hf_ : f k ≠ i) hlt_ => heap_step hb (HQ3.out k hp_ hg_ hf_ hlt_) hlt_); have HB2 := Aside0.mk (below_step (show Below w0.heap.size w0 _ from by repeat (first | exact HB.out | apply pw_below_drewN | apply below_drew1 | apply below_alloc)) hb); clear HG HK HRI HB HQ3 hb; have HG := HG2; have HK := HK2; have HRI := HRI2; have HB := HB2; clear HG2 HK2 HRI2 HB2; have hx2 := (blk_cell HG.out (i * 4 + 2)).trans ((Array.getElem?_setIfInBounds_ne (by omega)).trans HC.out.2.2.2.1); have hf2 := blk_frozen HG.out (i * 4 + 2))
          | ((with_reducible refine gate_store (t := 9) (p := 32) rfl ?_); refine store_event (t := 9) (p := 32) (v := ?vo_1) (w1 := (w103.setCell ⟨g, i * 4 + 2, none⟩ (.string (mt (wrap64 ((n + (m : Int)) + 1)))))) ?hg ?ho ?hn ?hr ?_; (case ho => rfl); (case hg => rfl); (case hn => rfl); (case hr => first | (go_simp; done) | (go_simp; rfl)); intro w201 hw; clear hx2 hf2; have HG2 := Aside0.mk ((congrArg (fun z_ : World => z_.heap[g]?) hw).trans (heap_set_row HG.out _)); have HK2 := Aside0.mk (show Kept w w201 P from by rw [hw]; exact kept_set HK.out PG.out); have HRI2 := Aside0.mk (show Kd.R Kd.string 9 w201 w0.heap.size (fun k => some k = (Value.slice Ag m cg).ownBlock) (.slice Ag m cg) (mts n m) from by rw [hw]; exact Kd.R_far HRI.out (fun k e_ => (NI.out k e_).1.2) _); have HQ5 := Aside0.mk (fun (k : Nat) (hp_ : P k) (hg_ : k ≠ g) (hf_ : f k ≠ i) hlt_ => ((congrArg (fun z_ : World => z_.heap[k]?) hw).trans (Below.heap_setCell _ _ _ _ hg_)).trans (HQ4.out k hp_ hg_ hf_ hlt_)); have HB2 := Aside0.mk (show Below w0.heap.size w0 w201 from by rw [hw]; exact HB.out.setCell GB.out _); clear HG HK HRI HB HQ4 hw; have HG := HG2; have HK := HK2; have HRI := HRI2; have HB := HB2; clear HG2 HK2 HRI2 HB2; have HK_2 := Aside0.mk (show (wrap64 ((wrap64 ((n + (m : Int)) + 1)) + 1)) = (((n + (m : Int)) + 1) + 1) from by rw [HK_1.out]; exact mk_w1 _ (by have z1_ := HQN.out; omega) (by have z1_ := HQN.out; omega)))
          | ((with_reducible refine gate_callee (f := 13) rfl ?_); refine goesL_ (some 38) rfl rfl Tryd.func13 (by kernel_rfl) rfl #[.int .i64 (wrap64 ((wrap64 ((n + (m : Int)) + 1)) + 1))] rfl (by (try simp only [List.map_toArray, List.map_cons, List.map_nil]); first | done | rfl) ?_; obtain ⟨kt, hkt⟩ := (mt_ev (wrap64 ((wrap64 ((n + (m : Int)) + 1)) + 1)) (by rw [HK_2.out]; have z1_ := HQN.out; omega) (by rw [HK_2.out]; have z1_ := HQN.out; omega)); (refine (laws_markText.calls kt (wrap64 ((wrap64 ((n + (m : Int)) + 1)) + 1)) (mt (wrap64 ((wrap64 ((n + (m : Int)) + 1)) + 1))) _ (hkt kt (Nat.le_refl _))).mono ?_); rintro e w104 ⟨rfl, hb⟩; refine ⟨_, rfl, ?_⟩; clear hkt; have HG2 := Aside0.mk (blk_below (g := g) (by (with_reducible repeat (first | refine blk_drewN ?_ _ | refine blk_drew ?_ | refine blk_alloc ?_ _)); exact HG.out) hb); have HK2 := Aside0.mk (Kept.below (S := fun k_ => P k_) (show Kept w _ P from by repeat (first | exact HK.out | apply Kept.alloc | apply Kept.drewN | apply Kept.drew)) hb); have HRI2 := Aside0.mk (Kd.R_below (by (with_reducible repeat (first | apply Kd.R_alloc | apply Kd.R_drewN | apply Kd.R_drew)); exact HRI.out) hb); have HQ6 := Aside0.mk (fun (k : Nat) (hp_ : P k) (hg_ : k ≠ g) (hf_ : f k ≠ i) hlt_ => heap_step hb (HQ5.out k hp_ hg_ hf_ hlt_) hlt_); have HB2 := Aside0.mk (below_step (show Below w0.heap.size w0 _ from by repeat (first | exact HB.out | apply pw_below_drewN | apply below_drew1 | apply below_alloc)) hb); clear HG HK HRI HB HQ5 hb; have HG := HG2; have HK := HK2; have HRI := HRI2; have HB := HB2; clear HG2 HK2 HRI2 HB2; have hx3 := (blk_cell HG.out (i * 4 + 3)).trans ((Array.getElem?_setIfInBounds_ne (by omega)).trans ((Array.getElem?_setIfInBounds_ne (by omega)).trans HC.out.2.2.2.2)); have hf3 := blk_frozen HG.out (i * 4 + 3))
          | ((with_reducible refine gate_store (t := 9) (p := 40) rfl ?_); refine store_event (t := 9) (p := 40) (v := ?vo_2) (w1 := (w104.setCell ⟨g, i * 4 + 3, none⟩ (.string (mt (wrap64 ((wrap64 ((n + (m : Int)) + 1)) + 1)))))) ?hg ?ho ?hn ?hr ?_; (case ho => rfl); (case hg => rfl); (case hn => rfl); (case hr => first | (go_simp; done) | (go_simp; rfl)); intro w202 hw; clear hx3 hf3; have HG2 := Aside0.mk ((congrArg (fun z_ : World => z_.heap[g]?) hw).trans (heap_set_row HG.out _)); have HK2 := Aside0.mk (show Kept w w202 P from by rw [hw]; exact kept_set HK.out PG.out); have HRI2 := Aside0.mk (show Kd.R Kd.string 9 w202 w0.heap.size (fun k => some k = (Value.slice Ag m cg).ownBlock) (.slice Ag m cg) (mts n m) from by rw [hw]; exact Kd.R_far HRI.out (fun k e_ => (NI.out k e_).1.2) _); have HQ7 := Aside0.mk (fun (k : Nat) (hp_ : P k) (hg_ : k ≠ g) (hf_ : f k ≠ i) hlt_ => ((congrArg (fun z_ : World => z_.heap[k]?) hw).trans (Below.heap_setCell _ _ _ _ hg_)).trans (HQ6.out k hp_ hg_ hf_ hlt_)); have HB2 := Aside0.mk (show Below w0.heap.size w0 w202 from by rw [hw]; exact HB.out.setCell GB.out _); clear HG HK HRI HB HQ6 hw; have HG := HG2; have HK := HK2; have HRI := HRI2; have HB := HB2; clear HG2 HK2 HRI2 HB2; have HK_3 := Aside0.mk (show (wrap64 ((wrap64 ((wrap64 ((n + (m : Int)) + 1)) + 1)) + 1)) = ((((n + (m : Int)) + 1) + 1) + 1) from by rw [HK_2.out]; exact mk_w1 _ (by have z1_ := HQN.out; omega) (by have z1_ := HQN.out; omega))))
        go_roundg k1
        case rel => exact ⟨i + 1, (wrap64 ((wrap64 ((wrap64 ((n + (m : Int)) + 1)) + 1)) + 1)), (by (try simp only [i64_w])), (by (try simp only [i64_w]); rw [HW2.out]), ⟨by rw [HK_3.out]; have h_ := HQ.out.2; rw [elN_eq, ← HM.out] at h_; rw [← h_]; omega⟩, ⟨by have := HI.out; have := CI.out; omega⟩, ⟨by have := HK1.out; omega⟩, ⟨by (with_reducible repeat (first | apply Kd.R_alloc | apply Kd.R_drewN | apply Kd.R_drew)); rw [rowV_next a1 l i CI.out]; refine S_putn HRW.out (rowV_len a1 l i (Nat.le_of_lt CI.out)).symm (by rw [rowV_len a1 l i (Nat.le_of_lt CI.out)]; exact CI.out) HGS.out HG.out (by simp) (fun j hj => seg4_out j hj) HQ7.out ?_; show Kd.M k31 _ _ _ _ (List.take 4 (List.drop (i * 4) _)); rw [seg4 HC.out.1 HC.out.2.1]; rw [← HN.out, ← HM.out, HK_2.out, HK_1.out, show n + (m : Int) + 2 = n + (m : Int) + 1 + 1 from by omega]; exact ⟨_, _, rfl, ⟨_, rfl, Kd.R_mono HRI.out (fun k_ e_ => ⟨⟨(NI.out k_ e_).1.1, fun q_ => (NI.out k_ e_).1.2 (Option.some.inj q_)⟩, (NI.out k_ e_).2⟩)⟩, _, _, rfl, rfl, _, _, rfl, rfl, rfl⟩⟩, ⟨by repeat (first | exact HB.out | apply pw_below_drewN | apply below_drew1 | apply below_alloc)⟩, ⟨by repeat (first | exact HK.out | apply Kept.alloc | apply Kept.drewN | apply Kept.drew)⟩⟩
        case measure => have := HK1.out; omega
      · have c0 : decide ((i : Int) < (l.length : Int)) = false := decide_eq_false (by omega)
        have HE := Aside0.mk (show n = a1 + cntN l from by rw [HN.out, List.take_of_length_le (by omega)])
        have HV := Aside0.mk (show rowV a1 l i = mkN a1 l from by unfold rowV; rw [List.take_of_length_le (by omega), List.drop_of_length_le (by omega), List.append_nil])
        go_wp2
        go_ret
        exact ⟨by first | (rw [HE.out]; rfl) | (rw [← HE.out]; rfl) | rfl, ⟨f, by rw [← HV.out]; exact (by (with_reducible repeat (first | apply Kd.R_alloc | apply Kd.R_drewN | apply Kd.R_drew)); exact HRW.out)⟩, by repeat (first | exact HB.out | apply pw_below_drewN | apply below_drew1 | apply below_alloc), by repeat (first | exact HK.out | apply Kept.alloc | apply Kept.drewN | apply Kept.drew)⟩
end Go.Proofs.YtefoiofododliaaDoor.G

namespace Go.Proofs.YtefoiofododliaaDoor.G
open Go.RowKit Go.Proofs.YtefoiofododliaaDoorW.PrintWords Go.Proofs.YtefoiofododliaaDoorW.PrintLast Go.Proofs.YtefoiofododliaaDoorW.PrintMore
open Go.Proofs.YtefoiofododliaaDoor.Gl Go.Proofs.YtefoiofododliaaDoor.Ext
attribute [local go_sem] max2_int min2_int max_two min_two max_three min_three max_four min_four   -- for this text's walks alone
set_option linter.unusedVariables false
set_option linter.unusedSimpArgs false

/-! ### laws_markNameS: function 7 -/
def laws_markNameS.f (l0 : List S31) (a1 : Int) : Option Int := if 0 ≤ a1 ∧ a1 + cntN l0 ≤ 4611686018427387904 then some (a1 + cntN l0) else none
theorem laws_markNameS.calls {P : Nat → Prop} {A : Option Addr} {c : Nat} {l0 : List S31} {w0 w1 : World} (hq : Kd.S k31 31 w1 w0.heap.size P (.slice A l0.length c) l0) (a1 r : Int) (w : World) (ho : Kd.S k31 31 w w0.heap.size P (.slice A l0.length c) l0) (hB : Below w0.heap.size w0 w) (h : laws_markNameS.f l0 a1 = some r) :
  Calls Tryd.prog 7 #[.slice A l0.length c, .int .i64 a1] w fun e w' => e = .returned (.int .i64 r) ∧ Below w0.heap.size w0 w' ∧ Kept w w' P ∧ Kd.S k31 31 w' w0.heap.size P (.slice A l0.length c) (mkN a1 l0) := by
 unfold laws_markNameS.f at h
 by_cases hl : 0 ≤ a1 ∧ a1 + cntN l0 ≤ 4611686018427387904
 ·
  rw [if_pos hl] at h
  obtain rfl := Option.some.inj h
  refine (markN_s P _ l0 a1 w0 w hl.1 hl.2 hB ho).mono ?_
  rintro e w' ⟨h1, h2, h3, h4⟩
  exact ⟨h1, h3, h4, h2⟩
 ·
  rw [if_neg hl] at h; cases h


/-! ### laws_heldNameS: function 8 -/
def laws_heldNameS.l0 : Nat → List (S31) → Int → Int → Option (Int)
 | 0, _, _, _ => none
 | k + 1, x0, x1, x5 => if x5 < (x0.length : Int) then (if 0 ≤ x5 then ((laws_heldStringS.f k ((rd_T31 x0 x5).f0) x1).bind fun t318 => (if t318 < 0 then (some (-1)) else ((laws_markText.f k t318).bind fun t320 => (if ((rd_T31 x0 x5).f1).toList = t320.toList then ((laws_markText.f k (wrap64 (t318 + 1))).bind fun t322 => (if ((rd_T31 x0 x5).f2).toList = t322.toList then ((laws_markText.f k (wrap64 ((wrap64 (t318 + 1)) + 1))).bind fun t324 => (if ((rd_T31 x0 x5).f3).toList = t324.toList then (laws_heldNameS.l0 k x0 (wrap64 ((wrap64 ((wrap64 (t318 + 1)) + 1)) + 1)) (wrap64 (x5 + 1))) else (some (-1)))) else (some (-1)))) else (some (-1)))))) else (none)) else (some x1)
def laws_heldNameS.f (k : Nat) (l0 : List (S31)) (a1 : Int) : Option (Int) := laws_heldNameS.l0 k l0 a1 0
theorem laws_heldNameS.mono_l : ∀ k, (∀ y0 y1 y2, LeO (laws_heldNameS.l0 k y0 y1 y2) (laws_heldNameS.l0 (k + 1) y0 y1 y2))
 | 0 => fun _ _ _ r h => by simp [laws_heldNameS.l0] at h
 | k + 1 => by
  have ih0 := laws_heldNameS.mono_l k
  ·
   intro y0 y1 y2
   unfold laws_heldNameS.l0
   repeat' first
   | (with_reducible exact ih0 _ _ _)
   | (with_reducible exact laws_heldStringS.mono _ _ _)
   | (with_reducible exact laws_markText.mono _ _)
   | (with_reducible exact LeO.refl _)
   | (with_reducible exact LeO.none _)
   | (with_reducible refine LeO.ite ?_ ?_)
   | (with_reducible refine LeO.bind ?_ (fun _ => ?_))
   | exact ih0 _ _ _
   | exact laws_heldStringS.mono _ _ _
   | exact laws_markText.mono _ _
   | exact LeO.none _
   | refine LeO.ite ?_ ?_
   | refine LeO.bind ?_ (fun _ => ?_)
theorem laws_heldNameS.mono : ∀ a0 a1 k, LeO (laws_heldNameS.f k a0 a1) (laws_heldNameS.f (k + 1) a0 a1) := by
 intro a0 a1 k
 have ih0 := laws_heldNameS.mono_l k
 unfold laws_heldNameS.f
 repeat' first
   | (with_reducible exact ih0 _ _ _)
   | (with_reducible exact laws_heldStringS.mono _ _ _)
   | (with_reducible exact laws_markText.mono _ _)
   | (with_reducible exact LeO.refl _)
   | (with_reducible exact LeO.none _)
   | (with_reducible refine LeO.ite ?_ ?_)
   | (with_reducible refine LeO.bind ?_ (fun _ => ?_))
   | exact ih0 _ _ _
   | exact laws_heldStringS.mono _ _ _
   | exact laws_markText.mono _ _
   | exact LeO.none _
   | refine LeO.ite ?_ ?_
   | refine LeO.bind ?_ (fun _ => ?_)
def laws_heldNameS.T7 : Bool × List (List Nat × List Nat) := (true, [([], []), ([], []), ([0, 1], [0, 1]), ([2], [2]), ([3], [3]), ([], []), ([5], [5]), ([4, 6], [4, 6])])
def laws_heldNameS.B7 : List Nat := [0, 0, 3, 7, 15, 0, 32, 127]
theorem laws_heldNameS.tab7 : rtab .any (opsOf Tryd.f8 7) = laws_heldNameS.T7 := by kernel_rfl
theorem laws_heldNameS.bits7 : waitsOk laws_heldNameS.T7.2 laws_heldNameS.B7 = true := by kernel_rfl
def laws_heldNameS.T10 : Bool × List (List Nat × List Nat) := (true, [([], []), ([], []), ([0, 1], [0, 1]), ([2], [2]), ([3], [3]), ([], []), ([5], [5]), ([4, 6], [4, 6])])
def laws_heldNameS.B10 : List Nat := [0, 0, 3, 7, 15, 0, 32, 127]
theorem laws_heldNameS.tab10 : rtab .any (opsOf Tryd.f8 10) = laws_heldNameS.T10 := by kernel_rfl
theorem laws_heldNameS.bits10 : waitsOk laws_heldNameS.T10.2 laws_heldNameS.B10 = true := by kernel_rfl
def laws_heldNameS.T13 : Bool × List (List Nat × List Nat) := (true, [([], []), ([], []), ([0, 1], [0, 1]), ([2], [2]), ([3], [3]), ([], []), ([5], [5]), ([4, 6], [4, 6])])
def laws_heldNameS.B13 : List Nat := [0, 0, 3, 7, 15, 0, 32, 127]
theorem laws_heldNameS.tab13 : rtab .any (opsOf Tryd.f8 13) = laws_heldNameS.T13 := by kernel_rfl
theorem laws_heldNameS.bits13 : waitsOk laws_heldNameS.T13.2 laws_heldNameS.B13 = true := by kernel_rfl
set_option maxRecDepth 100000 in
theorem laws_heldNameS.L0 {P : Prop} (h : P := by
  try go_wp2_with (first | ((with_reducible refine gate_callee (f := 14) rfl ?_); refine goesL_ (some 18) rfl rfl Tryd.func14 (by kernel_rfl) rfl #[.slice A317_0 ((rd_T31 l0 x5_1).f0).length c317_0, .int .i64 x1_1] rfl au24 ?_; (with_reducible refine (laws_heldStringS.calls k1 _ _ ((rd_T31 l0 x5_1).f0) x1_1 t318 _ ?side1 ?side2 A5.out).mono ?_); (case side1 => repeat (first | exact (Kd.C_below HR317_0.out HB.out) | (with_reducible refine Kd.C_alloc ?_ _) | (with_reducible refine Kd.C_drewN ?_ _) | (with_reducible refine Kd.C_drew ?_))); (case side2 => exact HC317_0.out); rintro e w14 ⟨rfl, hb⟩; refine ⟨_, rfl, ?_⟩; replace HB := Aside0.mk (below_step au27 hb); (try clear hb)))
  replace HB := Aside0.mk (below_drew1 HB.out)
  have p319 : 0 ≤ (x5_1 : Int) := of_decide_eq_true au75
  have q319 : x5_1 < (l0.length : Int) := of_decide_eq_true au75
  obtain ⟨ad319, A319_0, c319_0, e319, hx319_0, hx319_1, hx319_2, hx319_3, hl319_0, hi319_0⟩ := at_T31 HR0.out x5_1 p319 q319
  have hw319_3 := hx319_3
  have hw319_2 := hx319_2
  have hw319_1 := hx319_1
  have hw319_0 := hx319_0
  obtain rfl : ad317 = ad319 := (by injection e319)
  replace hx319_0 := bcl HB.out hx319_0
  replace hx319_1 := bcl HB.out hx319_1
  replace hx319_2 := bcl HB.out hx319_2
  replace hx319_3 := bcl HB.out hx319_3
  have HR319_0 := Aside0.mk hi319_0
  have HC319_0 := Aside0.mk hl319_0
  clear hi319_0 hl319_0
  replace p319 := eq_true p319
  replace q319 := eq_true q319
  refine start_ (n := 8) (S := fun w' => w'.cell? (ad317.add ((x5_1).toNat * 4)) = some (.slice A319_0 ((rd_T31 l0 x5_1).f0).length c319_0) ∧ w'.cell? ⟨(ad317.add ((x5_1).toNat * 4)).block, (ad317.add ((x5_1).toNat * 4)).off + 1, none⟩ = some (.string ((rd_T31 l0 x5_1).f1)) ∧ w'.cell? ⟨(ad317.add ((x5_1).toNat * 4)).block, (ad317.add ((x5_1).toNat * 4)).off + 2, none⟩ = some (.string ((rd_T31 l0 x5_1).f2)) ∧ w'.cell? ⟨(ad317.add ((x5_1).toNat * 4)).block, (ad317.add ((x5_1).toNat * 4)).off + 3, none⟩ = some (.string ((rd_T31 l0 x5_1).f3))) (ds := []) #[false, false, false, false, false, false, false, false] (by kernel_rfl) rfl rfl ⟨(bcl HB.out hw319_0), (bcl HB.out hw319_1), (bcl HB.out hw319_2), (bcl HB.out hw319_3)⟩ (fun hHeld => ?_); refine with_tabW laws_heldNameS.tab7 laws_heldNameS.bits7 (fun HT_ HW_ => ?_)
  generalize w14.drew = w15 at HB HR319_0 hx319_0 hx319_1 hx319_2 hx319_3 hHeld ⊢
  refine pu_ 0 (some 21) #[true, false, false, false, false, false, false, false] HT_.out ?_
  refine pu_ 1 (some 22) #[true, true, false, false, false, false, false, false] HT_.out ?_
  refine pu_ 2 (some 23) #[true, true, true, false, false, false, false, false] HT_.out ?_
  refine pu_ 3 (some 24) #[true, true, true, true, false, false, false, false] HT_.out ?_
  refine pu_ 5 (some 26) #[true, true, true, true, false, true, false, false] HT_.out ?_
  refine ta1_ 4 (some 25) #[true, true, true, true, true, true, false, false] HT_.out HW_.out hHeld ?_
  refine on_ 6 (some 27) #[true, true, true, true, true, true, true, false] HT_.out (fun K hK => ?_)
  refine gs_ Tryd.func13 #[.int .i64 t318] ?_
  with_reducible refine (laws_markText.calls k1 t318 t320 _ A8.out).mono ?_
  rintro e w16 ⟨rfl, hb⟩
  refine ⟨_, rfl, ?_⟩
  replace HB := Aside0.mk (below_step au27 hb)
  (try clear hb)
  refine hK.out _ _ ⟨(bcl HB.out hw319_0), (bcl HB.out hw319_1), (bcl HB.out hw319_2), (bcl HB.out hw319_3)⟩ (fun hHeld => ?_)
  clear hK K
  refine no_ (some 27) ?_
  refine pu_ 7 (some 28) #[true, true, true, true, true, true, true, true] HT_.out ?_
  refine done_ (done_of HT_.out (by kernel_rfl)) ?_
  try go_wp2
  replace HB := Aside0.mk (below_drew1 HB.out)
  have p321 : 0 ≤ (x5_1 : Int) := of_decide_eq_true au75
  have q321 : x5_1 < (l0.length : Int) := of_decide_eq_true au75
  obtain ⟨ad321, A321_0, c321_0, e321, hx321_0, hx321_1, hx321_2, hx321_3, hl321_0, hi321_0⟩ := at_T31 HR0.out x5_1 p321 q321
  have hw321_3 := hx321_3
  have hw321_2 := hx321_2
  have hw321_1 := hx321_1
  have hw321_0 := hx321_0
  obtain rfl : ad317 = ad321 := (by injection e321)
  replace hx321_0 := bcl HB.out hx321_0
  replace hx321_1 := bcl HB.out hx321_1
  replace hx321_2 := bcl HB.out hx321_2
  replace hx321_3 := bcl HB.out hx321_3
  have HR321_0 := Aside0.mk hi321_0
  have HC321_0 := Aside0.mk hl321_0
  clear hi321_0 hl321_0
  replace p321 := eq_true p321
  replace q321 := eq_true q321
  refine start_ (n := 8) (S := fun w' => w'.cell? (ad317.add ((x5_1).toNat * 4)) = some (.slice A321_0 ((rd_T31 l0 x5_1).f0).length c321_0) ∧ w'.cell? ⟨(ad317.add ((x5_1).toNat * 4)).block, (ad317.add ((x5_1).toNat * 4)).off + 1, none⟩ = some (.string ((rd_T31 l0 x5_1).f1)) ∧ w'.cell? ⟨(ad317.add ((x5_1).toNat * 4)).block, (ad317.add ((x5_1).toNat * 4)).off + 2, none⟩ = some (.string ((rd_T31 l0 x5_1).f2)) ∧ w'.cell? ⟨(ad317.add ((x5_1).toNat * 4)).block, (ad317.add ((x5_1).toNat * 4)).off + 3, none⟩ = some (.string ((rd_T31 l0 x5_1).f3))) (ds := []) #[false, false, false, false, false, false, false, false] (by kernel_rfl) rfl rfl ⟨(bcl HB.out hw321_0), (bcl HB.out hw321_1), (bcl HB.out hw321_2), (bcl HB.out hw321_3)⟩ (fun hHeld => ?_); refine with_tabW laws_heldNameS.tab10 laws_heldNameS.bits10 (fun HT_ HW_ => ?_)
  generalize w16.drew = w17 at HB HR321_0 hx321_0 hx321_1 hx321_2 hx321_3 hHeld ⊢
  refine pu_ 0 (some 31) #[true, false, false, false, false, false, false, false] HT_.out ?_
  refine pu_ 1 (some 32) #[true, true, false, false, false, false, false, false] HT_.out ?_
  refine pu_ 2 (some 33) #[true, true, true, false, false, false, false, false] HT_.out ?_
  refine pu_ 3 (some 34) #[true, true, true, true, false, false, false, false] HT_.out ?_
  refine pu_ 5 (some 36) #[true, true, true, true, false, true, false, false] HT_.out ?_
  refine ta1_ 4 (some 35) #[true, true, true, true, true, true, false, false] HT_.out HW_.out hHeld ?_
  refine on_ 6 (some 37) #[true, true, true, true, true, true, true, false] HT_.out (fun K hK => ?_)
  refine gs_ Tryd.func13 #[.int .i64 (wrap64 (t318 + 1))] ?_
  with_reducible refine (laws_markText.calls k1 (wrap64 (t318 + 1)) t322 _ A10.out).mono ?_
  rintro e w18 ⟨rfl, hb⟩
  refine ⟨_, rfl, ?_⟩
  replace HB := Aside0.mk (below_step au27 hb)
  (try clear hb)
  refine hK.out _ _ ⟨(bcl HB.out hw321_0), (bcl HB.out hw321_1), (bcl HB.out hw321_2), (bcl HB.out hw321_3)⟩ (fun hHeld => ?_)
  clear hK K
  refine no_ (some 37) ?_
  refine pu_ 7 (some 38) #[true, true, true, true, true, true, true, true] HT_.out ?_
  refine done_ (done_of HT_.out (by kernel_rfl)) ?_
  try go_wp2
  replace HB := Aside0.mk (below_drew1 HB.out)
  have p323 : 0 ≤ (x5_1 : Int) := of_decide_eq_true au75
  have q323 : x5_1 < (l0.length : Int) := of_decide_eq_true au75
  obtain ⟨ad323, A323_0, c323_0, e323, hx323_0, hx323_1, hx323_2, hx323_3, hl323_0, hi323_0⟩ := at_T31 HR0.out x5_1 p323 q323
  have hw323_3 := hx323_3
  have hw323_2 := hx323_2
  have hw323_1 := hx323_1
  have hw323_0 := hx323_0
  obtain rfl : ad317 = ad323 := (by injection e323)
  replace hx323_0 := bcl HB.out hx323_0
  replace hx323_1 := bcl HB.out hx323_1
  replace hx323_2 := bcl HB.out hx323_2
  replace hx323_3 := bcl HB.out hx323_3
  have HR323_0 := Aside0.mk hi323_0
  have HC323_0 := Aside0.mk hl323_0
  clear hi323_0 hl323_0
  replace p323 := eq_true p323
  replace q323 := eq_true q323
  refine start_ (n := 8) (S := fun w' => w'.cell? (ad317.add ((x5_1).toNat * 4)) = some (.slice A323_0 ((rd_T31 l0 x5_1).f0).length c323_0) ∧ w'.cell? ⟨(ad317.add ((x5_1).toNat * 4)).block, (ad317.add ((x5_1).toNat * 4)).off + 1, none⟩ = some (.string ((rd_T31 l0 x5_1).f1)) ∧ w'.cell? ⟨(ad317.add ((x5_1).toNat * 4)).block, (ad317.add ((x5_1).toNat * 4)).off + 2, none⟩ = some (.string ((rd_T31 l0 x5_1).f2)) ∧ w'.cell? ⟨(ad317.add ((x5_1).toNat * 4)).block, (ad317.add ((x5_1).toNat * 4)).off + 3, none⟩ = some (.string ((rd_T31 l0 x5_1).f3))) (ds := []) #[false, false, false, false, false, false, false, false] (by kernel_rfl) rfl rfl ⟨(bcl HB.out hw323_0), (bcl HB.out hw323_1), (bcl HB.out hw323_2), (bcl HB.out hw323_3)⟩ (fun hHeld => ?_); refine with_tabW laws_heldNameS.tab13 laws_heldNameS.bits13 (fun HT_ HW_ => ?_)
  generalize w18.drew = w19 at HB HR323_0 hx323_0 hx323_1 hx323_2 hx323_3 hHeld ⊢
  refine pu_ 0 (some 41) #[true, false, false, false, false, false, false, false] HT_.out ?_
  refine pu_ 1 (some 42) #[true, true, false, false, false, false, false, false] HT_.out ?_
  refine pu_ 2 (some 43) #[true, true, true, false, false, false, false, false] HT_.out ?_
  refine pu_ 3 (some 44) #[true, true, true, true, false, false, false, false] HT_.out ?_
  refine pu_ 5 (some 46) #[true, true, true, true, false, true, false, false] HT_.out ?_
  refine ta1_ 4 (some 45) #[true, true, true, true, true, true, false, false] HT_.out HW_.out hHeld ?_
  refine on_ 6 (some 47) #[true, true, true, true, true, true, true, false] HT_.out (fun K hK => ?_)
  refine gs_ Tryd.func13 #[.int .i64 (wrap64 ((wrap64 (t318 + 1)) + 1))] ?_
  with_reducible refine (laws_markText.calls k1 (wrap64 ((wrap64 (t318 + 1)) + 1)) t324 _ A12.out).mono ?_
  rintro e w20 ⟨rfl, hb⟩
  refine ⟨_, rfl, ?_⟩
  replace HB := Aside0.mk (below_step au27 hb)
  (try clear hb)
  refine hK.out _ _ ⟨(bcl HB.out hw323_0), (bcl HB.out hw323_1), (bcl HB.out hw323_2), (bcl HB.out hw323_3)⟩ (fun hHeld => ?_)
  clear hK K
  refine no_ (some 47) ?_
  refine pu_ 7 (some 48) #[true, true, true, true, true, true, true, true] HT_.out ?_
  refine done_ (done_of HT_.out (by kernel_rfl)) ?_
  try go_wp2
  first
  |
   have g_ : (((rd_T31 l0 x5_1).f3).toList == t324.toList) = true := c13b0
   clear g_
   go_roundg k1
   case measure => have := HK1.out; omega
   case rel => exact ⟨(wrap64 ((wrap64 ((wrap64 (t318 + 1)) + 1)) + 1)), (wrap64 (x5_1 + 1)), au76, au76, H', ⟨by have := HK1.out; omega⟩, ⟨by repeat (first | (with_reducible first | exact HB.out | apply below_alloc | apply pw_below_drewN | apply below_drew1) | exact HB.out)⟩⟩
  |
   have g_ : (((rd_T31 l0 x5_1).f3).toList == t324.toList) = false := c13b0
   clear g_
   go_ret
   exact ax2) : P := h
set_option maxHeartbeats 8000000 in
set_option maxRecDepth 100000 in
theorem laws_heldNameS.calls (k : Nat) (A0 : Option Addr) (c0 : Nat) (l0 : List (S31)) (a1 : Int) (r : Int) (w : World) (hr0 : Kd.C k31 w A0 l0.length l0) (hc0 : l0.length ≤ c0) (h : laws_heldNameS.f k l0 a1 = some r) :
  Calls Tryd.prog 8 #[.slice A0 l0.length c0, .int .i64 a1] w fun e w' => e = .returned (.int .i64 r) ∧ Below w.heap.size w w' := by
 have HR0 := Aside0.mk hr0
 have HC0 := Aside0.mk hc0
 clear hr0 hc0
 have HB := Aside0.mk (Below.refl w.heap.size w)
 have H : (laws_heldNameS.l0 k l0 a1 0) = some r := h
 clear h
 have H' := Aside0.mk H
 clear H
 go_enter Tryd.func8, Tryd.ntmps8
 go_wp2
 go_loopg [1, 5] k (fun kq v1 v5 w' => ∃ (x1_1 : Int) (x5_1 : Int), v1 = .int .i64 x1_1 ∧ v5 = .int .i64 x5_1 ∧ Aside0 (laws_heldNameS.l0 kq l0 x1_1 x5_1 = some r) ∧ Aside0 (kq ≤ k) ∧ Aside0 (Below w.heap.size w w'))
 case atStart => exact ⟨(a1), (0), au76, au76, H', ⟨Nat.le_refl _⟩, ⟨by repeat (first | (with_reducible first | exact HB.out | apply below_alloc | apply pw_below_drewN | apply below_drew1) | exact HB.out)⟩⟩
 case round =>
  clear H'
  try clear p2
  obtain ⟨x1_1, x5_1, rfl, rfl, HA, HK1, HB⟩ := hrel
  cases gk with
  | zero => exact absurd HA.out (by simp [laws_heldNameS.l0])
  | succ k1 =>
   have H := HA.out
   clear HA
   simp only [laws_heldNameS.l0] at H
   by_cases c3 : x5_1 < (l0.length : Int)
   ·
    rw [if_pos c3] at H
    have c3b0 : decide (x5_1 < (l0.length : Int)) = true := decide_eq_true c3
    clear c3
    by_cases c4 : 0 ≤ x5_1
    ·
     rw [if_pos c4] at H
     have c4b0 : decide (0 ≤ x5_1) = true := decide_eq_true c4
     clear c4
     replace H := Option.bind_eq_some_iff.mp H
     obtain ⟨t318, A50, H⟩ := H
     try dsimp only at H
     have A5 := Aside0.mk A50
     clear A50
     by_cases c6 : t318 < 0
     ·
      rw [if_pos c6] at H
      have c6b0 : decide (t318 < 0) = true := decide_eq_true c6
      clear c6
      obtain rfl := Option.some.inj H
      have p317 : 0 ≤ (x5_1 : Int) := of_decide_eq_true au75
      have q317 : x5_1 < (l0.length : Int) := of_decide_eq_true au75
      obtain ⟨ad317, A317_0, c317_0, e317, hx317_0, hx317_1, hx317_2, hx317_3, hl317_0, hi317_0⟩ := at_T31 HR0.out x5_1 p317 q317
      cases e317
      replace hx317_0 := bcl HB.out hx317_0
      replace hx317_1 := bcl HB.out hx317_1
      replace hx317_2 := bcl HB.out hx317_2
      replace hx317_3 := bcl HB.out hx317_3
      have HR317_0 := Aside0.mk hi317_0
      have HC317_0 := Aside0.mk hl317_0
      clear hi317_0 hl317_0
      replace p317 := eq_true p317
      replace q317 := eq_true q317
      go_wp2_with (first | ((with_reducible refine gate_callee (f := 14) rfl ?_); refine goesL_ (some 18) rfl rfl Tryd.func14 (by kernel_rfl) rfl #[.slice A317_0 ((rd_T31 l0 x5_1).f0).length c317_0, .int .i64 x1_1] rfl au24 ?_; (with_reducible refine (laws_heldStringS.calls k1 _ _ ((rd_T31 l0 x5_1).f0) x1_1 t318 _ ?side1 ?side2 A5.out).mono ?_); (case side1 => repeat (first | exact (Kd.C_below HR317_0.out HB.out) | (with_reducible refine Kd.C_alloc ?_ _) | (with_reducible refine Kd.C_drewN ?_ _) | (with_reducible refine Kd.C_drew ?_))); (case side2 => exact HC317_0.out); rintro e w7 ⟨rfl, hb⟩; refine ⟨_, rfl, ?_⟩; replace HB := Aside0.mk (below_step au27 hb); (try clear hb)))
      go_ret
      exact ax2
     ·
      rw [if_neg c6] at H
      have c6b0 : decide (t318 < 0) = false := decide_eq_false c6
      clear c6
      replace H := Option.bind_eq_some_iff.mp H
      obtain ⟨t320, A80, H⟩ := H
      try dsimp only at H
      have A8 := Aside0.mk A80
      clear A80
      by_cases c9 : ((rd_T31 l0 x5_1).f1).toList = t320.toList
      ·
       rw [if_pos c9] at H
       have c9b0 : (((rd_T31 l0 x5_1).f1).toList == t320.toList) = true := beq_iff_eq.mpr c9
       have c9b1 : (((rd_T31 l0 x5_1).f1).toList != t320.toList) = false := bne_eq_false_iff_eq.mpr c9
       clear c9
       replace H := Option.bind_eq_some_iff.mp H
       obtain ⟨t322, A100, H⟩ := H
       try dsimp only at H
       have A10 := Aside0.mk A100
       clear A100
       by_cases c11 : ((rd_T31 l0 x5_1).f2).toList = t322.toList
       ·
        rw [if_pos c11] at H
        have c11b0 : (((rd_T31 l0 x5_1).f2).toList == t322.toList) = true := beq_iff_eq.mpr c11
        have c11b1 : (((rd_T31 l0 x5_1).f2).toList != t322.toList) = false := bne_eq_false_iff_eq.mpr c11
        clear c11
        replace H := Option.bind_eq_some_iff.mp H
        obtain ⟨t324, A120, H⟩ := H
        try dsimp only at H
        have A12 := Aside0.mk A120
        clear A120
        by_cases c13 : ((rd_T31 l0 x5_1).f3).toList = t324.toList
        ·
         rw [if_pos c13] at H
         have c13b0 : (((rd_T31 l0 x5_1).f3).toList == t324.toList) = true := beq_iff_eq.mpr c13
         have c13b1 : (((rd_T31 l0 x5_1).f3).toList != t324.toList) = false := bne_eq_false_iff_eq.mpr c13
         clear c13
         have H' := Aside0.mk H
         clear H
         have p317 : 0 ≤ (x5_1 : Int) := of_decide_eq_true au75
         have q317 : x5_1 < (l0.length : Int) := of_decide_eq_true au75
         obtain ⟨ad317, A317_0, c317_0, e317, hx317_0, hx317_1, hx317_2, hx317_3, hl317_0, hi317_0⟩ := at_T31 HR0.out x5_1 p317 q317
         cases e317
         replace hx317_0 := bcl HB.out hx317_0
         replace hx317_1 := bcl HB.out hx317_1
         replace hx317_2 := bcl HB.out hx317_2
         replace hx317_3 := bcl HB.out hx317_3
         have HR317_0 := Aside0.mk hi317_0
         have HC317_0 := Aside0.mk hl317_0
         clear hi317_0 hl317_0
         replace p317 := eq_true p317
         replace q317 := eq_true q317
         exact laws_heldNameS.L0
        ·
         rw [if_neg c13] at H
         have c13b0 : (((rd_T31 l0 x5_1).f3).toList == t324.toList) = false := beq_eq_false_iff_ne.mpr c13
         have c13b1 : (((rd_T31 l0 x5_1).f3).toList != t324.toList) = true := bne_iff_ne.mpr c13
         obtain rfl := Option.some.inj H
         have p317 : 0 ≤ (x5_1 : Int) := of_decide_eq_true au75
         have q317 : x5_1 < (l0.length : Int) := of_decide_eq_true au75
         obtain ⟨ad317, A317_0, c317_0, e317, hx317_0, hx317_1, hx317_2, hx317_3, hl317_0, hi317_0⟩ := at_T31 HR0.out x5_1 p317 q317
         cases e317
         replace hx317_0 := bcl HB.out hx317_0
         replace hx317_1 := bcl HB.out hx317_1
         replace hx317_2 := bcl HB.out hx317_2
         replace hx317_3 := bcl HB.out hx317_3
         have HR317_0 := Aside0.mk hi317_0
         have HC317_0 := Aside0.mk hl317_0
         clear hi317_0 hl317_0
         replace p317 := eq_true p317
         replace q317 := eq_true q317
         exact laws_heldNameS.L0
       ·
        rw [if_neg c11] at H
        have c11b0 : (((rd_T31 l0 x5_1).f2).toList == t322.toList) = false := beq_eq_false_iff_ne.mpr c11
        have c11b1 : (((rd_T31 l0 x5_1).f2).toList != t322.toList) = true := bne_iff_ne.mpr c11
        obtain rfl := Option.some.inj H
        have p317 : 0 ≤ (x5_1 : Int) := of_decide_eq_true au75
        have q317 : x5_1 < (l0.length : Int) := of_decide_eq_true au75
        obtain ⟨ad317, A317_0, c317_0, e317, hx317_0, hx317_1, hx317_2, hx317_3, hl317_0, hi317_0⟩ := at_T31 HR0.out x5_1 p317 q317
        cases e317
        replace hx317_0 := bcl HB.out hx317_0
        replace hx317_1 := bcl HB.out hx317_1
        replace hx317_2 := bcl HB.out hx317_2
        replace hx317_3 := bcl HB.out hx317_3
        have HR317_0 := Aside0.mk hi317_0
        have HC317_0 := Aside0.mk hl317_0
        clear hi317_0 hl317_0
        replace p317 := eq_true p317
        replace q317 := eq_true q317
        try go_wp2_with (first | ((with_reducible refine gate_callee (f := 14) rfl ?_); refine goesL_ (some 18) rfl rfl Tryd.func14 (by kernel_rfl) rfl #[.slice A317_0 ((rd_T31 l0 x5_1).f0).length c317_0, .int .i64 x1_1] rfl au24 ?_; (with_reducible refine (laws_heldStringS.calls k1 _ _ ((rd_T31 l0 x5_1).f0) x1_1 t318 _ ?side1 ?side2 A5.out).mono ?_); (case side1 => repeat (first | exact (Kd.C_below HR317_0.out HB.out) | (with_reducible refine Kd.C_alloc ?_ _) | (with_reducible refine Kd.C_drewN ?_ _) | (with_reducible refine Kd.C_drew ?_))); (case side2 => exact HC317_0.out); rintro e w28 ⟨rfl, hb⟩; refine ⟨_, rfl, ?_⟩; replace HB := Aside0.mk (below_step au27 hb); (try clear hb)))
        replace HB := Aside0.mk (below_drew1 HB.out)
        have p319 : 0 ≤ (x5_1 : Int) := of_decide_eq_true au75
        have q319 : x5_1 < (l0.length : Int) := of_decide_eq_true au75
        obtain ⟨ad319, A319_0, c319_0, e319, hx319_0, hx319_1, hx319_2, hx319_3, hl319_0, hi319_0⟩ := at_T31 HR0.out x5_1 p319 q319
        have hw319_3 := hx319_3
        have hw319_2 := hx319_2
        have hw319_1 := hx319_1
        have hw319_0 := hx319_0
        obtain rfl : ad317 = ad319 := (by injection e319)
        replace hx319_0 := bcl HB.out hx319_0
        replace hx319_1 := bcl HB.out hx319_1
        replace hx319_2 := bcl HB.out hx319_2
        replace hx319_3 := bcl HB.out hx319_3
        have HR319_0 := Aside0.mk hi319_0
        have HC319_0 := Aside0.mk hl319_0
        clear hi319_0 hl319_0
        replace p319 := eq_true p319
        replace q319 := eq_true q319
        refine start_ (n := 8) (S := fun w' => w'.cell? (ad317.add ((x5_1).toNat * 4)) = some (.slice A319_0 ((rd_T31 l0 x5_1).f0).length c319_0) ∧ w'.cell? ⟨(ad317.add ((x5_1).toNat * 4)).block, (ad317.add ((x5_1).toNat * 4)).off + 1, none⟩ = some (.string ((rd_T31 l0 x5_1).f1)) ∧ w'.cell? ⟨(ad317.add ((x5_1).toNat * 4)).block, (ad317.add ((x5_1).toNat * 4)).off + 2, none⟩ = some (.string ((rd_T31 l0 x5_1).f2)) ∧ w'.cell? ⟨(ad317.add ((x5_1).toNat * 4)).block, (ad317.add ((x5_1).toNat * 4)).off + 3, none⟩ = some (.string ((rd_T31 l0 x5_1).f3))) (ds := []) #[false, false, false, false, false, false, false, false] (by kernel_rfl) rfl rfl ⟨(bcl HB.out hw319_0), (bcl HB.out hw319_1), (bcl HB.out hw319_2), (bcl HB.out hw319_3)⟩ (fun hHeld => ?_); refine with_tabW laws_heldNameS.tab7 laws_heldNameS.bits7 (fun HT_ HW_ => ?_)
        generalize w28.drew = w29 at HB HR319_0 hx319_0 hx319_1 hx319_2 hx319_3 hHeld ⊢
        refine pu_ 0 (some 21) #[true, false, false, false, false, false, false, false] HT_.out ?_
        refine pu_ 1 (some 22) #[true, true, false, false, false, false, false, false] HT_.out ?_
        refine pu_ 2 (some 23) #[true, true, true, false, false, false, false, false] HT_.out ?_
        refine pu_ 3 (some 24) #[true, true, true, true, false, false, false, false] HT_.out ?_
        refine pu_ 5 (some 26) #[true, true, true, true, false, true, false, false] HT_.out ?_
        refine ta1_ 4 (some 25) #[true, true, true, true, true, true, false, false] HT_.out HW_.out hHeld ?_
        refine on_ 6 (some 27) #[true, true, true, true, true, true, true, false] HT_.out (fun K hK => ?_)
        refine gs_ Tryd.func13 #[.int .i64 t318] ?_
        with_reducible refine (laws_markText.calls k1 t318 t320 _ A8.out).mono ?_
        rintro e w30 ⟨rfl, hb⟩
        refine ⟨_, rfl, ?_⟩
        replace HB := Aside0.mk (below_step au27 hb)
        (try clear hb)
        refine hK.out _ _ ⟨(bcl HB.out hw319_0), (bcl HB.out hw319_1), (bcl HB.out hw319_2), (bcl HB.out hw319_3)⟩ (fun hHeld => ?_)
        clear hK K
        refine no_ (some 27) ?_
        refine pu_ 7 (some 28) #[true, true, true, true, true, true, true, true] HT_.out ?_
        refine done_ (done_of HT_.out (by kernel_rfl)) ?_
        try go_wp2
        replace HB := Aside0.mk (below_drew1 HB.out)
        have p321 : 0 ≤ (x5_1 : Int) := of_decide_eq_true au75
        have q321 : x5_1 < (l0.length : Int) := of_decide_eq_true au75
        obtain ⟨ad321, A321_0, c321_0, e321, hx321_0, hx321_1, hx321_2, hx321_3, hl321_0, hi321_0⟩ := at_T31 HR0.out x5_1 p321 q321
        have hw321_3 := hx321_3
        have hw321_2 := hx321_2
        have hw321_1 := hx321_1
        have hw321_0 := hx321_0
        obtain rfl : ad317 = ad321 := (by injection e321)
        replace hx321_0 := bcl HB.out hx321_0
        replace hx321_1 := bcl HB.out hx321_1
        replace hx321_2 := bcl HB.out hx321_2
        replace hx321_3 := bcl HB.out hx321_3
        have HR321_0 := Aside0.mk hi321_0
        have HC321_0 := Aside0.mk hl321_0
        clear hi321_0 hl321_0
        replace p321 := eq_true p321
        replace q321 := eq_true q321
        refine start_ (n := 8) (S := fun w' => w'.cell? (ad317.add ((x5_1).toNat * 4)) = some (.slice A321_0 ((rd_T31 l0 x5_1).f0).length c321_0) ∧ w'.cell? ⟨(ad317.add ((x5_1).toNat * 4)).block, (ad317.add ((x5_1).toNat * 4)).off + 1, none⟩ = some (.string ((rd_T31 l0 x5_1).f1)) ∧ w'.cell? ⟨(ad317.add ((x5_1).toNat * 4)).block, (ad317.add ((x5_1).toNat * 4)).off + 2, none⟩ = some (.string ((rd_T31 l0 x5_1).f2)) ∧ w'.cell? ⟨(ad317.add ((x5_1).toNat * 4)).block, (ad317.add ((x5_1).toNat * 4)).off + 3, none⟩ = some (.string ((rd_T31 l0 x5_1).f3))) (ds := []) #[false, false, false, false, false, false, false, false] (by kernel_rfl) rfl rfl ⟨(bcl HB.out hw321_0), (bcl HB.out hw321_1), (bcl HB.out hw321_2), (bcl HB.out hw321_3)⟩ (fun hHeld => ?_); refine with_tabW laws_heldNameS.tab10 laws_heldNameS.bits10 (fun HT_ HW_ => ?_)
        generalize w30.drew = w31 at HB HR321_0 hx321_0 hx321_1 hx321_2 hx321_3 hHeld ⊢
        refine pu_ 0 (some 31) #[true, false, false, false, false, false, false, false] HT_.out ?_
        refine pu_ 1 (some 32) #[true, true, false, false, false, false, false, false] HT_.out ?_
        refine pu_ 2 (some 33) #[true, true, true, false, false, false, false, false] HT_.out ?_
        refine pu_ 3 (some 34) #[true, true, true, true, false, false, false, false] HT_.out ?_
        refine pu_ 5 (some 36) #[true, true, true, true, false, true, false, false] HT_.out ?_
        refine ta1_ 4 (some 35) #[true, true, true, true, true, true, false, false] HT_.out HW_.out hHeld ?_
        refine on_ 6 (some 37) #[true, true, true, true, true, true, true, false] HT_.out (fun K hK => ?_)
        refine gs_ Tryd.func13 #[.int .i64 (wrap64 (t318 + 1))] ?_
        with_reducible refine (laws_markText.calls k1 (wrap64 (t318 + 1)) t322 _ A10.out).mono ?_
        rintro e w32 ⟨rfl, hb⟩
        refine ⟨_, rfl, ?_⟩
        replace HB := Aside0.mk (below_step au27 hb)
        (try clear hb)
        refine hK.out _ _ ⟨(bcl HB.out hw321_0), (bcl HB.out hw321_1), (bcl HB.out hw321_2), (bcl HB.out hw321_3)⟩ (fun hHeld => ?_)
        clear hK K
        refine no_ (some 37) ?_
        refine pu_ 7 (some 38) #[true, true, true, true, true, true, true, true] HT_.out ?_
        refine done_ (done_of HT_.out (by kernel_rfl)) ?_
        try go_wp2
        go_ret
        exact ax2
      ·
       rw [if_neg c9] at H
       have c9b0 : (((rd_T31 l0 x5_1).f1).toList == t320.toList) = false := beq_eq_false_iff_ne.mpr c9
       have c9b1 : (((rd_T31 l0 x5_1).f1).toList != t320.toList) = true := bne_iff_ne.mpr c9
       obtain rfl := Option.some.inj H
       have p317 : 0 ≤ (x5_1 : Int) := of_decide_eq_true au75
       have q317 : x5_1 < (l0.length : Int) := of_decide_eq_true au75
       obtain ⟨ad317, A317_0, c317_0, e317, hx317_0, hx317_1, hx317_2, hx317_3, hl317_0, hi317_0⟩ := at_T31 HR0.out x5_1 p317 q317
       cases e317
       replace hx317_0 := bcl HB.out hx317_0
       replace hx317_1 := bcl HB.out hx317_1
       replace hx317_2 := bcl HB.out hx317_2
       replace hx317_3 := bcl HB.out hx317_3
       have HR317_0 := Aside0.mk hi317_0
       have HC317_0 := Aside0.mk hl317_0
       clear hi317_0 hl317_0
       replace p317 := eq_true p317
       replace q317 := eq_true q317
       try go_wp2_with (first | ((with_reducible refine gate_callee (f := 14) rfl ?_); refine goesL_ (some 18) rfl rfl Tryd.func14 (by kernel_rfl) rfl #[.slice A317_0 ((rd_T31 l0 x5_1).f0).length c317_0, .int .i64 x1_1] rfl au24 ?_; (with_reducible refine (laws_heldStringS.calls k1 _ _ ((rd_T31 l0 x5_1).f0) x1_1 t318 _ ?side1 ?side2 A5.out).mono ?_); (case side1 => repeat (first | exact (Kd.C_below HR317_0.out HB.out) | (with_reducible refine Kd.C_alloc ?_ _) | (with_reducible refine Kd.C_drewN ?_ _) | (with_reducible refine Kd.C_drew ?_))); (case side2 => exact HC317_0.out); rintro e w33 ⟨rfl, hb⟩; refine ⟨_, rfl, ?_⟩; replace HB := Aside0.mk (below_step au27 hb); (try clear hb)))
       replace HB := Aside0.mk (below_drew1 HB.out)
       have p319 : 0 ≤ (x5_1 : Int) := of_decide_eq_true au75
       have q319 : x5_1 < (l0.length : Int) := of_decide_eq_true au75
       obtain ⟨ad319, A319_0, c319_0, e319, hx319_0, hx319_1, hx319_2, hx319_3, hl319_0, hi319_0⟩ := at_T31 HR0.out x5_1 p319 q319
       have hw319_3 := hx319_3
       have hw319_2 := hx319_2
       have hw319_1 := hx319_1
       have hw319_0 := hx319_0
       obtain rfl : ad317 = ad319 := (by injection e319)
       replace hx319_0 := bcl HB.out hx319_0
       replace hx319_1 := bcl HB.out hx319_1
       replace hx319_2 := bcl HB.out hx319_2
       replace hx319_3 := bcl HB.out hx319_3
       have HR319_0 := Aside0.mk hi319_0
       have HC319_0 := Aside0.mk hl319_0
       clear hi319_0 hl319_0
       replace p319 := eq_true p319
       replace q319 := eq_true q319
       refine start_ (n := 8) (S := fun w' => w'.cell? (ad317.add ((x5_1).toNat * 4)) = some (.slice A319_0 ((rd_T31 l0 x5_1).f0).length c319_0) ∧ w'.cell? ⟨(ad317.add ((x5_1).toNat * 4)).block, (ad317.add ((x5_1).toNat * 4)).off + 1, none⟩ = some (.string ((rd_T31 l0 x5_1).f1)) ∧ w'.cell? ⟨(ad317.add ((x5_1).toNat * 4)).block, (ad317.add ((x5_1).toNat * 4)).off + 2, none⟩ = some (.string ((rd_T31 l0 x5_1).f2)) ∧ w'.cell? ⟨(ad317.add ((x5_1).toNat * 4)).block, (ad317.add ((x5_1).toNat * 4)).off + 3, none⟩ = some (.string ((rd_T31 l0 x5_1).f3))) (ds := []) #[false, false, false, false, false, false, false, false] (by kernel_rfl) rfl rfl ⟨(bcl HB.out hw319_0), (bcl HB.out hw319_1), (bcl HB.out hw319_2), (bcl HB.out hw319_3)⟩ (fun hHeld => ?_); refine with_tabW laws_heldNameS.tab7 laws_heldNameS.bits7 (fun HT_ HW_ => ?_)
       generalize w33.drew = w34 at HB HR319_0 hx319_0 hx319_1 hx319_2 hx319_3 hHeld ⊢
       refine pu_ 0 (some 21) #[true, false, false, false, false, false, false, false] HT_.out ?_
       refine pu_ 1 (some 22) #[true, true, false, false, false, false, false, false] HT_.out ?_
       refine pu_ 2 (some 23) #[true, true, true, false, false, false, false, false] HT_.out ?_
       refine pu_ 3 (some 24) #[true, true, true, true, false, false, false, false] HT_.out ?_
       refine pu_ 5 (some 26) #[true, true, true, true, false, true, false, false] HT_.out ?_
       refine ta1_ 4 (some 25) #[true, true, true, true, true, true, false, false] HT_.out HW_.out hHeld ?_
       refine on_ 6 (some 27) #[true, true, true, true, true, true, true, false] HT_.out (fun K hK => ?_)
       refine gs_ Tryd.func13 #[.int .i64 t318] ?_
       with_reducible refine (laws_markText.calls k1 t318 t320 _ A8.out).mono ?_
       rintro e w35 ⟨rfl, hb⟩
       refine ⟨_, rfl, ?_⟩
       replace HB := Aside0.mk (below_step au27 hb)
       (try clear hb)
       refine hK.out _ _ ⟨(bcl HB.out hw319_0), (bcl HB.out hw319_1), (bcl HB.out hw319_2), (bcl HB.out hw319_3)⟩ (fun hHeld => ?_)
       clear hK K
       refine no_ (some 27) ?_
       refine pu_ 7 (some 28) #[true, true, true, true, true, true, true, true] HT_.out ?_
       refine done_ (done_of HT_.out (by kernel_rfl)) ?_
       try go_wp2
       go_ret
       exact ax2
    ·
     rw [if_neg c4] at H
     exact absurd H (by simp)
   ·
    rw [if_neg c3] at H
    have c3b0 : decide (x5_1 < (l0.length : Int)) = false := decide_eq_false c3
    clear c3
    obtain rfl := Option.some.inj H
    go_wp2
    go_ret
    exact ax2


/-! ### laws_FnExactParseNames: function 3 -/
mutual
noncomputable def laws_FnExactParseNames.j0 : Nat → ByteArray → List (S31) → Bool → List (S31) → Bool → Option (Bool)
 | 0, _, _, _, _, _ => none
 | k + 1, x0, x3, x4, x5, x32 => if x32 = true then (some false) else ((laws_markNameS.f x5 1).bind fun t334 => ((laws_heldNameS.f k (mkN 1 x5) 1).bind fun t335 => (if t335 < 0 then (some false) else (if t335 = t334 then ((impl_ParseNames.f k x0).bind fun bt336 => ((laws_eqNameS.f k bt336.1 x3).bind fun t340 => (if t340 = true then (laws_FnExactParseNames.j1 k (mkN 1 x5) t334 (bt336.2 != x4)) else (laws_FnExactParseNames.j1 k (mkN 1 x5) t334 true)))) else (some false)))))
noncomputable def laws_FnExactParseNames.j1 : Nat → List (S31) → Int → Bool → Option (Bool)
 | 0, _, _, _ => none
 | k + 1, x5, x7, x57 => if x57 = true then (some false) else ((laws_heldNameS.f k x5 1).bind fun t341 => (if t341 < 0 then (some false) else (if t341 = x7 then (some true) else (some false))))
end
noncomputable def laws_FnExactParseNames.f (k : Nat) (a0 : ByteArray) : Option (Bool) := if (a0.size : Int) > 1048576 then (some true) else ((spec_ParseNames.f k a0).bind fun bt325 => ((impl_ParseNames.f k a0).bind fun bt329 => ((laws_eqNameS.f k bt329.1 bt325.1).bind fun t333 => (if t333 = true then (laws_FnExactParseNames.j0 k a0 bt325.1 bt325.2 bt329.1 (bt329.2 != bt325.2)) else (laws_FnExactParseNames.j0 k a0 bt325.1 bt325.2 bt329.1 true)))))
theorem laws_FnExactParseNames.mono_l : ∀ k, (∀ y0 y1 y2 y3 y4, LeO (laws_FnExactParseNames.j0 k y0 y1 y2 y3 y4) (laws_FnExactParseNames.j0 (k + 1) y0 y1 y2 y3 y4)) ∧ (∀ y0 y1 y2, LeO (laws_FnExactParseNames.j1 k y0 y1 y2) (laws_FnExactParseNames.j1 (k + 1) y0 y1 y2))
 | 0 => ⟨fun _ _ _ _ _ r h => by simp [laws_FnExactParseNames.j0] at h, fun _ _ _ r h => by simp [laws_FnExactParseNames.j1] at h⟩
 | k + 1 => by
  obtain ⟨ih0, ih1⟩ := laws_FnExactParseNames.mono_l k
  refine ⟨?_, ?_⟩
  ·
   intro y0 y1 y2 y3 y4
   unfold laws_FnExactParseNames.j0
   repeat' first
   | (with_reducible exact ih0 _ _ _ _ _)
   | (with_reducible exact ih1 _ _ _)
   | (with_reducible exact impl_ParseNames.mono _ _)
   | (with_reducible exact laws_eqNameS.mono _ _ _)
   | (with_reducible exact laws_heldNameS.mono _ _ _)
   | (with_reducible exact spec_ParseNames.mono _ _)
   | (with_reducible exact LeO.refl _)
   | (with_reducible exact LeO.none _)
   | (with_reducible refine LeO.ite ?_ ?_)
   | (with_reducible refine LeO.bind ?_ (fun _ => ?_))
   | exact ih0 _ _ _ _ _
   | exact ih1 _ _ _
   | exact impl_ParseNames.mono _ _
   | exact laws_eqNameS.mono _ _ _
   | exact laws_heldNameS.mono _ _ _
   | exact spec_ParseNames.mono _ _
   | exact LeO.none _
   | refine LeO.ite ?_ ?_
   | refine LeO.bind ?_ (fun _ => ?_)
  ·
   intro y0 y1 y2
   unfold laws_FnExactParseNames.j1
   repeat' first
   | (with_reducible exact ih0 _ _ _ _ _)
   | (with_reducible exact ih1 _ _ _)
   | (with_reducible exact impl_ParseNames.mono _ _)
   | (with_reducible exact laws_eqNameS.mono _ _ _)
   | (with_reducible exact laws_heldNameS.mono _ _ _)
   | (with_reducible exact spec_ParseNames.mono _ _)
   | (with_reducible exact LeO.refl _)
   | (with_reducible exact LeO.none _)
   | (with_reducible refine LeO.ite ?_ ?_)
   | (with_reducible refine LeO.bind ?_ (fun _ => ?_))
   | exact ih0 _ _ _ _ _
   | exact ih1 _ _ _
   | exact impl_ParseNames.mono _ _
   | exact laws_eqNameS.mono _ _ _
   | exact laws_heldNameS.mono _ _ _
   | exact spec_ParseNames.mono _ _
   | exact LeO.none _
   | refine LeO.ite ?_ ?_
   | refine LeO.bind ?_ (fun _ => ?_)
theorem laws_FnExactParseNames.mono : ∀ a0 k, LeO (laws_FnExactParseNames.f k a0) (laws_FnExactParseNames.f (k + 1) a0) := by
 intro a0 k
 obtain ⟨ih0, ih1⟩ := laws_FnExactParseNames.mono_l k
 unfold laws_FnExactParseNames.f
 repeat' first
   | (with_reducible exact ih0 _ _ _ _ _)
   | (with_reducible exact ih1 _ _ _)
   | (with_reducible exact impl_ParseNames.mono _ _)
   | (with_reducible exact laws_eqNameS.mono _ _ _)
   | (with_reducible exact laws_heldNameS.mono _ _ _)
   | (with_reducible exact spec_ParseNames.mono _ _)
   | (with_reducible exact LeO.refl _)
   | (with_reducible exact LeO.none _)
   | (with_reducible refine LeO.ite ?_ ?_)
   | (with_reducible refine LeO.bind ?_ (fun _ => ?_))
   | exact ih0 _ _ _ _ _
   | exact ih1 _ _ _
   | exact impl_ParseNames.mono _ _
   | exact laws_eqNameS.mono _ _ _
   | exact laws_heldNameS.mono _ _ _
   | exact spec_ParseNames.mono _ _
   | exact LeO.none _
   | refine LeO.ite ?_ ?_
   | refine LeO.bind ?_ (fun _ => ?_)
theorem held_at (k : Nat) (A : Option Addr) (c n : Nat) (l : List S31) (a1 r : Int) (w : World) (hn : l.length = n) (hr : Kd.C k31 w A l.length l) (hc : l.length ≤ c) (h : laws_heldNameS.f k l a1 = some r) :
  Calls Tryd.prog 8 #[.slice A n c, .int .i64 a1] w fun e w' => e = .returned (.int .i64 r) ∧ Below w.heap.size w w' := by
 subst hn
 exact laws_heldNameS.calls k A c l a1 r w hr hc h
set_option maxRecDepth 100000 in
theorem laws_FnExactParseNames.L0 {P : Prop} (h : P := by
  go_wp2_with (first | ((with_reducible refine gate_callee (f := 7) rfl ?_); refine goesL_ (some 35) rfl rfl Tryd.func7 (by kernel_rfl) rfl #[.slice Ao20 t329.length co20, .int .i64 1] rfl au24 ?_; (with_reducible refine (laws_markNameS.calls HO_5.out 1 t334 _ ?side1 ?side2 A17.out).mono ?_); (case side1 => (with_reducible repeat (first | apply Kd.S_alloc | apply Kd.S_drewN | apply Kd.S_drew)); exact HO_5.out); (case side2 => repeat (first | (with_reducible first | exact HB.out | apply below_alloc | apply pw_below_drewN | apply below_drew1) | exact HB.out)); rintro e w21 ⟨rfl, hb, hk, hs⟩; refine ⟨_, rfl, ?_⟩; have n0_ := Aside0.mk (Kd.S_step (ok := fun k_ => _ ∧ k_ < w6.heap.size) au72 (fun k_ ho_ hlt_ => hk.2 k_ hlt_ (fun hP => absurd ho_.2 (Nat.not_lt.2 hP.2)))); have n1_ := Aside0.mk hs; have n2_ := Aside0.mk hb; clear HO_3; clear HO_5; clear HB; have HO_3 := n0_; have HO_5 := n1_; have HB := n2_; clear n0_ n1_ n2_; (try clear hb); (try clear hk); (try clear hs)) | ((with_reducible refine gate_callee (f := 8) rfl ?_); refine goesL_ (some 38) rfl rfl Tryd.func8 (by kernel_rfl) rfl #[.slice Ao20 t329.length co20, .int .i64 1] rfl au24 ?_; (with_reducible refine (held_at kj4 _ _ _ (mkN 1 t329) 1 t335 _ (mkN_len t329 1) ?side1 ?side2 A18.out).mono ?_); (case side1 => repeat (first | exact (Kd.S_reads' HO_5.out).2.2 | (with_reducible refine Kd.C_alloc ?_ _) | (with_reducible refine Kd.C_drewN ?_ _) | (with_reducible refine Kd.C_drew ?_))); (case side2 => rw [mkN_len]; exact (Kd.S_reads' HO_5.out).2.1); rintro e w22 ⟨rfl, hb⟩; refine ⟨_, rfl, ?_⟩; replace HO_3 := Aside0.mk (Kd.S_below au72 hb); replace HO_5 := Aside0.mk (Kd.S_below au73 hb); replace HB := Aside0.mk (below_step au27 hb); (try clear hb)))
  go_ret
  exact ax2) : P := h
set_option maxRecDepth 100000 in
theorem laws_FnExactParseNames.L1 {P : Prop} (h : P := by
  go_wp2_with (first | ((with_reducible refine gate_callee (f := 8) rfl ?_); refine goesL_ (some 60) rfl rfl Tryd.func8 (by kernel_rfl) rfl #[.slice Ao26 t329.length co26, .int .i64 1] rfl au24 ?_; (with_reducible refine (held_at kj24 _ _ _ (mkN 1 t329) 1 t341 _ (mkN_len t329 1) ?side1 ?side2 A39.out).mono ?_); (case side1 => repeat (first | exact (Kd.S_reads' HO_5.out).2.2 | (with_reducible refine Kd.C_alloc ?_ _) | (with_reducible refine Kd.C_drewN ?_ _) | (with_reducible refine Kd.C_drew ?_))); (case side2 => rw [mkN_len]; exact (Kd.S_reads' HO_5.out).2.1); rintro e w41 ⟨rfl, hb⟩; refine ⟨_, rfl, ?_⟩; replace HO_5 := Aside0.mk (Kd.S_below au73 hb); replace HB := Aside0.mk (below_step au27 hb); (try clear hb)))
  go_ret
  exact ax2) : P := h
set_option maxHeartbeats 8000000 in
set_option maxRecDepth 100000 in
theorem laws_FnExactParseNames.calls (k : Nat) (a0 : ByteArray) (r : Bool) (w : World) {gF1 gF2 gF3 : Bool} (hG : GL gF1 gF2 gF3 w) (h : laws_FnExactParseNames.f k a0 = some r) :
  Calls Tryd.prog 3 #[.string a0] w fun e w' => e = .returned (.bool r) ∧ Below w.heap.size w w' := by
 have HG := Aside0.mk hG
 clear hG
 have HB := Aside0.mk (Below.refl w.heap.size w)
 have H : (if (a0.size : Int) > 1048576 then (some true) else ((spec_ParseNames.f k a0).bind fun bt325 => ((impl_ParseNames.f k a0).bind fun bt329 => ((laws_eqNameS.f k bt329.1 bt325.1).bind fun t333 => (if t333 = true then (laws_FnExactParseNames.j0 k a0 bt325.1 bt325.2 bt329.1 (bt329.2 != bt325.2)) else (laws_FnExactParseNames.j0 k a0 bt325.1 bt325.2 bt329.1 true)))))) = some r := h
 clear h
 by_cases c2 : (a0.size : Int) > 1048576
 ·
  rw [if_pos c2] at H
  have c2b0 : decide (1048576 < (a0.size : Int)) = true := decide_eq_true c2
  have c2b1 : decide (1048576 < a0.size) = true := decide_eq_true (by omega)
  clear c2
  obtain rfl := Option.some.inj H
  go_enter Tryd.func3, Tryd.ntmps3
  go_wp2
  go_ret
  exact ax2
 ·
  rw [if_neg c2] at H
  have c2b0 : decide (1048576 < (a0.size : Int)) = false := decide_eq_false c2
  have c2b1 : decide (1048576 < a0.size) = false := decide_eq_false (by omega)
  clear c2
  replace H := Option.bind_eq_some_iff.mp H
  obtain ⟨⟨t325, t326⟩, A30, H⟩ := H
  replace H : ((impl_ParseNames.f k a0).bind fun bt329 => ((laws_eqNameS.f k bt329.1 t325).bind fun t333 => (if t333 = true then (laws_FnExactParseNames.j0 k a0 t325 t326 bt329.1 (bt329.2 != t326)) else (laws_FnExactParseNames.j0 k a0 t325 t326 bt329.1 true)))) = some r := H
  have A3 := Aside0.mk A30
  clear A30
  replace H := Option.bind_eq_some_iff.mp H
  obtain ⟨⟨t329, t330⟩, A40, H⟩ := H
  replace H : ((laws_eqNameS.f k t329 t325).bind fun t333 => (if t333 = true then (laws_FnExactParseNames.j0 k a0 t325 t326 t329 (t330 != t326)) else (laws_FnExactParseNames.j0 k a0 t325 t326 t329 true))) = some r := H
  have A4 := Aside0.mk A40
  clear A40
  have HC5 := Aside0.mk H
  clear H
  go_enter Tryd.func3, Tryd.ntmps3
  go_upto_region 5 with (first | ((with_reducible refine gate_callee (f := 4) rfl ?_); refine goesL_ (some 16) rfl rfl Tryd.func4 (by kernel_rfl) rfl #[.string a0] rfl au24 ?_; (with_reducible refine (spec_ParseNames.calls k a0 t325 t326 _ A3.out).mono ?_); rintro e w6 ⟨v327, rfl, ho0, hb⟩; refine ⟨_, rfl, ?_⟩; have HO328 := Aside0.mk (Kd.S_lower ho0 (below_size au27)); replace HB := Aside0.mk (below_step au27 hb); (try clear hb); (try clear ho0)) | ((with_reducible refine gate_callee (f := 5) rfl ?_); refine goesL_ (some 21) rfl rfl Tryd.func5 (by kernel_rfl) rfl #[.string a0] rfl au24 ?_; (with_reducible refine (impl_ParseNames.calls (hG := au4) k a0 t329 t330 _ A4.out).mono ?_); rintro e w7 ⟨v331, rfl, ho0, hb⟩; refine ⟨_, rfl, ?_⟩; have HO332 := Aside0.mk (Kd.S_lower (Kd.S_mono (ok' := fun k_ => some k_ ≠ (v327 : Value).ownBlock ∧ w6.heap.size ≤ k_) (Kd.S_bound (Kd.S_new' ho0 (Kd.S_lt au66))) (fun _ hk_ => ⟨hk_.1.2, hk_.2.1⟩)) (below_size au27)); replace HO328 := Aside0.mk (Kd.S_mono (ok' := fun k_ => some k_ ≠ (v331 : Value).ownBlock ∧ k_ < w6.heap.size) (Kd.S_old au66 hb) (fun k_ hk_ => ⟨fun e_ => absurd hk_.2 (Nat.not_lt.2 (Kd.S_base ho0 k_ e_.symm)), hk_.2⟩)); replace HB := Aside0.mk (below_step au27 hb); (try clear hb); (try clear ho0)))
  (try simp only [Act.put, List.setIfInBounds_toArray, List.set_cons_zero, List.set_cons_succ])
  go_cut [32] (fun v32 wc => ∃ (kq : Nat) (x32_4 : Bool), v32 = .bool x32_4 ∧ Aside0 (laws_FnExactParseNames.j0 kq a0 t325 t326 t329 x32_4 = some r) ∧ Aside0 (kq ≤ k) ∧ Aside0 (Kd.S k31 31 wc w.heap.size (fun k_ => some k_ ≠ (v331 : Value).ownBlock ∧ k_ < w6.heap.size) v327 t325) ∧ Aside0 (Kd.S k31 31 wc w.heap.size (fun k_ => some k_ ≠ (v327 : Value).ownBlock ∧ w6.heap.size ≤ k_) v331 t329) ∧ Aside0 (Below w.heap.size w wc))
  case first =>
   have H := HC5.out
   clear HC5
   replace H := Option.bind_eq_some_iff.mp H
   obtain ⟨t333, A80, H⟩ := H
   try dsimp only at H
   have A8 := Aside0.mk A80
   clear A80
   by_cases c9 : t333 = true
   ·
    subst c9
    replace H := (if_pos rfl).symm.trans H
    have H' := Aside0.mk H
    clear H
    obtain ⟨Ao10, co10, eo10⟩ := Kd.S_slice HO332.out
    subst eo10
    obtain ⟨Ao11, co11, eo11⟩ := Kd.S_slice HO328.out
    subst eo11
    go_wp2_with (first | ((with_reducible refine gate_callee (f := 6) rfl ?_); refine goesL_ (some 26) rfl rfl Tryd.func6 (by kernel_rfl) rfl #[.slice Ao10 t329.length co10, .slice Ao11 t325.length co11] rfl au24 ?_; (with_reducible refine (laws_eqNameS.calls k _ _ t329 _ _ t325 _ _ ?side1 ?side2 ?side3 ?side4 A8.out).mono ?_); (case side1 => repeat (first | exact (Kd.S_reads' HO332.out).2.2 | (with_reducible refine Kd.C_alloc ?_ _) | (with_reducible refine Kd.C_drewN ?_ _) | (with_reducible refine Kd.C_drew ?_))); (case side2 => exact (Kd.S_reads' HO332.out).2.1); (case side3 => repeat (first | exact (Kd.S_reads' HO328.out).2.2 | (with_reducible refine Kd.C_alloc ?_ _) | (with_reducible refine Kd.C_drewN ?_ _) | (with_reducible refine Kd.C_drew ?_))); (case side4 => exact (Kd.S_reads' HO328.out).2.1); rintro e w12 ⟨rfl, hb⟩; refine ⟨_, rfl, ?_⟩; replace HO328 := Aside0.mk (Kd.S_below au66 hb); replace HO332 := Aside0.mk (Kd.S_below au67 hb); replace HB := Aside0.mk (below_step au27 hb); (try clear hb)))
    go_meet
    case rel => exact ⟨_, ((t330 != t326)), au76, H', ⟨by first | omega | exact Nat.le_refl _⟩, ⟨by (with_reducible repeat (first | apply Kd.S_alloc | apply Kd.S_drewN | apply Kd.S_drew)); exact Kd.S_mono HO328.out (fun _ hk => hk)⟩, ⟨by (with_reducible repeat (first | apply Kd.S_alloc | apply Kd.S_drewN | apply Kd.S_drew)); exact Kd.S_mono HO332.out (fun _ hk => hk)⟩, ⟨by repeat (first | (with_reducible first | exact HB.out | apply below_alloc | apply pw_below_drewN | apply below_drew1) | exact HB.out)⟩⟩
   ·
    replace c9 := Bool.eq_false_iff.mpr c9
    subst c9
    replace H := (if_neg (show ¬ (false = true) by decide)).symm.trans H
    have H' := Aside0.mk H
    clear H
    obtain ⟨Ao13, co13, eo13⟩ := Kd.S_slice HO332.out
    subst eo13
    obtain ⟨Ao14, co14, eo14⟩ := Kd.S_slice HO328.out
    subst eo14
    go_wp2_with (first | ((with_reducible refine gate_callee (f := 6) rfl ?_); refine goesL_ (some 26) rfl rfl Tryd.func6 (by kernel_rfl) rfl #[.slice Ao13 t329.length co13, .slice Ao14 t325.length co14] rfl au24 ?_; (with_reducible refine (laws_eqNameS.calls k _ _ t329 _ _ t325 _ _ ?side1 ?side2 ?side3 ?side4 A8.out).mono ?_); (case side1 => repeat (first | exact (Kd.S_reads' HO332.out).2.2 | (with_reducible refine Kd.C_alloc ?_ _) | (with_reducible refine Kd.C_drewN ?_ _) | (with_reducible refine Kd.C_drew ?_))); (case side2 => exact (Kd.S_reads' HO332.out).2.1); (case side3 => repeat (first | exact (Kd.S_reads' HO328.out).2.2 | (with_reducible refine Kd.C_alloc ?_ _) | (with_reducible refine Kd.C_drewN ?_ _) | (with_reducible refine Kd.C_drew ?_))); (case side4 => exact (Kd.S_reads' HO328.out).2.1); rintro e w15 ⟨rfl, hb⟩; refine ⟨_, rfl, ?_⟩; replace HO328 := Aside0.mk (Kd.S_below au66 hb); replace HO332 := Aside0.mk (Kd.S_below au67 hb); replace HB := Aside0.mk (below_step au27 hb); (try clear hb)))
    go_meet
    case rel => exact ⟨_, (true), au76, H', ⟨by first | omega | exact Nat.le_refl _⟩, ⟨by (with_reducible repeat (first | apply Kd.S_alloc | apply Kd.S_drewN | apply Kd.S_drew)); exact Kd.S_mono HO328.out (fun _ hk => hk)⟩, ⟨by (with_reducible repeat (first | apply Kd.S_alloc | apply Kd.S_drewN | apply Kd.S_drew)); exact Kd.S_mono HO332.out (fun _ hk => hk)⟩, ⟨by repeat (first | (with_reducible first | exact HB.out | apply below_alloc | apply pw_below_drewN | apply below_drew1) | exact HB.out)⟩⟩
  case rest =>
   clear HC5
   try clear c2
   try clear c2b0
   try clear c2b1
   try clear p2
   try clear c3
   try clear c4
   try clear c5
   try clear c6
   try clear c9
   obtain ⟨kq, x32_4, rfl, HA, HJ4, HO_3, HO_5, HB⟩ := hcut
   cases kq with
   | zero => exact absurd HA.out (by simp [laws_FnExactParseNames.j0])
   | succ kj4 =>
    have H := HA.out
    clear HA
    simp only [laws_FnExactParseNames.j0] at H
    by_cases c16 : x32_4 = true
    ·
     subst c16
     replace H := (if_pos rfl).symm.trans H
     obtain rfl := Option.some.inj H
     exact laws_FnExactParseNames.L0
    ·
     replace c16 := Bool.eq_false_iff.mpr c16
     subst c16
     replace H := (if_neg (show ¬ (false = true) by decide)).symm.trans H
     replace H := Option.bind_eq_some_iff.mp H
     obtain ⟨t334, A170, H⟩ := H
     try dsimp only at H
     have A17 := Aside0.mk A170
     clear A170
     replace H := Option.bind_eq_some_iff.mp H
     obtain ⟨t335, A180, H⟩ := H
     try dsimp only at H
     have A18 := Aside0.mk A180
     clear A180
     by_cases c19 : t335 < 0
     ·
      rw [if_pos c19] at H
      have c19b0 : decide (t335 < 0) = true := decide_eq_true c19
      clear c19
      obtain rfl := Option.some.inj H
      obtain ⟨Ao20, co20, eo20⟩ := Kd.S_slice HO_5.out
      subst eo20
      exact laws_FnExactParseNames.L0
     ·
      rw [if_neg c19] at H
      have c19b0 : decide (t335 < 0) = false := decide_eq_false c19
      clear c19
      by_cases c23 : t335 = t334
      ·
       rw [if_pos c23] at H
       have c23b0 : (t335 == t334) = true := beq_iff_eq.mpr c23
       have c23b1 : (t335 != t334) = false := bne_eq_false_iff_eq.mpr c23
       clear c23
       replace H := Option.bind_eq_some_iff.mp H
       obtain ⟨⟨t336, t337⟩, A240, H⟩ := H
       replace H : ((laws_eqNameS.f kj4 t336 t325).bind fun t340 => (if t340 = true then (laws_FnExactParseNames.j1 kj4 (mkN 1 t329) t334 (t337 != t326)) else (laws_FnExactParseNames.j1 kj4 (mkN 1 t329) t334 true))) = some r := H
       have A24 := Aside0.mk A240
       clear A240
       have HC25 := Aside0.mk H
       clear H
       obtain ⟨Ao26, co26, eo26⟩ := Kd.S_slice HO_5.out
       subst eo26
       go_upto_region 16 with (first | ((with_reducible refine gate_callee (f := 7) rfl ?_); refine goesL_ (some 35) rfl rfl Tryd.func7 (by kernel_rfl) rfl #[.slice Ao26 t329.length co26, .int .i64 1] rfl au24 ?_; (with_reducible refine (laws_markNameS.calls HO_5.out 1 t334 _ ?side1 ?side2 A17.out).mono ?_); (case side1 => (with_reducible repeat (first | apply Kd.S_alloc | apply Kd.S_drewN | apply Kd.S_drew)); exact HO_5.out); (case side2 => repeat (first | (with_reducible first | exact HB.out | apply below_alloc | apply pw_below_drewN | apply below_drew1) | exact HB.out)); rintro e w27 ⟨rfl, hb, hk, hs⟩; refine ⟨_, rfl, ?_⟩; have n0_ := Aside0.mk (Kd.S_step (ok := fun k_ => _ ∧ k_ < w6.heap.size) au72 (fun k_ ho_ hlt_ => hk.2 k_ hlt_ (fun hP => absurd ho_.2 (Nat.not_lt.2 hP.2)))); have n1_ := Aside0.mk hs; have n2_ := Aside0.mk hb; clear HO_3; clear HO_5; clear HB; have HO_3 := n0_; have HO_5 := n1_; have HB := n2_; clear n0_ n1_ n2_; (try clear hb); (try clear hk); (try clear hs)) | ((with_reducible refine gate_callee (f := 8) rfl ?_); refine goesL_ (some 38) rfl rfl Tryd.func8 (by kernel_rfl) rfl #[.slice Ao26 t329.length co26, .int .i64 1] rfl au24 ?_; (with_reducible refine (held_at kj4 _ _ _ (mkN 1 t329) 1 t335 _ (mkN_len t329 1) ?side1 ?side2 A18.out).mono ?_); (case side1 => repeat (first | exact (Kd.S_reads' HO_5.out).2.2 | (with_reducible refine Kd.C_alloc ?_ _) | (with_reducible refine Kd.C_drewN ?_ _) | (with_reducible refine Kd.C_drew ?_))); (case side2 => rw [mkN_len]; exact (Kd.S_reads' HO_5.out).2.1); rintro e w28 ⟨rfl, hb⟩; refine ⟨_, rfl, ?_⟩; replace HO_3 := Aside0.mk (Kd.S_below au72 hb); replace HO_5 := Aside0.mk (Kd.S_below au73 hb); replace HB := Aside0.mk (below_step au27 hb); (try clear hb)) | ((with_reducible refine gate_callee (f := 5) rfl ?_); refine goesL_ (some 46) rfl rfl Tryd.func5 (by kernel_rfl) rfl #[.string a0] rfl au24 ?_; (with_reducible refine (impl_ParseNames.calls (hG := au4) kj4 a0 t336 t337 _ A24.out).mono ?_); rintro e w29 ⟨v338, rfl, ho0, hb⟩; refine ⟨_, rfl, ?_⟩; have HO339 := Aside0.mk (Kd.S_lower (Kd.S_new' (Kd.S_new' ho0 (Kd.S_lt au72)) (Kd.S_lt au73)) (below_size au27)); replace HO_3 := Aside0.mk (Kd.S_elder' au72 (Kd.S_base ho0) hb); replace HO_5 := Aside0.mk (Kd.S_elder' au73 (Kd.S_base ho0) hb); replace HB := Aside0.mk (below_step au27 hb); (try clear hb); (try clear ho0)))
       (try simp only [Act.put, List.setIfInBounds_toArray, List.set_cons_zero, List.set_cons_succ])
       go_cut [57] (fun v57 wc => ∃ (kq : Nat) (x57_24 : Bool), v57 = .bool x57_24 ∧ Aside0 (laws_FnExactParseNames.j1 kq (mkN 1 t329) t334 x57_24 = some r) ∧ Aside0 (kq ≤ kj4) ∧ Aside0 (Kd.S k31 31 wc w.heap.size (fun _ => True) (.slice Ao26 t329.length co26) (mkN 1 t329)) ∧ Aside0 (Below w.heap.size w wc))
       case first =>
        have H := HC25.out
        clear HC25
        replace H := Option.bind_eq_some_iff.mp H
        obtain ⟨t340, A300, H⟩ := H
        try dsimp only at H
        have A30 := Aside0.mk A300
        clear A300
        by_cases c31 : t340 = true
        ·
         subst c31
         replace H := (if_pos rfl).symm.trans H
         have H' := Aside0.mk H
         clear H
         obtain ⟨Ao32, co32, eo32⟩ := Kd.S_slice HO339.out
         subst eo32
         obtain ⟨Ao33, co33, eo33⟩ := Kd.S_slice HO_3.out
         subst eo33
         go_wp2_with (first | ((with_reducible refine gate_callee (f := 6) rfl ?_); refine goesL_ (some 51) rfl rfl Tryd.func6 (by kernel_rfl) rfl #[.slice Ao32 t336.length co32, .slice Ao33 t325.length co33] rfl au24 ?_; (with_reducible refine (laws_eqNameS.calls kj4 _ _ t336 _ _ t325 _ _ ?side1 ?side2 ?side3 ?side4 A30.out).mono ?_); (case side1 => repeat (first | exact (Kd.S_reads' HO339.out).2.2 | (with_reducible refine Kd.C_alloc ?_ _) | (with_reducible refine Kd.C_drewN ?_ _) | (with_reducible refine Kd.C_drew ?_))); (case side2 => exact (Kd.S_reads' HO339.out).2.1); (case side3 => repeat (first | exact (Kd.S_reads' HO_3.out).2.2 | (with_reducible refine Kd.C_alloc ?_ _) | (with_reducible refine Kd.C_drewN ?_ _) | (with_reducible refine Kd.C_drew ?_))); (case side4 => exact (Kd.S_reads' HO_3.out).2.1); rintro e w34 ⟨rfl, hb⟩; refine ⟨_, rfl, ?_⟩; replace HO_3 := Aside0.mk (Kd.S_below au72 hb); replace HO_5 := Aside0.mk (Kd.S_below au73 hb); replace HO339 := Aside0.mk (Kd.S_below au68 hb); replace HB := Aside0.mk (below_step au27 hb); (try clear hb)))
         go_meet
         case rel => exact ⟨_, ((t337 != t326)), au76, H', ⟨by have := HJ4.out; first | omega | exact Nat.le_refl _⟩, ⟨by (with_reducible repeat (first | apply Kd.S_alloc | apply Kd.S_drewN | apply Kd.S_drew)); exact Kd.S_mono HO_5.out (fun _ hk => trivial)⟩, ⟨by repeat (first | (with_reducible first | exact HB.out | apply below_alloc | apply pw_below_drewN | apply below_drew1) | exact HB.out)⟩⟩
        ·
         replace c31 := Bool.eq_false_iff.mpr c31
         subst c31
         replace H := (if_neg (show ¬ (false = true) by decide)).symm.trans H
         have H' := Aside0.mk H
         clear H
         obtain ⟨Ao35, co35, eo35⟩ := Kd.S_slice HO339.out
         subst eo35
         obtain ⟨Ao36, co36, eo36⟩ := Kd.S_slice HO_3.out
         subst eo36
         go_wp2_with (first | ((with_reducible refine gate_callee (f := 6) rfl ?_); refine goesL_ (some 51) rfl rfl Tryd.func6 (by kernel_rfl) rfl #[.slice Ao35 t336.length co35, .slice Ao36 t325.length co36] rfl au24 ?_; (with_reducible refine (laws_eqNameS.calls kj4 _ _ t336 _ _ t325 _ _ ?side1 ?side2 ?side3 ?side4 A30.out).mono ?_); (case side1 => repeat (first | exact (Kd.S_reads' HO339.out).2.2 | (with_reducible refine Kd.C_alloc ?_ _) | (with_reducible refine Kd.C_drewN ?_ _) | (with_reducible refine Kd.C_drew ?_))); (case side2 => exact (Kd.S_reads' HO339.out).2.1); (case side3 => repeat (first | exact (Kd.S_reads' HO_3.out).2.2 | (with_reducible refine Kd.C_alloc ?_ _) | (with_reducible refine Kd.C_drewN ?_ _) | (with_reducible refine Kd.C_drew ?_))); (case side4 => exact (Kd.S_reads' HO_3.out).2.1); rintro e w37 ⟨rfl, hb⟩; refine ⟨_, rfl, ?_⟩; replace HO_3 := Aside0.mk (Kd.S_below au72 hb); replace HO_5 := Aside0.mk (Kd.S_below au73 hb); replace HO339 := Aside0.mk (Kd.S_below au68 hb); replace HB := Aside0.mk (below_step au27 hb); (try clear hb)))
         go_meet
         case rel => exact ⟨_, (true), au76, H', ⟨by have := HJ4.out; first | omega | exact Nat.le_refl _⟩, ⟨by (with_reducible repeat (first | apply Kd.S_alloc | apply Kd.S_drewN | apply Kd.S_drew)); exact Kd.S_mono HO_5.out (fun _ hk => trivial)⟩, ⟨by repeat (first | (with_reducible first | exact HB.out | apply below_alloc | apply pw_below_drewN | apply below_drew1) | exact HB.out)⟩⟩
       case rest =>
        clear HC25
        try clear c1
        try clear c2
        try clear c2b0
        try clear c2b1
        try clear p2
        try clear c3
        try clear c4
        try clear c5
        try clear c6
        try clear c7
        try clear c8
        try clear c9
        try clear c16
        try clear c19
        try clear c19b0
        try clear c23
        try clear c23b0
        try clear c23b1
        try clear c31
        try clear p2
        obtain ⟨kq, x57_24, rfl, HA, HJ24, HO_5, HB⟩ := hcut
        cases kq with
        | zero => exact absurd HA.out (by simp [laws_FnExactParseNames.j1])
        | succ kj24 =>
         have H := HA.out
         clear HA
         simp only [laws_FnExactParseNames.j1] at H
         by_cases c38 : x57_24 = true
         ·
          subst c38
          replace H := (if_pos rfl).symm.trans H
          obtain rfl := Option.some.inj H
          exact laws_FnExactParseNames.L0
         ·
          replace c38 := Bool.eq_false_iff.mpr c38
          subst c38
          replace H := (if_neg (show ¬ (false = true) by decide)).symm.trans H
          replace H := Option.bind_eq_some_iff.mp H
          obtain ⟨t341, A390, H⟩ := H
          try dsimp only at H
          have A39 := Aside0.mk A390
          clear A390
          by_cases c40 : t341 < 0
          ·
           rw [if_pos c40] at H
           have c40b0 : decide (t341 < 0) = true := decide_eq_true c40
           clear c40
           obtain rfl := Option.some.inj H
           exact laws_FnExactParseNames.L1
          ·
           rw [if_neg c40] at H
           have c40b0 : decide (t341 < 0) = false := decide_eq_false c40
           clear c40
           by_cases c42 : t341 = t334
           ·
            rw [if_pos c42] at H
            have c42b0 : (t341 == t334) = true := beq_iff_eq.mpr c42
            have c42b1 : (t341 != t334) = false := bne_eq_false_iff_eq.mpr c42
            clear c42
            obtain rfl := Option.some.inj H
            exact laws_FnExactParseNames.L1
           ·
            rw [if_neg c42] at H
            have c42b0 : (t341 == t334) = false := beq_eq_false_iff_ne.mpr c42
            have c42b1 : (t341 != t334) = true := bne_iff_ne.mpr c42
            obtain rfl := Option.some.inj H
            exact laws_FnExactParseNames.L1
      ·
       rw [if_neg c23] at H
       have c23b0 : (t335 == t334) = false := beq_eq_false_iff_ne.mpr c23
       have c23b1 : (t335 != t334) = true := bne_iff_ne.mpr c23
       obtain rfl := Option.some.inj H
       obtain ⟨Ao45, co45, eo45⟩ := Kd.S_slice HO_5.out
       subst eo45
       go_wp2_with (first | ((with_reducible refine gate_callee (f := 7) rfl ?_); refine goesL_ (some 35) rfl rfl Tryd.func7 (by kernel_rfl) rfl #[.slice Ao45 t329.length co45, .int .i64 1] rfl au24 ?_; (with_reducible refine (laws_markNameS.calls HO_5.out 1 t334 _ ?side1 ?side2 A17.out).mono ?_); (case side1 => (with_reducible repeat (first | apply Kd.S_alloc | apply Kd.S_drewN | apply Kd.S_drew)); exact HO_5.out); (case side2 => repeat (first | (with_reducible first | exact HB.out | apply below_alloc | apply pw_below_drewN | apply below_drew1) | exact HB.out)); rintro e w46 ⟨rfl, hb, hk, hs⟩; refine ⟨_, rfl, ?_⟩; have n0_ := Aside0.mk (Kd.S_step (ok := fun k_ => _ ∧ k_ < w6.heap.size) au72 (fun k_ ho_ hlt_ => hk.2 k_ hlt_ (fun hP => absurd ho_.2 (Nat.not_lt.2 hP.2)))); have n1_ := Aside0.mk hs; have n2_ := Aside0.mk hb; clear HO_3; clear HO_5; clear HB; have HO_3 := n0_; have HO_5 := n1_; have HB := n2_; clear n0_ n1_ n2_; (try clear hb); (try clear hk); (try clear hs)) | ((with_reducible refine gate_callee (f := 8) rfl ?_); refine goesL_ (some 38) rfl rfl Tryd.func8 (by kernel_rfl) rfl #[.slice Ao45 t329.length co45, .int .i64 1] rfl au24 ?_; (with_reducible refine (held_at kj4 _ _ _ (mkN 1 t329) 1 t335 _ (mkN_len t329 1) ?side1 ?side2 A18.out).mono ?_); (case side1 => repeat (first | exact (Kd.S_reads' HO_5.out).2.2 | (with_reducible refine Kd.C_alloc ?_ _) | (with_reducible refine Kd.C_drewN ?_ _) | (with_reducible refine Kd.C_drew ?_))); (case side2 => rw [mkN_len]; exact (Kd.S_reads' HO_5.out).2.1); rintro e w47 ⟨rfl, hb⟩; refine ⟨_, rfl, ?_⟩; replace HO_3 := Aside0.mk (Kd.S_below au72 hb); replace HO_5 := Aside0.mk (Kd.S_below au73 hb); replace HB := Aside0.mk (below_step au27 hb); (try clear hb)))
       go_ret
       exact ax2



end Go.Proofs.YtefoiofododliaaDoor.G

namespace Go.Proofs.YtefoiofododliaaDoor.Opn
open Go.RowKit Go.Proofs.YtefoiofododliaaDoorW.PrintWords
set_option linter.unusedVariables false
set_option linter.unusedSimpArgs false
variable {H : Type} {enc : TypeId × Value → H} {P : Program} {w : World} {base : Nat} {spare : Nat → Bool} {held : Bool}
def okStr (s : ByteArray) : Prop := s.size ≤ 9223372036854775807
end Go.Proofs.YtefoiofododliaaDoor.Opn

namespace Go.Proofs.YtefoiofododliaaDoor.G
open Go.Proofs.YtefoiofododliaaDoor.Opn
open Go.RowKit Go.Proofs.YtefoiofododliaaDoorW.PrintWords Go.Proofs.YtefoiofododliaaDoorW.PrintLast Go.Proofs.YtefoiofododliaaDoorW.PrintMore
open Go.Proofs.YtefoiofododliaaDoor.Gl Go.Proofs.YtefoiofododliaaDoor.Ext
attribute [local go_sem] max2_int min2_int max_two min_two max_three min_three max_four min_four   -- for this text's walks alone
set_option linter.unusedVariables false
set_option linter.unusedSimpArgs false


def laws_FnExactParseNames.Pur : Prop := ∀ (a0 : ByteArray), okStr a0 → ∃ k, laws_FnExactParseNames.f k a0 = some true
theorem laws_FnExactParseNames.wlk (P : laws_FnExactParseNames.Pur) (a0 : ByteArray) (w : World)  {gF1 gF2 gF3 : Bool} (hG : GL gF1 gF2 gF3 w) (ba0 : okStr a0) :
    Calls Tryd.prog 3 #[.string a0] w fun e w' => e = .returned (.bool true) ∧ Below w.heap.size w w' := by
  obtain ⟨k, h⟩ := P a0 ba0
  refine (laws_FnExactParseNames.calls k a0 true w hG  h).mono ?_
  rintro e w' ⟨rfl, hd⟩
  exact ⟨rfl, hd⟩

end Go.Proofs.YtefoiofododliaaDoor.G

namespace Go.Proofs.YtefoiofododliaaDoor.B
open Go.RowKit Go.Proofs.YtefoiofododliaaDoorW.PrintWords Go.Proofs.YtefoiofododliaaDoorW.PrintLast
set_option linter.unusedVariables false
set_option linter.unusedSimpArgs false
def ahd (seg : List UInt8) : List (List UInt8) → List (List UInt8)
  | [] => [seg]
  | h :: t => (seg ++ h) :: t
def spl (b : UInt8) : List UInt8 → List (List UInt8)
  | [] => [[]]
  | c :: cs => if c = b then [] :: spl b cs else ahd [c] (spl b cs)
theorem spl_nil (b : UInt8) : spl b [] = [[]] := rfl
theorem spl_cons (b c : UInt8) (cs : List UInt8) : spl b (c :: cs) = if c = b then [] :: spl b cs else ahd [c] (spl b cs) := rfl
theorem spl_ne (b : UInt8) (l : List UInt8) : spl b l ≠ [] := by
  cases l with
  | nil => simp [spl]
  | cons c cs => unfold spl; split <;> simp; unfold ahd; split <;> simp
theorem ahd_nil (p : List (List UInt8)) (h : p ≠ []) : ahd [] p = p := by cases p <;> simp_all [ahd]
theorem ahd_ahd (a b : List UInt8) (p : List (List UInt8)) : ahd a (ahd b p) = ahd (a ++ b) p := by cases p <;> simp [ahd]
theorem spl_length (b : UInt8) (l : List UInt8) : (spl b l).length ≤ l.length + 1 := by
  induction l with
  | nil => simp [spl]
  | cons c cs ih =>
    unfold spl
    split
    · simp; omega
    · cases h : spl b cs with
      | nil => exact absurd h (spl_ne b cs)
      | cons p q => rw [h] at ih; simp [ahd] at ih ⊢; omega
theorem spl_step (b : UInt8) (l : List UInt8) (from_ i : Nat) (hi : i < l.length) (hf : from_ ≤ i) :
    ahd ((l.drop from_).take (i - from_)) (spl b (l.drop i)) =
      if l[i] = b then ((l.drop from_).take (i - from_)) :: spl b (l.drop (i + 1)) else ahd ((l.drop from_).take (i + 1 - from_)) (spl b (l.drop (i + 1))) := by
  rw [List.drop_eq_getElem_cons hi, spl_cons]
  by_cases h : l[i] = b
  · rw [if_pos h, if_pos h]
    simp [ahd]
  · rw [if_neg h, if_neg h]
    have e : (l.drop from_).take (i + 1 - from_) = (l.drop from_).take (i - from_) ++ [l[i]] := by
      rw [show i + 1 - from_ = (i - from_) + 1 by omega, List.take_succ_eq_append_getElem (by rw [List.length_drop]; omega)]
      congr 2
      rw [List.getElem_drop]
      congr 1
      omega
    rw [e]
    exact ahd_ahd _ _ _
theorem spl_none (c : UInt8) : ∀ l : List UInt8, (∀ k : Nat, l[k]? ≠ some c) → spl c l = [l]
  | [], _ => rfl
  | a :: l, h => by
    have h0 : a ≠ c := fun e => h 0 (by simp [e])
    rw [spl_cons, if_neg h0, spl_none c l (fun k => by simpa using h (k + 1))]; rfl
theorem spl_first (c : UInt8) : ∀ (i : Nat) (l : List UInt8), l[i]? = some c → (∀ k : Nat, k < i → l[k]? ≠ some c) → spl c l = l.take i :: spl c (l.drop (i + 1))
  | 0, [], h, _ => by simp at h
  | 0, a :: l, h, _ => by
    have h0 : a = c := by simpa using h
    rw [spl_cons, if_pos h0]; rfl
  | i + 1, [], h, _ => by simp at h
  | i + 1, a :: l, h, hk => by
    have h0 : a ≠ c := fun e => hk 0 (by omega) (by simp [e])
    rw [spl_cons, if_neg h0, spl_first c i l (by simpa using h) (fun k hk' => by simpa using hk (k + 1) (by omega))]
    rfl
theorem indexB_one (s : ByteArray) (c : UInt8) : Lib.indexB s (mkB [c]) = Lib.indexByte (L s) c := by
  unfold Lib.indexB
  have : (mkB [c]).data.toList = [c] := L_mk [c]
  rw [this]
  exact Lib.index_one _ _
theorem splitB_spl (c : UInt8) (n : Nat) : ∀ s : ByteArray, s.size ≤ n → (Lib.splitB (mkB [c]) 0 (Lib.countB s (mkB [c])) s).map L = spl c (L s) := by
  have h1 : (mkB [c]).size = 1 := by rw [size_mk]; rfl
  induction n with
  | zero =>
    intro s hs
    rcases Lib.indexB_cases s (mkB [c]) with hm | ⟨i, hi, hr⟩
    · rw [Lib.splitB_miss _ _ _ _ hm]
      have := Lib.indexByte_none (by rw [← indexB_one]; exact hm : Lib.indexByte (L s) c = -1)
      rw [spl_none c (L s) this]; rfl
    · omega
  | succ n ih =>
    intro s hs
    rcases Lib.indexB_cases s (mkB [c]) with hm | ⟨i, hi, hr⟩
    · rw [Lib.splitB_miss _ _ _ _ hm]
      have := Lib.indexByte_none (by rw [← indexB_one]; exact hm : Lib.indexByte (L s) c = -1)
      rw [spl_none c (L s) this]; rfl
    · rw [h1] at hr
      have hc := Lib.countB_hit s (mkB [c]) i (by omega) hi
      rw [h1] at hc
      rw [hc, Nat.add_comm 1, Lib.splitB_hit _ _ _ _ i hi, h1, List.map_cons, ih (s.extract (i + 1) s.size) (by rw [ByteArray.size_extract]; omega)]
      obtain ⟨a, b⟩ := Lib.indexByte_some (by rw [← indexB_one]; exact hi : Lib.indexByte (L s) c = i)
      rw [spl_first c i (L s) a b, L_extract, L_extract]
      congr 1
      congr 1
      rw [List.take_of_length_le (by rw [List.length_drop, L_len]; omega)]
theorem splitB_eq (c : UInt8) (s : ByteArray) : Lib.splitB (mkB [c]) 0 (Lib.countB s (mkB [c])) s = (spl c (L s)).map mkB := by
  rw [← splitB_spl c s.size s (Nat.le_refl _), List.map_map]
  have : (mkB ∘ L) = id := by funext x; exact mk_L x
  rw [this, List.map_id]
end Go.Proofs.YtefoiofododliaaDoor.B

namespace Go.Proofs.YtefoiofododliaaDoor.G
open Go.RowKit Go.Proofs.YtefoiofododliaaDoorW.PrintWords Go.Proofs.YtefoiofododliaaDoorW.PrintLast Go.Proofs.YtefoiofododliaaDoor.B
set_option linter.unusedVariables false
set_option linter.unusedSimpArgs false
theorem split_loop (s : ByteArray) (b : UInt8) (hs : s.size ≤ 8796093022000) (d : Nat) : ∀ (out : List ByteArray) (f i : Nat), out.length ≤ i → f ≤ i → i ≤ s.size → s.size - i = d →
    Ev (fun k => spec_l1Split.l0 k s (b.toNat : Int) out f i) (out ++ (ahd (((L s).drop f).take (i - f)) (spl b ((L s).drop i))).map mkB) := by
  have hL : (L s).length = s.size := L_len s
  induction d with
  | zero =>
    intro out f i h0 h1 h2 hd
    have e : i = s.size := by omega
    refine Ev.step (f := fun _ => some (out ++ [s.extract f s.size])) (fun k => ?_) (ev_eq (Ev.now _) ?_)
    · simp only [spec_l1Split.l0]
      rw [if_neg (by omega), if_pos (by omega), if_pos (by omega), if_pos (by omega)]
      simp
    · rw [List.drop_of_length_le (l := L s) (i := i) (by omega)]
      simp [spl, ahd]
      apply L_inj
      rw [L_extract, L_mk, e]
  | succ d ih =>
    intro out f i h0 h1 h2 hd
    have hlt : i < s.size := by omega
    have hlt' : i < (L s).length := by omega
    rw [spl_step b (L s) f i hlt' h1]
    have hw : wrap64 ((i : Int) + 1) = ((i + 1 : Nat) : Int) := by rw [w64 (by omega) (by omega)]; rfl
    by_cases e : (L s)[i] = b
    · rw [if_pos e]
      refine Ev.step (f := fun k => spec_l1Split.l0 k s (b.toNat : Int) (out ++ [s.extract f i]) ((i + 1 : Nat) : Int) ((i + 1 : Nat) : Int)) (fun k => ?_) (ev_eq (ih (out ++ [s.extract f i]) (i + 1) (i + 1) (by simp; omega) (by omega) (by omega) (by omega)) ?_)
      · simp only [spec_l1Split.l0]
        rw [if_pos (by omega), if_pos (by omega), if_pos (by rw [bt_get s i hlt, e]), if_pos (by omega), if_pos (by omega), if_pos (by omega), if_pos (by omega), hw]
        simp
      · rw [Nat.sub_self, List.take_zero, ahd_nil _ (spl_ne b _), List.append_assoc]
        congr 1
        simp
        apply L_inj
        rw [L_extract, L_mk]
    · rw [if_neg e]
      refine Ev.step (f := fun k => spec_l1Split.l0 k s (b.toNat : Int) out f ((i + 1 : Nat) : Int)) (fun k => ?_) (ih out f (i + 1) (by omega) (by omega) (by omega) (by omega))
      simp only [spec_l1Split.l0]
      rw [if_pos (by omega), if_pos (by omega), if_neg (by rw [bt_get s i hlt]; exact fun h => e (u8_inj h)), hw]
theorem split_ev (s : ByteArray) (b : UInt8) (hs : s.size ≤ 8796093022000) : Ev (fun k => spec_l1Split.f k s (b.toNat : Int)) ((spl b (L s)).map mkB) := by
  have := split_loop s b hs s.size [] 0 0 (by simp) (by omega) (by omega) (by omega)
  unfold spec_l1Split.f
  simpa [ahd_nil _ (spl_ne b _)] using this
def upD (c : Int) : Bool := decide (65 ≤ c) && decide (c ≤ 90)
def loD (c : Int) : Bool := decide (97 ≤ c) && decide (c ≤ 122)
def leD (c : Int) : Bool := upD c || loD c
def inD (n : Nat) : Bool := decide (1 ≤ n) && decide (n ≤ 12)
theorem spec_up (c : Int) : spec_l2Upper.f c = some (upD c) := by unfold spec_l2Upper.f upD; by_cases h : 65 ≤ c <;> simp [h]
theorem spec_lo (c : Int) : spec_l2Lower.f c = some (loD c) := by unfold spec_l2Lower.f loD; by_cases h : 97 ≤ c <;> simp [h]
theorem impl_up (c : Int) : impl_isUpper.f c = some (upD c) := by unfold impl_isUpper.f upD; by_cases h : 65 ≤ c <;> simp [h]
theorem impl_lo (c : Int) : impl_isLower.f c = some (loD c) := by unfold impl_isLower.f loD; by_cases h : 97 ≤ c <;> simp [h]
theorem spec_le (c : Int) : spec_l2Letter.f c = some (leD c) := by unfold spec_l2Letter.f leD; rw [spec_up, spec_lo]; cases upD c <;> simp
theorem impl_le (c : Int) : impl_isLetter.f c = some (leD c) := by unfold impl_isLetter.f leD; rw [impl_up, impl_lo]; cases upD c <;> simp
theorem in12 (n : Nat) : (if (n : Int) ≥ 1 then some (decide ((n : Int) ≤ 12)) else some false) = some (inD n) := by
  unfold inD
  by_cases h : 1 ≤ n
  · rw [if_pos (by omega)]
    congr 1
    rw [decide_eq_true h, Bool.true_and, decide_eq_decide]; omega
  · rw [if_neg (by omega)]; simp [h]
theorem spec_in (s : ByteArray) : spec_l1In.f (s.size : Int) 1 12 = some (inD s.size) := in12 s.size
theorem impl_in (s : ByteArray) : impl_inside.f (s.size : Int) 1 12 = some (inD s.size) := in12 s.size
theorem inD_iff {n : Nat} : inD n = true ↔ 1 ≤ n ∧ n ≤ 12 := by simp [inD]
def okD (s : ByteArray) (i : Nat) : Bool := leD (bt s i) || ((decide (bt s i = 45) || decide (bt s i = 39)) && leD (bt s ((i : Int) - 1)))
def wlD (s : ByteArray) : Nat → Nat → Bool
  | 0, _ => true
  | d + 1, i => okD s i && wlD s d (i + 1)
def wordD (s : ByteArray) : Bool := inD s.size && ((leD (bt s 0) && leD (bt s ((s.size : Int) - 1))) && wlD s (s.size - 1) 1)
def greatD (s : ByteArray) : Bool := wordD s && upD (bt s 0)
theorem word_step (s : ByteArray) (i k : Nat) (h1 : 1 ≤ i) (h2 : i < s.size) (h3 : s.size ≤ 12) : spec_l2Word.l0 (k + 1) s (i : Int) = if okD s i = true then spec_l2Word.l0 k s ((i + 1 : Nat) : Int) else some false := by
  have hw : wrap64 ((i : Int) + 1) = ((i + 1 : Nat) : Int) := by rw [w64 (by omega) (by omega)]; rfl
  have hw' : wrap64 ((i : Int) - 1) = (i : Int) - 1 := w64 (by omega) (by omega)
  have a1 : (0 : Int) ≤ (i : Int) - 1 := by omega
  have a2 : (i : Int) - 1 < (s.size : Int) := by omega
  simp only [spec_l2Word.l0]
  rw [if_pos (show (i : Int) < (s.size : Int) by omega), if_pos (show (0 : Int) ≤ (i : Int) by omega), spec_le, hw, hw']
  simp only [Option.bind_some, if_pos a1, if_pos a2, spec_le]
  unfold okD
  generalize ((i + 1 : Nat) : Int) = j
  cases leD (bt s i) <;> cases leD (bt s ((i : Int) - 1)) <;> by_cases c : bt s i = 45 <;> by_cases d : bt s i = 39 <;> simp [c, d]
theorem word_loop (s : ByteArray) (hs : s.size ≤ 12) (d : Nat) : ∀ i : Nat, 1 ≤ i → i ≤ s.size → s.size - i = d → Ev (fun k => spec_l2Word.l0 k s (i : Int)) (wlD s d i) := by
  induction d with
  | zero =>
    intro i h1 h2 hd
    refine Ev.step (f := fun _ => some true) (fun k => ?_) (Ev.now _)
    simp only [spec_l2Word.l0]; rw [if_neg (by omega)]
  | succ d ih =>
    intro i h1 h2 hd
    refine Ev.step (f := fun k => if okD s i = true then spec_l2Word.l0 k s ((i + 1 : Nat) : Int) else some false) (fun k => word_step s i k h1 (by omega) hs) ?_
    unfold wlD
    cases h : okD s i with
    | true => exact ev_pos rfl (ev_eq (ih (i + 1) (by omega) (by omega) (by omega)) (by simp))
    | false => exact ev_neg (by simp) (ev_eq (Ev.now _) (by simp))
theorem loops_eq (s : ByteArray) (k : Nat) : ∀ i : Int, impl_isNameWord.l0 k s i = spec_l2Word.l0 k s i := by
  induction k with
  | zero => intro i; simp [impl_isNameWord.l0, spec_l2Word.l0]
  | succ k ih => intro i; simp only [impl_isNameWord.l0, spec_l2Word.l0, impl_le, spec_le, ih]
theorem spec_word (s : ByteArray) : Ev (fun k => spec_l2Word.f k s) (wordD s) := by
  unfold spec_l2Word.f wordD
  cases h : inD s.size with
  | false =>
    refine Ev.step (f := fun _ => some false) (fun k => ?_) (ev_eq (Ev.now _) (by simp))
    simp only [spec_in, h, Option.bind_some, spec_l2Word.j0]; simp
  | true =>
    obtain ⟨h1, h2⟩ := inD_iff.1 h
    have hw : wrap64 ((s.size : Int) - 1) = (s.size : Int) - 1 := w64 (by omega) (by omega)
    refine Ev.step (f := fun k => if (leD (bt s 0) && leD (bt s ((s.size : Int) - 1))) = true then spec_l2Word.l0 k s ((1 : Nat) : Int) else some false) (fun k => ?_) ?_
    · have a1 : (0 : Int) < (s.size : Int) := by omega
      have a2 : (0 : Int) ≤ (s.size : Int) - 1 := by omega
      have a3 : (s.size : Int) - 1 < (s.size : Int) := by omega
      simp only [spec_in, h, Option.bind_some, if_pos a1, if_pos a2, if_pos a3, hw, spec_le, spec_l2Word.j0]
      cases leD (bt s 0) <;> cases leD (bt s ((s.size : Int) - 1)) <;> simp
    · cases h3 : (leD (bt s 0) && leD (bt s ((s.size : Int) - 1))) with
      | true => exact ev_pos rfl (ev_eq (word_loop s h2 (s.size - 1) 1 (by omega) (by omega) rfl) (by simp))
      | false => exact ev_neg (by simp) (ev_eq (Ev.now _) (by simp))
theorem impl_word (s : ByteArray) : Ev (fun k => impl_isNameWord.f k s) (wordD s) := by
  unfold impl_isNameWord.f wordD
  cases h : inD s.size with
  | false =>
    refine Ev.step (f := fun _ => some false) (fun k => ?_) (ev_eq (Ev.now _) (by simp))
    simp only [impl_in, h, Option.bind_some, impl_isNameWord.j0]; simp
  | true =>
    obtain ⟨h1, h2⟩ := inD_iff.1 h
    have hw : wrap64 ((s.size : Int) - 1) = (s.size : Int) - 1 := w64 (by omega) (by omega)
    refine Ev.step (f := fun k => if (leD (bt s 0) && leD (bt s ((s.size : Int) - 1))) = true then spec_l2Word.l0 k s ((0 : Nat) : Int) else some false) (fun k => ?_) ?_
    · have a1 : (0 : Int) < (s.size : Int) := by omega
      have a2 : (0 : Int) ≤ (s.size : Int) - 1 := by omega
      have a3 : (s.size : Int) - 1 < (s.size : Int) := by omega
      simp only [impl_in, h, Option.bind_some, if_pos a1, if_pos a2, if_pos a3, hw, impl_le, impl_isNameWord.j0, loops_eq]
      cases leD (bt s 0) <;> cases leD (bt s ((s.size : Int) - 1)) <;> simp
    · cases h3 : (leD (bt s 0) && leD (bt s ((s.size : Int) - 1))) with
      | true =>
        refine ev_pos rfl (Ev.step (f := fun k => spec_l2Word.l0 k s ((1 : Nat) : Int)) (fun k => ?_) (ev_eq (word_loop s h2 (s.size - 1) 1 (by omega) (by omega) rfl) (by simp)))
        have h0 : leD (bt s 0) = true := by simp at h3; exact h3.1
        simp only [spec_l2Word.l0]
        rw [if_pos (by omega), if_pos (by omega), spec_le, show ((0 : Nat) : Int) = 0 from rfl, h0, w64 (by omega) (by omega)]
        simp
      | false => exact ev_neg (by simp) (ev_eq (Ev.now _) (by simp))
theorem word_in {s : ByteArray} (h : wordD s = true) : 1 ≤ s.size ∧ s.size ≤ 12 := by
  unfold wordD at h
  cases hi : inD s.size with
  | true => exact inD_iff.1 hi
  | false => rw [hi] at h; simp at h
theorem impl_great (s : ByteArray) : Ev (fun k => impl_isGreatWord.f k s) (greatD s) := by
  unfold impl_isGreatWord.f greatD
  refine Ev.bind (impl_word s) ?_
  cases h : wordD s with
  | true =>
    have := word_in h
    refine ev_pos rfl (ev_pos (by omega) (ev_eq (Ev.congr (f := fun _ => some (upD (bt s 0))) (fun k => by rw [impl_up]; rfl) (Ev.now _)) (by simp)))
  | false => exact ev_neg (by simp) (ev_eq (Ev.now _) (by simp))
def lowF (s : ByteArray) (j : Nat) : Bool := ((L s).drop j).all fun b => loD (b.toNat : Int)
def lowD (s : ByteArray) : Bool := lowF s 0
def wsD (l : List ByteArray) : Bool := l.all fun w => inD w.size && lowD w
theorem lowF_step (s : ByteArray) (j : Nat) (h : j < s.size) : lowF s j = (loD (bt s j) && lowF s (j + 1)) := by
  unfold lowF
  have hl : j < (L s).length := by rw [L_len]; exact h
  rw [List.drop_eq_getElem_cons hl, List.all_cons, bt_get s j h]
theorem lowF_end (s : ByteArray) (j : Nat) (h : s.size ≤ j) : lowF s j = true := by
  unfold lowF
  rw [List.drop_of_length_le (by rw [L_len]; exact h)]; rfl
theorem low_all (s : ByteArray) (h : lowD s = true) (j : Nat) (hj : j < s.size) : leD (bt s j) = true := by
  have hl : j < (L s).length := by rw [L_len]; exact hj
  have := List.all_eq_true.1 h _ (by rw [List.drop_zero]; exact List.getElem_mem hl)
  rw [bt_get s j hj]
  unfold leD
  rw [this]; simp
theorem wl_low (s : ByteArray) (h : lowD s = true) (d : Nat) : ∀ i, i + d ≤ s.size → wlD s d i = true := by
  induction d with
  | zero => intro i _; rfl
  | succ d ih =>
    intro i hi
    unfold wlD okD
    rw [low_all s h i (by omega), ih (i + 1) (by omega)]; rfl
theorem word_low (s : ByteArray) : (wordD s && lowD s) = (inD s.size && lowD s) := by
  cases h : lowD s with
  | false => simp
  | true =>
    unfold wordD
    cases hi : inD s.size with
    | false => simp
    | true =>
      obtain ⟨h1, h2⟩ := inD_iff.1 hi
      have e1 := low_all s h 0 (by omega)
      have e2 := low_all s h (s.size - 1) (by omega)
      rw [show ((s.size - 1 : Nat) : Int) = (s.size : Int) - 1 by omega] at e2
      rw [show ((0 : Nat) : Int) = 0 from rfl] at e1
      rw [e1, e2, wl_low s h (s.size - 1) 1 (by omega)]; rfl
theorem rd_get (l : List ByteArray) (i : Nat) (h : i < l.length) : rdOf ByteArray.empty l (i : Int) = l[i] := by simp [rdOf, h]
theorem spec_inner (ws : List ByteArray) (i : Nat) (hi : i < ws.length) (hs : (ws[i]).size ≤ 12) (hl : ws.length ≤ 4611686018427387904) (T : Bool) (hT : Ev (fun k => spec_l2Particle.l0 k ws ((i + 1 : Nat) : Int)) T) (d : Nat) : ∀ j : Nat, j ≤ (ws[i]).size → (ws[i]).size - j = d →
    Ev (fun k => spec_l2Particle.l1 k ws (i : Int) (j : Int)) (lowF ws[i] j && T) := by
  have hw : wrap64 ((i : Int) + 1) = ((i + 1 : Nat) : Int) := by rw [w64 (by omega) (by omega)]; rfl
  induction d with
  | zero =>
    intro j h1 hd
    refine Ev.step (f := fun k => spec_l2Particle.l0 k ws ((i + 1 : Nat) : Int)) (fun k => ?_) (ev_eq hT (by rw [lowF_end _ _ (by omega)]; simp))
    simp only [spec_l2Particle.l1, rd_get ws i hi]
    rw [if_pos (by omega), if_pos (by omega), if_neg (by omega), hw]
  | succ d ih =>
    intro j h1 hd
    rw [lowF_step _ j (by omega)]
    have hw' : wrap64 ((j : Int) + 1) = ((j + 1 : Nat) : Int) := by rw [w64 (by omega) (by omega)]; rfl
    refine Ev.step (f := fun k => if loD (bt ws[i] (j : Int)) = true then spec_l2Particle.l1 k ws (i : Int) ((j + 1 : Nat) : Int) else some false) (fun k => ?_) ?_
    · simp only [spec_l2Particle.l1, rd_get ws i hi]
      rw [if_pos (by omega), if_pos (by omega), if_pos (by omega), if_pos (by omega), hw', spec_lo]; rfl
    · cases h : loD (bt ws[i] (j : Int)) with
      | true => exact ev_pos rfl (ev_eq (ih (j + 1) (by omega) (by omega)) (by simp))
      | false => exact ev_neg (by simp) (ev_eq (Ev.now _) (by simp))
theorem spec_outer (ws : List ByteArray) (hl : ws.length ≤ 4611686018427387904) (d : Nat) : ∀ i : Nat, i ≤ ws.length → ws.length - i = d →
    Ev (fun k => spec_l2Particle.l0 k ws (i : Int)) (wsD (ws.drop i) && decide (ws.length ≤ 2)) := by
  induction d with
  | zero =>
    intro i h1 hd
    refine Ev.step (f := fun k => some (decide ((ws.length : Int) ≤ 2))) (fun k => ?_) (ev_eq (Ev.now _) ?_)
    · simp only [spec_l2Particle.l0]; rw [if_neg (by omega)]
    · rw [List.drop_of_length_le (by omega)]
      show decide _ = (true && decide _)
      rw [Bool.true_and, decide_eq_decide]; omega
  | succ d ih =>
    intro i h1 hd
    have hi : i < ws.length := by omega
    refine Ev.step (f := fun k => (spec_l2Word.f k ws[i]).bind fun t => if t = true then spec_l2Particle.l1 k ws (i : Int) ((0 : Nat) : Int) else some false) (fun k => ?_) ?_
    · simp only [spec_l2Particle.l0, rd_get ws i hi]
      rw [if_pos (by omega), if_pos (by omega)]; rfl
    · refine Ev.bind (spec_word _) ?_
      have e : (wsD (ws.drop i) && decide (ws.length ≤ 2)) = ((wordD ws[i] && lowD ws[i]) && (wsD (ws.drop (i + 1)) && decide (ws.length ≤ 2))) := by
        rw [word_low, List.drop_eq_getElem_cons hi]
        simp only [wsD, List.all_cons, Bool.and_assoc]
      rw [e]
      cases h : wordD ws[i] with
      | true => exact ev_pos rfl (ev_eq (spec_inner ws i hi (word_in h).2 hl _ (ih (i + 1) (by omega) (by omega)) _ 0 (by omega) rfl) (by simp [lowD]))
      | false => exact ev_neg (by simp) (ev_eq (Ev.now _) (by simp))
theorem impl_inner (ws ws' : List ByteArray) (n i : Nat) (w : ByteArray) (hi : i < 4611686018427387904) (hs : w.size ≤ 12) (T : Bool) (hT : Ev (fun k => impl_isParticle.l0 k ws ws' (n : Int) ((i + 1 : Nat) : Int)) T) (d : Nat) : ∀ j : Nat, j ≤ w.size → w.size - j = d →
    Ev (fun k => impl_isParticle.l1 k ws w (j : Int) ws' (n : Int) (i : Int)) (lowF w j && T) := by
  have hw : wrap64 ((i : Int) + 1) = ((i + 1 : Nat) : Int) := by rw [w64 (by omega) (by omega)]; rfl
  induction d with
  | zero =>
    intro j h1 hd
    refine Ev.step (f := fun k => impl_isParticle.l0 k ws ws' (n : Int) ((i + 1 : Nat) : Int)) (fun k => ?_) (ev_eq hT (by rw [lowF_end _ _ (by omega)]; simp))
    simp only [impl_isParticle.l1]
    rw [if_neg (by omega), hw]
  | succ d ih =>
    intro j h1 hd
    rw [lowF_step _ j (by omega)]
    have hw' : wrap64 ((j : Int) + 1) = ((j + 1 : Nat) : Int) := by rw [w64 (by omega) (by omega)]; rfl
    refine Ev.step (f := fun k => if loD (bt w (j : Int)) = true then impl_isParticle.l1 k ws w ((j + 1 : Nat) : Int) ws' (n : Int) (i : Int) else some false) (fun k => ?_) ?_
    · simp only [impl_isParticle.l1]
      rw [if_pos (by omega), if_pos (by omega), hw', impl_lo]; rfl
    · cases h : loD (bt w (j : Int)) with
      | true => exact ev_pos rfl (ev_eq (ih (j + 1) (by omega) (by omega)) (by simp))
      | false => exact ev_neg (by simp) (ev_eq (Ev.now _) (by simp))
theorem impl_outer (ws : List ByteArray) (hl : ws.length ≤ 4611686018427387904) (d : Nat) : ∀ i : Nat, i ≤ ws.length → ws.length - i = d →
    Ev (fun k => impl_isParticle.l0 k ws ws (ws.length : Int) (i : Int)) (wsD (ws.drop i) && decide (ws.length ≤ 2)) := by
  induction d with
  | zero =>
    intro i h1 hd
    refine Ev.step (f := fun k => some (decide ((ws.length : Int) ≤ 2))) (fun k => ?_) (ev_eq (Ev.now _) ?_)
    · simp only [impl_isParticle.l0]; rw [if_neg (by omega)]
    · rw [List.drop_of_length_le (by omega)]
      show decide _ = (true && decide _)
      rw [Bool.true_and, decide_eq_decide]; omega
  | succ d ih =>
    intro i h1 hd
    have hi : i < ws.length := by omega
    have e : (wsD (ws.drop i) && decide (ws.length ≤ 2)) = (inD (ws[i]).size && (lowD ws[i] && (wsD (ws.drop (i + 1)) && decide (ws.length ≤ 2)))) := by
      rw [List.drop_eq_getElem_cons hi]
      simp only [wsD, List.all_cons, Bool.and_assoc]
    rw [e]
    refine Ev.step (f := fun k => if inD (ws[i]).size = true then impl_isParticle.l1 k ws ws[i] ((0 : Nat) : Int) ws (ws.length : Int) (i : Int) else some false) (fun k => ?_) ?_
    · simp only [impl_isParticle.l0, rd_get ws i hi]
      rw [if_pos (by omega), if_pos (by omega), if_pos (by omega), impl_in]; rfl
    · cases h : inD (ws[i]).size with
      | true => exact ev_pos rfl (ev_eq (impl_inner ws ws ws.length i ws[i] (by omega) (inD_iff.1 h).2 _ (ih (i + 1) (by omega) (by omega)) _ 0 (by omega) rfl) (by simp [lowD]))
      | false => exact ev_neg (by simp) (ev_eq (Ev.now _) (by simp))
def wordsOf (s : ByteArray) : List ByteArray := (spl 32 (L s)).map mkB
def partD (s : ByteArray) : Bool := decide (s.size = 0) || (wsD (wordsOf s) && decide ((wordsOf s).length ≤ 2))
theorem wordsOf_len (s : ByteArray) : (wordsOf s).length ≤ s.size + 1 := by
  have := spl_length 32 (L s)
  rw [L_len] at this
  unfold wordsOf
  rw [List.length_map]; exact this
theorem nil_iff (s : ByteArray) : s.toList = ([] : List UInt8) ↔ s.size = 0 := by rw [toList_L, size_pos_iff]
theorem split_sp (s : ByteArray) (c : UInt8) (hs : s.size ≤ 4294967280) : strings_Split.f s (⟨#[c]⟩ : ByteArray) = some ((spl c (L s)).map mkB) := by
  have e : (⟨#[c]⟩ : ByteArray) = mkB [c] := rfl
  have h1 : (mkB [c]).size = 1 := by rw [size_mk]; rfl
  have hc := Lib.countB_le (mkB [c]) (by omega) s.size s (Nat.le_refl _)
  unfold strings_Split.f
  rw [e, if_pos ⟨by omega, by omega, Lib.splitB_all (mkB [c]) (by omega) 0 _ s rfl, by omega⟩, splitB_eq]
theorem spec_part (s : ByteArray) (hs : s.size ≤ 4294967280) : Ev (fun k => spec_l2Particle.f k s) (partD s) := by
  unfold spec_l2Particle.f partD
  by_cases h : s.size = 0
  · exact ev_pos ((nil_iff s).2 h) (ev_eq (Ev.now _) (by simp [h]))
  · refine ev_neg (fun e => h ((nil_iff s).1 e)) (Ev.bind (split_ev s 32 (by omega)) (ev_eq (spec_outer (wordsOf s) (by have := wordsOf_len s; omega) _ 0 (by omega) rfl) ?_))
    simp [h]
theorem impl_part (s : ByteArray) (hs : s.size ≤ 4294967280) : Ev (fun k => impl_isParticle.f k s) (partD s) := by
  unfold impl_isParticle.f partD
  by_cases h : s.size = 0
  · exact ev_pos ((nil_iff s).2 h) (ev_eq (Ev.now _) (by simp [h]))
  · refine ev_neg (fun e => h ((nil_iff s).1 e)) (ev_bind0 (split_sp s 32 hs) (ev_eq (impl_outer (wordsOf s) (by have := wordsOf_len s; omega) _ 0 (by omega) rfl) ?_))
    simp [h]
def bytesS (l : List ByteArray) : Nat := (l.map (·.size)).sum
def bulkS (l : List ByteArray) : Nat := l.length + bytesS l
theorem bytesS_cons (a : ByteArray) (l : List ByteArray) : bytesS (a :: l) = a.size + bytesS l := by simp [bytesS]
def sufD (S : ByteArray) : Bool := decide (S.size = 0) || wordD S
def restD (P F S : ByteArray) : Bool := partD P && (greatD F && sufD S)
def goodN (G : List ByteArray) (P F S : ByteArray) : Bool := G.all greatD && (decide (G.length ≤ 3) && restD P F S)
theorem spec_tail (P F S : ByteArray) (hP : P.size ≤ 4294967280) : Ev (fun k => (spec_l2Particle.f k P).bind fun t134 => (if t134 = true then ((spec_l2Word.f k F).bind fun t135 => (if t135 = true then (if 0 < (F.size : Int) then ((spec_l2Upper.f (bt F 0)).bind fun t136 => (if t136 = true then (if S.toList = ([] : List UInt8) then (some true) else ((spec_l2Word.f k S).bind fun t137 => (some t137))) else (some false))) else (none)) else (some false))) else (some false))) (restD P F S) := by
  unfold restD
  refine Ev.bind (spec_part P hP) ?_
  cases partD P with
  | false => exact ev_neg (by simp) (Ev.now _)
  | true =>
    refine ev_pos rfl (Ev.bind (spec_word F) ?_)
    unfold greatD
    cases h : wordD F with
    | false => exact ev_neg (by simp) (Ev.now _)
    | true =>
      have := word_in h
      refine ev_pos rfl (ev_pos (by omega) (ev_bind0 (spec_up _) ?_))
      cases upD (bt F 0) with
      | false => exact ev_neg (by simp) (Ev.now _)
      | true =>
        refine ev_pos rfl ?_
        unfold sufD
        by_cases h : S.size = 0
        · exact ev_pos ((nil_iff S).2 h) (ev_eq (Ev.now _) (by simp [h]))
        · exact ev_neg (fun e => h ((nil_iff S).1 e)) (Ev.bind (spec_word S) (ev_eq (Ev.now _) (by simp [h])))
theorem spec_good_loop (G : List ByteArray) (P F S : ByteArray) (hG : G.length ≤ 4611686018427387904) (hP : P.size ≤ 4294967280) (d : Nat) : ∀ i : Nat, i ≤ G.length → G.length - i = d →
    Ev (fun k => spec_l2Good.l0 k (i : Int) G P F S) ((G.drop i).all greatD && (decide (G.length ≤ 3) && restD P F S)) := by
  induction d with
  | zero =>
    intro i h1 hd
    refine Ev.step (f := fun k => if (G.length : Int) ≤ 3 then ((spec_l2Particle.f k P).bind fun t134 => (if t134 = true then ((spec_l2Word.f k F).bind fun t135 => (if t135 = true then (if 0 < (F.size : Int) then ((spec_l2Upper.f (bt F 0)).bind fun t136 => (if t136 = true then (if S.toList = ([] : List UInt8) then (some true) else ((spec_l2Word.f k S).bind fun t137 => (some t137))) else (some false))) else (none)) else (some false))) else (some false))) else some false) (fun k => ?_) ?_
    · simp only [spec_l2Good.l0]; rw [if_neg (by omega)]
    · rw [List.drop_of_length_le (by omega)]
      by_cases h : G.length ≤ 3
      · exact ev_pos (by omega) (ev_eq (spec_tail P F S hP) (by simp [h]))
      · exact ev_neg (by omega) (ev_eq (Ev.now _) (by simp [h]))
  | succ d ih =>
    intro i h1 hd
    have hi : i < G.length := by omega
    have hw : wrap64 ((i : Int) + 1) = ((i + 1 : Nat) : Int) := by rw [w64 (by omega) (by omega)]; rfl
    rw [List.drop_eq_getElem_cons hi, List.all_cons, Bool.and_assoc]
    refine Ev.step (f := fun k => (spec_l2Word.f k G[i]).bind fun t131 => (if t131 = true then (if 0 < ((G[i]).size : Int) then ((spec_l2Upper.f (bt G[i] 0)).bind fun t133 => (if t133 = true then (spec_l2Good.l0 k ((i + 1 : Nat) : Int) G P F S) else (some false))) else (none)) else (some false))) (fun k => ?_) ?_
    · simp only [spec_l2Good.l0, rd_get G i hi]
      rw [if_pos (by omega), if_pos (by omega), hw]
    · refine Ev.bind (spec_word _) ?_
      rw [show greatD G[i] = (wordD G[i] && upD (bt G[i] 0)) from rfl]
      cases h : wordD G[i] with
      | false => exact ev_neg (by simp) (ev_eq (Ev.now _) (by simp))
      | true =>
        have := word_in h
        refine ev_pos rfl (ev_pos (by omega) (ev_bind0 (spec_up _) ?_))
        cases upD (bt G[i] 0) with
        | false => exact ev_neg (by simp) (ev_eq (Ev.now _) (by simp))
        | true => exact ev_pos rfl (ev_eq (ih (i + 1) (by omega) (by omega)) (by simp))
theorem spec_name (G : List ByteArray) (P F S : ByteArray) (hG : G.length ≤ 4611686018427387904) (hP : P.size ≤ 4294967280) : Ev (fun k => spec_l2Good.f k G P F S) (goodN G P F S) := by
  have := spec_good_loop G P F S hG hP _ 0 (by omega) rfl
  unfold spec_l2Good.f goodN
  rw [List.drop_zero] at this
  exact this
theorem idx_loop (G : List ByteArray) (hG : G.length ≤ 4611686018427387904) (d : Nat) : ∀ i : Nat, i ≤ G.length → G.length - i = d →
    ∃ v, Ev (fun k => slices_IndexFunc_string_string_at_39.l0 k G (G.length : Int) (i : Int)) v ∧ decide (v ≥ 0) = !((G.drop i).all greatD) := by
  induction d with
  | zero =>
    intro i h1 hd
    refine ⟨-1, Ev.step (f := fun _ => some (-1)) (fun k => ?_) (Ev.now _), ?_⟩
    · simp only [slices_IndexFunc_string_string_at_39.l0]; rw [if_neg (by omega)]
    · rw [List.drop_of_length_le (by omega)]; simp
  | succ d ih =>
    intro i h1 hd
    have hi : i < G.length := by omega
    have hw : wrap64 ((i : Int) + 1) = ((i + 1 : Nat) : Int) := by rw [w64 (by omega) (by omega)]; rfl
    rw [List.drop_eq_getElem_cons hi, List.all_cons]
    have hst : ∀ v, Ev (fun k => (impl_IsValidName_1.f k G[i]).bind fun t => if t = true then some (i : Int) else slices_IndexFunc_string_string_at_39.l0 k G (G.length : Int) ((i + 1 : Nat) : Int)) v → Ev (fun k => slices_IndexFunc_string_string_at_39.l0 k G (G.length : Int) (i : Int)) v := by
      intro v hv
      refine Ev.step (fun k => ?_) hv
      simp only [slices_IndexFunc_string_string_at_39.l0, rd_get G i hi]
      rw [if_pos (by omega), if_pos (by omega), if_pos (by omega), hw]
    have hf : Ev (fun k => impl_IsValidName_1.f k G[i]) (!greatD G[i]) := by
      unfold impl_IsValidName_1.f
      exact Ev.bind (impl_great _) (Ev.now _)
    cases h : greatD G[i] with
    | true =>
      obtain ⟨v, hv, e⟩ := ih (i + 1) (by omega) (by omega)
      refine ⟨v, hst v (Ev.bind hf (ev_neg (by simp [h]) hv)), ?_⟩
      rw [e]; simp
    | false =>
      refine ⟨(i : Int), hst _ (Ev.bind hf (ev_pos (by simp [h]) (Ev.now _))), ?_⟩
      simp
theorem contains_ev (G : List ByteArray) (hG : G.length ≤ 4611686018427387904) : Ev (fun k => slices_ContainsFunc_string_string_at_39.f k G) (!(G.all greatD)) := by
  obtain ⟨v, hv, e⟩ := idx_loop G hG _ 0 (by omega) rfl
  unfold slices_ContainsFunc_string_string_at_39.f slices_IndexFunc_string_string_at_39.f
  rw [List.drop_zero] at e
  exact Ev.bind hv (ev_eq (Ev.now _) e)
theorem impl_valid (G : List ByteArray) (P F S : ByteArray) (hG : G.length ≤ 4611686018427387904) (hP : P.size ≤ 4294967280) : Ev (fun k => impl_IsValidName.f k G P F S) (goodN G P F S) := by
  have hj1 : Ev (fun k => impl_IsValidName.j0 k true G P F S) false := Ev.step (f := fun _ => some false) (fun k => by simp [impl_IsValidName.j0]) (Ev.now _)
  have hj0 : Ev (fun k => impl_IsValidName.j0 k false G P F S) (restD P F S) := by
    refine Ev.step (f := fun k => (impl_isParticle.f k P).bind fun t172 => (if t172 = true then ((impl_isGreatWord.f k F).bind fun t173 => (if t173 = true then (if S.toList = ([] : List UInt8) then (some true) else ((impl_isNameWord.f k S).bind fun t174 => (some t174))) else (some false))) else (some false))) (fun k => by simp [impl_IsValidName.j0]) ?_
    unfold restD
    refine Ev.bind (impl_part P hP) ?_
    cases partD P with
    | false => exact ev_neg (by simp) (Ev.now _)
    | true =>
      refine ev_pos rfl (Ev.bind (impl_great F) ?_)
      cases greatD F with
      | false => exact ev_neg (by simp) (Ev.now _)
      | true =>
        refine ev_pos rfl ?_
        unfold sufD
        by_cases h : S.size = 0
        · exact ev_pos ((nil_iff S).2 h) (ev_eq (Ev.now _) (by simp [h]))
        · exact ev_neg (fun e => h ((nil_iff S).1 e)) (Ev.bind (impl_word S) (ev_eq (Ev.now _) (by simp [h])))
  unfold impl_IsValidName.f goodN
  by_cases h : G.length ≤ 3
  · refine ev_neg (by omega) (Ev.bind (contains_ev G hG) ?_)
    cases G.all greatD with
    | true => exact ev_eq hj0 (by simp [h])
    | false => exact ev_eq hj1 (by simp)
  · exact ev_pos (by omega) (ev_eq hj1 (by simp [h]))
def bulkN (G : List ByteArray) (P F S : ByteArray) : Nat := bulkS G + P.size + F.size + S.size
theorem eqS_same_loop (l : List ByteArray) (hl : l.length ≤ 4611686018427387904) (d : Nat) : ∀ i : Nat, i ≤ l.length → l.length - i = d → Ev (fun k => laws_eqStringS.l0 k l l (i : Int)) true := by
  induction d with
  | zero =>
    intro i h1 hd
    refine Ev.step (f := fun _ => some true) (fun k => ?_) (Ev.now _)
    simp only [laws_eqStringS.l0]; rw [if_neg (by omega)]
  | succ d ih =>
    intro i h1 hd
    have hw : wrap64 ((i : Int) + 1) = ((i + 1 : Nat) : Int) := by rw [w64 (by omega) (by omega)]; rfl
    refine Ev.step (f := fun k => laws_eqStringS.l0 k l l ((i + 1 : Nat) : Int)) (fun k => ?_) (ih (i + 1) (by omega) (by omega))
    simp only [laws_eqStringS.l0]
    rw [if_pos (by omega), if_pos (by omega), if_pos (by omega), if_pos trivial, hw]
theorem eqS_same (l : List ByteArray) (hl : l.length ≤ 4611686018427387904) : Ev (fun k => laws_eqStringS.f k l l) true := by
  unfold laws_eqStringS.f
  exact ev_pos rfl (eqS_same_loop l hl _ 0 (by omega) rfl)
theorem eqN_same (G : List ByteArray) (P F S : ByteArray) (hl : G.length ≤ 4611686018427387904) : Ev (fun k => laws_eqName.f k G P F S G P F S) true := by
  unfold laws_eqName.f
  exact Ev.bind (eqS_same G hl) (ev_pos rfl (ev_pos rfl (ev_pos rfl (ev_pos rfl (Ev.now _)))))


theorem good_pos {G : List ByteArray} {P F S : ByteArray} (h : goodN G P F S = true) : G.length ≤ 3 ∧ ∀ x ∈ G, 1 ≤ x.size := by
  unfold goodN at h
  simp only [Bool.and_eq_true, decide_eq_true_eq] at h
  refine ⟨h.2.1, fun x hx => ?_⟩
  have := List.all_eq_true.1 h.1 x hx
  unfold greatD at this
  rw [Bool.and_eq_true] at this
  exact (word_in this.1).1
def spB : ByteArray := ⟨#[32]⟩
def glu (s p : ByteArray) : ByteArray := (if s.size ≠ 0 ∧ p.size ≠ 0 then s ++ spB else s) ++ p
def joinD (l : List ByteArray) : ByteArray := l.foldl glu ByteArray.empty
def sumB (l : List ByteArray) : Nat := (l.map fun x => x.size + 1).sum
theorem sumB_cons (a : ByteArray) (l : List ByteArray) : sumB (a :: l) = a.size + 1 + sumB l := by simp [sumB]
theorem glu_size (s p : ByteArray) : (glu s p).size ≤ s.size + (p.size + 1) := by
  unfold glu
  rw [size_append]
  split
  · rw [size_append]; show s.size + 1 + p.size ≤ _; omega
  · omega
theorem fold_size (l : List ByteArray) : ∀ s : ByteArray, (l.foldl glu s).size ≤ s.size + sumB l := by
  induction l with
  | nil => intro s; simp [sumB]
  | cons p l ih =>
    intro s
    have := ih (glu s p)
    have h2 := glu_size s p
    rw [List.foldl_cons, sumB_cons]; omega
theorem joinD_size (l : List ByteArray) : (joinD l).size ≤ sumB l := by
  have := fold_size l ByteArray.empty
  have e : ByteArray.empty.size = 0 := rfl
  unfold joinD; omega
theorem L_nil {s : ByteArray} (h : s.size = 0) : L s = [] := (size_pos_iff s).1 h
theorem L_glu (s p : ByteArray) : L (glu s p) = if s.size ≠ 0 ∧ p.size ≠ 0 then L s ++ 32 :: L p else L s ++ L p := by
  unfold glu
  rw [L_append]
  split
  · rw [L_append, List.append_assoc]; rfl
  · rfl
theorem fold_join (l : List ByteArray) : ∀ s : ByteArray, L (l.foldl glu s) = if s.size = 0 then Lib.join ((l.filter fun x => !decide (x.size = 0)).map (·.data.toList)) [32] else L s ++ Lib.joinTail [32] ((l.filter fun x => !decide (x.size = 0)).map (·.data.toList)) := by
  induction l with
  | nil =>
    intro s
    by_cases h : s.size = 0
    · rw [if_pos h]; simp [Lib.join_nil, L_nil h]
    · rw [if_neg h]; simp [Lib.joinTail]
  | cons p l ih =>
    intro s
    rw [List.foldl_cons, ih]
    by_cases hp : p.size = 0
    · have e : glu s p = s := L_inj (by rw [L_glu, if_neg (fun h => h.2 hp), L_nil hp, List.append_nil])
      rw [e, List.filter_cons_of_neg (by simp [hp])]
    · have hg : ¬ (glu s p).size = 0 := by rw [← L_len, L_glu]; split <;> simp [L_len, hp]
      rw [if_neg hg, List.filter_cons_of_pos (by simp [hp]), List.map_cons, L_glu]
      by_cases h : s.size = 0
      · rw [if_neg (fun x => x.1 h), if_pos h, L_nil h, List.nil_append, Lib.join_cons]
      · rw [if_pos (And.intro h hp), if_neg h]
        simp [Lib.joinTail]
theorem join_filter (l : List ByteArray) : Lib.join ((l.filter fun x => !decide (x.size = 0)).map (·.data.toList)) (⟨#[32]⟩ : ByteArray).data.toList = L (joinD l) := by
  have := fold_join l ByteArray.empty
  rw [if_pos (show ByteArray.empty.size = 0 from rfl)] at this
  exact this.symm
theorem filter_all {l : List ByteArray} (h : ∀ x ∈ l, 1 ≤ x.size) : (l.filter fun x => !decide (x.size = 0)) = l := by
  rw [List.filter_eq_self]
  intro x hx
  have := h x hx
  show (!decide (x.size = 0)) = true
  rw [decide_eq_false (by omega)]; rfl
theorem libJoin_filter (l : List ByteArray) (hl : l.length ≤ 1000) (hs : sumB l ≤ 140737488355328) : strings_Join.f (l.filter fun x => !decide (x.size = 0)) (⟨#[32]⟩ : ByteArray) = some (joinD l) := by
  have h1 : (l.filter fun x => !decide (x.size = 0)).length ≤ l.length := List.length_filter_le _ _
  have h2 := joinD_size l
  unfold strings_Join.f
  rw [join_filter, if_pos ⟨by omega, by rw [L_len]; omega⟩]
theorem libJoin_all (l : List ByteArray) (hp : ∀ x ∈ l, 1 ≤ x.size) (hl : l.length ≤ 1000) (hs : sumB l ≤ 140737488355328) : strings_Join.f l (⟨#[32]⟩ : ByteArray) = some (joinD l) := by
  have := libJoin_filter l hl hs
  rwa [filter_all hp] at this
theorem spaced_eq (l : List ByteArray) (h1 : 1 ≤ l.length) (hl : l.length ≤ 1000) (hs : sumB l ≤ 140737488355328) : impl_spaced.f l = some (joinD l) := by
  unfold impl_spaced.f
  rw [if_pos ⟨h1, hl⟩]
  exact libJoin_filter l hl hs
theorem spec_join_loop (l : List ByteArray) (hl : l.length ≤ 4611686018427387904) (hs : sumB l ≤ 140737488355328) (d : Nat) : ∀ (s : ByteArray) (i : Nat), i ≤ l.length → l.length - i = d → s.size + sumB (l.drop i) ≤ 140737488355328 →
    Ev (fun k => spec_l2Join.l0 k l s (i : Int)) ((l.drop i).foldl glu s) := by
  induction d with
  | zero =>
    intro s i h1 hd hb
    refine Ev.step (f := fun _ => some s) (fun k => ?_) (ev_eq (Ev.now _) ?_)
    · simp only [spec_l2Join.l0]; rw [if_neg (by omega)]
    · rw [List.drop_of_length_le (by omega)]; rfl
  | succ d ih =>
    intro s i h1 hd hb
    have hi : i < l.length := by omega
    have hw : wrap64 ((i : Int) + 1) = ((i + 1 : Nat) : Int) := by rw [w64 (by omega) (by omega)]; rfl
    rw [List.drop_eq_getElem_cons hi] at hb ⊢
    rw [sumB_cons] at hb
    have hg := glu_size s l[i]
    rw [List.foldl_cons]
    refine Ev.step (f := fun k => spec_l2Join.l0 k l (glu s l[i]) ((i + 1 : Nat) : Int)) (fun k => ?_) (ih (glu s l[i]) (i + 1) (by omega) (by omega) (by omega))
    simp only [spec_l2Join.l0, rd_get l i hi]
    have a1 : (i : Int) < (l.length : Int) := by omega
    have a2 : (0 : Int) ≤ (i : Int) := by omega
    have a3 : s.size + l[i].size ≤ 9223372036854775807 := by omega
    have a4 : s.size + 1 ≤ 9223372036854775807 := by omega
    have a5 : (s ++ (⟨#[32]⟩ : ByteArray)).size + l[i].size ≤ 9223372036854775807 := by
      rw [size_append]; show s.size + 1 + l[i].size ≤ _; omega
    simp only [if_pos a1, if_pos a2, if_pos a3, if_pos a4, if_pos a5, hw]
    unfold glu
    by_cases hs0 : s.size = 0
    · have b : s.toList = ([] : List UInt8) := (nil_iff s).2 hs0
      simp only [b, hs0, ne_eq, not_true_eq_false, false_and, if_true, if_false]
    · have b : ¬ s.toList = ([] : List UInt8) := fun e => hs0 ((nil_iff s).1 e)
      rw [if_neg b]
      by_cases hp : l[i].size = 0
      · have b2 : (l[i]).toList = ([] : List UInt8) := (nil_iff _).2 hp
        rw [if_pos b2, if_neg (fun x : s.size ≠ 0 ∧ l[i].size ≠ 0 => x.2 hp)]
      · have b2 : ¬ (l[i]).toList = ([] : List UInt8) := fun e => hp ((nil_iff _).1 e)
        rw [if_neg b2, if_pos (show s.size ≠ 0 ∧ l[i].size ≠ 0 from ⟨hs0, hp⟩)]
        rfl
theorem spec_join (l : List ByteArray) (hl : l.length ≤ 4611686018427387904) (hs : sumB l ≤ 140737488355328) : Ev (fun k => spec_l2Join.f k l) (joinD l) := by
  have := spec_join_loop l hl hs _ ByteArray.empty 0 (by omega) rfl (by rw [List.drop_zero]; show 0 + _ ≤ _; omega)
  unfold spec_l2Join.f
  rw [List.drop_zero] at this
  exact this
theorem sumB_bulk (l : List ByteArray) : sumB l = bulkS l := by
  induction l with
  | nil => rfl
  | cons a l ih => rw [sumB_cons, ih]; unfold bulkS; rw [bytesS_cons, List.length_cons]; omega
def cmB : ByteArray := ⟨#[44, 32]⟩
def tailI (t : ByteArray) (G : List ByteArray) (S : ByteArray) : ByteArray := if S.size = 0 then (t ++ cmB) ++ joinD G else (((t ++ cmB) ++ joinD G) ++ cmB) ++ S
def invD (G : List ByteArray) (P F S : ByteArray) : ByteArray := if G.length > 0 ∨ S.size ≠ 0 then tailI (joinD [P, F]) G S else joinD [P, F]
theorem inv_sum (G : List ByteArray) (P F S : ByteArray) (h : bulkN G P F S ≤ 1048576) : (joinD G).size ≤ 1048576 ∧ sumB [P, F] ≤ 1048580 ∧ (joinD [P, F]).size ≤ 1048580 ∧ S.size ≤ 1048576 ∧ G.length ≤ 1048576 ∧ sumB G ≤ 1048576 := by
  have h1 := joinD_size G
  have h2 := sumB_bulk G
  have h3 := joinD_size [P, F]
  have h4 : sumB [P, F] = P.size + 1 + (F.size + 1 + 0) := rfl
  unfold bulkN at h
  unfold bulkS at h h2
  omega
theorem cm_size (t : ByteArray) : (t ++ (⟨#[44, 32]⟩ : ByteArray)).size = t.size + 2 := by rw [size_append]; rfl
theorem cm_size' (t : ByteArray) : ((⟨#[44, 32]⟩ : ByteArray) ++ t).size = 2 + t.size := by rw [size_append]; rfl
theorem spec_inv_j (t : ByteArray) (G : List ByteArray) (P F S : ByteArray) (ht : t.size ≤ 1048580) (h : bulkN G P F S ≤ 1048576) : Ev (fun k => spec_l2Inverse.j0 k t true G P F S) (tailI t G S) := by
  obtain ⟨b1, b2, b3, b4, b5, b6⟩ := inv_sum G P F S h
  obtain ⟨K, hK⟩ := spec_join G (by omega) (by omega)
  have hK' : ∀ k, K ≤ k → spec_l2Given.f k G P F S = some (joinD G) := fun k hk => by unfold spec_l2Given.f; rw [show spec_l2Join.f k G = some (joinD G) from hK k hk]; rfl
  refine ⟨K + 1, fun k hk => ?_⟩
  obtain ⟨k', rfl⟩ : ∃ k', k = k' + 1 := ⟨k - 1, by omega⟩
  have a1 : t.size + 2 ≤ 9223372036854775807 := by omega
  have a2 : (t ++ (⟨#[44, 32]⟩ : ByteArray)).size + (joinD G).size ≤ 9223372036854775807 := by rw [cm_size]; omega
  have a3 : ((t ++ (⟨#[44, 32]⟩ : ByteArray)) ++ joinD G).size + 2 ≤ 9223372036854775807 := by rw [size_append, cm_size]; omega
  have a4 : (((t ++ (⟨#[44, 32]⟩ : ByteArray)) ++ joinD G) ++ (⟨#[44, 32]⟩ : ByteArray)).size + S.size ≤ 9223372036854775807 := by rw [cm_size, size_append, cm_size]; omega
  simp only [spec_l2Inverse.j0]
  rw [if_pos trivial, if_pos a1, hK' k' (by omega)]
  simp only [Option.bind_some]
  rw [if_pos a2]
  unfold tailI
  by_cases c : S.size = 0
  · rw [if_pos ((nil_iff S).2 c), if_pos c]; rfl
  · rw [if_neg (fun e => c ((nil_iff S).1 e)), if_pos a3, if_pos a4, if_neg c]; rfl
theorem spec_inv (G : List ByteArray) (P F S : ByteArray) (h : bulkN G P F S ≤ 1048576) : Ev (fun k => spec_l2Inverse.f k G P F S) (invD G P F S) := by
  obtain ⟨b1, b2, b3, b4, b5, b6⟩ := inv_sum G P F S h
  have hj := spec_inv_j (joinD [P, F]) G P F S b3 h
  unfold spec_l2Inverse.f invD
  refine Ev.bind (spec_join [P, F] (by simp) (by omega)) ?_
  by_cases c : G.length > 0
  · exact ev_pos (by omega) (ev_eq hj (if_pos (Or.inl c)).symm)
  · refine ev_neg (by omega) ?_
    by_cases d : S.size = 0
    · have e : (S.toList != ([] : List UInt8)) = false := by rw [(nil_iff S).2 d]; rfl
      rw [e]
      refine Ev.step (f := fun _ => some (joinD [P, F])) (fun k => ?_) (ev_eq (Ev.now _) (if_neg (fun x => x.elim c (fun y => y d))).symm)
      simp only [spec_l2Inverse.j0]
      rw [if_neg (by simp), if_pos ((nil_iff S).2 d)]
    · have e : (S.toList != ([] : List UInt8)) = true := bne_iff_ne.2 (fun x => d ((nil_iff S).1 x))
      rw [e]
      exact ev_eq hj (if_pos (Or.inr d)).symm
theorem app3 (a b c : ByteArray) : a ++ (b ++ c) = (a ++ b) ++ c := L_inj (by simp only [L_append, List.append_assoc])
theorem impl_inv_j (t : ByteArray) (G : List ByteArray) (P F S : ByteArray) (ht : t.size ≤ 1048580) (hg : goodN G P F S = true) (h : bulkN G P F S ≤ 1048576) : Ev (fun k => impl_inverseForm.j0 k t true G P F S) (tailI t G S) := by
  obtain ⟨b1, b2, b3, b4, b5, b6⟩ := inv_sum G P F S h
  obtain ⟨h3, h4⟩ := good_pos hg
  have hK := libJoin_all G h4 (by omega) (by omega)
  refine ⟨1, fun k hk => ?_⟩
  obtain ⟨k', rfl⟩ : ∃ k', k = k' + 1 := ⟨k - 1, by omega⟩
  have a1 : 2 + (joinD G).size ≤ 9223372036854775807 := by omega
  have a2 : t.size + ((⟨#[44, 32]⟩ : ByteArray) ++ joinD G).size ≤ 9223372036854775807 := by rw [cm_size']; omega
  have a3 : 2 + S.size ≤ 9223372036854775807 := by omega
  have a4 : (t ++ ((⟨#[44, 32]⟩ : ByteArray) ++ joinD G)).size + ((⟨#[44, 32]⟩ : ByteArray) ++ S).size ≤ 9223372036854775807 := by rw [cm_size', size_append, cm_size']; omega
  simp only [impl_inverseForm.j0]
  rw [if_pos trivial, hK]
  simp only [Option.bind_some]
  rw [if_pos a1, if_pos a2]
  unfold tailI
  by_cases c : S.size = 0
  · rw [if_pos ((nil_iff S).2 c), if_pos c, app3]; rfl
  · rw [if_neg (fun e => c ((nil_iff S).1 e)), if_pos a3, if_pos a4, if_neg c, app3, app3]; rfl
theorem impl_inv (G : List ByteArray) (P F S : ByteArray) (hg : goodN G P F S = true) (h : bulkN G P F S ≤ 1048576) : Ev (fun k => impl_inverseForm.f k G P F S) (invD G P F S) := by
  obtain ⟨b1, b2, b3, b4, b5, b6⟩ := inv_sum G P F S h
  have hj := impl_inv_j (joinD [P, F]) G P F S b3 hg h
  unfold impl_inverseForm.f invD
  refine ev_bind0 (spaced_eq [P, F] (by simp) (by simp) (by omega)) ?_
  by_cases c : G.length > 0
  · exact ev_pos (by omega) (ev_eq hj (if_pos (Or.inl c)).symm)
  · refine ev_neg (by omega) ?_
    by_cases d : S.size = 0
    · have e : (S.toList != ([] : List UInt8)) = false := by rw [(nil_iff S).2 d]; rfl
      rw [e]
      refine Ev.step (f := fun _ => some (joinD [P, F])) (fun k => ?_) (ev_eq (Ev.now _) (if_neg (fun x => x.elim c (fun y => y d))).symm)
      simp only [impl_inverseForm.j0]
      rw [if_neg (by simp), if_pos ((nil_iff S).2 d)]
    · have e : (S.toList != ([] : List UInt8)) = true := bne_iff_ne.2 (fun x => d ((nil_iff S).1 x))
      rw [e]
      exact ev_eq hj (if_pos (Or.inr d)).symm
end Go.Proofs.YtefoiofododliaaDoor.G
