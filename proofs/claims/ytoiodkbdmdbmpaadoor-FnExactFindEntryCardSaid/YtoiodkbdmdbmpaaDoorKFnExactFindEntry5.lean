/- Texts of this session for the law FnExactFindEntry, put together by a program (merge.py): each ends with its namespace; conditions stand with each theorem. -/
import Derived.Test.YtoiodkbdmdbmpaaDoorKFnExactFindEntry2
import Derived.Test.YtoiodkbdmdbmpaaDoorKFnExactFindEntry3
import Derived.Test.YtoiodkbdmdbmpaaDoorKFnExactFindEntry4
import Derived.Test.YtoiodkbdmdbmpaaDoorKFnExactFindEntry1
import Derived.Deep.Slices
import Derived.Lib.Strings
import Derived.Lib.SplitLaws
import Derived.Lib.IndexBytes
import Derived.Lib.IndexLaws
namespace Go.Proofs.YtoiodkbdmdbmpaaDoor.G
open Go.RowKit Go.Proofs.YtoiodkbdmdbmpaaDoorW.PrintWords Go.Proofs.YtoiodkbdmdbmpaaDoorW.PrintLast Go.Proofs.YtoiodkbdmdbmpaaDoorW.PrintMore
open Go.Proofs.YtoiodkbdmdbmpaaDoor.Gl Go.Proofs.YtoiodkbdmdbmpaaDoor.Ext
attribute [local go_sem] max2_int min2_int max_two min_two max_three min_three max_four min_four   -- for this text's walks alone
set_option linter.unusedVariables false
set_option linter.unusedSimpArgs false

/-! ### impl_FindEntry: function 8 -/
def impl_FindEntry.f (k : Nat) (l0_0 : List (S51)) (a1 : ByteArray) : Option (Int × Bool) := (impl_entryIndex.f l0_0 a1).bind fun t285 => ((impl_IsValidLibrary.f k l0_0).bind fun t286 => (if t286 = true then (if t285 < 0 then (some (0, false)) else (some (t285, true))) else (some (0, false))))
theorem impl_FindEntry.mono : ∀ a0 a1 k, LeO (impl_FindEntry.f k a0 a1) (impl_FindEntry.f (k + 1) a0 a1) := by
 intro a0 a1 k
 unfold impl_FindEntry.f
 repeat' first
   | (with_reducible exact impl_IsValidLibrary.mono _ _)
   | (with_reducible exact LeO.refl _)
   | (with_reducible exact LeO.none _)
   | (with_reducible refine LeO.ite ?_ ?_)
   | (with_reducible refine LeO.bind ?_ (fun _ => ?_))
   | exact impl_IsValidLibrary.mono _ _
   | exact LeO.none _
   | refine LeO.ite ?_ ?_
   | refine LeO.bind ?_ (fun _ => ?_)
set_option maxRecDepth 100000 in
theorem impl_FindEntry.L0 {P : Prop} (h : P := by
  go_enter Tryd.func8, Tryd.ntmps8
  go_wp2_with (first | ((with_reducible refine gate_dst (N := 2) rfl ?_); refine box_event ?hg (N := 2) ?hd (cs := #[.slice A0_0 l0_0.length c0_0]) (t := 30) ?hr ?_; (case hd => rfl); (case hg => rfl); (case hr => first | (go_simp; done) | (go_simp; rfl)); intro gb284 hg w12 hbox hb; have BK284 := Aside0.mk (hbox); have GW284 := Aside0.mk (bsz hg au33); have GE284 := Aside0.mk (bsz hg au33); replace HB := Aside0.mk (below_step au33 hb); clear hb hbox hg; have hcz13_0 : w12.cell? ⟨gb284, 0, none⟩ = some (.slice A0_0 l0_0.length c0_0) := (blk_cell BK284.out 0).trans rfl; have hfz13_0 := blk_frozen BK284.out 0) | ((with_reducible refine gate_callee (f := 20) rfl ?_); refine goesL_ (some 9) rfl rfl Tryd.func20 (by kernel_rfl) rfl #[.agg #[.slice A0_0 l0_0.length c0_0], .string a1] rfl au32 ?_; (with_reducible refine (impl_entryIndex.calls _ _ l0_0 a1 t285 _ ?side1 ?side2 A3.out).mono ?_); (case side1 => repeat (first | exact (Kd.C_below HR0_0.out HB.out) | (with_reducible refine Kd.C_alloc ?_ _) | (with_reducible refine Kd.C_drewN ?_ _) | (with_reducible refine Kd.C_drew ?_))); (case side2 => exact HC0_0.out); rintro e w14 ⟨rfl, hb⟩; refine ⟨_, rfl, ?_⟩; replace BK284 := Aside0.mk (blk_below (g := gb284) au52 hb); replace HB := Aside0.mk (below_step au26 hb); (try clear hb); have hcz15_0 : w14.cell? ⟨gb284, 0, none⟩ = some (.slice A0_0 l0_0.length c0_0) := (blk_cell BK284.out 0).trans rfl; have hfz15_0 := blk_frozen BK284.out 0) | ((with_reducible refine gate_callee (f := 21) rfl ?_); refine goesL_ (some 11) rfl rfl Tryd.func21 (by kernel_rfl) rfl #[.agg #[.slice A0_0 l0_0.length c0_0]] rfl au32 ?_; (with_reducible refine (impl_IsValidLibrary.calls (hG := au0) k _ _ l0_0 _ _ ?side1 ?side2 A4.out).mono ?_); (case side1 => repeat (first | exact (Kd.C_below HR0_0.out HB.out) | (with_reducible refine Kd.C_alloc ?_ _) | (with_reducible refine Kd.C_drewN ?_ _) | (with_reducible refine Kd.C_drew ?_))); (case side2 => exact HC0_0.out); rintro e w16 ⟨rfl, hb⟩; refine ⟨_, rfl, ?_⟩; replace BK284 := Aside0.mk (blk_below (g := gb284) au52 hb); replace HB := Aside0.mk (below_step au26 hb); (try clear hb)))
  go_ret2
  exact ⟨by first | rfl | (simp [errW_none, errW_some] <;> rfl) | (simp [*, errW_none, errW_some] <;> rfl), by repeat (first | (with_reducible first | exact HB.out | apply below_alloc | apply pw_below_drewN | apply below_drew1 | refine below_set ?_ GE284.out) | exact HB.out)⟩) : P := h
set_option maxHeartbeats 8000000 in
set_option maxRecDepth 100000 in
theorem impl_FindEntry.calls (k : Nat) (A0_0 : Option Addr) (c0_0 : Nat) (l0_0 : List (S51)) (a1 : ByteArray) (r1 : Int) (r2 : Bool) (w : World) {gF1 gF2 gF3 : Bool} (hG : GL gF1 gF2 gF3 w) (hr0_0 : Kd.C k51 w A0_0 l0_0.length l0_0) (hc0_0 : l0_0.length ≤ c0_0) (h : impl_FindEntry.f k l0_0 a1 = some (r1, r2)) :
  Calls Tryd.prog 8 #[.agg #[.slice A0_0 l0_0.length c0_0], .string a1] w fun e w' => e = .returned (.tuple #[.int .i64 r1, .bool r2]) ∧ Below w.heap.size w w' := by
 have HG := Aside0.mk hG
 clear hG
 have hu30 := Tryd.underlying30
 have HR0_0 := Aside0.mk hr0_0
 have HC0_0 := Aside0.mk hc0_0
 clear hr0_0 hc0_0
 have HB := Aside0.mk (Below.refl w.heap.size w)
 have H : ((impl_entryIndex.f l0_0 a1).bind fun t285 => ((impl_IsValidLibrary.f k l0_0).bind fun t286 => (if t286 = true then (if t285 < 0 then (some (0, false)) else (some (t285, true))) else (some (0, false))))) = some (r1, r2) := h
 clear h
 replace H := Option.bind_eq_some_iff.mp H
 obtain ⟨t285, A30, H⟩ := H
 try dsimp only at H
 have A3 := Aside0.mk A30
 clear A30
 replace H := Option.bind_eq_some_iff.mp H
 obtain ⟨t286, A40, H⟩ := H
 try dsimp only at H
 have A4 := Aside0.mk A40
 clear A40
 by_cases c5 : t286 = true
 ·
  subst c5
  replace H := (if_pos rfl).symm.trans H
  by_cases c6 : t285 < 0
  ·
   rw [if_pos c6] at H
   have c6b0 : decide (t285 < 0) = true := decide_eq_true c6
   clear c6
   simp only [Option.some.injEq, Prod.mk.injEq] at H
   obtain ⟨rfl, rfl⟩ := H
   exact impl_FindEntry.L0
  ·
   rw [if_neg c6] at H
   have c6b0 : decide (t285 < 0) = false := decide_eq_false c6
   clear c6
   simp only [Option.some.injEq, Prod.mk.injEq] at H
   obtain ⟨rfl, rfl⟩ := H
   exact impl_FindEntry.L0
 ·
  replace c5 := Bool.eq_false_iff.mpr c5
  subst c5
  replace H := (if_neg (show ¬ (false = true) by decide)).symm.trans H
  simp only [Option.some.injEq, Prod.mk.injEq] at H
  obtain ⟨rfl, rfl⟩ := H
  exact impl_FindEntry.L0


/-! ### laws_eqStringS: function 12 -/
def laws_eqStringS.l0 : Nat → List ByteArray → List ByteArray → Int → Option (Bool)
 | 0, _, _, _ => none
 | k + 1, x0, x1, x5 => if x5 < (x0.length : Int) then (if 0 ≤ x5 then (if x5 < (x1.length : Int) then (if (rdOf ByteArray.empty x0 x5).toList = (rdOf ByteArray.empty x1 x5).toList then (laws_eqStringS.l0 k x0 x1 (wrap64 (x5 + 1))) else (some false)) else (none)) else (none)) else (some true)
def laws_eqStringS.f (k : Nat) (l0 : List ByteArray) (l1 : List ByteArray) : Option (Bool) := if (l0.length : Int) = (l1.length : Int) then (laws_eqStringS.l0 k l0 l1 0) else (some false)
theorem laws_eqStringS.mono_l : ∀ k, (∀ y0 y1 y2, LeO (laws_eqStringS.l0 k y0 y1 y2) (laws_eqStringS.l0 (k + 1) y0 y1 y2))
 | 0 => fun _ _ _ r h => by simp [laws_eqStringS.l0] at h
 | k + 1 => by
  have ih0 := laws_eqStringS.mono_l k
  ·
   intro y0 y1 y2
   unfold laws_eqStringS.l0
   repeat' first
   | (with_reducible exact ih0 _ _ _)
   | (with_reducible exact LeO.refl _)
   | (with_reducible exact LeO.none _)
   | (with_reducible refine LeO.ite ?_ ?_)
   | (with_reducible refine LeO.bind ?_ (fun _ => ?_))
   | exact ih0 _ _ _
   | exact LeO.none _
   | refine LeO.ite ?_ ?_
   | refine LeO.bind ?_ (fun _ => ?_)
theorem laws_eqStringS.mono : ∀ a0 a1 k, LeO (laws_eqStringS.f k a0 a1) (laws_eqStringS.f (k + 1) a0 a1) := by
 intro a0 a1 k
 have ih0 := laws_eqStringS.mono_l k
 unfold laws_eqStringS.f
 repeat' first
   | (with_reducible exact ih0 _ _ _)
   | (with_reducible exact LeO.refl _)
   | (with_reducible exact LeO.none _)
   | (with_reducible refine LeO.ite ?_ ?_)
   | (with_reducible refine LeO.bind ?_ (fun _ => ?_))
   | exact ih0 _ _ _
   | exact LeO.none _
   | refine LeO.ite ?_ ?_
   | refine LeO.bind ?_ (fun _ => ?_)
set_option maxHeartbeats 8000000 in
set_option maxRecDepth 100000 in
theorem laws_eqStringS.calls (k : Nat) (A0 : Option Addr) (c0 : Nat) (l0 : List ByteArray) (A1 : Option Addr) (c1 : Nat) (l1 : List ByteArray) (r : Bool) (w : World) (hr0 : Kd.C Kd.string w A0 l0.length l0) (hc0 : l0.length ≤ c0) (hr1 : Kd.C Kd.string w A1 l1.length l1) (hc1 : l1.length ≤ c1) (h : laws_eqStringS.f k l0 l1 = some r) :
  Calls Tryd.prog 12 #[.slice A0 l0.length c0, .slice A1 l1.length c1] w fun e w' => e = .returned (.bool r) ∧ Drawn0 w w' := by
 have HR0 := Aside0.mk hr0
 have HC0 := Aside0.mk hc0
 clear hr0 hc0
 have HR1 := Aside0.mk hr1
 have HC1 := Aside0.mk hc1
 clear hr1 hc1
 have H : (if (l0.length : Int) = (l1.length : Int) then (laws_eqStringS.l0 k l0 l1 0) else (some false)) = some r := h
 clear h
 by_cases c3 : (l0.length : Int) = (l1.length : Int)
 ·
  rw [if_pos c3] at H
  have c3b0 : ((l0.length : Int) == (l1.length : Int)) = true := beq_iff_eq.mpr c3
  have c3b1 : ((l0.length : Int) != (l1.length : Int)) = false := bne_eq_false_iff_eq.mpr c3
  have c3b2 : (l0.length == l1.length) = true := by first | simpa using c3 | (simp at c3 ⊢; omega)
  clear c3
  have H' := Aside0.mk H
  clear H
  go_enter Tryd.func12, Tryd.ntmps12
  go_wp2
  repeat (go_quiet (fail); try go_wp2)
  go_loopg [5] k (fun kq v5 w' => ∃ (x5_1 : Int), v5 = .int .i64 x5_1 ∧ Aside0 (laws_eqStringS.l0 kq l0 l1 x5_1 = some r) ∧ Aside0 (kq ≤ k) ∧ Drawn0 w w')
  case atStart => exact ⟨(0), au66, H', ⟨Nat.le_refl _⟩, by repeat (first | exact Drawn0.refl _ | apply Drawn0.step)⟩
  case round =>
   clear H'
   try clear c1
   try clear p2
   try clear c3
   try clear c3b0
   try clear c3b1
   try clear c3b2
   obtain ⟨x5_1, rfl, HA, HK1, ⟨m1, rfl⟩⟩ := hrel
   cases gk with
   | zero => exact absurd HA.out (by simp [laws_eqStringS.l0])
   | succ k1 =>
    have H := HA.out
    clear HA
    simp only [laws_eqStringS.l0] at H
    by_cases c4 : x5_1 < (l0.length : Int)
    ·
     rw [if_pos c4] at H
     have c4b0 : decide (x5_1 < (l0.length : Int)) = true := decide_eq_true c4
     clear c4
     by_cases c5 : 0 ≤ x5_1
     ·
      rw [if_pos c5] at H
      have c5b0 : decide (0 ≤ x5_1) = true := decide_eq_true c5
      clear c5
      by_cases c6 : x5_1 < (l1.length : Int)
      ·
       rw [if_pos c6] at H
       have c6b0 : decide (x5_1 < (l1.length : Int)) = true := decide_eq_true c6
       clear c6
       by_cases c7 : (rdOf ByteArray.empty l0 x5_1).toList = (rdOf ByteArray.empty l1 x5_1).toList
       ·
        rw [if_pos c7] at H
        have c7b0 : ((rdOf ByteArray.empty l0 x5_1).toList == (rdOf ByteArray.empty l1 x5_1).toList) = true := beq_iff_eq.mpr c7
        have c7b1 : ((rdOf ByteArray.empty l0 x5_1).toList != (rdOf ByteArray.empty l1 x5_1).toList) = false := bne_eq_false_iff_eq.mpr c7
        clear c7
        have H' := Aside0.mk H
        clear H
        have p287 : 0 ≤ (x5_1 : Int) := of_decide_eq_true au65
        have q287 : x5_1 < (l0.length : Int) := of_decide_eq_true au65
        obtain ⟨ad287, e287, hx287_0⟩ := Kd.at_string HR0.out x5_1 p287 q287
        cases e287
        replace p287 := eq_true p287
        replace q287 := eq_true q287
        have p288 : 0 ≤ (x5_1 : Int) := of_decide_eq_true au65
        have q288 : x5_1 < (l1.length : Int) := of_decide_eq_true au65
        obtain ⟨ad288, e288, hx288_0⟩ := Kd.at_string HR1.out x5_1 p288 q288
        cases e288
        replace p288 := eq_true p288
        replace q288 := eq_true q288
        go_wp2
        repeat (go_quiet (fail); try go_wp2)
        go_roundg k1
        case measure => have := HK1.out; omega
        case rel => exact ⟨(wrap64 (x5_1 + 1)), au66, H', ⟨by have := HK1.out; omega⟩, by repeat (first | exact Drawn0.refl _ | apply Drawn0.step)⟩
       ·
        rw [if_neg c7] at H
        have c7b0 : ((rdOf ByteArray.empty l0 x5_1).toList == (rdOf ByteArray.empty l1 x5_1).toList) = false := beq_eq_false_iff_ne.mpr c7
        have c7b1 : ((rdOf ByteArray.empty l0 x5_1).toList != (rdOf ByteArray.empty l1 x5_1).toList) = true := bne_iff_ne.mpr c7
        obtain rfl := Option.some.inj H
        have p287 : 0 ≤ (x5_1 : Int) := of_decide_eq_true au65
        have q287 : x5_1 < (l0.length : Int) := of_decide_eq_true au65
        obtain ⟨ad287, e287, hx287_0⟩ := Kd.at_string HR0.out x5_1 p287 q287
        cases e287
        replace p287 := eq_true p287
        replace q287 := eq_true q287
        have p288 : 0 ≤ (x5_1 : Int) := of_decide_eq_true au65
        have q288 : x5_1 < (l1.length : Int) := of_decide_eq_true au65
        obtain ⟨ad288, e288, hx288_0⟩ := Kd.at_string HR1.out x5_1 p288 q288
        cases e288
        replace p288 := eq_true p288
        replace q288 := eq_true q288
        go_wp2
        repeat (go_quiet (fail); try go_wp2)
        go_ret
        exact ax0
      ·
       rw [if_neg c6] at H
       exact absurd H (by simp)
     ·
      rw [if_neg c5] at H
      exact absurd H (by simp)
    ·
     rw [if_neg c4] at H
     have c4b0 : decide (x5_1 < (l0.length : Int)) = false := decide_eq_false c4
     clear c4
     obtain rfl := Option.some.inj H
     go_wp2
     repeat (go_quiet (fail); try go_wp2)
     go_ret
     exact ax0
 ·
  rw [if_neg c3] at H
  have c3b0 : ((l0.length : Int) == (l1.length : Int)) = false := beq_eq_false_iff_ne.mpr c3
  have c3b1 : ((l0.length : Int) != (l1.length : Int)) = true := bne_iff_ne.mpr c3
  have c3b2 : (l0.length == l1.length) = false := by first | simpa using c3 | (simp at c3 ⊢; omega)
  obtain rfl := Option.some.inj H
  go_enter Tryd.func12, Tryd.ntmps12
  go_wp2
  repeat (go_quiet (fail); try go_wp2)
  go_ret
  exact ax0


/-! ### laws_eqName: function 61 -/
def laws_eqName.f (k : Nat) (l0_0 : List ByteArray) (a0_1 : ByteArray) (a0_2 : ByteArray) (a0_3 : ByteArray) (l1_0 : List ByteArray) (a1_1 : ByteArray) (a1_2 : ByteArray) (a1_3 : ByteArray) : Option (Bool) := (laws_eqStringS.f k l0_0 l1_0).bind fun t291 => (if t291 = true then (if a0_1.toList = a1_1.toList then (if a0_2.toList = a1_2.toList then (if a0_3.toList = a1_3.toList then (some true) else (some false)) else (some false)) else (some false)) else (some false))
theorem laws_eqName.mono : ∀ a0 a1 a2 a3 a4 a5 a6 a7 k, LeO (laws_eqName.f k a0 a1 a2 a3 a4 a5 a6 a7) (laws_eqName.f (k + 1) a0 a1 a2 a3 a4 a5 a6 a7) := by
 intro a0 a1 a2 a3 a4 a5 a6 a7 k
 unfold laws_eqName.f
 repeat' first
   | (with_reducible exact laws_eqStringS.mono _ _ _)
   | (with_reducible exact LeO.refl _)
   | (with_reducible exact LeO.none _)
   | (with_reducible refine LeO.ite ?_ ?_)
   | (with_reducible refine LeO.bind ?_ (fun _ => ?_))
   | exact laws_eqStringS.mono _ _ _
   | exact LeO.none _
   | refine LeO.ite ?_ ?_
   | refine LeO.bind ?_ (fun _ => ?_)
set_option maxRecDepth 100000 in
theorem laws_eqName.L0 {P : Prop} (h : P := by
  go_enter Tryd.func61, Tryd.ntmps61
  go_wp2_with (first | ((with_reducible refine gate_dst (N := 2) rfl ?_); refine box_event ?hg (N := 2) ?hd (cs := #[.slice A0_0 l0_0.length c0_0, .string a0_1, .string a0_2, .string a0_3]) (t := 75) ?hr ?_; (case hd => rfl); (case hg => rfl); (case hr => first | (go_simp; done) | (go_simp; rfl)); intro gb289 hg w13 hbox hb; have BK289 := Aside0.mk (hbox); have GW289 := Aside0.mk (bsz hg au33); have GE289 := Aside0.mk (bsz hg au33); replace HB := Aside0.mk (below_step au33 hb); clear hb hbox hg) | ((with_reducible refine gate_dst (N := 3) rfl ?_); refine box_event ?hg (N := 3) ?hd (cs := #[.slice A1_0 l1_0.length c1_0, .string a1_1, .string a1_2, .string a1_3]) (t := 75) ?hr ?_; (case hd => rfl); (case hg => rfl); (case hr => first | (go_simp; done) | (go_simp; rfl)); intro gb290 hg w14 hbox hb; have BK290 := Aside0.mk (hbox); have GW290 := Aside0.mk (bsz hg au27); have GE290 := Aside0.mk (bsz hg au27); replace HB := Aside0.mk (below_step au27 hb); have NB289_290 := Aside0.mk (bne (g := gb289) hg au53); have NB290_289 := Aside0.mk (ben (g := gb289) hg au53); replace BK289 := Aside0.mk (blk_below (g := gb289) au53 hb); clear hb hbox hg; have hnb15 := NB289_290.out; have hnc15 := NB290_289.out; obtain ⟨hcz16_0, hcz16_1, hcz16_2, hcz16_3, hfz16_0, hfz16_1, hfz16_2, hfz16_3⟩ := blkc4 BK289.out; obtain ⟨hcz17_0, hcz17_1, hcz17_2, hcz17_3, hfz17_0, hfz17_1, hfz17_2, hfz17_3⟩ := blkc4 BK290.out) | ((with_reducible refine gate_callee (f := 12) rfl ?_); refine goesL_ (some 9) rfl rfl Tryd.func12 (by kernel_rfl) rfl #[.slice A0_0 l0_0.length c0_0, .slice A1_0 l1_0.length c1_0] rfl au32 ?_; (with_reducible refine (laws_eqStringS.calls k _ _ l0_0 _ _ l1_0 _ _ ?side1 ?side2 ?side3 ?side4 A3.out).mono ?_); (case side1 => repeat (first | exact (Kd.C_below HR0_0.out HB.out) | (with_reducible refine Kd.C_alloc ?_ _) | (with_reducible refine Kd.C_drewN ?_ _) | (with_reducible refine Kd.C_drew ?_))); (case side2 => exact HC0_0.out); (case side3 => repeat (first | exact (Kd.C_below HR1_0.out HB.out) | (with_reducible refine Kd.C_alloc ?_ _) | (with_reducible refine Kd.C_drewN ?_ _) | (with_reducible refine Kd.C_drew ?_))); (case side4 => exact HC1_0.out); rintro e w' ⟨rfl, ⟨nd, rfl⟩⟩; refine ⟨_, rfl, ?_⟩))
  go_ret
  exact ⟨by first | rfl | (simp [errW_none, errW_some] <;> rfl) | (simp [*, errW_none, errW_some] <;> rfl), by repeat (first | (with_reducible first | exact HB.out | apply below_alloc | apply pw_below_drewN | apply below_drew1 | refine below_set ?_ GE289.out | refine below_set ?_ GE290.out) | exact HB.out)⟩) : P := h
set_option maxHeartbeats 8000000 in
set_option maxRecDepth 100000 in
theorem laws_eqName.calls (k : Nat) (A0_0 : Option Addr) (c0_0 : Nat) (l0_0 : List ByteArray) (a0_1 : ByteArray) (a0_2 : ByteArray) (a0_3 : ByteArray) (A1_0 : Option Addr) (c1_0 : Nat) (l1_0 : List ByteArray) (a1_1 : ByteArray) (a1_2 : ByteArray) (a1_3 : ByteArray) (r : Bool) (w : World) (hr0_0 : Kd.C Kd.string w A0_0 l0_0.length l0_0) (hc0_0 : l0_0.length ≤ c0_0) (hr1_0 : Kd.C Kd.string w A1_0 l1_0.length l1_0) (hc1_0 : l1_0.length ≤ c1_0) (h : laws_eqName.f k l0_0 a0_1 a0_2 a0_3 l1_0 a1_1 a1_2 a1_3 = some r) :
  Calls Tryd.prog 61 #[.agg #[.slice A0_0 l0_0.length c0_0, .string a0_1, .string a0_2, .string a0_3], .agg #[.slice A1_0 l1_0.length c1_0, .string a1_1, .string a1_2, .string a1_3]] w fun e w' => e = .returned (.bool r) ∧ Below w.heap.size w w' := by
 have hu75 := Tryd.underlying75
 have HR0_0 := Aside0.mk hr0_0
 have HC0_0 := Aside0.mk hc0_0
 clear hr0_0 hc0_0
 have HR1_0 := Aside0.mk hr1_0
 have HC1_0 := Aside0.mk hc1_0
 clear hr1_0 hc1_0
 have HB := Aside0.mk (Below.refl w.heap.size w)
 have H : ((laws_eqStringS.f k l0_0 l1_0).bind fun t291 => (if t291 = true then (if a0_1.toList = a1_1.toList then (if a0_2.toList = a1_2.toList then (if a0_3.toList = a1_3.toList then (some true) else (some false)) else (some false)) else (some false)) else (some false))) = some r := h
 clear h
 replace H := Option.bind_eq_some_iff.mp H
 obtain ⟨t291, A30, H⟩ := H
 try dsimp only at H
 have A3 := Aside0.mk A30
 clear A30
 by_cases c4 : t291 = true
 ·
  subst c4
  replace H := (if_pos rfl).symm.trans H
  by_cases c5 : a0_1.toList = a1_1.toList
  ·
   rw [if_pos c5] at H
   have c5b0 : (a0_1.toList == a1_1.toList) = true := beq_iff_eq.mpr c5
   have c5b1 : (a0_1.toList != a1_1.toList) = false := bne_eq_false_iff_eq.mpr c5
   clear c5
   by_cases c6 : a0_2.toList = a1_2.toList
   ·
    rw [if_pos c6] at H
    have c6b0 : (a0_2.toList == a1_2.toList) = true := beq_iff_eq.mpr c6
    have c6b1 : (a0_2.toList != a1_2.toList) = false := bne_eq_false_iff_eq.mpr c6
    clear c6
    by_cases c7 : a0_3.toList = a1_3.toList
    ·
     rw [if_pos c7] at H
     have c7b0 : (a0_3.toList == a1_3.toList) = true := beq_iff_eq.mpr c7
     have c7b1 : (a0_3.toList != a1_3.toList) = false := bne_eq_false_iff_eq.mpr c7
     clear c7
     obtain rfl := Option.some.inj H
     exact laws_eqName.L0
    ·
     rw [if_neg c7] at H
     have c7b0 : (a0_3.toList == a1_3.toList) = false := beq_eq_false_iff_ne.mpr c7
     have c7b1 : (a0_3.toList != a1_3.toList) = true := bne_iff_ne.mpr c7
     obtain rfl := Option.some.inj H
     exact laws_eqName.L0
   ·
    rw [if_neg c6] at H
    have c6b0 : (a0_2.toList == a1_2.toList) = false := beq_eq_false_iff_ne.mpr c6
    have c6b1 : (a0_2.toList != a1_2.toList) = true := bne_iff_ne.mpr c6
    obtain rfl := Option.some.inj H
    exact laws_eqName.L0
  ·
   rw [if_neg c5] at H
   have c5b0 : (a0_1.toList == a1_1.toList) = false := beq_eq_false_iff_ne.mpr c5
   have c5b1 : (a0_1.toList != a1_1.toList) = true := bne_iff_ne.mpr c5
   obtain rfl := Option.some.inj H
   exact laws_eqName.L0
 ·
  replace c4 := Bool.eq_false_iff.mpr c4
  subst c4
  replace H := (if_neg (show ¬ (false = true) by decide)).symm.trans H
  obtain rfl := Option.some.inj H
  exact laws_eqName.L0


/-! ### laws_eqNameS: function 47 -/
def laws_eqNameS.l0 : Nat → List (S75) → List (S75) → Int → Option (Bool)
 | 0, _, _, _ => none
 | k + 1, x0, x1, x5 => if x5 < (x0.length : Int) then (if 0 ≤ x5 then (if x5 < (x1.length : Int) then ((laws_eqName.f k ((rd_T75 x0 x5).f0) ((rd_T75 x0 x5).f1) ((rd_T75 x0 x5).f2) ((rd_T75 x0 x5).f3) ((rd_T75 x1 x5).f0) ((rd_T75 x1 x5).f1) ((rd_T75 x1 x5).f2) ((rd_T75 x1 x5).f3)).bind fun t294 => (if t294 = true then (laws_eqNameS.l0 k x0 x1 (wrap64 (x5 + 1))) else (some false))) else (none)) else (none)) else (some true)
def laws_eqNameS.f (k : Nat) (l0 : List (S75)) (l1 : List (S75)) : Option (Bool) := if (l0.length : Int) = (l1.length : Int) then (laws_eqNameS.l0 k l0 l1 0) else (some false)
theorem laws_eqNameS.mono_l : ∀ k, (∀ y0 y1 y2, LeO (laws_eqNameS.l0 k y0 y1 y2) (laws_eqNameS.l0 (k + 1) y0 y1 y2))
 | 0 => fun _ _ _ r h => by simp [laws_eqNameS.l0] at h
 | k + 1 => by
  have ih0 := laws_eqNameS.mono_l k
  ·
   intro y0 y1 y2
   unfold laws_eqNameS.l0
   repeat' first
   | (with_reducible exact ih0 _ _ _)
   | (with_reducible exact laws_eqName.mono _ _ _ _ _ _ _ _ _)
   | (with_reducible exact LeO.refl _)
   | (with_reducible exact LeO.none _)
   | (with_reducible refine LeO.ite ?_ ?_)
   | (with_reducible refine LeO.bind ?_ (fun _ => ?_))
   | exact ih0 _ _ _
   | exact laws_eqName.mono _ _ _ _ _ _ _ _ _
   | exact LeO.none _
   | refine LeO.ite ?_ ?_
   | refine LeO.bind ?_ (fun _ => ?_)
theorem laws_eqNameS.mono : ∀ a0 a1 k, LeO (laws_eqNameS.f k a0 a1) (laws_eqNameS.f (k + 1) a0 a1) := by
 intro a0 a1 k
 have ih0 := laws_eqNameS.mono_l k
 unfold laws_eqNameS.f
 repeat' first
   | (with_reducible exact ih0 _ _ _)
   | (with_reducible exact laws_eqName.mono _ _ _ _ _ _ _ _ _)
   | (with_reducible exact LeO.refl _)
   | (with_reducible exact LeO.none _)
   | (with_reducible refine LeO.ite ?_ ?_)
   | (with_reducible refine LeO.bind ?_ (fun _ => ?_))
   | exact ih0 _ _ _
   | exact laws_eqName.mono _ _ _ _ _ _ _ _ _
   | exact LeO.none _
   | refine LeO.ite ?_ ?_
   | refine LeO.bind ?_ (fun _ => ?_)
def laws_eqNameS.T6 : Bool × List (List Nat × List Nat) := (true, [([], []), ([], []), ([0, 1], [0, 1]), ([2], [2]), ([], []), ([], []), ([4, 5], [4, 5]), ([6], [6]), ([3, 7], [3, 7]), ([8], [8])])
def laws_eqNameS.B6 : List Nat := [0, 0, 3, 7, 0, 0, 48, 112, 255, 511]
theorem laws_eqNameS.tab6 : rtab .any (opsOf Tryd.f47 6) = laws_eqNameS.T6 := by kernel_rfl
theorem laws_eqNameS.bits6 : waitsOk laws_eqNameS.T6.2 laws_eqNameS.B6 = true := by kernel_rfl
set_option maxHeartbeats 8000000 in
set_option maxRecDepth 100000 in
theorem laws_eqNameS.calls (k : Nat) (A0 : Option Addr) (c0 : Nat) (l0 : List (S75)) (A1 : Option Addr) (c1 : Nat) (l1 : List (S75)) (r : Bool) (w : World) (hr0 : Kd.C k75 w A0 l0.length l0) (hc0 : l0.length ≤ c0) (hr1 : Kd.C k75 w A1 l1.length l1) (hc1 : l1.length ≤ c1) (h : laws_eqNameS.f k l0 l1 = some r) :
  Calls Tryd.prog 47 #[.slice A0 l0.length c0, .slice A1 l1.length c1] w fun e w' => e = .returned (.bool r) ∧ Below w.heap.size w w' := by
 have hu75 := Tryd.underlying75
 have HR0 := Aside0.mk hr0
 have HC0 := Aside0.mk hc0
 clear hr0 hc0
 have HR1 := Aside0.mk hr1
 have HC1 := Aside0.mk hc1
 clear hr1 hc1
 have HB := Aside0.mk (Below.refl w.heap.size w)
 have H : (if (l0.length : Int) = (l1.length : Int) then (laws_eqNameS.l0 k l0 l1 0) else (some false)) = some r := h
 clear h
 by_cases c3 : (l0.length : Int) = (l1.length : Int)
 ·
  rw [if_pos c3] at H
  have c3b0 : ((l0.length : Int) == (l1.length : Int)) = true := beq_iff_eq.mpr c3
  have c3b1 : ((l0.length : Int) != (l1.length : Int)) = false := bne_eq_false_iff_eq.mpr c3
  have c3b2 : (l0.length == l1.length) = true := by first | simpa using c3 | (simp at c3 ⊢; omega)
  clear c3
  have H' := Aside0.mk H
  clear H
  go_enter Tryd.func47, Tryd.ntmps47
  go_wp2
  go_loopg [5] k (fun kq v5 w' => ∃ (x5_1 : Int), v5 = .int .i64 x5_1 ∧ Aside0 (laws_eqNameS.l0 kq l0 l1 x5_1 = some r) ∧ Aside0 (kq ≤ k) ∧ Aside0 (Below w.heap.size w w'))
  case atStart => exact ⟨(0), au66, H', ⟨Nat.le_refl _⟩, ⟨by repeat (first | (with_reducible first | exact HB.out | apply below_alloc | apply pw_below_drewN | apply below_drew1) | exact HB.out)⟩⟩
  case round =>
   clear H'
   try clear c1
   try clear p2
   try clear c3
   try clear c3b0
   try clear c3b1
   try clear c3b2
   obtain ⟨x5_1, rfl, HA, HK1, HB⟩ := hrel
   cases gk with
   | zero => exact absurd HA.out (by simp [laws_eqNameS.l0])
   | succ k1 =>
    have H := HA.out
    clear HA
    simp only [laws_eqNameS.l0] at H
    by_cases c4 : x5_1 < (l0.length : Int)
    ·
     rw [if_pos c4] at H
     have c4b0 : decide (x5_1 < (l0.length : Int)) = true := decide_eq_true c4
     clear c4
     by_cases c5 : 0 ≤ x5_1
     ·
      rw [if_pos c5] at H
      have c5b0 : decide (0 ≤ x5_1) = true := decide_eq_true c5
      clear c5
      by_cases c6 : x5_1 < (l1.length : Int)
      ·
       rw [if_pos c6] at H
       have c6b0 : decide (x5_1 < (l1.length : Int)) = true := decide_eq_true c6
       clear c6
       replace H := Option.bind_eq_some_iff.mp H
       obtain ⟨t294, A70, H⟩ := H
       try dsimp only at H
       have A7 := Aside0.mk A70
       clear A70
       by_cases c8 : t294 = true
       ·
        subst c8
        replace H := (if_pos rfl).symm.trans H
        have H' := Aside0.mk H
        clear H
        try go_wp2
        replace HB := Aside0.mk (below_drew1 HB.out)
        have p292 : 0 ≤ (x5_1 : Int) := of_decide_eq_true au65
        have q292 : x5_1 < (l0.length : Int) := of_decide_eq_true au65
        obtain ⟨ad292, A292_0, c292_0, e292, hx292_0, hx292_1, hx292_2, hx292_3, hl292_0, hi292_0⟩ := at_T75 HR0.out x5_1 p292 q292
        have hw292_3 := hx292_3
        have hw292_2 := hx292_2
        have hw292_1 := hx292_1
        have hw292_0 := hx292_0
        cases e292
        replace hx292_0 := bcl HB.out hx292_0
        replace hx292_1 := bcl HB.out hx292_1
        replace hx292_2 := bcl HB.out hx292_2
        replace hx292_3 := bcl HB.out hx292_3
        have HR292_0 := Aside0.mk hi292_0
        have HC292_0 := Aside0.mk hl292_0
        clear hi292_0 hl292_0
        replace p292 := eq_true p292
        replace q292 := eq_true q292
        have p293 : 0 ≤ (x5_1 : Int) := of_decide_eq_true au65
        have q293 : x5_1 < (l1.length : Int) := of_decide_eq_true au65
        obtain ⟨ad293, A293_0, c293_0, e293, hx293_0, hx293_1, hx293_2, hx293_3, hl293_0, hi293_0⟩ := at_T75 HR1.out x5_1 p293 q293
        have hw293_3 := hx293_3
        have hw293_2 := hx293_2
        have hw293_1 := hx293_1
        have hw293_0 := hx293_0
        cases e293
        replace hx293_0 := bcl HB.out hx293_0
        replace hx293_1 := bcl HB.out hx293_1
        replace hx293_2 := bcl HB.out hx293_2
        replace hx293_3 := bcl HB.out hx293_3
        have HR293_0 := Aside0.mk hi293_0
        have HC293_0 := Aside0.mk hl293_0
        clear hi293_0 hl293_0
        replace p293 := eq_true p293
        replace q293 := eq_true q293
        refine start_ (n := 10) (S := fun w' => w'.cell? (ad292.add ((x5_1).toNat * 4)) = some (.slice A292_0 ((rd_T75 l0 x5_1).f0).length c292_0) ∧ w'.cell? ⟨(ad292.add ((x5_1).toNat * 4)).block, (ad292.add ((x5_1).toNat * 4)).off + 1, none⟩ = some (.string ((rd_T75 l0 x5_1).f1)) ∧ w'.cell? ⟨(ad292.add ((x5_1).toNat * 4)).block, (ad292.add ((x5_1).toNat * 4)).off + 2, none⟩ = some (.string ((rd_T75 l0 x5_1).f2)) ∧ w'.cell? ⟨(ad292.add ((x5_1).toNat * 4)).block, (ad292.add ((x5_1).toNat * 4)).off + 3, none⟩ = some (.string ((rd_T75 l0 x5_1).f3)) ∧ w'.cell? (ad293.add ((x5_1).toNat * 4)) = some (.slice A293_0 ((rd_T75 l1 x5_1).f0).length c293_0) ∧ w'.cell? ⟨(ad293.add ((x5_1).toNat * 4)).block, (ad293.add ((x5_1).toNat * 4)).off + 1, none⟩ = some (.string ((rd_T75 l1 x5_1).f1)) ∧ w'.cell? ⟨(ad293.add ((x5_1).toNat * 4)).block, (ad293.add ((x5_1).toNat * 4)).off + 2, none⟩ = some (.string ((rd_T75 l1 x5_1).f2)) ∧ w'.cell? ⟨(ad293.add ((x5_1).toNat * 4)).block, (ad293.add ((x5_1).toNat * 4)).off + 3, none⟩ = some (.string ((rd_T75 l1 x5_1).f3))) (ds := []) #[false, false, false, false, false, false, false, false, false, false] (by kernel_rfl) rfl rfl ⟨(bcl HB.out hw292_0), (bcl HB.out hw292_1), (bcl HB.out hw292_2), (bcl HB.out hw292_3), (bcl HB.out hw293_0), (bcl HB.out hw293_1), (bcl HB.out hw293_2), (bcl HB.out hw293_3)⟩ (fun hHeld => ?_); refine with_tabW laws_eqNameS.tab6 laws_eqNameS.bits6 (fun HT_ HW_ => ?_)
        generalize wr.drew = w9 at HB HR292_0 HR293_0 hx292_0 hx292_1 hx292_2 hx292_3 hx293_0 hx293_1 hx293_2 hx293_3 hHeld ⊢
        refine pu_ 0 (some 17) #[true, false, false, false, false, false, false, false, false, false] HT_.out ?_
        refine pu_ 1 (some 18) #[true, true, false, false, false, false, false, false, false, false] HT_.out ?_
        refine pu_ 2 (some 19) #[true, true, true, false, false, false, false, false, false, false] HT_.out ?_
        refine pu_ 4 (some 21) #[true, true, true, false, true, false, false, false, false, false] HT_.out ?_
        refine pu_ 5 (some 22) #[true, true, true, false, true, true, false, false, false, false] HT_.out ?_
        refine pu_ 6 (some 23) #[true, true, true, false, true, true, true, false, false, false] HT_.out ?_
        refine ta4_ 3 (some 20) #[true, true, true, true, true, true, true, false, false, false] HT_.out HW_.out hHeld ?_
        refine ta4_ 7 (some 24) #[true, true, true, true, true, true, true, true, false, false] HT_.out HW_.out hHeld ?_
        refine on_ 8 (some 25) #[true, true, true, true, true, true, true, true, true, false] HT_.out (fun K hK => ?_)
        refine gs_ Tryd.func61 #[.agg #[.slice A292_0 ((rd_T75 l0 x5_1).f0).length c292_0, .string ((rd_T75 l0 x5_1).f1), .string ((rd_T75 l0 x5_1).f2), .string ((rd_T75 l0 x5_1).f3)], .agg #[.slice A293_0 ((rd_T75 l1 x5_1).f0).length c293_0, .string ((rd_T75 l1 x5_1).f1), .string ((rd_T75 l1 x5_1).f2), .string ((rd_T75 l1 x5_1).f3)]] ?_
        with_reducible refine (laws_eqName.calls k1 _ _ ((rd_T75 l0 x5_1).f0) ((rd_T75 l0 x5_1).f1) ((rd_T75 l0 x5_1).f2) ((rd_T75 l0 x5_1).f3) _ _ ((rd_T75 l1 x5_1).f0) ((rd_T75 l1 x5_1).f1) ((rd_T75 l1 x5_1).f2) ((rd_T75 l1 x5_1).f3) true _ ?side1 ?side2 ?side3 ?side4 A7.out).mono ?_
        (case side1 => repeat (first | exact (Kd.C_below HR292_0.out HB.out) | (with_reducible refine Kd.C_alloc ?_ _) | (with_reducible refine Kd.C_drewN ?_ _) | (with_reducible refine Kd.C_drew ?_)))
        (case side2 => exact HC292_0.out)
        (case side3 => repeat (first | exact (Kd.C_below HR293_0.out HB.out) | (with_reducible refine Kd.C_alloc ?_ _) | (with_reducible refine Kd.C_drewN ?_ _) | (with_reducible refine Kd.C_drew ?_)))
        (case side4 => exact HC293_0.out)
        rintro e w10 ⟨rfl, hb⟩
        refine ⟨_, rfl, ?_⟩
        replace HB := Aside0.mk (below_step au33 hb)
        (try clear hb)
        refine hK.out _ _ ⟨(bcl HB.out hw292_0), (bcl HB.out hw292_1), (bcl HB.out hw292_2), (bcl HB.out hw292_3), (bcl HB.out hw293_0), (bcl HB.out hw293_1), (bcl HB.out hw293_2), (bcl HB.out hw293_3)⟩ (fun hHeld => ?_)
        clear hK K
        refine no_ (some 25) ?_
        refine pu_ 9 (some 26) #[true, true, true, true, true, true, true, true, true, true] HT_.out ?_
        refine done_ (done_of HT_.out (by kernel_rfl)) ?_
        try go_wp2
        go_roundg k1
        case measure => have := HK1.out; omega
        case rel => exact ⟨(wrap64 (x5_1 + 1)), au66, H', ⟨by have := HK1.out; omega⟩, ⟨by repeat (first | (with_reducible first | exact HB.out | apply below_alloc | apply pw_below_drewN | apply below_drew1) | exact HB.out)⟩⟩
       ·
        replace c8 := Bool.eq_false_iff.mpr c8
        subst c8
        replace H := (if_neg (show ¬ (false = true) by decide)).symm.trans H
        obtain rfl := Option.some.inj H
        try go_wp2
        replace HB := Aside0.mk (below_drew1 HB.out)
        have p292 : 0 ≤ (x5_1 : Int) := of_decide_eq_true au65
        have q292 : x5_1 < (l0.length : Int) := of_decide_eq_true au65
        obtain ⟨ad292, A292_0, c292_0, e292, hx292_0, hx292_1, hx292_2, hx292_3, hl292_0, hi292_0⟩ := at_T75 HR0.out x5_1 p292 q292
        have hw292_3 := hx292_3
        have hw292_2 := hx292_2
        have hw292_1 := hx292_1
        have hw292_0 := hx292_0
        cases e292
        replace hx292_0 := bcl HB.out hx292_0
        replace hx292_1 := bcl HB.out hx292_1
        replace hx292_2 := bcl HB.out hx292_2
        replace hx292_3 := bcl HB.out hx292_3
        have HR292_0 := Aside0.mk hi292_0
        have HC292_0 := Aside0.mk hl292_0
        clear hi292_0 hl292_0
        replace p292 := eq_true p292
        replace q292 := eq_true q292
        have p293 : 0 ≤ (x5_1 : Int) := of_decide_eq_true au65
        have q293 : x5_1 < (l1.length : Int) := of_decide_eq_true au65
        obtain ⟨ad293, A293_0, c293_0, e293, hx293_0, hx293_1, hx293_2, hx293_3, hl293_0, hi293_0⟩ := at_T75 HR1.out x5_1 p293 q293
        have hw293_3 := hx293_3
        have hw293_2 := hx293_2
        have hw293_1 := hx293_1
        have hw293_0 := hx293_0
        cases e293
        replace hx293_0 := bcl HB.out hx293_0
        replace hx293_1 := bcl HB.out hx293_1
        replace hx293_2 := bcl HB.out hx293_2
        replace hx293_3 := bcl HB.out hx293_3
        have HR293_0 := Aside0.mk hi293_0
        have HC293_0 := Aside0.mk hl293_0
        clear hi293_0 hl293_0
        replace p293 := eq_true p293
        replace q293 := eq_true q293
        refine start_ (n := 10) (S := fun w' => w'.cell? (ad292.add ((x5_1).toNat * 4)) = some (.slice A292_0 ((rd_T75 l0 x5_1).f0).length c292_0) ∧ w'.cell? ⟨(ad292.add ((x5_1).toNat * 4)).block, (ad292.add ((x5_1).toNat * 4)).off + 1, none⟩ = some (.string ((rd_T75 l0 x5_1).f1)) ∧ w'.cell? ⟨(ad292.add ((x5_1).toNat * 4)).block, (ad292.add ((x5_1).toNat * 4)).off + 2, none⟩ = some (.string ((rd_T75 l0 x5_1).f2)) ∧ w'.cell? ⟨(ad292.add ((x5_1).toNat * 4)).block, (ad292.add ((x5_1).toNat * 4)).off + 3, none⟩ = some (.string ((rd_T75 l0 x5_1).f3)) ∧ w'.cell? (ad293.add ((x5_1).toNat * 4)) = some (.slice A293_0 ((rd_T75 l1 x5_1).f0).length c293_0) ∧ w'.cell? ⟨(ad293.add ((x5_1).toNat * 4)).block, (ad293.add ((x5_1).toNat * 4)).off + 1, none⟩ = some (.string ((rd_T75 l1 x5_1).f1)) ∧ w'.cell? ⟨(ad293.add ((x5_1).toNat * 4)).block, (ad293.add ((x5_1).toNat * 4)).off + 2, none⟩ = some (.string ((rd_T75 l1 x5_1).f2)) ∧ w'.cell? ⟨(ad293.add ((x5_1).toNat * 4)).block, (ad293.add ((x5_1).toNat * 4)).off + 3, none⟩ = some (.string ((rd_T75 l1 x5_1).f3))) (ds := []) #[false, false, false, false, false, false, false, false, false, false] (by kernel_rfl) rfl rfl ⟨(bcl HB.out hw292_0), (bcl HB.out hw292_1), (bcl HB.out hw292_2), (bcl HB.out hw292_3), (bcl HB.out hw293_0), (bcl HB.out hw293_1), (bcl HB.out hw293_2), (bcl HB.out hw293_3)⟩ (fun hHeld => ?_); refine with_tabW laws_eqNameS.tab6 laws_eqNameS.bits6 (fun HT_ HW_ => ?_)
        generalize wr.drew = w11 at HB HR292_0 HR293_0 hx292_0 hx292_1 hx292_2 hx292_3 hx293_0 hx293_1 hx293_2 hx293_3 hHeld ⊢
        refine pu_ 0 (some 17) #[true, false, false, false, false, false, false, false, false, false] HT_.out ?_
        refine pu_ 1 (some 18) #[true, true, false, false, false, false, false, false, false, false] HT_.out ?_
        refine pu_ 2 (some 19) #[true, true, true, false, false, false, false, false, false, false] HT_.out ?_
        refine pu_ 4 (some 21) #[true, true, true, false, true, false, false, false, false, false] HT_.out ?_
        refine pu_ 5 (some 22) #[true, true, true, false, true, true, false, false, false, false] HT_.out ?_
        refine pu_ 6 (some 23) #[true, true, true, false, true, true, true, false, false, false] HT_.out ?_
        refine ta4_ 3 (some 20) #[true, true, true, true, true, true, true, false, false, false] HT_.out HW_.out hHeld ?_
        refine ta4_ 7 (some 24) #[true, true, true, true, true, true, true, true, false, false] HT_.out HW_.out hHeld ?_
        refine on_ 8 (some 25) #[true, true, true, true, true, true, true, true, true, false] HT_.out (fun K hK => ?_)
        refine gs_ Tryd.func61 #[.agg #[.slice A292_0 ((rd_T75 l0 x5_1).f0).length c292_0, .string ((rd_T75 l0 x5_1).f1), .string ((rd_T75 l0 x5_1).f2), .string ((rd_T75 l0 x5_1).f3)], .agg #[.slice A293_0 ((rd_T75 l1 x5_1).f0).length c293_0, .string ((rd_T75 l1 x5_1).f1), .string ((rd_T75 l1 x5_1).f2), .string ((rd_T75 l1 x5_1).f3)]] ?_
        with_reducible refine (laws_eqName.calls k1 _ _ ((rd_T75 l0 x5_1).f0) ((rd_T75 l0 x5_1).f1) ((rd_T75 l0 x5_1).f2) ((rd_T75 l0 x5_1).f3) _ _ ((rd_T75 l1 x5_1).f0) ((rd_T75 l1 x5_1).f1) ((rd_T75 l1 x5_1).f2) ((rd_T75 l1 x5_1).f3) false _ ?side1 ?side2 ?side3 ?side4 A7.out).mono ?_
        (case side1 => repeat (first | exact (Kd.C_below HR292_0.out HB.out) | (with_reducible refine Kd.C_alloc ?_ _) | (with_reducible refine Kd.C_drewN ?_ _) | (with_reducible refine Kd.C_drew ?_)))
        (case side2 => exact HC292_0.out)
        (case side3 => repeat (first | exact (Kd.C_below HR293_0.out HB.out) | (with_reducible refine Kd.C_alloc ?_ _) | (with_reducible refine Kd.C_drewN ?_ _) | (with_reducible refine Kd.C_drew ?_)))
        (case side4 => exact HC293_0.out)
        rintro e w12 ⟨rfl, hb⟩
        refine ⟨_, rfl, ?_⟩
        replace HB := Aside0.mk (below_step au33 hb)
        (try clear hb)
        refine hK.out _ _ ⟨(bcl HB.out hw292_0), (bcl HB.out hw292_1), (bcl HB.out hw292_2), (bcl HB.out hw292_3), (bcl HB.out hw293_0), (bcl HB.out hw293_1), (bcl HB.out hw293_2), (bcl HB.out hw293_3)⟩ (fun hHeld => ?_)
        clear hK K
        refine no_ (some 25) ?_
        refine pu_ 9 (some 26) #[true, true, true, true, true, true, true, true, true, true] HT_.out ?_
        refine done_ (done_of HT_.out (by kernel_rfl)) ?_
        try go_wp2
        go_ret
        exact ax1
      ·
       rw [if_neg c6] at H
       exact absurd H (by simp)
     ·
      rw [if_neg c5] at H
      exact absurd H (by simp)
    ·
     rw [if_neg c4] at H
     have c4b0 : decide (x5_1 < (l0.length : Int)) = false := decide_eq_false c4
     clear c4
     obtain rfl := Option.some.inj H
     go_wp2
     go_ret
     exact ax1
 ·
  rw [if_neg c3] at H
  have c3b0 : ((l0.length : Int) == (l1.length : Int)) = false := beq_eq_false_iff_ne.mpr c3
  have c3b1 : ((l0.length : Int) != (l1.length : Int)) = true := bne_iff_ne.mpr c3
  have c3b2 : (l0.length == l1.length) = false := by first | simpa using c3 | (simp at c3 ⊢; omega)
  obtain rfl := Option.some.inj H
  go_enter Tryd.func47, Tryd.ntmps47
  go_wp2
  go_ret
  exact ax1


/-! ### laws_eqDate: function 48 -/
def laws_eqDate.f (a0_0 : Int) (a0_1 : Int) (a0_2 : Int) (a0_3 : Bool) (a1_0 : Int) (a1_1 : Int) (a1_2 : Int) (a1_3 : Bool) : Option (Bool) := if a0_0 = a1_0 then (if a0_1 = a1_1 then (if a0_2 = a1_2 then (if (a0_3 != a1_3) = true then (some false) else (some true)) else (some false)) else (some false)) else (some false)
set_option maxRecDepth 100000 in
theorem laws_eqDate.L0 {P : Prop} (h : P := by
  go_enter Tryd.func48, Tryd.ntmps48
  go_wp2_with (first | ((with_reducible refine gate_dst (N := 2) rfl ?_); refine box_event ?hg (N := 2) ?hd (cs := #[.int .i64 a0_0, .int .i64 a0_1, .int .i64 a0_2, .bool a0_3]) (t := 49) ?hr ?_; (case hd => rfl); (case hg => rfl); (case hr => first | (go_simp; done) | (go_simp; rfl)); intro gb295 hg w12 hbox hb; have BK295 := Aside0.mk (hbox); have GW295 := Aside0.mk (bsz hg au33); have GE295 := Aside0.mk (bsz hg au33); replace HB := Aside0.mk (below_step au33 hb); clear hb hbox hg) | ((with_reducible refine gate_dst (N := 3) rfl ?_); refine box_event ?hg (N := 3) ?hd (cs := #[.int .i64 a1_0, .int .i64 a1_1, .int .i64 a1_2, .bool a1_3]) (t := 49) ?hr ?_; (case hd => rfl); (case hg => rfl); (case hr => first | (go_simp; done) | (go_simp; rfl)); intro gb296 hg w13 hbox hb; have BK296 := Aside0.mk (hbox); have GW296 := Aside0.mk (bsz hg au28); have GE296 := Aside0.mk (bsz hg au28); replace HB := Aside0.mk (below_step au28 hb); have NB295_296 := Aside0.mk (bne (g := gb295) hg au54); have NB296_295 := Aside0.mk (ben (g := gb295) hg au54); replace BK295 := Aside0.mk (blk_below (g := gb295) au54 hb); clear hb hbox hg; have hnb14 := NB295_296.out; have hnc14 := NB296_295.out; obtain ⟨hcz15_0, hcz15_1, hcz15_2, hcz15_3, hfz15_0, hfz15_1, hfz15_2, hfz15_3⟩ := blkc4 BK295.out; obtain ⟨hcz16_0, hcz16_1, hcz16_2, hcz16_3, hfz16_0, hfz16_1, hfz16_2, hfz16_3⟩ := blkc4 BK296.out))
  go_ret
  exact ⟨by first | rfl | (simp [errW_none, errW_some] <;> rfl) | (simp [*, errW_none, errW_some] <;> rfl), by repeat (first | (with_reducible first | exact HB.out | apply below_alloc | apply pw_below_drewN | apply below_drew1 | refine below_set ?_ GE295.out | refine below_set ?_ GE296.out) | exact HB.out)⟩) : P := h
set_option maxHeartbeats 8000000 in
set_option maxRecDepth 100000 in
theorem laws_eqDate.calls (a0_0 : Int) (a0_1 : Int) (a0_2 : Int) (a0_3 : Bool) (a1_0 : Int) (a1_1 : Int) (a1_2 : Int) (a1_3 : Bool) (r : Bool) (w : World) (h : laws_eqDate.f a0_0 a0_1 a0_2 a0_3 a1_0 a1_1 a1_2 a1_3 = some r) :
  Calls Tryd.prog 48 #[.agg #[.int .i64 a0_0, .int .i64 a0_1, .int .i64 a0_2, .bool a0_3], .agg #[.int .i64 a1_0, .int .i64 a1_1, .int .i64 a1_2, .bool a1_3]] w fun e w' => e = .returned (.bool r) ∧ Below w.heap.size w w' := by
 have hu49 := Tryd.underlying49
 have HB := Aside0.mk (Below.refl w.heap.size w)
 have H : (if a0_0 = a1_0 then (if a0_1 = a1_1 then (if a0_2 = a1_2 then (if (a0_3 != a1_3) = true then (some false) else (some true)) else (some false)) else (some false)) else (some false)) = some r := h
 clear h
 by_cases c3 : a0_0 = a1_0
 ·
  rw [if_pos c3] at H
  have c3b0 : (a0_0 == a1_0) = true := beq_iff_eq.mpr c3
  have c3b1 : (a0_0 != a1_0) = false := bne_eq_false_iff_eq.mpr c3
  clear c3
  by_cases c4 : a0_1 = a1_1
  ·
   rw [if_pos c4] at H
   have c4b0 : (a0_1 == a1_1) = true := beq_iff_eq.mpr c4
   have c4b1 : (a0_1 != a1_1) = false := bne_eq_false_iff_eq.mpr c4
   clear c4
   by_cases c5 : a0_2 = a1_2
   ·
    rw [if_pos c5] at H
    have c5b0 : (a0_2 == a1_2) = true := beq_iff_eq.mpr c5
    have c5b1 : (a0_2 != a1_2) = false := bne_eq_false_iff_eq.mpr c5
    clear c5
    by_cases c6 : (a0_3 != a1_3) = true
    ·
     rw [if_pos c6] at H
     have c6b0 : (a0_3 != a1_3) = true := c6
     (try (have c6b1 : decide (a0_3 = a1_3) = false := by simpa using c6))
     (try (have c6b2 : (a0_3 == a1_3) = false := by simpa using c6))
     (try (have c6b3 : ¬ (a0_3 = a1_3) := by simpa using c6))
     clear c6
     obtain rfl := Option.some.inj H
     exact laws_eqDate.L0
    ·
     rw [if_neg c6] at H
     have c6b0 : (a0_3 != a1_3) = false := by simpa using c6
     (try (have c6b1 : decide (a0_3 = a1_3) = true := by simpa using c6))
     (try (have c6b2 : (a0_3 == a1_3) = true := by simpa using c6))
     clear c6
     obtain rfl := Option.some.inj H
     exact laws_eqDate.L0
   ·
    rw [if_neg c5] at H
    have c5b0 : (a0_2 == a1_2) = false := beq_eq_false_iff_ne.mpr c5
    have c5b1 : (a0_2 != a1_2) = true := bne_iff_ne.mpr c5
    obtain rfl := Option.some.inj H
    exact laws_eqDate.L0
  ·
   rw [if_neg c4] at H
   have c4b0 : (a0_1 == a1_1) = false := beq_eq_false_iff_ne.mpr c4
   have c4b1 : (a0_1 != a1_1) = true := bne_iff_ne.mpr c4
   obtain rfl := Option.some.inj H
   exact laws_eqDate.L0
 ·
  rw [if_neg c3] at H
  have c3b0 : (a0_0 == a1_0) = false := beq_eq_false_iff_ne.mpr c3
  have c3b1 : (a0_0 != a1_0) = true := bne_iff_ne.mpr c3
  obtain rfl := Option.some.inj H
  exact laws_eqDate.L0


/-! ### laws_eqEntry: function 33 -/
def laws_eqEntry.f (k : Nat) (a0_0 : ByteArray) (a0_1 : Int) (l0_2 : List (S75)) (l0_3 : List (S75)) (a0_4 : ByteArray) (a0_5 : ByteArray) (a0_6 : ByteArray) (a0_7 : Int) (a0_8 : Int) (a0_9 : Int) (a0_10 : Bool) (a0_11 : Int) (a0_12 : ByteArray) (a0_13 : ByteArray) (a1_0 : ByteArray) (a1_1 : Int) (l1_2 : List (S75)) (l1_3 : List (S75)) (a1_4 : ByteArray) (a1_5 : ByteArray) (a1_6 : ByteArray) (a1_7 : Int) (a1_8 : Int) (a1_9 : Int) (a1_10 : Bool) (a1_11 : Int) (a1_12 : ByteArray) (a1_13 : ByteArray) : Option (Bool) := if a0_0.toList = a1_0.toList then (if a0_1 = a1_1 then ((laws_eqNameS.f k l0_2 l1_2).bind fun t299 => (if t299 = true then ((laws_eqNameS.f k l0_3 l1_3).bind fun t300 => (if t300 = true then (if a0_4.toList = a1_4.toList then (if a0_5.toList = a1_5.toList then (if a0_6.toList = a1_6.toList then ((laws_eqDate.f a0_7 a0_8 a0_9 a0_10 a1_7 a1_8 a1_9 a1_10).bind fun t301 => (if t301 = true then (if a0_11 = a1_11 then (if a0_12.toList = a1_12.toList then (if a0_13.toList = a1_13.toList then (some true) else (some false)) else (some false)) else (some false)) else (some false))) else (some false)) else (some false)) else (some false)) else (some false))) else (some false))) else (some false)) else (some false)
theorem laws_eqEntry.mono : ∀ a0 a1 a2 a3 a4 a5 a6 a7 a8 a9 a10 a11 a12 a13 a14 a15 a16 a17 a18 a19 a20 a21 a22 a23 a24 a25 a26 a27 k, LeO (laws_eqEntry.f k a0 a1 a2 a3 a4 a5 a6 a7 a8 a9 a10 a11 a12 a13 a14 a15 a16 a17 a18 a19 a20 a21 a22 a23 a24 a25 a26 a27) (laws_eqEntry.f (k + 1) a0 a1 a2 a3 a4 a5 a6 a7 a8 a9 a10 a11 a12 a13 a14 a15 a16 a17 a18 a19 a20 a21 a22 a23 a24 a25 a26 a27) := by
 intro a0 a1 a2 a3 a4 a5 a6 a7 a8 a9 a10 a11 a12 a13 a14 a15 a16 a17 a18 a19 a20 a21 a22 a23 a24 a25 a26 a27 k
 unfold laws_eqEntry.f
 repeat' first
   | (with_reducible exact laws_eqNameS.mono _ _ _)
   | (with_reducible exact LeO.refl _)
   | (with_reducible exact LeO.none _)
   | (with_reducible refine LeO.ite ?_ ?_)
   | (with_reducible refine LeO.bind ?_ (fun _ => ?_))
   | exact laws_eqNameS.mono _ _ _
   | exact LeO.none _
   | refine LeO.ite ?_ ?_
   | refine LeO.bind ?_ (fun _ => ?_)
set_option maxRecDepth 100000 in
theorem laws_eqEntry.L0 {P : Prop} (h : P := by
  go_enter Tryd.func33, Tryd.ntmps33
  go_wp2_with (first | ((with_reducible refine gate_dst (N := 2) rfl ?_); refine box_event ?hg (N := 2) ?hd (cs := #[.string a0_0, .int .i64 a0_1, .slice A0_2 l0_2.length c0_2, .slice A0_3 l0_3.length c0_3, .string a0_4, .string a0_5, .string a0_6, .int .i64 a0_7, .int .i64 a0_8, .int .i64 a0_9, .bool a0_10, .int .i64 a0_11, .string a0_12, .string a0_13]) (t := 51) ?hr ?_; (case hd => rfl); (case hg => rfl); (case hr => first | (go_simp; done) | (go_simp; rfl)); intro gb297 hg w17 hbox hb; have BK297 := Aside0.mk (hbox); have GW297 := Aside0.mk (bsz hg au33); have GE297 := Aside0.mk (bsz hg au33); replace HB := Aside0.mk (below_step au33 hb); clear hb hbox hg) | ((with_reducible refine gate_dst (N := 3) rfl ?_); refine box_event ?hg (N := 3) ?hd (cs := #[.string a1_0, .int .i64 a1_1, .slice A1_2 l1_2.length c1_2, .slice A1_3 l1_3.length c1_3, .string a1_4, .string a1_5, .string a1_6, .int .i64 a1_7, .int .i64 a1_8, .int .i64 a1_9, .bool a1_10, .int .i64 a1_11, .string a1_12, .string a1_13]) (t := 51) ?hr ?_; (case hd => rfl); (case hg => rfl); (case hr => first | (go_simp; done) | (go_simp; rfl)); intro gb298 hg w18 hbox hb; have BK298 := Aside0.mk (hbox); have GW298 := Aside0.mk (bsz hg au29); have GE298 := Aside0.mk (bsz hg au29); replace HB := Aside0.mk (below_step au29 hb); have NB297_298 := Aside0.mk (bne (g := gb297) hg au55); have NB298_297 := Aside0.mk (ben (g := gb297) hg au55); replace BK297 := Aside0.mk (blk_below (g := gb297) au55 hb); clear hb hbox hg; have hnb19 := NB297_298.out; have hnc19 := NB298_297.out; obtain ⟨hcz20_0, hcz20_1, hcz20_2, hcz20_3, hcz20_4, hcz20_5, hcz20_6, hcz20_7, hcz20_8, hcz20_9, hcz20_10, hcz20_11, hcz20_12, hcz20_13, hfz20_0, hfz20_1, hfz20_2, hfz20_3, hfz20_4, hfz20_5, hfz20_6, hfz20_7, hfz20_8, hfz20_9, hfz20_10, hfz20_11, hfz20_12, hfz20_13⟩ := blkc14 BK297.out; obtain ⟨hcz21_0, hcz21_1, hcz21_2, hcz21_3, hcz21_4, hcz21_5, hcz21_6, hcz21_7, hcz21_8, hcz21_9, hcz21_10, hcz21_11, hcz21_12, hcz21_13, hfz21_0, hfz21_1, hfz21_2, hfz21_3, hfz21_4, hfz21_5, hfz21_6, hfz21_7, hfz21_8, hfz21_9, hfz21_10, hfz21_11, hfz21_12, hfz21_13⟩ := blkc14 BK298.out) | ((with_reducible refine gate_callee (f := 47) rfl ?_); refine goesL_ (some 19) rfl rfl Tryd.func47 (by kernel_rfl) rfl #[.slice A0_2 l0_2.length c0_2, .slice A1_2 l1_2.length c1_2] rfl au32 ?_; (with_reducible refine (laws_eqNameS.calls k _ _ l0_2 _ _ l1_2 _ _ ?side1 ?side2 ?side3 ?side4 A5.out).mono ?_); (case side1 => repeat (first | exact (Kd.C_below HR0_2.out HB.out) | (with_reducible refine Kd.C_alloc ?_ _) | (with_reducible refine Kd.C_drewN ?_ _) | (with_reducible refine Kd.C_drew ?_))); (case side2 => exact HC0_2.out); (case side3 => repeat (first | exact (Kd.C_below HR1_2.out HB.out) | (with_reducible refine Kd.C_alloc ?_ _) | (with_reducible refine Kd.C_drewN ?_ _) | (with_reducible refine Kd.C_drew ?_))); (case side4 => exact HC1_2.out); rintro e w22 ⟨rfl, hb⟩; refine ⟨_, rfl, ?_⟩; replace BK297 := Aside0.mk (blk_below (g := gb297) au55 hb); replace BK298 := Aside0.mk (blk_below (g := gb298) au56 hb); replace HB := Aside0.mk (below_step au11 hb); (try clear hb); obtain ⟨hcz23_0, hcz23_1, hcz23_2, hcz23_3, hcz23_4, hcz23_5, hcz23_6, hcz23_7, hcz23_8, hcz23_9, hcz23_10, hcz23_11, hcz23_12, hcz23_13, hfz23_0, hfz23_1, hfz23_2, hfz23_3, hfz23_4, hfz23_5, hfz23_6, hfz23_7, hfz23_8, hfz23_9, hfz23_10, hfz23_11, hfz23_12, hfz23_13⟩ := blkc14 BK297.out; obtain ⟨hcz24_0, hcz24_1, hcz24_2, hcz24_3, hcz24_4, hcz24_5, hcz24_6, hcz24_7, hcz24_8, hcz24_9, hcz24_10, hcz24_11, hcz24_12, hcz24_13, hfz24_0, hfz24_1, hfz24_2, hfz24_3, hfz24_4, hfz24_5, hfz24_6, hfz24_7, hfz24_8, hfz24_9, hfz24_10, hfz24_11, hfz24_12, hfz24_13⟩ := blkc14 BK298.out) | ((with_reducible refine gate_callee (f := 47) rfl ?_); refine goesL_ (some 25) rfl rfl Tryd.func47 (by kernel_rfl) rfl #[.slice A0_3 l0_3.length c0_3, .slice A1_3 l1_3.length c1_3] rfl au32 ?_; (with_reducible refine (laws_eqNameS.calls k _ _ l0_3 _ _ l1_3 _ _ ?side1 ?side2 ?side3 ?side4 A7.out).mono ?_); (case side1 => repeat (first | exact (Kd.C_below HR0_3.out HB.out) | (with_reducible refine Kd.C_alloc ?_ _) | (with_reducible refine Kd.C_drewN ?_ _) | (with_reducible refine Kd.C_drew ?_))); (case side2 => exact HC0_3.out); (case side3 => repeat (first | exact (Kd.C_below HR1_3.out HB.out) | (with_reducible refine Kd.C_alloc ?_ _) | (with_reducible refine Kd.C_drewN ?_ _) | (with_reducible refine Kd.C_drew ?_))); (case side4 => exact HC1_3.out); rintro e w25 ⟨rfl, hb⟩; refine ⟨_, rfl, ?_⟩; replace BK297 := Aside0.mk (blk_below (g := gb297) au55 hb); replace BK298 := Aside0.mk (blk_below (g := gb298) au56 hb); replace HB := Aside0.mk (below_step au11 hb); (try clear hb); obtain ⟨hcz26_0, hcz26_1, hcz26_2, hcz26_3, hcz26_4, hcz26_5, hcz26_6, hcz26_7, hcz26_8, hcz26_9, hcz26_10, hcz26_11, hcz26_12, hcz26_13, hfz26_0, hfz26_1, hfz26_2, hfz26_3, hfz26_4, hfz26_5, hfz26_6, hfz26_7, hfz26_8, hfz26_9, hfz26_10, hfz26_11, hfz26_12, hfz26_13⟩ := blkc14 BK297.out; obtain ⟨hcz27_0, hcz27_1, hcz27_2, hcz27_3, hcz27_4, hcz27_5, hcz27_6, hcz27_7, hcz27_8, hcz27_9, hcz27_10, hcz27_11, hcz27_12, hcz27_13, hfz27_0, hfz27_1, hfz27_2, hfz27_3, hfz27_4, hfz27_5, hfz27_6, hfz27_7, hfz27_8, hfz27_9, hfz27_10, hfz27_11, hfz27_12, hfz27_13⟩ := blkc14 BK298.out) | ((with_reducible refine gate_callee (f := 48) rfl ?_); refine goesL_ (some 46) rfl rfl Tryd.func48 (by kernel_rfl) rfl #[.agg #[.int .i64 a0_7, .int .i64 a0_8, .int .i64 a0_9, .bool a0_10], .agg #[.int .i64 a1_7, .int .i64 a1_8, .int .i64 a1_9, .bool a1_10]] rfl au32 ?_; (with_reducible refine (laws_eqDate.calls a0_7 a0_8 a0_9 a0_10 a1_7 a1_8 a1_9 a1_10 _ _ A12.out).mono ?_); rintro e w28 ⟨rfl, hb⟩; refine ⟨_, rfl, ?_⟩; replace BK297 := Aside0.mk (blk_below (g := gb297) au55 hb); replace BK298 := Aside0.mk (blk_below (g := gb298) au56 hb); replace HB := Aside0.mk (below_step au11 hb); (try clear hb); obtain ⟨hcz29_0, hcz29_1, hcz29_2, hcz29_3, hcz29_4, hcz29_5, hcz29_6, hcz29_7, hcz29_8, hcz29_9, hcz29_10, hcz29_11, hcz29_12, hcz29_13, hfz29_0, hfz29_1, hfz29_2, hfz29_3, hfz29_4, hfz29_5, hfz29_6, hfz29_7, hfz29_8, hfz29_9, hfz29_10, hfz29_11, hfz29_12, hfz29_13⟩ := blkc14 BK297.out; obtain ⟨hcz30_0, hcz30_1, hcz30_2, hcz30_3, hcz30_4, hcz30_5, hcz30_6, hcz30_7, hcz30_8, hcz30_9, hcz30_10, hcz30_11, hcz30_12, hcz30_13, hfz30_0, hfz30_1, hfz30_2, hfz30_3, hfz30_4, hfz30_5, hfz30_6, hfz30_7, hfz30_8, hfz30_9, hfz30_10, hfz30_11, hfz30_12, hfz30_13⟩ := blkc14 BK298.out))
  go_ret
  exact ax12) : P := h
set_option maxHeartbeats 8000000 in
set_option maxRecDepth 100000 in
theorem laws_eqEntry.calls (k : Nat) (a0_0 : ByteArray) (a0_1 : Int) (A0_2 : Option Addr) (c0_2 : Nat) (l0_2 : List (S75)) (A0_3 : Option Addr) (c0_3 : Nat) (l0_3 : List (S75)) (a0_4 : ByteArray) (a0_5 : ByteArray) (a0_6 : ByteArray) (a0_7 : Int) (a0_8 : Int) (a0_9 : Int) (a0_10 : Bool) (a0_11 : Int) (a0_12 : ByteArray) (a0_13 : ByteArray) (a1_0 : ByteArray) (a1_1 : Int) (A1_2 : Option Addr) (c1_2 : Nat) (l1_2 : List (S75)) (A1_3 : Option Addr) (c1_3 : Nat) (l1_3 : List (S75)) (a1_4 : ByteArray) (a1_5 : ByteArray) (a1_6 : ByteArray) (a1_7 : Int) (a1_8 : Int) (a1_9 : Int) (a1_10 : Bool) (a1_11 : Int) (a1_12 : ByteArray) (a1_13 : ByteArray) (r : Bool) (w : World) (hr0_2 : Kd.C k75 w A0_2 l0_2.length l0_2) (hc0_2 : l0_2.length ≤ c0_2) (hr0_3 : Kd.C k75 w A0_3 l0_3.length l0_3) (hc0_3 : l0_3.length ≤ c0_3) (hr1_2 : Kd.C k75 w A1_2 l1_2.length l1_2) (hc1_2 : l1_2.length ≤ c1_2) (hr1_3 : Kd.C k75 w A1_3 l1_3.length l1_3) (hc1_3 : l1_3.length ≤ c1_3) (h : laws_eqEntry.f k a0_0 a0_1 l0_2 l0_3 a0_4 a0_5 a0_6 a0_7 a0_8 a0_9 a0_10 a0_11 a0_12 a0_13 a1_0 a1_1 l1_2 l1_3 a1_4 a1_5 a1_6 a1_7 a1_8 a1_9 a1_10 a1_11 a1_12 a1_13 = some r) :
  Calls Tryd.prog 33 #[.agg #[.string a0_0, .int .i64 a0_1, .slice A0_2 l0_2.length c0_2, .slice A0_3 l0_3.length c0_3, .string a0_4, .string a0_5, .string a0_6, .int .i64 a0_7, .int .i64 a0_8, .int .i64 a0_9, .bool a0_10, .int .i64 a0_11, .string a0_12, .string a0_13], .agg #[.string a1_0, .int .i64 a1_1, .slice A1_2 l1_2.length c1_2, .slice A1_3 l1_3.length c1_3, .string a1_4, .string a1_5, .string a1_6, .int .i64 a1_7, .int .i64 a1_8, .int .i64 a1_9, .bool a1_10, .int .i64 a1_11, .string a1_12, .string a1_13]] w fun e w' => e = .returned (.bool r) ∧ Below w.heap.size w w' := by
 have hu51 := Tryd.underlying51
 have hu49 := Tryd.underlying49
 have HR0_2 := Aside0.mk hr0_2
 have HC0_2 := Aside0.mk hc0_2
 clear hr0_2 hc0_2
 have HR0_3 := Aside0.mk hr0_3
 have HC0_3 := Aside0.mk hc0_3
 clear hr0_3 hc0_3
 have HR1_2 := Aside0.mk hr1_2
 have HC1_2 := Aside0.mk hc1_2
 clear hr1_2 hc1_2
 have HR1_3 := Aside0.mk hr1_3
 have HC1_3 := Aside0.mk hc1_3
 clear hr1_3 hc1_3
 have HB := Aside0.mk (Below.refl w.heap.size w)
 have H : (if a0_0.toList = a1_0.toList then (if a0_1 = a1_1 then ((laws_eqNameS.f k l0_2 l1_2).bind fun t299 => (if t299 = true then ((laws_eqNameS.f k l0_3 l1_3).bind fun t300 => (if t300 = true then (if a0_4.toList = a1_4.toList then (if a0_5.toList = a1_5.toList then (if a0_6.toList = a1_6.toList then ((laws_eqDate.f a0_7 a0_8 a0_9 a0_10 a1_7 a1_8 a1_9 a1_10).bind fun t301 => (if t301 = true then (if a0_11 = a1_11 then (if a0_12.toList = a1_12.toList then (if a0_13.toList = a1_13.toList then (some true) else (some false)) else (some false)) else (some false)) else (some false))) else (some false)) else (some false)) else (some false)) else (some false))) else (some false))) else (some false)) else (some false)) = some r := h
 clear h
 by_cases c3 : a0_0.toList = a1_0.toList
 ·
  rw [if_pos c3] at H
  have c3b0 : (a0_0.toList == a1_0.toList) = true := beq_iff_eq.mpr c3
  have c3b1 : (a0_0.toList != a1_0.toList) = false := bne_eq_false_iff_eq.mpr c3
  clear c3
  by_cases c4 : a0_1 = a1_1
  ·
   rw [if_pos c4] at H
   have c4b0 : (a0_1 == a1_1) = true := beq_iff_eq.mpr c4
   have c4b1 : (a0_1 != a1_1) = false := bne_eq_false_iff_eq.mpr c4
   clear c4
   replace H := Option.bind_eq_some_iff.mp H
   obtain ⟨t299, A50, H⟩ := H
   try dsimp only at H
   have A5 := Aside0.mk A50
   clear A50
   by_cases c6 : t299 = true
   ·
    subst c6
    replace H := (if_pos rfl).symm.trans H
    replace H := Option.bind_eq_some_iff.mp H
    obtain ⟨t300, A70, H⟩ := H
    try dsimp only at H
    have A7 := Aside0.mk A70
    clear A70
    by_cases c8 : t300 = true
    ·
     subst c8
     replace H := (if_pos rfl).symm.trans H
     by_cases c9 : a0_4.toList = a1_4.toList
     ·
      rw [if_pos c9] at H
      have c9b0 : (a0_4.toList == a1_4.toList) = true := beq_iff_eq.mpr c9
      have c9b1 : (a0_4.toList != a1_4.toList) = false := bne_eq_false_iff_eq.mpr c9
      clear c9
      by_cases c10 : a0_5.toList = a1_5.toList
      ·
       rw [if_pos c10] at H
       have c10b0 : (a0_5.toList == a1_5.toList) = true := beq_iff_eq.mpr c10
       have c10b1 : (a0_5.toList != a1_5.toList) = false := bne_eq_false_iff_eq.mpr c10
       clear c10
       by_cases c11 : a0_6.toList = a1_6.toList
       ·
        rw [if_pos c11] at H
        have c11b0 : (a0_6.toList == a1_6.toList) = true := beq_iff_eq.mpr c11
        have c11b1 : (a0_6.toList != a1_6.toList) = false := bne_eq_false_iff_eq.mpr c11
        clear c11
        replace H := Option.bind_eq_some_iff.mp H
        obtain ⟨t301, A120, H⟩ := H
        try dsimp only at H
        have A12 := Aside0.mk A120
        clear A120
        by_cases c13 : t301 = true
        ·
         subst c13
         replace H := (if_pos rfl).symm.trans H
         by_cases c14 : a0_11 = a1_11
         ·
          rw [if_pos c14] at H
          have c14b0 : (a0_11 == a1_11) = true := beq_iff_eq.mpr c14
          have c14b1 : (a0_11 != a1_11) = false := bne_eq_false_iff_eq.mpr c14
          clear c14
          by_cases c15 : a0_12.toList = a1_12.toList
          ·
           rw [if_pos c15] at H
           have c15b0 : (a0_12.toList == a1_12.toList) = true := beq_iff_eq.mpr c15
           have c15b1 : (a0_12.toList != a1_12.toList) = false := bne_eq_false_iff_eq.mpr c15
           clear c15
           by_cases c16 : a0_13.toList = a1_13.toList
           ·
            rw [if_pos c16] at H
            have c16b0 : (a0_13.toList == a1_13.toList) = true := beq_iff_eq.mpr c16
            have c16b1 : (a0_13.toList != a1_13.toList) = false := bne_eq_false_iff_eq.mpr c16
            clear c16
            obtain rfl := Option.some.inj H
            exact laws_eqEntry.L0
           ·
            rw [if_neg c16] at H
            have c16b0 : (a0_13.toList == a1_13.toList) = false := beq_eq_false_iff_ne.mpr c16
            have c16b1 : (a0_13.toList != a1_13.toList) = true := bne_iff_ne.mpr c16
            obtain rfl := Option.some.inj H
            exact laws_eqEntry.L0
          ·
           rw [if_neg c15] at H
           have c15b0 : (a0_12.toList == a1_12.toList) = false := beq_eq_false_iff_ne.mpr c15
           have c15b1 : (a0_12.toList != a1_12.toList) = true := bne_iff_ne.mpr c15
           obtain rfl := Option.some.inj H
           exact laws_eqEntry.L0
         ·
          rw [if_neg c14] at H
          have c14b0 : (a0_11 == a1_11) = false := beq_eq_false_iff_ne.mpr c14
          have c14b1 : (a0_11 != a1_11) = true := bne_iff_ne.mpr c14
          obtain rfl := Option.some.inj H
          exact laws_eqEntry.L0
        ·
         replace c13 := Bool.eq_false_iff.mpr c13
         subst c13
         replace H := (if_neg (show ¬ (false = true) by decide)).symm.trans H
         obtain rfl := Option.some.inj H
         go_enter Tryd.func33, Tryd.ntmps33
         go_wp2_with (first | ((with_reducible refine gate_dst (N := 2) rfl ?_); refine box_event ?hg (N := 2) ?hd (cs := #[.string a0_0, .int .i64 a0_1, .slice A0_2 l0_2.length c0_2, .slice A0_3 l0_3.length c0_3, .string a0_4, .string a0_5, .string a0_6, .int .i64 a0_7, .int .i64 a0_8, .int .i64 a0_9, .bool a0_10, .int .i64 a0_11, .string a0_12, .string a0_13]) (t := 51) ?hr ?_; (case hd => rfl); (case hg => rfl); (case hr => first | (go_simp; done) | (go_simp; rfl)); intro gb297 hg w73 hbox hb; have BK297 := Aside0.mk (hbox); have GW297 := Aside0.mk (bsz hg au33); have GE297 := Aside0.mk (bsz hg au33); replace HB := Aside0.mk (below_step au33 hb); clear hb hbox hg) | ((with_reducible refine gate_dst (N := 3) rfl ?_); refine box_event ?hg (N := 3) ?hd (cs := #[.string a1_0, .int .i64 a1_1, .slice A1_2 l1_2.length c1_2, .slice A1_3 l1_3.length c1_3, .string a1_4, .string a1_5, .string a1_6, .int .i64 a1_7, .int .i64 a1_8, .int .i64 a1_9, .bool a1_10, .int .i64 a1_11, .string a1_12, .string a1_13]) (t := 51) ?hr ?_; (case hd => rfl); (case hg => rfl); (case hr => first | (go_simp; done) | (go_simp; rfl)); intro gb298 hg w74 hbox hb; have BK298 := Aside0.mk (hbox); have GW298 := Aside0.mk (bsz hg au29); have GE298 := Aside0.mk (bsz hg au29); replace HB := Aside0.mk (below_step au29 hb); have NB297_298 := Aside0.mk (bne (g := gb297) hg au55); have NB298_297 := Aside0.mk (ben (g := gb297) hg au55); replace BK297 := Aside0.mk (blk_below (g := gb297) au55 hb); clear hb hbox hg; have hnb75 := NB297_298.out; have hnc75 := NB298_297.out; obtain ⟨hcz76_0, hcz76_1, hcz76_2, hcz76_3, hcz76_4, hcz76_5, hcz76_6, hcz76_7, hcz76_8, hcz76_9, hcz76_10, hcz76_11, hcz76_12, hcz76_13, hfz76_0, hfz76_1, hfz76_2, hfz76_3, hfz76_4, hfz76_5, hfz76_6, hfz76_7, hfz76_8, hfz76_9, hfz76_10, hfz76_11, hfz76_12, hfz76_13⟩ := blkc14 BK297.out; obtain ⟨hcz77_0, hcz77_1, hcz77_2, hcz77_3, hcz77_4, hcz77_5, hcz77_6, hcz77_7, hcz77_8, hcz77_9, hcz77_10, hcz77_11, hcz77_12, hcz77_13, hfz77_0, hfz77_1, hfz77_2, hfz77_3, hfz77_4, hfz77_5, hfz77_6, hfz77_7, hfz77_8, hfz77_9, hfz77_10, hfz77_11, hfz77_12, hfz77_13⟩ := blkc14 BK298.out) | ((with_reducible refine gate_callee (f := 47) rfl ?_); refine goesL_ (some 19) rfl rfl Tryd.func47 (by kernel_rfl) rfl #[.slice A0_2 l0_2.length c0_2, .slice A1_2 l1_2.length c1_2] rfl au32 ?_; (with_reducible refine (laws_eqNameS.calls k _ _ l0_2 _ _ l1_2 _ _ ?side1 ?side2 ?side3 ?side4 A5.out).mono ?_); (case side1 => repeat (first | exact (Kd.C_below HR0_2.out HB.out) | (with_reducible refine Kd.C_alloc ?_ _) | (with_reducible refine Kd.C_drewN ?_ _) | (with_reducible refine Kd.C_drew ?_))); (case side2 => exact HC0_2.out); (case side3 => repeat (first | exact (Kd.C_below HR1_2.out HB.out) | (with_reducible refine Kd.C_alloc ?_ _) | (with_reducible refine Kd.C_drewN ?_ _) | (with_reducible refine Kd.C_drew ?_))); (case side4 => exact HC1_2.out); rintro e w78 ⟨rfl, hb⟩; refine ⟨_, rfl, ?_⟩; replace BK297 := Aside0.mk (blk_below (g := gb297) au55 hb); replace BK298 := Aside0.mk (blk_below (g := gb298) au56 hb); replace HB := Aside0.mk (below_step au11 hb); (try clear hb); obtain ⟨hcz79_0, hcz79_1, hcz79_2, hcz79_3, hcz79_4, hcz79_5, hcz79_6, hcz79_7, hcz79_8, hcz79_9, hcz79_10, hcz79_11, hcz79_12, hcz79_13, hfz79_0, hfz79_1, hfz79_2, hfz79_3, hfz79_4, hfz79_5, hfz79_6, hfz79_7, hfz79_8, hfz79_9, hfz79_10, hfz79_11, hfz79_12, hfz79_13⟩ := blkc14 BK297.out; obtain ⟨hcz80_0, hcz80_1, hcz80_2, hcz80_3, hcz80_4, hcz80_5, hcz80_6, hcz80_7, hcz80_8, hcz80_9, hcz80_10, hcz80_11, hcz80_12, hcz80_13, hfz80_0, hfz80_1, hfz80_2, hfz80_3, hfz80_4, hfz80_5, hfz80_6, hfz80_7, hfz80_8, hfz80_9, hfz80_10, hfz80_11, hfz80_12, hfz80_13⟩ := blkc14 BK298.out) | ((with_reducible refine gate_callee (f := 47) rfl ?_); refine goesL_ (some 25) rfl rfl Tryd.func47 (by kernel_rfl) rfl #[.slice A0_3 l0_3.length c0_3, .slice A1_3 l1_3.length c1_3] rfl au32 ?_; (with_reducible refine (laws_eqNameS.calls k _ _ l0_3 _ _ l1_3 _ _ ?side1 ?side2 ?side3 ?side4 A7.out).mono ?_); (case side1 => repeat (first | exact (Kd.C_below HR0_3.out HB.out) | (with_reducible refine Kd.C_alloc ?_ _) | (with_reducible refine Kd.C_drewN ?_ _) | (with_reducible refine Kd.C_drew ?_))); (case side2 => exact HC0_3.out); (case side3 => repeat (first | exact (Kd.C_below HR1_3.out HB.out) | (with_reducible refine Kd.C_alloc ?_ _) | (with_reducible refine Kd.C_drewN ?_ _) | (with_reducible refine Kd.C_drew ?_))); (case side4 => exact HC1_3.out); rintro e w81 ⟨rfl, hb⟩; refine ⟨_, rfl, ?_⟩; replace BK297 := Aside0.mk (blk_below (g := gb297) au55 hb); replace BK298 := Aside0.mk (blk_below (g := gb298) au56 hb); replace HB := Aside0.mk (below_step au11 hb); (try clear hb); obtain ⟨hcz82_0, hcz82_1, hcz82_2, hcz82_3, hcz82_4, hcz82_5, hcz82_6, hcz82_7, hcz82_8, hcz82_9, hcz82_10, hcz82_11, hcz82_12, hcz82_13, hfz82_0, hfz82_1, hfz82_2, hfz82_3, hfz82_4, hfz82_5, hfz82_6, hfz82_7, hfz82_8, hfz82_9, hfz82_10, hfz82_11, hfz82_12, hfz82_13⟩ := blkc14 BK297.out; obtain ⟨hcz83_0, hcz83_1, hcz83_2, hcz83_3, hcz83_4, hcz83_5, hcz83_6, hcz83_7, hcz83_8, hcz83_9, hcz83_10, hcz83_11, hcz83_12, hcz83_13, hfz83_0, hfz83_1, hfz83_2, hfz83_3, hfz83_4, hfz83_5, hfz83_6, hfz83_7, hfz83_8, hfz83_9, hfz83_10, hfz83_11, hfz83_12, hfz83_13⟩ := blkc14 BK298.out) | ((with_reducible refine gate_callee (f := 48) rfl ?_); refine goesL_ (some 46) rfl rfl Tryd.func48 (by kernel_rfl) rfl #[.agg #[.int .i64 a0_7, .int .i64 a0_8, .int .i64 a0_9, .bool a0_10], .agg #[.int .i64 a1_7, .int .i64 a1_8, .int .i64 a1_9, .bool a1_10]] rfl au32 ?_; (with_reducible refine (laws_eqDate.calls a0_7 a0_8 a0_9 a0_10 a1_7 a1_8 a1_9 a1_10 _ _ A12.out).mono ?_); rintro e w84 ⟨rfl, hb⟩; refine ⟨_, rfl, ?_⟩; replace BK297 := Aside0.mk (blk_below (g := gb297) au55 hb); replace BK298 := Aside0.mk (blk_below (g := gb298) au56 hb); replace HB := Aside0.mk (below_step au11 hb); (try clear hb)))
         go_ret
         exact ax12
       ·
        rw [if_neg c11] at H
        have c11b0 : (a0_6.toList == a1_6.toList) = false := beq_eq_false_iff_ne.mpr c11
        have c11b1 : (a0_6.toList != a1_6.toList) = true := bne_iff_ne.mpr c11
        obtain rfl := Option.some.inj H
        exact laws_eqEntry.L0
      ·
       rw [if_neg c10] at H
       have c10b0 : (a0_5.toList == a1_5.toList) = false := beq_eq_false_iff_ne.mpr c10
       have c10b1 : (a0_5.toList != a1_5.toList) = true := bne_iff_ne.mpr c10
       obtain rfl := Option.some.inj H
       exact laws_eqEntry.L0
     ·
      rw [if_neg c9] at H
      have c9b0 : (a0_4.toList == a1_4.toList) = false := beq_eq_false_iff_ne.mpr c9
      have c9b1 : (a0_4.toList != a1_4.toList) = true := bne_iff_ne.mpr c9
      obtain rfl := Option.some.inj H
      exact laws_eqEntry.L0
    ·
     replace c8 := Bool.eq_false_iff.mpr c8
     subst c8
     replace H := (if_neg (show ¬ (false = true) by decide)).symm.trans H
     obtain rfl := Option.some.inj H
     go_enter Tryd.func33, Tryd.ntmps33
     go_wp2_with (first | ((with_reducible refine gate_dst (N := 2) rfl ?_); refine box_event ?hg (N := 2) ?hd (cs := #[.string a0_0, .int .i64 a0_1, .slice A0_2 l0_2.length c0_2, .slice A0_3 l0_3.length c0_3, .string a0_4, .string a0_5, .string a0_6, .int .i64 a0_7, .int .i64 a0_8, .int .i64 a0_9, .bool a0_10, .int .i64 a0_11, .string a0_12, .string a0_13]) (t := 51) ?hr ?_; (case hd => rfl); (case hg => rfl); (case hr => first | (go_simp; done) | (go_simp; rfl)); intro gb297 hg w118 hbox hb; have BK297 := Aside0.mk (hbox); have GW297 := Aside0.mk (bsz hg au33); have GE297 := Aside0.mk (bsz hg au33); replace HB := Aside0.mk (below_step au33 hb); clear hb hbox hg) | ((with_reducible refine gate_dst (N := 3) rfl ?_); refine box_event ?hg (N := 3) ?hd (cs := #[.string a1_0, .int .i64 a1_1, .slice A1_2 l1_2.length c1_2, .slice A1_3 l1_3.length c1_3, .string a1_4, .string a1_5, .string a1_6, .int .i64 a1_7, .int .i64 a1_8, .int .i64 a1_9, .bool a1_10, .int .i64 a1_11, .string a1_12, .string a1_13]) (t := 51) ?hr ?_; (case hd => rfl); (case hg => rfl); (case hr => first | (go_simp; done) | (go_simp; rfl)); intro gb298 hg w119 hbox hb; have BK298 := Aside0.mk (hbox); have GW298 := Aside0.mk (bsz hg au29); have GE298 := Aside0.mk (bsz hg au29); replace HB := Aside0.mk (below_step au29 hb); have NB297_298 := Aside0.mk (bne (g := gb297) hg au55); have NB298_297 := Aside0.mk (ben (g := gb297) hg au55); replace BK297 := Aside0.mk (blk_below (g := gb297) au55 hb); clear hb hbox hg; have hnb120 := NB297_298.out; have hnc120 := NB298_297.out; obtain ⟨hcz121_0, hcz121_1, hcz121_2, hcz121_3, hcz121_4, hcz121_5, hcz121_6, hcz121_7, hcz121_8, hcz121_9, hcz121_10, hcz121_11, hcz121_12, hcz121_13, hfz121_0, hfz121_1, hfz121_2, hfz121_3, hfz121_4, hfz121_5, hfz121_6, hfz121_7, hfz121_8, hfz121_9, hfz121_10, hfz121_11, hfz121_12, hfz121_13⟩ := blkc14 BK297.out; obtain ⟨hcz122_0, hcz122_1, hcz122_2, hcz122_3, hcz122_4, hcz122_5, hcz122_6, hcz122_7, hcz122_8, hcz122_9, hcz122_10, hcz122_11, hcz122_12, hcz122_13, hfz122_0, hfz122_1, hfz122_2, hfz122_3, hfz122_4, hfz122_5, hfz122_6, hfz122_7, hfz122_8, hfz122_9, hfz122_10, hfz122_11, hfz122_12, hfz122_13⟩ := blkc14 BK298.out) | ((with_reducible refine gate_callee (f := 47) rfl ?_); refine goesL_ (some 19) rfl rfl Tryd.func47 (by kernel_rfl) rfl #[.slice A0_2 l0_2.length c0_2, .slice A1_2 l1_2.length c1_2] rfl au32 ?_; (with_reducible refine (laws_eqNameS.calls k _ _ l0_2 _ _ l1_2 _ _ ?side1 ?side2 ?side3 ?side4 A5.out).mono ?_); (case side1 => repeat (first | exact (Kd.C_below HR0_2.out HB.out) | (with_reducible refine Kd.C_alloc ?_ _) | (with_reducible refine Kd.C_drewN ?_ _) | (with_reducible refine Kd.C_drew ?_))); (case side2 => exact HC0_2.out); (case side3 => repeat (first | exact (Kd.C_below HR1_2.out HB.out) | (with_reducible refine Kd.C_alloc ?_ _) | (with_reducible refine Kd.C_drewN ?_ _) | (with_reducible refine Kd.C_drew ?_))); (case side4 => exact HC1_2.out); rintro e w123 ⟨rfl, hb⟩; refine ⟨_, rfl, ?_⟩; replace BK297 := Aside0.mk (blk_below (g := gb297) au55 hb); replace BK298 := Aside0.mk (blk_below (g := gb298) au56 hb); replace HB := Aside0.mk (below_step au11 hb); (try clear hb); obtain ⟨hcz124_0, hcz124_1, hcz124_2, hcz124_3, hcz124_4, hcz124_5, hcz124_6, hcz124_7, hcz124_8, hcz124_9, hcz124_10, hcz124_11, hcz124_12, hcz124_13, hfz124_0, hfz124_1, hfz124_2, hfz124_3, hfz124_4, hfz124_5, hfz124_6, hfz124_7, hfz124_8, hfz124_9, hfz124_10, hfz124_11, hfz124_12, hfz124_13⟩ := blkc14 BK297.out; obtain ⟨hcz125_0, hcz125_1, hcz125_2, hcz125_3, hcz125_4, hcz125_5, hcz125_6, hcz125_7, hcz125_8, hcz125_9, hcz125_10, hcz125_11, hcz125_12, hcz125_13, hfz125_0, hfz125_1, hfz125_2, hfz125_3, hfz125_4, hfz125_5, hfz125_6, hfz125_7, hfz125_8, hfz125_9, hfz125_10, hfz125_11, hfz125_12, hfz125_13⟩ := blkc14 BK298.out) | ((with_reducible refine gate_callee (f := 47) rfl ?_); refine goesL_ (some 25) rfl rfl Tryd.func47 (by kernel_rfl) rfl #[.slice A0_3 l0_3.length c0_3, .slice A1_3 l1_3.length c1_3] rfl au32 ?_; (with_reducible refine (laws_eqNameS.calls k _ _ l0_3 _ _ l1_3 _ _ ?side1 ?side2 ?side3 ?side4 A7.out).mono ?_); (case side1 => repeat (first | exact (Kd.C_below HR0_3.out HB.out) | (with_reducible refine Kd.C_alloc ?_ _) | (with_reducible refine Kd.C_drewN ?_ _) | (with_reducible refine Kd.C_drew ?_))); (case side2 => exact HC0_3.out); (case side3 => repeat (first | exact (Kd.C_below HR1_3.out HB.out) | (with_reducible refine Kd.C_alloc ?_ _) | (with_reducible refine Kd.C_drewN ?_ _) | (with_reducible refine Kd.C_drew ?_))); (case side4 => exact HC1_3.out); rintro e w126 ⟨rfl, hb⟩; refine ⟨_, rfl, ?_⟩; replace BK297 := Aside0.mk (blk_below (g := gb297) au55 hb); replace BK298 := Aside0.mk (blk_below (g := gb298) au56 hb); replace HB := Aside0.mk (below_step au11 hb); (try clear hb)))
     go_ret
     exact ax12
   ·
    replace c6 := Bool.eq_false_iff.mpr c6
    subst c6
    replace H := (if_neg (show ¬ (false = true) by decide)).symm.trans H
    obtain rfl := Option.some.inj H
    go_enter Tryd.func33, Tryd.ntmps33
    go_wp2_with (first | ((with_reducible refine gate_dst (N := 2) rfl ?_); refine box_event ?hg (N := 2) ?hd (cs := #[.string a0_0, .int .i64 a0_1, .slice A0_2 l0_2.length c0_2, .slice A0_3 l0_3.length c0_3, .string a0_4, .string a0_5, .string a0_6, .int .i64 a0_7, .int .i64 a0_8, .int .i64 a0_9, .bool a0_10, .int .i64 a0_11, .string a0_12, .string a0_13]) (t := 51) ?hr ?_; (case hd => rfl); (case hg => rfl); (case hr => first | (go_simp; done) | (go_simp; rfl)); intro gb297 hg w127 hbox hb; have BK297 := Aside0.mk (hbox); have GW297 := Aside0.mk (bsz hg au33); have GE297 := Aside0.mk (bsz hg au33); replace HB := Aside0.mk (below_step au33 hb); clear hb hbox hg) | ((with_reducible refine gate_dst (N := 3) rfl ?_); refine box_event ?hg (N := 3) ?hd (cs := #[.string a1_0, .int .i64 a1_1, .slice A1_2 l1_2.length c1_2, .slice A1_3 l1_3.length c1_3, .string a1_4, .string a1_5, .string a1_6, .int .i64 a1_7, .int .i64 a1_8, .int .i64 a1_9, .bool a1_10, .int .i64 a1_11, .string a1_12, .string a1_13]) (t := 51) ?hr ?_; (case hd => rfl); (case hg => rfl); (case hr => first | (go_simp; done) | (go_simp; rfl)); intro gb298 hg w128 hbox hb; have BK298 := Aside0.mk (hbox); have GW298 := Aside0.mk (bsz hg au29); have GE298 := Aside0.mk (bsz hg au29); replace HB := Aside0.mk (below_step au29 hb); have NB297_298 := Aside0.mk (bne (g := gb297) hg au55); have NB298_297 := Aside0.mk (ben (g := gb297) hg au55); replace BK297 := Aside0.mk (blk_below (g := gb297) au55 hb); clear hb hbox hg; have hnb129 := NB297_298.out; have hnc129 := NB298_297.out; obtain ⟨hcz130_0, hcz130_1, hcz130_2, hcz130_3, hcz130_4, hcz130_5, hcz130_6, hcz130_7, hcz130_8, hcz130_9, hcz130_10, hcz130_11, hcz130_12, hcz130_13, hfz130_0, hfz130_1, hfz130_2, hfz130_3, hfz130_4, hfz130_5, hfz130_6, hfz130_7, hfz130_8, hfz130_9, hfz130_10, hfz130_11, hfz130_12, hfz130_13⟩ := blkc14 BK297.out; obtain ⟨hcz131_0, hcz131_1, hcz131_2, hcz131_3, hcz131_4, hcz131_5, hcz131_6, hcz131_7, hcz131_8, hcz131_9, hcz131_10, hcz131_11, hcz131_12, hcz131_13, hfz131_0, hfz131_1, hfz131_2, hfz131_3, hfz131_4, hfz131_5, hfz131_6, hfz131_7, hfz131_8, hfz131_9, hfz131_10, hfz131_11, hfz131_12, hfz131_13⟩ := blkc14 BK298.out) | ((with_reducible refine gate_callee (f := 47) rfl ?_); refine goesL_ (some 19) rfl rfl Tryd.func47 (by kernel_rfl) rfl #[.slice A0_2 l0_2.length c0_2, .slice A1_2 l1_2.length c1_2] rfl au32 ?_; (with_reducible refine (laws_eqNameS.calls k _ _ l0_2 _ _ l1_2 _ _ ?side1 ?side2 ?side3 ?side4 A5.out).mono ?_); (case side1 => repeat (first | exact (Kd.C_below HR0_2.out HB.out) | (with_reducible refine Kd.C_alloc ?_ _) | (with_reducible refine Kd.C_drewN ?_ _) | (with_reducible refine Kd.C_drew ?_))); (case side2 => exact HC0_2.out); (case side3 => repeat (first | exact (Kd.C_below HR1_2.out HB.out) | (with_reducible refine Kd.C_alloc ?_ _) | (with_reducible refine Kd.C_drewN ?_ _) | (with_reducible refine Kd.C_drew ?_))); (case side4 => exact HC1_2.out); rintro e w132 ⟨rfl, hb⟩; refine ⟨_, rfl, ?_⟩; replace BK297 := Aside0.mk (blk_below (g := gb297) au55 hb); replace BK298 := Aside0.mk (blk_below (g := gb298) au56 hb); replace HB := Aside0.mk (below_step au11 hb); (try clear hb)))
    go_ret
    exact ax12
  ·
   rw [if_neg c4] at H
   have c4b0 : (a0_1 == a1_1) = false := beq_eq_false_iff_ne.mpr c4
   have c4b1 : (a0_1 != a1_1) = true := bne_iff_ne.mpr c4
   obtain rfl := Option.some.inj H
   exact laws_eqEntry.L0
 ·
  rw [if_neg c3] at H
  have c3b0 : (a0_0.toList == a1_0.toList) = false := beq_eq_false_iff_ne.mpr c3
  have c3b1 : (a0_0.toList != a1_0.toList) = true := bne_iff_ne.mpr c3
  obtain rfl := Option.some.inj H
  exact laws_eqEntry.L0


/-! ### laws_eqEntryS: function 22 -/
def laws_eqEntryS.l0 : Nat → List (S51) → List (S51) → Int → Option (Bool)
 | 0, _, _, _ => none
 | k + 1, x0, x1, x5 => if x5 < (x0.length : Int) then (if 0 ≤ x5 then (if x5 < (x1.length : Int) then ((laws_eqEntry.f k ((rd_T51 x0 x5).f0) ((rd_T51 x0 x5).f1) ((rd_T51 x0 x5).f2) ((rd_T51 x0 x5).f3) ((rd_T51 x0 x5).f4) ((rd_T51 x0 x5).f5) ((rd_T51 x0 x5).f6) ((rd_T51 x0 x5).f7.f0) ((rd_T51 x0 x5).f7.f1) ((rd_T51 x0 x5).f7.f2) ((rd_T51 x0 x5).f7.f3) ((rd_T51 x0 x5).f8) ((rd_T51 x0 x5).f9) ((rd_T51 x0 x5).f10) ((rd_T51 x1 x5).f0) ((rd_T51 x1 x5).f1) ((rd_T51 x1 x5).f2) ((rd_T51 x1 x5).f3) ((rd_T51 x1 x5).f4) ((rd_T51 x1 x5).f5) ((rd_T51 x1 x5).f6) ((rd_T51 x1 x5).f7.f0) ((rd_T51 x1 x5).f7.f1) ((rd_T51 x1 x5).f7.f2) ((rd_T51 x1 x5).f7.f3) ((rd_T51 x1 x5).f8) ((rd_T51 x1 x5).f9) ((rd_T51 x1 x5).f10)).bind fun t304 => (if t304 = true then (laws_eqEntryS.l0 k x0 x1 (wrap64 (x5 + 1))) else (some false))) else (none)) else (none)) else (some true)
def laws_eqEntryS.f (k : Nat) (l0 : List (S51)) (l1 : List (S51)) : Option (Bool) := if (l0.length : Int) = (l1.length : Int) then (laws_eqEntryS.l0 k l0 l1 0) else (some false)
theorem laws_eqEntryS.mono_l : ∀ k, (∀ y0 y1 y2, LeO (laws_eqEntryS.l0 k y0 y1 y2) (laws_eqEntryS.l0 (k + 1) y0 y1 y2))
 | 0 => fun _ _ _ r h => by simp [laws_eqEntryS.l0] at h
 | k + 1 => by
  have ih0 := laws_eqEntryS.mono_l k
  ·
   intro y0 y1 y2
   unfold laws_eqEntryS.l0
   repeat' first
   | (with_reducible exact ih0 _ _ _)
   | (with_reducible exact laws_eqEntry.mono _ _ _ _ _ _ _ _ _ _ _ _ _ _ _ _ _ _ _ _ _ _ _ _ _ _ _ _ _)
   | (with_reducible exact LeO.refl _)
   | (with_reducible exact LeO.none _)
   | (with_reducible refine LeO.ite ?_ ?_)
   | (with_reducible refine LeO.bind ?_ (fun _ => ?_))
   | exact ih0 _ _ _
   | exact laws_eqEntry.mono _ _ _ _ _ _ _ _ _ _ _ _ _ _ _ _ _ _ _ _ _ _ _ _ _ _ _ _ _
   | exact LeO.none _
   | refine LeO.ite ?_ ?_
   | refine LeO.bind ?_ (fun _ => ?_)
theorem laws_eqEntryS.mono : ∀ a0 a1 k, LeO (laws_eqEntryS.f k a0 a1) (laws_eqEntryS.f (k + 1) a0 a1) := by
 intro a0 a1 k
 have ih0 := laws_eqEntryS.mono_l k
 unfold laws_eqEntryS.f
 repeat' first
   | (with_reducible exact ih0 _ _ _)
   | (with_reducible exact laws_eqEntry.mono _ _ _ _ _ _ _ _ _ _ _ _ _ _ _ _ _ _ _ _ _ _ _ _ _ _ _ _ _)
   | (with_reducible exact LeO.refl _)
   | (with_reducible exact LeO.none _)
   | (with_reducible refine LeO.ite ?_ ?_)
   | (with_reducible refine LeO.bind ?_ (fun _ => ?_))
   | exact ih0 _ _ _
   | exact laws_eqEntry.mono _ _ _ _ _ _ _ _ _ _ _ _ _ _ _ _ _ _ _ _ _ _ _ _ _ _ _ _ _
   | exact LeO.none _
   | refine LeO.ite ?_ ?_
   | refine LeO.bind ?_ (fun _ => ?_)
def laws_eqEntryS.T6 : Bool × List (List Nat × List Nat) := (true, [([], []), ([], []), ([0, 1], [0, 1]), ([2], [2]), ([], []), ([], []), ([4, 5], [4, 5]), ([6], [6]), ([3, 7], [3, 7]), ([8], [8])])
def laws_eqEntryS.B6 : List Nat := [0, 0, 3, 7, 0, 0, 48, 112, 255, 511]
theorem laws_eqEntryS.tab6 : rtab .any (opsOf Tryd.f22 6) = laws_eqEntryS.T6 := by kernel_rfl
theorem laws_eqEntryS.bits6 : waitsOk laws_eqEntryS.T6.2 laws_eqEntryS.B6 = true := by kernel_rfl
set_option maxRecDepth 100000 in
theorem laws_eqEntryS.L0 {P : Prop} (h : P := by
  try go_wp2
  replace HB := Aside0.mk (below_drew1 HB.out)
  have p302 : 0 ≤ (x5_1 : Int) := of_decide_eq_true au65
  have q302 : x5_1 < (l0.length : Int) := of_decide_eq_true au65
  obtain ⟨ad302, A302_2, c302_2, A302_3, c302_3, e302, hx302_0, hx302_1, hx302_2, hx302_3, hx302_4, hx302_5, hx302_6, hx302_7, hx302_8, hx302_9, hx302_10, hx302_11, hx302_12, hx302_13, hl302_2, hi302_2, hl302_3, hi302_3⟩ := at_T51 HR0.out x5_1 p302 q302
  have hw302_13 := hx302_13
  have hw302_12 := hx302_12
  have hw302_11 := hx302_11
  have hw302_10 := hx302_10
  have hw302_9 := hx302_9
  have hw302_8 := hx302_8
  have hw302_7 := hx302_7
  have hw302_6 := hx302_6
  have hw302_5 := hx302_5
  have hw302_4 := hx302_4
  have hw302_3 := hx302_3
  have hw302_2 := hx302_2
  have hw302_1 := hx302_1
  have hw302_0 := hx302_0
  cases e302
  replace hx302_0 := bcl HB.out hx302_0
  replace hx302_1 := bcl HB.out hx302_1
  replace hx302_2 := bcl HB.out hx302_2
  replace hx302_3 := bcl HB.out hx302_3
  replace hx302_4 := bcl HB.out hx302_4
  replace hx302_5 := bcl HB.out hx302_5
  replace hx302_6 := bcl HB.out hx302_6
  replace hx302_7 := bcl HB.out hx302_7
  replace hx302_8 := bcl HB.out hx302_8
  replace hx302_9 := bcl HB.out hx302_9
  replace hx302_10 := bcl HB.out hx302_10
  replace hx302_11 := bcl HB.out hx302_11
  replace hx302_12 := bcl HB.out hx302_12
  replace hx302_13 := bcl HB.out hx302_13
  have HR302_2 := Aside0.mk hi302_2
  have HC302_2 := Aside0.mk hl302_2
  clear hi302_2 hl302_2
  have HR302_3 := Aside0.mk hi302_3
  have HC302_3 := Aside0.mk hl302_3
  clear hi302_3 hl302_3
  replace p302 := eq_true p302
  replace q302 := eq_true q302
  have p303 : 0 ≤ (x5_1 : Int) := of_decide_eq_true au65
  have q303 : x5_1 < (l1.length : Int) := of_decide_eq_true au65
  obtain ⟨ad303, A303_2, c303_2, A303_3, c303_3, e303, hx303_0, hx303_1, hx303_2, hx303_3, hx303_4, hx303_5, hx303_6, hx303_7, hx303_8, hx303_9, hx303_10, hx303_11, hx303_12, hx303_13, hl303_2, hi303_2, hl303_3, hi303_3⟩ := at_T51 HR1.out x5_1 p303 q303
  have hw303_13 := hx303_13
  have hw303_12 := hx303_12
  have hw303_11 := hx303_11
  have hw303_10 := hx303_10
  have hw303_9 := hx303_9
  have hw303_8 := hx303_8
  have hw303_7 := hx303_7
  have hw303_6 := hx303_6
  have hw303_5 := hx303_5
  have hw303_4 := hx303_4
  have hw303_3 := hx303_3
  have hw303_2 := hx303_2
  have hw303_1 := hx303_1
  have hw303_0 := hx303_0
  cases e303
  replace hx303_0 := bcl HB.out hx303_0
  replace hx303_1 := bcl HB.out hx303_1
  replace hx303_2 := bcl HB.out hx303_2
  replace hx303_3 := bcl HB.out hx303_3
  replace hx303_4 := bcl HB.out hx303_4
  replace hx303_5 := bcl HB.out hx303_5
  replace hx303_6 := bcl HB.out hx303_6
  replace hx303_7 := bcl HB.out hx303_7
  replace hx303_8 := bcl HB.out hx303_8
  replace hx303_9 := bcl HB.out hx303_9
  replace hx303_10 := bcl HB.out hx303_10
  replace hx303_11 := bcl HB.out hx303_11
  replace hx303_12 := bcl HB.out hx303_12
  replace hx303_13 := bcl HB.out hx303_13
  have HR303_2 := Aside0.mk hi303_2
  have HC303_2 := Aside0.mk hl303_2
  clear hi303_2 hl303_2
  have HR303_3 := Aside0.mk hi303_3
  have HC303_3 := Aside0.mk hl303_3
  clear hi303_3 hl303_3
  replace p303 := eq_true p303
  replace q303 := eq_true q303
  refine start_ (n := 10) (S := fun w' => w'.cell? (ad302.add ((x5_1).toNat * 14)) = some (.string ((rd_T51 l0 x5_1).f0)) ∧ w'.cell? ⟨(ad302.add ((x5_1).toNat * 14)).block, (ad302.add ((x5_1).toNat * 14)).off + 1, none⟩ = some (.int .i64 ((rd_T51 l0 x5_1).f1)) ∧ w'.cell? ⟨(ad302.add ((x5_1).toNat * 14)).block, (ad302.add ((x5_1).toNat * 14)).off + 2, none⟩ = some (.slice A302_2 ((rd_T51 l0 x5_1).f2).length c302_2) ∧ w'.cell? ⟨(ad302.add ((x5_1).toNat * 14)).block, (ad302.add ((x5_1).toNat * 14)).off + 3, none⟩ = some (.slice A302_3 ((rd_T51 l0 x5_1).f3).length c302_3) ∧ w'.cell? ⟨(ad302.add ((x5_1).toNat * 14)).block, (ad302.add ((x5_1).toNat * 14)).off + 4, none⟩ = some (.string ((rd_T51 l0 x5_1).f4)) ∧ w'.cell? ⟨(ad302.add ((x5_1).toNat * 14)).block, (ad302.add ((x5_1).toNat * 14)).off + 5, none⟩ = some (.string ((rd_T51 l0 x5_1).f5)) ∧ w'.cell? ⟨(ad302.add ((x5_1).toNat * 14)).block, (ad302.add ((x5_1).toNat * 14)).off + 6, none⟩ = some (.string ((rd_T51 l0 x5_1).f6)) ∧ w'.cell? ⟨(ad302.add ((x5_1).toNat * 14)).block, (ad302.add ((x5_1).toNat * 14)).off + 7, none⟩ = some (.int .i64 ((rd_T51 l0 x5_1).f7.f0)) ∧ w'.cell? ⟨(ad302.add ((x5_1).toNat * 14)).block, (ad302.add ((x5_1).toNat * 14)).off + 8, none⟩ = some (.int .i64 ((rd_T51 l0 x5_1).f7.f1)) ∧ w'.cell? ⟨(ad302.add ((x5_1).toNat * 14)).block, (ad302.add ((x5_1).toNat * 14)).off + 9, none⟩ = some (.int .i64 ((rd_T51 l0 x5_1).f7.f2)) ∧ w'.cell? ⟨(ad302.add ((x5_1).toNat * 14)).block, (ad302.add ((x5_1).toNat * 14)).off + 10, none⟩ = some (.bool ((rd_T51 l0 x5_1).f7.f3)) ∧ w'.cell? ⟨(ad302.add ((x5_1).toNat * 14)).block, (ad302.add ((x5_1).toNat * 14)).off + 11, none⟩ = some (.int .i64 ((rd_T51 l0 x5_1).f8)) ∧ w'.cell? ⟨(ad302.add ((x5_1).toNat * 14)).block, (ad302.add ((x5_1).toNat * 14)).off + 12, none⟩ = some (.string ((rd_T51 l0 x5_1).f9)) ∧ w'.cell? ⟨(ad302.add ((x5_1).toNat * 14)).block, (ad302.add ((x5_1).toNat * 14)).off + 13, none⟩ = some (.string ((rd_T51 l0 x5_1).f10)) ∧ w'.cell? (ad303.add ((x5_1).toNat * 14)) = some (.string ((rd_T51 l1 x5_1).f0)) ∧ w'.cell? ⟨(ad303.add ((x5_1).toNat * 14)).block, (ad303.add ((x5_1).toNat * 14)).off + 1, none⟩ = some (.int .i64 ((rd_T51 l1 x5_1).f1)) ∧ w'.cell? ⟨(ad303.add ((x5_1).toNat * 14)).block, (ad303.add ((x5_1).toNat * 14)).off + 2, none⟩ = some (.slice A303_2 ((rd_T51 l1 x5_1).f2).length c303_2) ∧ w'.cell? ⟨(ad303.add ((x5_1).toNat * 14)).block, (ad303.add ((x5_1).toNat * 14)).off + 3, none⟩ = some (.slice A303_3 ((rd_T51 l1 x5_1).f3).length c303_3) ∧ w'.cell? ⟨(ad303.add ((x5_1).toNat * 14)).block, (ad303.add ((x5_1).toNat * 14)).off + 4, none⟩ = some (.string ((rd_T51 l1 x5_1).f4)) ∧ w'.cell? ⟨(ad303.add ((x5_1).toNat * 14)).block, (ad303.add ((x5_1).toNat * 14)).off + 5, none⟩ = some (.string ((rd_T51 l1 x5_1).f5)) ∧ w'.cell? ⟨(ad303.add ((x5_1).toNat * 14)).block, (ad303.add ((x5_1).toNat * 14)).off + 6, none⟩ = some (.string ((rd_T51 l1 x5_1).f6)) ∧ w'.cell? ⟨(ad303.add ((x5_1).toNat * 14)).block, (ad303.add ((x5_1).toNat * 14)).off + 7, none⟩ = some (.int .i64 ((rd_T51 l1 x5_1).f7.f0)) ∧ w'.cell? ⟨(ad303.add ((x5_1).toNat * 14)).block, (ad303.add ((x5_1).toNat * 14)).off + 8, none⟩ = some (.int .i64 ((rd_T51 l1 x5_1).f7.f1)) ∧ w'.cell? ⟨(ad303.add ((x5_1).toNat * 14)).block, (ad303.add ((x5_1).toNat * 14)).off + 9, none⟩ = some (.int .i64 ((rd_T51 l1 x5_1).f7.f2)) ∧ w'.cell? ⟨(ad303.add ((x5_1).toNat * 14)).block, (ad303.add ((x5_1).toNat * 14)).off + 10, none⟩ = some (.bool ((rd_T51 l1 x5_1).f7.f3)) ∧ w'.cell? ⟨(ad303.add ((x5_1).toNat * 14)).block, (ad303.add ((x5_1).toNat * 14)).off + 11, none⟩ = some (.int .i64 ((rd_T51 l1 x5_1).f8)) ∧ w'.cell? ⟨(ad303.add ((x5_1).toNat * 14)).block, (ad303.add ((x5_1).toNat * 14)).off + 12, none⟩ = some (.string ((rd_T51 l1 x5_1).f9)) ∧ w'.cell? ⟨(ad303.add ((x5_1).toNat * 14)).block, (ad303.add ((x5_1).toNat * 14)).off + 13, none⟩ = some (.string ((rd_T51 l1 x5_1).f10))) (ds := []) #[false, false, false, false, false, false, false, false, false, false] (by kernel_rfl) rfl rfl ⟨(bcl HB.out hw302_0), (bcl HB.out hw302_1), (bcl HB.out hw302_2), (bcl HB.out hw302_3), (bcl HB.out hw302_4), (bcl HB.out hw302_5), (bcl HB.out hw302_6), (bcl HB.out hw302_7), (bcl HB.out hw302_8), (bcl HB.out hw302_9), (bcl HB.out hw302_10), (bcl HB.out hw302_11), (bcl HB.out hw302_12), (bcl HB.out hw302_13), (bcl HB.out hw303_0), (bcl HB.out hw303_1), (bcl HB.out hw303_2), (bcl HB.out hw303_3), (bcl HB.out hw303_4), (bcl HB.out hw303_5), (bcl HB.out hw303_6), (bcl HB.out hw303_7), (bcl HB.out hw303_8), (bcl HB.out hw303_9), (bcl HB.out hw303_10), (bcl HB.out hw303_11), (bcl HB.out hw303_12), (bcl HB.out hw303_13)⟩ (fun hHeld => ?_); refine with_tabW laws_eqEntryS.tab6 laws_eqEntryS.bits6 (fun HT_ HW_ => ?_)
  generalize wr.drew = w9 at HB HR302_2 HR302_3 HR303_2 HR303_3 hx302_0 hx302_1 hx302_10 hx302_11 hx302_12 hx302_13 hx302_2 hx302_3 hx302_4 hx302_5 hx302_6 hx302_7 hx302_8 hx302_9 hx303_0 hx303_1 hx303_10 hx303_11 hx303_12 hx303_13 hx303_2 hx303_3 hx303_4 hx303_5 hx303_6 hx303_7 hx303_8 hx303_9 hHeld ⊢
  refine pu_ 0 (some 17) #[true, false, false, false, false, false, false, false, false, false] HT_.out ?_
  refine pu_ 1 (some 18) #[true, true, false, false, false, false, false, false, false, false] HT_.out ?_
  refine pu_ 2 (some 19) #[true, true, true, false, false, false, false, false, false, false] HT_.out ?_
  refine pu_ 4 (some 21) #[true, true, true, false, true, false, false, false, false, false] HT_.out ?_
  refine pu_ 5 (some 22) #[true, true, true, false, true, true, false, false, false, false] HT_.out ?_
  refine pu_ 6 (some 23) #[true, true, true, false, true, true, true, false, false, false] HT_.out ?_
  refine ta5_ 3 (some 20) #[true, true, true, true, true, true, true, false, false, false] HT_.out HW_.out hHeld ?_
  refine ta5_ 7 (some 24) #[true, true, true, true, true, true, true, true, false, false] HT_.out HW_.out hHeld ?_
  refine on_ 8 (some 25) #[true, true, true, true, true, true, true, true, true, false] HT_.out (fun K hK => ?_)
  refine gs_ Tryd.func33 #[.agg #[.string ((rd_T51 l0 x5_1).f0), .int .i64 ((rd_T51 l0 x5_1).f1), .slice A302_2 ((rd_T51 l0 x5_1).f2).length c302_2, .slice A302_3 ((rd_T51 l0 x5_1).f3).length c302_3, .string ((rd_T51 l0 x5_1).f4), .string ((rd_T51 l0 x5_1).f5), .string ((rd_T51 l0 x5_1).f6), .int .i64 ((rd_T51 l0 x5_1).f7.f0), .int .i64 ((rd_T51 l0 x5_1).f7.f1), .int .i64 ((rd_T51 l0 x5_1).f7.f2), .bool ((rd_T51 l0 x5_1).f7.f3), .int .i64 ((rd_T51 l0 x5_1).f8), .string ((rd_T51 l0 x5_1).f9), .string ((rd_T51 l0 x5_1).f10)], .agg #[.string ((rd_T51 l1 x5_1).f0), .int .i64 ((rd_T51 l1 x5_1).f1), .slice A303_2 ((rd_T51 l1 x5_1).f2).length c303_2, .slice A303_3 ((rd_T51 l1 x5_1).f3).length c303_3, .string ((rd_T51 l1 x5_1).f4), .string ((rd_T51 l1 x5_1).f5), .string ((rd_T51 l1 x5_1).f6), .int .i64 ((rd_T51 l1 x5_1).f7.f0), .int .i64 ((rd_T51 l1 x5_1).f7.f1), .int .i64 ((rd_T51 l1 x5_1).f7.f2), .bool ((rd_T51 l1 x5_1).f7.f3), .int .i64 ((rd_T51 l1 x5_1).f8), .string ((rd_T51 l1 x5_1).f9), .string ((rd_T51 l1 x5_1).f10)]] ?_
  with_reducible refine (laws_eqEntry.calls k1 ((rd_T51 l0 x5_1).f0) ((rd_T51 l0 x5_1).f1) _ _ ((rd_T51 l0 x5_1).f2) _ _ ((rd_T51 l0 x5_1).f3) ((rd_T51 l0 x5_1).f4) ((rd_T51 l0 x5_1).f5) ((rd_T51 l0 x5_1).f6) ((rd_T51 l0 x5_1).f7.f0) ((rd_T51 l0 x5_1).f7.f1) ((rd_T51 l0 x5_1).f7.f2) ((rd_T51 l0 x5_1).f7.f3) ((rd_T51 l0 x5_1).f8) ((rd_T51 l0 x5_1).f9) ((rd_T51 l0 x5_1).f10) ((rd_T51 l1 x5_1).f0) ((rd_T51 l1 x5_1).f1) _ _ ((rd_T51 l1 x5_1).f2) _ _ ((rd_T51 l1 x5_1).f3) ((rd_T51 l1 x5_1).f4) ((rd_T51 l1 x5_1).f5) ((rd_T51 l1 x5_1).f6) ((rd_T51 l1 x5_1).f7.f0) ((rd_T51 l1 x5_1).f7.f1) ((rd_T51 l1 x5_1).f7.f2) ((rd_T51 l1 x5_1).f7.f3) ((rd_T51 l1 x5_1).f8) ((rd_T51 l1 x5_1).f9) ((rd_T51 l1 x5_1).f10) _ _ ?side1 ?side2 ?side3 ?side4 ?side5 ?side6 ?side7 ?side8 A7.out).mono ?_
  (case side1 => repeat (first | exact (Kd.C_below HR302_2.out HB.out) | (with_reducible refine Kd.C_alloc ?_ _) | (with_reducible refine Kd.C_drewN ?_ _) | (with_reducible refine Kd.C_drew ?_)))
  (case side2 => exact HC302_2.out)
  (case side3 => repeat (first | exact (Kd.C_below HR302_3.out HB.out) | (with_reducible refine Kd.C_alloc ?_ _) | (with_reducible refine Kd.C_drewN ?_ _) | (with_reducible refine Kd.C_drew ?_)))
  (case side4 => exact HC302_3.out)
  (case side5 => repeat (first | exact (Kd.C_below HR303_2.out HB.out) | (with_reducible refine Kd.C_alloc ?_ _) | (with_reducible refine Kd.C_drewN ?_ _) | (with_reducible refine Kd.C_drew ?_)))
  (case side6 => exact HC303_2.out)
  (case side7 => repeat (first | exact (Kd.C_below HR303_3.out HB.out) | (with_reducible refine Kd.C_alloc ?_ _) | (with_reducible refine Kd.C_drewN ?_ _) | (with_reducible refine Kd.C_drew ?_)))
  (case side8 => exact HC303_3.out)
  rintro e w10 ⟨rfl, hb⟩
  refine ⟨_, rfl, ?_⟩
  replace HB := Aside0.mk (below_step au33 hb)
  (try clear hb)
  refine hK.out _ _ ⟨(bcl HB.out hw302_0), (bcl HB.out hw302_1), (bcl HB.out hw302_2), (bcl HB.out hw302_3), (bcl HB.out hw302_4), (bcl HB.out hw302_5), (bcl HB.out hw302_6), (bcl HB.out hw302_7), (bcl HB.out hw302_8), (bcl HB.out hw302_9), (bcl HB.out hw302_10), (bcl HB.out hw302_11), (bcl HB.out hw302_12), (bcl HB.out hw302_13), (bcl HB.out hw303_0), (bcl HB.out hw303_1), (bcl HB.out hw303_2), (bcl HB.out hw303_3), (bcl HB.out hw303_4), (bcl HB.out hw303_5), (bcl HB.out hw303_6), (bcl HB.out hw303_7), (bcl HB.out hw303_8), (bcl HB.out hw303_9), (bcl HB.out hw303_10), (bcl HB.out hw303_11), (bcl HB.out hw303_12), (bcl HB.out hw303_13)⟩ (fun hHeld => ?_)
  clear hK K
  refine no_ (some 25) ?_
  refine pu_ 9 (some 26) #[true, true, true, true, true, true, true, true, true, true] HT_.out ?_
  refine done_ (done_of HT_.out (by kernel_rfl)) ?_
  try go_wp2
  first
  |
   go_roundg k1
   case measure => have := HK1.out; omega
   case rel => exact ⟨(wrap64 (x5_1 + 1)), au66, H', ⟨by have := HK1.out; omega⟩, ⟨by repeat (first | (with_reducible first | exact HB.out | apply below_alloc | apply pw_below_drewN | apply below_drew1) | exact HB.out)⟩⟩
  |
   go_ret
   exact ax1) : P := h
set_option maxHeartbeats 8000000 in
set_option maxRecDepth 100000 in
theorem laws_eqEntryS.calls (k : Nat) (A0 : Option Addr) (c0 : Nat) (l0 : List (S51)) (A1 : Option Addr) (c1 : Nat) (l1 : List (S51)) (r : Bool) (w : World) (hr0 : Kd.C k51 w A0 l0.length l0) (hc0 : l0.length ≤ c0) (hr1 : Kd.C k51 w A1 l1.length l1) (hc1 : l1.length ≤ c1) (h : laws_eqEntryS.f k l0 l1 = some r) :
  Calls Tryd.prog 22 #[.slice A0 l0.length c0, .slice A1 l1.length c1] w fun e w' => e = .returned (.bool r) ∧ Below w.heap.size w w' := by
 have hu51 := Tryd.underlying51
 have HR0 := Aside0.mk hr0
 have HC0 := Aside0.mk hc0
 clear hr0 hc0
 have HR1 := Aside0.mk hr1
 have HC1 := Aside0.mk hc1
 clear hr1 hc1
 have HB := Aside0.mk (Below.refl w.heap.size w)
 have H : (if (l0.length : Int) = (l1.length : Int) then (laws_eqEntryS.l0 k l0 l1 0) else (some false)) = some r := h
 clear h
 by_cases c3 : (l0.length : Int) = (l1.length : Int)
 ·
  rw [if_pos c3] at H
  have c3b0 : ((l0.length : Int) == (l1.length : Int)) = true := beq_iff_eq.mpr c3
  have c3b1 : ((l0.length : Int) != (l1.length : Int)) = false := bne_eq_false_iff_eq.mpr c3
  have c3b2 : (l0.length == l1.length) = true := by first | simpa using c3 | (simp at c3 ⊢; omega)
  clear c3
  have H' := Aside0.mk H
  clear H
  go_enter Tryd.func22, Tryd.ntmps22
  go_wp2
  go_loopg [5] k (fun kq v5 w' => ∃ (x5_1 : Int), v5 = .int .i64 x5_1 ∧ Aside0 (laws_eqEntryS.l0 kq l0 l1 x5_1 = some r) ∧ Aside0 (kq ≤ k) ∧ Aside0 (Below w.heap.size w w'))
  case atStart => exact ⟨(0), au66, H', ⟨Nat.le_refl _⟩, ⟨by repeat (first | (with_reducible first | exact HB.out | apply below_alloc | apply pw_below_drewN | apply below_drew1) | exact HB.out)⟩⟩
  case round =>
   clear H'
   try clear c1
   try clear c2
   try clear p2
   try clear c3
   try clear c3b0
   try clear c3b1
   try clear c3b2
   obtain ⟨x5_1, rfl, HA, HK1, HB⟩ := hrel
   cases gk with
   | zero => exact absurd HA.out (by simp [laws_eqEntryS.l0])
   | succ k1 =>
    have H := HA.out
    clear HA
    simp only [laws_eqEntryS.l0] at H
    by_cases c4 : x5_1 < (l0.length : Int)
    ·
     rw [if_pos c4] at H
     have c4b0 : decide (x5_1 < (l0.length : Int)) = true := decide_eq_true c4
     clear c4
     by_cases c5 : 0 ≤ x5_1
     ·
      rw [if_pos c5] at H
      have c5b0 : decide (0 ≤ x5_1) = true := decide_eq_true c5
      clear c5
      by_cases c6 : x5_1 < (l1.length : Int)
      ·
       rw [if_pos c6] at H
       have c6b0 : decide (x5_1 < (l1.length : Int)) = true := decide_eq_true c6
       clear c6
       replace H := Option.bind_eq_some_iff.mp H
       obtain ⟨t304, A70, H⟩ := H
       try dsimp only at H
       have A7 := Aside0.mk A70
       clear A70
       by_cases c8 : t304 = true
       ·
        subst c8
        replace H := (if_pos rfl).symm.trans H
        have H' := Aside0.mk H
        clear H
        exact laws_eqEntryS.L0
       ·
        replace c8 := Bool.eq_false_iff.mpr c8
        subst c8
        replace H := (if_neg (show ¬ (false = true) by decide)).symm.trans H
        obtain rfl := Option.some.inj H
        exact laws_eqEntryS.L0
      ·
       rw [if_neg c6] at H
       exact absurd H (by simp)
     ·
      rw [if_neg c5] at H
      exact absurd H (by simp)
    ·
     rw [if_neg c4] at H
     have c4b0 : decide (x5_1 < (l0.length : Int)) = false := decide_eq_false c4
     clear c4
     obtain rfl := Option.some.inj H
     go_wp2
     go_ret
     exact ax1
 ·
  rw [if_neg c3] at H
  have c3b0 : ((l0.length : Int) == (l1.length : Int)) = false := beq_eq_false_iff_ne.mpr c3
  have c3b1 : ((l0.length : Int) != (l1.length : Int)) = true := bne_iff_ne.mpr c3
  have c3b2 : (l0.length == l1.length) = false := by first | simpa using c3 | (simp at c3 ⊢; omega)
  obtain rfl := Option.some.inj H
  go_enter Tryd.func22, Tryd.ntmps22
  go_wp2
  go_ret
  exact ax1


/-! ### laws_eqLibrary: function 9 -/
def laws_eqLibrary.f (k : Nat) (l0_0 : List (S51)) (l1_0 : List (S51)) : Option (Bool) := (laws_eqEntryS.f k l0_0 l1_0).bind fun t307 => (if t307 = true then (some true) else (some false))
theorem laws_eqLibrary.mono : ∀ a0 a1 k, LeO (laws_eqLibrary.f k a0 a1) (laws_eqLibrary.f (k + 1) a0 a1) := by
 intro a0 a1 k
 unfold laws_eqLibrary.f
 repeat' first
   | (with_reducible exact laws_eqEntryS.mono _ _ _)
   | (with_reducible exact LeO.refl _)
   | (with_reducible exact LeO.none _)
   | (with_reducible refine LeO.ite ?_ ?_)
   | (with_reducible refine LeO.bind ?_ (fun _ => ?_))
   | exact laws_eqEntryS.mono _ _ _
   | exact LeO.none _
   | refine LeO.ite ?_ ?_
   | refine LeO.bind ?_ (fun _ => ?_)
set_option maxRecDepth 100000 in
theorem laws_eqLibrary.L0 {P : Prop} (h : P := by
  go_enter Tryd.func9, Tryd.ntmps9
  go_wp2_with (first | ((with_reducible refine gate_dst (N := 2) rfl ?_); refine box_event ?hg (N := 2) ?hd (cs := #[.slice A0_0 l0_0.length c0_0]) (t := 30) ?hr ?_; (case hd => rfl); (case hg => rfl); (case hr => first | (go_simp; done) | (go_simp; rfl)); intro gb305 hg w11 hbox hb; have BK305 := Aside0.mk (hbox); have GW305 := Aside0.mk (bsz hg au33); have GE305 := Aside0.mk (bsz hg au33); replace HB := Aside0.mk (below_step au33 hb); clear hb hbox hg) | ((with_reducible refine gate_dst (N := 3) rfl ?_); refine box_event ?hg (N := 3) ?hd (cs := #[.slice A1_0 l1_0.length c1_0]) (t := 30) ?hr ?_; (case hd => rfl); (case hg => rfl); (case hr => first | (go_simp; done) | (go_simp; rfl)); intro gb306 hg w12 hbox hb; have BK306 := Aside0.mk (hbox); have GW306 := Aside0.mk (bsz hg au30); have GE306 := Aside0.mk (bsz hg au30); replace HB := Aside0.mk (below_step au30 hb); have NB305_306 := Aside0.mk (bne (g := gb305) hg au57); have NB306_305 := Aside0.mk (ben (g := gb305) hg au57); replace BK305 := Aside0.mk (blk_below (g := gb305) au57 hb); clear hb hbox hg; have hnb13 := NB305_306.out; have hnc13 := NB306_305.out; have hcz14_0 : w12.cell? ⟨gb305, 0, none⟩ = some (.slice A0_0 l0_0.length c0_0) := (blk_cell BK305.out 0).trans rfl; have hfz14_0 := blk_frozen BK305.out 0; have hcz15_0 : w12.cell? ⟨gb306, 0, none⟩ = some (.slice A1_0 l1_0.length c1_0) := (blk_cell BK306.out 0).trans rfl; have hfz15_0 := blk_frozen BK306.out 0) | ((with_reducible refine gate_callee (f := 22) rfl ?_); refine goesL_ (some 9) rfl rfl Tryd.func22 (by kernel_rfl) rfl #[.slice A0_0 l0_0.length c0_0, .slice A1_0 l1_0.length c1_0] rfl au32 ?_; (with_reducible refine (laws_eqEntryS.calls k _ _ l0_0 _ _ l1_0 _ _ ?side1 ?side2 ?side3 ?side4 A3.out).mono ?_); (case side1 => repeat (first | exact (Kd.C_below HR0_0.out HB.out) | (with_reducible refine Kd.C_alloc ?_ _) | (with_reducible refine Kd.C_drewN ?_ _) | (with_reducible refine Kd.C_drew ?_))); (case side2 => exact HC0_0.out); (case side3 => repeat (first | exact (Kd.C_below HR1_0.out HB.out) | (with_reducible refine Kd.C_alloc ?_ _) | (with_reducible refine Kd.C_drewN ?_ _) | (with_reducible refine Kd.C_drew ?_))); (case side4 => exact HC1_0.out); rintro e w16 ⟨rfl, hb⟩; refine ⟨_, rfl, ?_⟩; replace BK305 := Aside0.mk (blk_below (g := gb305) au57 hb); replace BK306 := Aside0.mk (blk_below (g := gb306) (by (with_reducible repeat (first | refine blk_drewN ?_ _ | refine blk_drew ?_ | refine blk_alloc ?_ _)); exact BK306.out) hb); replace HB := Aside0.mk (below_step (by repeat (first | (with_reducible first | exact HB.out | apply below_alloc | apply pw_below_drewN | apply below_drew1 | refine below_set ?_ GE305.out | refine below_set ?_ GE306.out) | exact HB.out)) hb); (try clear hb)))
  go_ret
  exact ⟨by first | rfl | (simp [errW_none, errW_some] <;> rfl) | (simp [*, errW_none, errW_some] <;> rfl), by repeat (first | (with_reducible first | exact HB.out | apply below_alloc | apply pw_below_drewN | apply below_drew1 | refine below_set ?_ GE305.out | refine below_set ?_ GE306.out) | exact HB.out)⟩) : P := h
set_option maxHeartbeats 8000000 in
set_option maxRecDepth 100000 in
theorem laws_eqLibrary.calls (k : Nat) (A0_0 : Option Addr) (c0_0 : Nat) (l0_0 : List (S51)) (A1_0 : Option Addr) (c1_0 : Nat) (l1_0 : List (S51)) (r : Bool) (w : World) (hr0_0 : Kd.C k51 w A0_0 l0_0.length l0_0) (hc0_0 : l0_0.length ≤ c0_0) (hr1_0 : Kd.C k51 w A1_0 l1_0.length l1_0) (hc1_0 : l1_0.length ≤ c1_0) (h : laws_eqLibrary.f k l0_0 l1_0 = some r) :
  Calls Tryd.prog 9 #[.agg #[.slice A0_0 l0_0.length c0_0], .agg #[.slice A1_0 l1_0.length c1_0]] w fun e w' => e = .returned (.bool r) ∧ Below w.heap.size w w' := by
 have hu30 := Tryd.underlying30
 have HR0_0 := Aside0.mk hr0_0
 have HC0_0 := Aside0.mk hc0_0
 clear hr0_0 hc0_0
 have HR1_0 := Aside0.mk hr1_0
 have HC1_0 := Aside0.mk hc1_0
 clear hr1_0 hc1_0
 have HB := Aside0.mk (Below.refl w.heap.size w)
 have H : ((laws_eqEntryS.f k l0_0 l1_0).bind fun t307 => (if t307 = true then (some true) else (some false))) = some r := h
 clear h
 replace H := Option.bind_eq_some_iff.mp H
 obtain ⟨t307, A30, H⟩ := H
 try dsimp only at H
 have A3 := Aside0.mk A30
 clear A30
 by_cases c4 : t307 = true
 ·
  subst c4
  replace H := (if_pos rfl).symm.trans H
  obtain rfl := Option.some.inj H
  exact laws_eqLibrary.L0
 ·
  replace c4 := Bool.eq_false_iff.mpr c4
  subst c4
  replace H := (if_neg (show ¬ (false = true) by decide)).symm.trans H
  obtain rfl := Option.some.inj H
  exact laws_eqLibrary.L0


/-! ### laws_FnExactFindEntry: function 3 -/
def laws_FnExactFindEntry.j0 : Nat → Bool → List (S59) → List (S51) → Option (Bool)
 | 0, _, _, _ => none
 | k + 1, x41, x309000, x319000 => if x41 = true then (some false) else ((laws_toLibrary.f k x309000).bind fun t321 => ((laws_eqLibrary.f k x319000 t321).bind fun t324 => (if t324 = true then (some true) else (some false))))
def laws_FnExactFindEntry.f (k : Nat) (l0_0 : List (S59)) (a1 : ByteArray) : Option (Bool) := if (a1.size : Int) > 1048576 then (some true) else ((laws_szLibrary.f k l0_0 1048576).bind fun t309 => (if t309 < 0 then (some true) else ((laws_toLibrary.f k l0_0).bind fun t310 => ((spec_FindEntry.f k t310 a1).bind fun bt313 => ((laws_toLibrary.f k l0_0).bind fun t315 => ((impl_FindEntry.f k t315 a1).bind fun bt319 => (if bt319.1 = bt313.1 then (laws_FnExactFindEntry.j0 k (bt319.2 != bt313.2) l0_0 t315) else (laws_FnExactFindEntry.j0 k true l0_0 t315))))))))
theorem laws_FnExactFindEntry.mono_l : ∀ k, (∀ y0 y1 y2, LeO (laws_FnExactFindEntry.j0 k y0 y1 y2) (laws_FnExactFindEntry.j0 (k + 1) y0 y1 y2))
 | 0 => fun _ _ _ r h => by simp [laws_FnExactFindEntry.j0] at h
 | k + 1 => by
  have ih0 := laws_FnExactFindEntry.mono_l k
  ·
   intro y0 y1 y2
   unfold laws_FnExactFindEntry.j0
   repeat' first
   | (with_reducible exact ih0 _ _ _)
   | (with_reducible exact impl_FindEntry.mono _ _ _)
   | (with_reducible exact laws_eqLibrary.mono _ _ _)
   | (with_reducible exact laws_szLibrary.mono _ _ _)
   | (with_reducible exact laws_toLibrary.mono _ _)
   | (with_reducible exact spec_FindEntry.mono _ _ _)
   | (with_reducible exact LeO.refl _)
   | (with_reducible exact LeO.none _)
   | (with_reducible refine LeO.ite ?_ ?_)
   | (with_reducible refine LeO.bind ?_ (fun _ => ?_))
   | exact ih0 _ _ _
   | exact impl_FindEntry.mono _ _ _
   | exact laws_eqLibrary.mono _ _ _
   | exact laws_szLibrary.mono _ _ _
   | exact laws_toLibrary.mono _ _
   | exact spec_FindEntry.mono _ _ _
   | exact LeO.none _
   | refine LeO.ite ?_ ?_
   | refine LeO.bind ?_ (fun _ => ?_)
theorem laws_FnExactFindEntry.mono : ∀ a0 a1 k, LeO (laws_FnExactFindEntry.f k a0 a1) (laws_FnExactFindEntry.f (k + 1) a0 a1) := by
 intro a0 a1 k
 have ih0 := laws_FnExactFindEntry.mono_l k
 unfold laws_FnExactFindEntry.f
 repeat' first
   | (with_reducible exact ih0 _ _ _)
   | (with_reducible exact impl_FindEntry.mono _ _ _)
   | (with_reducible exact laws_eqLibrary.mono _ _ _)
   | (with_reducible exact laws_szLibrary.mono _ _ _)
   | (with_reducible exact laws_toLibrary.mono _ _)
   | (with_reducible exact spec_FindEntry.mono _ _ _)
   | (with_reducible exact LeO.refl _)
   | (with_reducible exact LeO.none _)
   | (with_reducible refine LeO.ite ?_ ?_)
   | (with_reducible refine LeO.bind ?_ (fun _ => ?_))
   | exact ih0 _ _ _
   | exact impl_FindEntry.mono _ _ _
   | exact laws_eqLibrary.mono _ _ _
   | exact laws_szLibrary.mono _ _ _
   | exact laws_toLibrary.mono _ _
   | exact spec_FindEntry.mono _ _ _
   | exact LeO.none _
   | refine LeO.ite ?_ ?_
   | refine LeO.bind ?_ (fun _ => ?_)
set_option maxRecDepth 100000 in
theorem laws_FnExactFindEntry.L0 {P : Prop} (h : P := by
  try go_wp2
  replace HO_319000 := Aside0.mk (Kd.R_drew HO_319000.out)
  replace BK308 := Aside0.mk (blk_drew BK308.out)
  replace BK318 := Aside0.mk (blk_drew BK318.out)
  replace HB := Aside0.mk (below_drew1 HB.out)
  refine start_ (n := 5) (S := fun w' => w'.cell? ⟨gb318, 0, none⟩ = some (.slice Ao25 t315.length co25) ∧ w'.cell? ⟨gb308, 0, none⟩ = some (.slice A0_0 l0_0.length c0_0)) (ds := []) #[false, false, false, false, false] (by kernel_rfl) rfl rfl ⟨(blk_cell BK318.out 0).trans rfl, (blk_cell BK308.out 0).trans rfl⟩ (fun hHeld => ?_)
  generalize wc.drew = w34 at HO_319000 BK308 BK318 HB hHeld ⊢
  refine take_ (i := 0) (N := some 42) (v := ?_) (a' := ?_) #[true, false, false, false, false] rfl rfl (by kernel_rfl) (fun _ _ _ h => h) (Or.inl ⟨by rfl, ?_⟩) hHeld ?_ ?_
  rotate_left
  ·
   rintro w' ⟨s0, s1⟩
   go_simp
   with_reducible rfl
  rotate_left
  ·
   simp only [Act.put, List.setIfInBounds_toArray, List.set_cons_zero, List.set_cons_succ, i64_w, i32_w]
   rfl
  refine take_ (i := 1) (N := some 43) (v := ?_) (a' := ?_) #[true, true, false, false, false] rfl rfl (by kernel_rfl) (fun _ _ _ h => h) (Or.inl ⟨by rfl, ?_⟩) hHeld ?_ ?_
  rotate_left
  ·
   rintro w' ⟨s0, s1⟩
   go_simp
   with_reducible rfl
  rotate_left
  ·
   simp only [Act.put, List.setIfInBounds_toArray, List.set_cons_zero, List.set_cons_succ, i64_w, i32_w]
   rfl
  refine one_ (i := 2) (N := some 44) #[true, true, true, false, false] rfl rfl (by kernel_rfl) (by decide) (fun K hK => ?_)
  refine gs_ Tryd.func7 #[.agg #[.slice A0_0 l0_0.length c0_0]] ?_
  with_reducible refine (laws_toLibrary.calls kj13 _ _ l0_0 t321 _ ?side1 ?side2 A31.out).mono ?_
  (case side1 => repeat (first | exact (Kd.C_below HR0_0.out HB.out) | (with_reducible refine Kd.C_alloc ?_ _) | (with_reducible refine Kd.C_drewN ?_ _) | (with_reducible refine Kd.C_drew ?_)))
  (case side2 => exact HC0_0.out)
  rintro e w35 ⟨v322, rfl, ho0, hb⟩
  refine ⟨_, rfl, ?_⟩
  have HO323 := Aside0.mk (Kd.R_lower (Kd.R_new' ho0 (Kd.R_lt au60)) (below_size au12))
  replace HO_319000 := Aside0.mk (Kd.R_elder' au60 (Kd.R_base ho0) hb)
  replace BK308 := Aside0.mk (blk_below (g := gb308) au58 hb)
  replace BK318 := Aside0.mk (blk_below (g := gb318) au59 hb)
  replace HB := Aside0.mk (below_step au12 hb)
  (try clear hb)
  (try clear ho0)
  obtain ⟨Ao36, co36, eo36⟩ := Kd.R_slice HO323.out
  (first | subst eo36 | (injection eo36 with f1_ f2_ f3_; have f4_ := f1_.symm; have f5_ := f3_.symm; clear f1_ f2_ f3_; subst f4_; subst f5_))
  refine hK.out _ _ ⟨(blk_cell BK318.out 0).trans rfl, (blk_cell BK308.out 0).trans rfl⟩ (fun hHeld => ?_)
  clear hK K
  refine no_ (some 44) ?_
  refine one_ (i := 3) (N := some 45) #[true, true, true, true, false] rfl rfl (by kernel_rfl) (by decide) (fun K hK => ?_)
  refine gs_ Tryd.func9 #[.agg #[.slice Ao25 t315.length co25], .agg #[.slice Ao36 t321.length co36]] ?_
  with_reducible refine (laws_eqLibrary.calls kj13 _ _ t315 _ _ t321 _ _ ?side1 ?side2 ?side3 ?side4 A32.out).mono ?_
  (case side1 => repeat (first | exact (Kd.R_reads' HO_319000.out).2.2 | (with_reducible refine Kd.C_alloc ?_ _) | (with_reducible refine Kd.C_drewN ?_ _) | (with_reducible refine Kd.C_drew ?_)))
  (case side2 => exact (Kd.R_reads' HO_319000.out).2.1)
  (case side3 => repeat (first | exact (Kd.R_reads' HO323.out).2.2 | (with_reducible refine Kd.C_alloc ?_ _) | (with_reducible refine Kd.C_drewN ?_ _) | (with_reducible refine Kd.C_drew ?_)))
  (case side4 => exact (Kd.R_reads' HO323.out).2.1)
  rintro e w37 ⟨rfl, hb⟩
  refine ⟨_, rfl, ?_⟩
  replace HO_319000 := Aside0.mk (Kd.R_below au60 hb)
  replace HO323 := Aside0.mk (Kd.R_below (by (with_reducible repeat (first | apply Kd.R_alloc | apply Kd.R_drewN | apply Kd.R_drew)); exact HO323.out) hb)
  replace BK308 := Aside0.mk (blk_below (g := gb308) au58 hb)
  replace BK318 := Aside0.mk (blk_below (g := gb318) au59 hb)
  replace HB := Aside0.mk (below_step au12 hb)
  (try clear hb)
  refine hK.out _ _ ⟨(blk_cell BK318.out 0).trans rfl, (blk_cell BK308.out 0).trans rfl⟩ (fun hHeld => ?_)
  clear hK K
  refine no_ (some 45) ?_
  refine pure_ (i := 4) (N := some 46) (v := ?_) (a' := ?_) #[true, true, true, true, true] rfl rfl (by kernel_rfl) (fun _ _ _ h => h) (Or.inl ⟨by rfl, ?_⟩) ?_ ?_
  rotate_left
  ·
   intro w'
   go_simp
   with_reducible rfl
  rotate_left
  ·
   simp only [Act.put, List.setIfInBounds_toArray, List.set_cons_zero, List.set_cons_succ, i64_w, i32_w]
   rfl
  refine done_ (by kernel_rfl) ?_
  try go_wp2
  go_ret
  exact ⟨by first | rfl | (simp [errW_none, errW_some] <;> rfl) | (simp [*, errW_none, errW_some] <;> rfl), by repeat (first | (with_reducible first | exact HB.out | apply below_alloc | apply pw_below_drewN | apply below_drew1 | refine below_set ?_ GE308.out | refine below_set ?_ GE318.out) | exact HB.out)⟩) : P := h
set_option maxHeartbeats 8000000 in
set_option maxRecDepth 100000 in
theorem laws_FnExactFindEntry.calls (k : Nat) (A0_0 : Option Addr) (c0_0 : Nat) (l0_0 : List (S59)) (a1 : ByteArray) (r : Bool) (w : World) {gF1 gF2 gF3 : Bool} (hG : GL gF1 gF2 gF3 w) (hr0_0 : Kd.C k59 w A0_0 l0_0.length l0_0) (hc0_0 : l0_0.length ≤ c0_0) (h : laws_FnExactFindEntry.f k l0_0 a1 = some r) :
  Calls Tryd.prog 3 #[.agg #[.slice A0_0 l0_0.length c0_0], .string a1] w fun e w' => e = .returned (.bool r) ∧ Below w.heap.size w w' := by
 have HG := Aside0.mk hG
 clear hG
 have hu24 := Tryd.underlying24
 have hu30 := Tryd.underlying30
 have HR0_0 := Aside0.mk hr0_0
 have HC0_0 := Aside0.mk hc0_0
 clear hr0_0 hc0_0
 have HB := Aside0.mk (Below.refl w.heap.size w)
 have H : (if (a1.size : Int) > 1048576 then (some true) else ((laws_szLibrary.f k l0_0 1048576).bind fun t309 => (if t309 < 0 then (some true) else ((laws_toLibrary.f k l0_0).bind fun t310 => ((spec_FindEntry.f k t310 a1).bind fun bt313 => ((laws_toLibrary.f k l0_0).bind fun t315 => ((impl_FindEntry.f k t315 a1).bind fun bt319 => (if bt319.1 = bt313.1 then (laws_FnExactFindEntry.j0 k (bt319.2 != bt313.2) l0_0 t315) else (laws_FnExactFindEntry.j0 k true l0_0 t315))))))))) = some r := h
 clear h
 by_cases c3 : (a1.size : Int) > 1048576
 ·
  rw [if_pos c3] at H
  have c3b0 : decide (1048576 < (a1.size : Int)) = true := decide_eq_true c3
  have c3b1 : decide (1048576 < a1.size) = true := decide_eq_true (by omega)
  clear c3
  obtain rfl := Option.some.inj H
  go_enter Tryd.func3, Tryd.ntmps3
  go_wp2_with (first | ((with_reducible refine gate_dst (N := 2) rfl ?_); refine box_event ?hg (N := 2) ?hd (cs := #[.slice A0_0 l0_0.length c0_0]) (t := 24) ?hr ?_; (case hd => rfl); (case hg => rfl); (case hr => first | (go_simp; done) | (go_simp; rfl)); intro gb308 hg w4 hbox hb; have BK308 := Aside0.mk (hbox); have GW308 := Aside0.mk (bsz hg au33); have GE308 := Aside0.mk (bsz hg au33); replace HB := Aside0.mk (below_step au33 hb); clear hb hbox hg))
  go_ret
  exact ax13
 ·
  rw [if_neg c3] at H
  have c3b0 : decide (1048576 < (a1.size : Int)) = false := decide_eq_false c3
  have c3b1 : decide (1048576 < a1.size) = false := decide_eq_false (by omega)
  clear c3
  replace H := Option.bind_eq_some_iff.mp H
  obtain ⟨t309, A50, H⟩ := H
  try dsimp only at H
  have A5 := Aside0.mk A50
  clear A50
  by_cases c6 : t309 < 0
  ·
   rw [if_pos c6] at H
   have c6b0 : decide (t309 < 0) = true := decide_eq_true c6
   clear c6
   obtain rfl := Option.some.inj H
   go_enter Tryd.func3, Tryd.ntmps3
   go_wp2_with (first | ((with_reducible refine gate_dst (N := 2) rfl ?_); refine box_event ?hg (N := 2) ?hd (cs := #[.slice A0_0 l0_0.length c0_0]) (t := 24) ?hr ?_; (case hd => rfl); (case hg => rfl); (case hr => first | (go_simp; done) | (go_simp; rfl)); intro gb308 hg w7 hbox hb; have BK308 := Aside0.mk (hbox); have GW308 := Aside0.mk (bsz hg au33); have GE308 := Aside0.mk (bsz hg au33); replace HB := Aside0.mk (below_step au33 hb); clear hb hbox hg; have hcz8_0 : w7.cell? ⟨gb308, 0, none⟩ = some (.slice A0_0 l0_0.length c0_0) := (blk_cell BK308.out 0).trans rfl; have hfz8_0 := blk_frozen BK308.out 0) | ((with_reducible refine gate_callee (f := 5) rfl ?_); refine goesL_ (some 16) rfl rfl Tryd.func5 (by kernel_rfl) rfl #[.agg #[.slice A0_0 l0_0.length c0_0], .int .i64 1048576] rfl au32 ?_; (with_reducible refine (laws_szLibrary.calls k _ _ l0_0 1048576 t309 _ ?side1 ?side2 A5.out).mono ?_); (case side1 => repeat (first | exact (Kd.C_below HR0_0.out HB.out) | (with_reducible refine Kd.C_alloc ?_ _) | (with_reducible refine Kd.C_drewN ?_ _) | (with_reducible refine Kd.C_drew ?_))); (case side2 => exact HC0_0.out); rintro e w9 ⟨rfl, hb⟩; refine ⟨_, rfl, ?_⟩; replace BK308 := Aside0.mk (blk_below (g := gb308) au58 hb); replace HB := Aside0.mk (below_step au31 hb); (try clear hb)))
   go_ret
   exact ax13
  ·
   rw [if_neg c6] at H
   have c6b0 : decide (t309 < 0) = false := decide_eq_false c6
   clear c6
   replace H := Option.bind_eq_some_iff.mp H
   obtain ⟨t310, A100, H⟩ := H
   try dsimp only at H
   have A10 := Aside0.mk A100
   clear A100
   replace H := Option.bind_eq_some_iff.mp H
   obtain ⟨⟨t313, t314⟩, A110, H⟩ := H
   replace H : ((laws_toLibrary.f k l0_0).bind fun t315 => ((impl_FindEntry.f k t315 a1).bind fun bt319 => (if bt319.1 = t313 then (laws_FnExactFindEntry.j0 k (bt319.2 != t314) l0_0 t315) else (laws_FnExactFindEntry.j0 k true l0_0 t315)))) = some r := H
   have A11 := Aside0.mk A110
   clear A110
   replace H := Option.bind_eq_some_iff.mp H
   obtain ⟨t315, A120, H⟩ := H
   try dsimp only at H
   have A12 := Aside0.mk A120
   clear A120
   replace H := Option.bind_eq_some_iff.mp H
   obtain ⟨⟨t319, t320⟩, A130, H⟩ := H
   replace H : (if t319 = t313 then (laws_FnExactFindEntry.j0 k (t320 != t314) l0_0 t315) else (laws_FnExactFindEntry.j0 k true l0_0 t315)) = some r := H
   have A13 := Aside0.mk A130
   clear A130
   have HC14 := Aside0.mk H
   clear H
   go_enter Tryd.func3, Tryd.ntmps3
   go_upto_region 10 with (first | ((with_reducible refine gate_dst (N := 2) rfl ?_); refine box_event ?hg (N := 2) ?hd (cs := #[.slice A0_0 l0_0.length c0_0]) (t := 24) ?hr ?_; (case hd => rfl); (case hg => rfl); (case hr => first | (go_simp; done) | (go_simp; rfl)); intro gb308 hg w15 hbox hb; have BK308 := Aside0.mk (hbox); have GW308 := Aside0.mk (bsz hg au33); have GE308 := Aside0.mk (bsz hg au33); replace HB := Aside0.mk (below_step au33 hb); clear hb hbox hg; have hcz16_0 : w15.cell? ⟨gb308, 0, none⟩ = some (.slice A0_0 l0_0.length c0_0) := (blk_cell BK308.out 0).trans rfl; have hfz16_0 := blk_frozen BK308.out 0) | ((with_reducible refine gate_callee (f := 5) rfl ?_); refine goesL_ (some 16) rfl rfl Tryd.func5 (by kernel_rfl) rfl #[.agg #[.slice A0_0 l0_0.length c0_0], .int .i64 1048576] rfl au32 ?_; (with_reducible refine (laws_szLibrary.calls k _ _ l0_0 1048576 t309 _ ?side1 ?side2 A5.out).mono ?_); (case side1 => repeat (first | exact (Kd.C_below HR0_0.out HB.out) | (with_reducible refine Kd.C_alloc ?_ _) | (with_reducible refine Kd.C_drewN ?_ _) | (with_reducible refine Kd.C_drew ?_))); (case side2 => exact HC0_0.out); rintro e w17 ⟨rfl, hb⟩; refine ⟨_, rfl, ?_⟩; replace BK308 := Aside0.mk (blk_below (g := gb308) au58 hb); replace HB := Aside0.mk (below_step au31 hb); (try clear hb); have hcz18_0 : w17.cell? ⟨gb308, 0, none⟩ = some (.slice A0_0 l0_0.length c0_0) := (blk_cell BK308.out 0).trans rfl; have hfz18_0 := blk_frozen BK308.out 0) | ((with_reducible refine gate_callee (f := 7) rfl ?_); refine goesL_ (some 21) rfl rfl Tryd.func7 (by kernel_rfl) rfl #[.agg #[.slice A0_0 l0_0.length c0_0]] rfl au32 ?_; (with_reducible refine (laws_toLibrary.calls k _ _ l0_0 t310 _ ?side1 ?side2 A10.out).mono ?_); (case side1 => repeat (first | exact (Kd.C_below HR0_0.out HB.out) | (with_reducible refine Kd.C_alloc ?_ _) | (with_reducible refine Kd.C_drewN ?_ _) | (with_reducible refine Kd.C_drew ?_))); (case side2 => exact HC0_0.out); rintro e w19 ⟨v311, rfl, ho0, hb⟩; refine ⟨_, rfl, ?_⟩; have HO312 := Aside0.mk (Kd.R_lower ho0 (below_size au31)); replace BK308 := Aside0.mk (blk_below (g := gb308) au58 hb); replace HB := Aside0.mk (below_step au31 hb); (try clear hb); (try clear ho0); obtain ⟨Ao20, co20, eo20⟩ := Kd.R_slice HO312.out; subst eo20) | ((with_reducible refine gate_callee (f := 6) rfl ?_); refine goesL_ (some 23) rfl rfl Tryd.func6 (by kernel_rfl) rfl #[.agg #[.slice Ao20 t310.length co20], .string a1] rfl au32 ?_; (with_reducible refine (spec_FindEntry.calls k _ _ t310 a1 t313 t314 _ ?side1 ?side2 A11.out).mono ?_); (case side1 => repeat (first | exact (Kd.R_reads' HO312.out).2.2 | (with_reducible refine Kd.C_alloc ?_ _) | (with_reducible refine Kd.C_drewN ?_ _) | (with_reducible refine Kd.C_drew ?_))); (case side2 => exact (Kd.R_reads' HO312.out).2.1); rintro e w21 ⟨rfl, hb⟩; refine ⟨_, rfl, ?_⟩; replace HO312 := Aside0.mk (Kd.R_below au61 hb); replace BK308 := Aside0.mk (blk_below (g := gb308) au58 hb); replace HB := Aside0.mk (below_step au31 hb); (try clear hb); have hcz22_0 : w21.cell? ⟨gb308, 0, none⟩ = some (.slice A0_0 l0_0.length c0_0) := (blk_cell BK308.out 0).trans rfl; have hfz22_0 := blk_frozen BK308.out 0) | ((with_reducible refine gate_callee (f := 7) rfl ?_); refine goesL_ (some 27) rfl rfl Tryd.func7 (by kernel_rfl) rfl #[.agg #[.slice A0_0 l0_0.length c0_0]] rfl au32 ?_; (with_reducible refine (laws_toLibrary.calls k _ _ l0_0 t315 _ ?side1 ?side2 A12.out).mono ?_); (case side1 => repeat (first | exact (Kd.C_below HR0_0.out HB.out) | (with_reducible refine Kd.C_alloc ?_ _) | (with_reducible refine Kd.C_drewN ?_ _) | (with_reducible refine Kd.C_drew ?_))); (case side2 => exact HC0_0.out); rintro e w23 ⟨v316, rfl, ho0, hb⟩; refine ⟨_, rfl, ?_⟩; have HO317 := Aside0.mk (Kd.R_lower (Kd.R_new' ho0 (Kd.R_lt au61)) (below_size au31)); replace HO312 := Aside0.mk (Kd.R_elder' au61 (Kd.R_base ho0) hb); replace BK308 := Aside0.mk (blk_below (g := gb308) au58 hb); replace HB := Aside0.mk (below_step au31 hb); (try clear hb); (try clear ho0)) | ((with_reducible refine gate_dst (N := 8) rfl ?_); refine box_event ?hg (N := 8) ?hd (cs := #[.slice none 0 0]) (t := 30) ?hr ?_; (case hd => rfl); (case hg => rfl); (case hr => first | (go_simp; done) | (go_simp; rfl)); intro gb318 hg w24 hbox hb; replace HO312 := Aside0.mk (Kd.R_below au61 hb); replace HO317 := Aside0.mk (Kd.R_below (by (with_reducible repeat (first | apply Kd.R_alloc | apply Kd.R_drewN | apply Kd.R_drew)); exact HO317.out) hb); have BK318 := Aside0.mk (hbox); have GW318 := Aside0.mk (bsz hg au31); have GE318 := Aside0.mk (bsz hg au31); replace HB := Aside0.mk (below_step au31 hb); have NB308_318 := Aside0.mk (bne (g := gb308) hg au58); have NB318_308 := Aside0.mk (ben (g := gb308) hg au58); replace BK308 := Aside0.mk (blk_below (g := gb308) au58 hb); clear hb hbox hg; obtain ⟨Ao25, co25, eo25⟩ := Kd.R_slice HO317.out; subst eo25; have hnb26 := NB318_308.out; have hnc26 := NB308_318.out; have hcz27_0 : w24.cell? ⟨gb318, 0, none⟩ = some (.slice none 0 0) := (blk_cell BK318.out 0).trans rfl; have hfz27_0 := blk_frozen BK318.out 0) | ((with_reducible refine gate_callee (f := 8) rfl ?_); refine goesL_ (some 31) rfl rfl Tryd.func8 (by kernel_rfl) rfl #[.agg #[.slice Ao25 t315.length co25], .string a1] rfl au32 ?_; (with_reducible refine (impl_FindEntry.calls (hG := au0) k _ _ t315 a1 t319 t320 _ ?side1 ?side2 A13.out).mono ?_); (case side1 => refine (Kd.R_reads' (e := 51) (base := w.heap.size) (ok := fun k_ => (True ∧ some k_ ≠ (.slice Ao20 t310.length co20 : Value).ownBlock)) (n := t315.length) (c := co25) ?_).2.2; exact au2); (case side2 => exact (Kd.R_reads' HO317.out).2.1); rintro e w28 ⟨rfl, hb⟩; refine ⟨_, rfl, ?_⟩; replace HO312 := Aside0.mk (Kd.R_below (by (with_reducible repeat (first | apply Kd.R_alloc | apply Kd.R_drewN | apply Kd.R_drew)); exact (Kd.R_mono (Kd.R_far (p := ⟨gb318, 0, none⟩) (Kd.R_types HO312.out BK318.out (by decide)) (fun _ hk => hk.2) (.slice Ao25 t315.length co25)) (fun _ h_ => h_.1))) hb); replace HO317 := Aside0.mk (Kd.R_below au2 hb); replace BK308 := Aside0.mk (blk_below (g := gb308) (o := .cells #[.slice A0_0 l0_0.length c0_0] 24 (0, 0)) (by (with_reducible repeat (first | refine blk_drewN ?_ _ | refine blk_drew ?_ | refine blk_alloc ?_ _)); refine blk_far ?_ NB308_318.out _; (with_reducible repeat (first | refine blk_drewN ?_ _ | refine blk_drew ?_ | refine blk_alloc ?_ _)); exact BK308.out) hb); replace BK318 := Aside0.mk (blk_below (g := gb318) (o := .cells #[.slice Ao25 t315.length co25] 30 (0, 0)) (by (with_reducible repeat (first | refine blk_drewN ?_ _ | refine blk_drew ?_ | refine blk_alloc ?_ _)); refine blk_put (cs := #[.slice none 0 0]) ?_ 0 _ rfl; (with_reducible repeat (first | refine blk_drewN ?_ _ | refine blk_drew ?_ | refine blk_alloc ?_ _)); exact BK318.out) hb); replace HB := Aside0.mk (below_step au12 hb); (try clear hb)))
   (try simp only [Act.put, List.setIfInBounds_toArray, List.set_cons_zero, List.set_cons_succ])
   go_cut [41] (fun v41 wc => ∃ (kq : Nat) (x41_13 : Bool), v41 = .bool x41_13 ∧ Aside0 (laws_FnExactFindEntry.j0 kq x41_13 l0_0 t315 = some r) ∧ Aside0 (kq ≤ k) ∧ Aside0 (Kd.R k51 51 wc w.heap.size (fun _ => True) (.slice Ao25 t315.length co25) t315) ∧ Aside0 (wc.heap[gb308]? = some (.cells #[(.slice A0_0 l0_0.length c0_0)] 24 (0, 0))) ∧ Aside0 (wc.heap[gb318]? = some (.cells #[(.slice Ao25 t315.length co25)] 30 (0, 0))) ∧ Aside0 (Below w.heap.size w wc))
   case first =>
    have H := HC14.out
    clear HC14
    by_cases c29 : t319 = t313
    ·
     rw [if_pos c29] at H
     have c29b0 : (t319 == t313) = true := beq_iff_eq.mpr c29
     have c29b1 : (t319 != t313) = false := bne_eq_false_iff_eq.mpr c29
     clear c29
     (first | rw [c29b0] | (simp only [i64_w, i32_w]; rw [c29b0]) | skip)
     have H' := Aside0.mk H
     clear H
     go_wp2
     go_meet
     case rel => exact ⟨_, ((t320 != t314)), au66, H', ⟨by first | omega | exact Nat.le_refl _⟩, ⟨by (with_reducible repeat (first | apply Kd.R_alloc | apply Kd.R_drewN | apply Kd.R_drew)); exact Kd.R_mono HO317.out (fun _ hk => trivial)⟩, ⟨by (with_reducible repeat (first | refine blk_drewN ?_ _ | refine blk_drew ?_ | refine blk_alloc ?_ _)); exact BK308.out⟩, ⟨by (with_reducible repeat (first | refine blk_drewN ?_ _ | refine blk_drew ?_ | refine blk_alloc ?_ _)); exact BK318.out⟩, ⟨by repeat (first | (with_reducible first | exact HB.out | apply below_alloc | apply pw_below_drewN | apply below_drew1 | refine below_set ?_ GE308.out | refine below_set ?_ GE318.out) | exact HB.out)⟩⟩
    ·
     rw [if_neg c29] at H
     have c29b0 : (t319 == t313) = false := beq_eq_false_iff_ne.mpr c29
     have c29b1 : (t319 != t313) = true := bne_iff_ne.mpr c29
     (first | rw [c29b0] | (simp only [i64_w, i32_w]; rw [c29b0]) | skip)
     have H' := Aside0.mk H
     clear H
     go_wp2
     go_meet
     case rel => exact ⟨_, (true), au66, H', ⟨by first | omega | exact Nat.le_refl _⟩, ⟨by (with_reducible repeat (first | apply Kd.R_alloc | apply Kd.R_drewN | apply Kd.R_drew)); exact Kd.R_mono HO317.out (fun _ hk => trivial)⟩, ⟨by (with_reducible repeat (first | refine blk_drewN ?_ _ | refine blk_drew ?_ | refine blk_alloc ?_ _)); exact BK308.out⟩, ⟨by (with_reducible repeat (first | refine blk_drewN ?_ _ | refine blk_drew ?_ | refine blk_alloc ?_ _)); exact BK318.out⟩, ⟨by repeat (first | (with_reducible first | exact HB.out | apply below_alloc | apply pw_below_drewN | apply below_drew1 | refine below_set ?_ GE308.out | refine below_set ?_ GE318.out) | exact HB.out)⟩⟩
   case rest =>
    clear HC14
    try clear c2
    try clear p2
    try clear c3
    try clear c3b0
    try clear c3b1
    try clear c5
    try clear c6
    try clear c6b0
    try clear c7
    try clear c8
    try clear c26
    try clear c29
    try clear c29b0
    try clear c29b1
    try clear hcz16_0
    try clear hcz18_0
    try clear hcz22_0
    try clear hcz27_0
    try clear hcz8_0
    try clear hfz16_0
    try clear hfz18_0
    try clear hfz22_0
    try clear hfz27_0
    try clear hfz8_0
    obtain ⟨kq, x41_13, rfl, HA, HJ13, HO_319000, BK308, BK318, HB⟩ := hcut
    cases kq with
    | zero => exact absurd HA.out (by simp [laws_FnExactFindEntry.j0])
    | succ kj13 =>
     have H := HA.out
     clear HA
     simp only [laws_FnExactFindEntry.j0] at H
     by_cases c30 : x41_13 = true
     ·
      subst c30
      replace H := (if_pos rfl).symm.trans H
      obtain rfl := Option.some.inj H
      go_wp2
      go_ret
      exact ⟨by first | rfl | (simp [errW_none, errW_some] <;> rfl) | (simp [*, errW_none, errW_some] <;> rfl), by repeat (first | (with_reducible first | exact HB.out | apply below_alloc | apply pw_below_drewN | apply below_drew1 | refine below_set ?_ GE308.out | refine below_set ?_ GE318.out) | exact HB.out)⟩
     ·
      replace c30 := Bool.eq_false_iff.mpr c30
      subst c30
      replace H := (if_neg (show ¬ (false = true) by decide)).symm.trans H
      replace H := Option.bind_eq_some_iff.mp H
      obtain ⟨t321, A310, H⟩ := H
      try dsimp only at H
      have A31 := Aside0.mk A310
      clear A310
      replace H := Option.bind_eq_some_iff.mp H
      obtain ⟨t324, A320, H⟩ := H
      try dsimp only at H
      have A32 := Aside0.mk A320
      clear A320
      by_cases c33 : t324 = true
      ·
       subst c33
       replace H := (if_pos rfl).symm.trans H
       obtain rfl := Option.some.inj H
       exact laws_FnExactFindEntry.L0
      ·
       replace c33 := Bool.eq_false_iff.mpr c33
       subst c33
       replace H := (if_neg (show ¬ (false = true) by decide)).symm.trans H
       obtain rfl := Option.some.inj H
       exact laws_FnExactFindEntry.L0

end Go.Proofs.YtoiodkbdmdbmpaaDoor.G

namespace Go.Proofs.YtoiodkbdmdbmpaaDoor.Opn
open Go.RowKit Go.Proofs.YtoiodkbdmdbmpaaDoorW.PrintWords
set_option linter.unusedVariables false
set_option linter.unusedSimpArgs false
variable {H : Type} {enc : TypeId × Value → H} {P : Program} {w : World} {base : Nat} {spare : Nat → Bool} {held : Bool}
def okInt (k : IntKind) (n : Int) : Prop := (Lit.int k n).wf = true
def okBool (_ : Bool) : Prop := True
def okStr (s : ByteArray) : Prop := s.size ≤ 9223372036854775807
def okList {α : Type} (p : α → Prop) (xs : List α) : Prop := xs.length ≤ 9223372036854775807 ∧ ∀ x ∈ xs, p x
theorem of_int {t : TypeId} {k : IntKind} {fuel : Nat} {cs : List Value} {x : DataW H × List MemPlace} (ht : P.underlying t = some (.int k)) (h : DataW.trod enc P w base spare held fuel t cs = some x) :
    ∃ n, (Kd.int k).K w n cs ∧ okInt k n := by
  obtain ⟨n, rfl, rfl, hw⟩ := DataW.trod_int ht h
  exact ⟨n, rfl, hw⟩
theorem of_bool {t : TypeId} {fuel : Nat} {cs : List Value} {x : DataW H × List MemPlace} (ht : P.underlying t = some .bool) (h : DataW.trod enc P w base spare held fuel t cs = some x) :
    ∃ n, Kd.bool.K w n cs ∧ okBool n := by
  cases fuel with
  | zero => simp [DataW.trod] at h
  | succ fuel =>
    match cs with
    | [] => simp [DataW.trod, ht] at h
    | [v] => cases v <;> simp [DataW.trod, ht] at h; exact ⟨_, rfl, trivial⟩
    | _ :: _ :: _ => simp [DataW.trod, ht] at h
theorem of_string {t : TypeId} {fuel : Nat} {cs : List Value} {x : DataW H × List MemPlace} (ht : P.underlying t = some .string) (h : DataW.trod enc P w base spare held fuel t cs = some x) :
    ∃ n, Kd.string.K w n cs ∧ okStr n := by
  cases fuel with
  | zero => simp [DataW.trod] at h
  | succ fuel =>
    match cs with
    | [] => simp [DataW.trod, ht] at h
    | [v] => cases v <;> simp [DataW.trod, ht] at h; exact ⟨_, rfl, h.1⟩
    | _ :: _ :: _ => simp [DataW.trod, ht] at h
theorem add_add (a : Addr) (k i : Nat) : (a.add k).add i = a.add (k + i) := by
  unfold Addr.add
  by_cases hk : k = 0 <;> by_cases hi : i = 0 <;> simp [hk, hi, Nat.add_assoc]
theorem of_slice {α : Type} {d : Kd α} {ok : α → Prop} {t e : TypeId} {fuel : Nat} {cs : List Value} {x : DataW H × List MemPlace} (ht : P.underlying t = some (.slice e)) (hc : P.cellsOf e = d.sz)
    (ih : ∀ n cs x, DataW.trod enc P w base spare held n e cs = some x → ∃ y, d.K w y cs ∧ ok y) (h : DataW.trod enc P w base spare held fuel t cs = some x) :
    ∃ ys, (Kd.slice e d).K w ys cs ∧ okList ok ys := by
  rcases Go.Deep.open_slice ht h with ⟨rfl, _⟩ | ⟨a, len, cap, m, n, D, Pl, rfl, hb, hl, hm, hmm, hxe, hel⟩
  · exact ⟨[], ⟨none, 0, rfl, by simp, rfl, by simp, fun h => absurd h (by simp)⟩, by simp, fun x hx => by simp at hx⟩
  · have hlm : len ≤ m := by rw [hmm]; split <;> omega
    have hm' : len ≤ 9223372036854775807 := by unfold maxLen at hm; omega
    have key : ∀ i, i < len → ∃ cs' y, w.cells? base (a.add (i * P.cellsOf e)) (P.cellsOf e) = some cs' ∧ d.K w y cs' ∧ ok y := by
      intro i hi
      obtain ⟨cs', h1, h2⟩ := hel i (by omega)
      obtain ⟨y, hy, ho⟩ := ih _ _ _ h2
      exact ⟨cs', y, h1, hy, ho⟩
    obtain ⟨ys, hlen, hys⟩ : ∃ ys : List α, ys.length = len ∧ ∀ i (hi : i < ys.length), ∃ cs', w.cells? base (a.add (i * P.cellsOf e)) (P.cellsOf e) = some cs' ∧ d.K w ys[i] cs' ∧ ok ys[i] := by
      clear h hxe hel hmm hlm hl hm hm'
      induction len with
      | zero => exact ⟨[], rfl, fun i hi => by simp at hi⟩
      | succ len ihl =>
        obtain ⟨ys, h1, h2⟩ := ihl (fun i hi => key i (by omega))
        obtain ⟨cs', y, h3, h4, h5⟩ := key len (by omega)
        refine ⟨ys ++ [y], by simp [h1], fun i hi => ?_⟩
        by_cases hi' : i < ys.length
        · rw [List.getElem_append_left hi']; exact h2 i hi'
        · have : i = len := by simp at hi; omega
          subst this
          refine ⟨cs', h3, ?_, ?_⟩ <;> rw [List.getElem_append_right (by omega)] <;> simpa [h1]
    refine ⟨ys, ⟨some a, cap, by rw [hlen], by omega, rfl, by omega, fun _ => ⟨a, rfl, fun j p hj => ?_⟩⟩, by omega, fun y hy => ?_⟩
    · obtain ⟨hj', rfl⟩ := List.getElem?_eq_some_iff.1 hj
      obtain ⟨cs', h1, h2, _⟩ := hys j hj'
      rw [hc] at h1
      refine ⟨cs', d.K_len h2, h2, fun i u hu => ?_⟩
      obtain ⟨_, hl', hcell⟩ := World.cells?_some h1
      have hi : i < d.sz := by have := (List.getElem?_eq_some_iff.1 hu).1; omega
      have := hcell i hi
      rw [hu, add_add] at this
      exact this
    · obtain ⟨i, hi, rfl⟩ := List.getElem_of_mem hy
      obtain ⟨_, _, _, h3⟩ := hys i hi
      exact h3
theorem mapM_all {α β : Type} {f : α → Option β} : ∀ {l : List α} {ys : List β}, l.mapM f = some ys → ∀ x ∈ l, ∃ y, f x = some y
  | [], _, _, x, hx => by simp at hx
  | a :: l, ys, h, x, hx => by
    rw [List.mapM_cons] at h
    simp only [Option.bind_eq_bind, Option.bind_eq_some_iff] at h
    obtain ⟨y, h1, ys', h2, _⟩ := h
    rcases List.mem_cons.1 hx with rfl | hx
    · exact ⟨y, h1⟩
    · exact mapM_all h2 x hx
theorem of_fields {t : TypeId} {fs : Array Field} {fuel : Nat} {cs : List Value} {x : DataW H × List MemPlace} (ht : P.underlying t = some (.struct fs)) (h : DataW.trod enc P w base spare held fuel t cs = some x) :
    cs.length = P.cellsOf t ∧ ∃ n, ∀ f ∈ fs.toList, ∃ y, DataW.trod enc P w base spare held n f.type ((cs.drop f.offset).take (P.cellsOf f.type)) = some y := by
  cases fuel with
  | zero => simp [DataW.trod] at h
  | succ fuel =>
    simp only [DataW.trod, ht] at h
    split at h
    · rename_i hl
      refine ⟨hl, fuel, ?_⟩
      simp only [Option.map_eq_some_iff] at h
      obtain ⟨ys, h1, _⟩ := h
      exact mapM_all h1
    · simp at h
theorem pair_K {α β : Type} {a : Kd α} {b : Kd β} {x : α} {y : β} {cs : List Value} {n : Nat} (off : Nat) (hn : a.sz = n) (h0 : a.K w x ((cs.drop off).take n)) (h1 : b.K w y (cs.drop (off + n))) : (Kd.pair a b).K w (x, y) (cs.drop off) :=
  ⟨_, _, by rw [← List.drop_drop]; exact (List.take_append_drop n (cs.drop off)).symm, h0, h1⟩
theorem last_K {α : Type} {a : Kd α} {x : α} {cs : List Value} {n : Nat} (off : Nat) (hl : cs.length = off + n) (h0 : a.K w x ((cs.drop off).take n)) : a.K w x (cs.drop off) := by
  rwa [List.take_of_length_le (by rw [List.length_drop]; omega)] at h0
end Go.Proofs.YtoiodkbdmdbmpaaDoor.Opn

namespace Go.Proofs.YtoiodkbdmdbmpaaDoor.G
open Go.Proofs.YtoiodkbdmdbmpaaDoor.Opn
open Go.RowKit Go.Proofs.YtoiodkbdmdbmpaaDoorW.PrintWords Go.Proofs.YtoiodkbdmdbmpaaDoorW.PrintLast Go.Proofs.YtoiodkbdmdbmpaaDoorW.PrintMore
open Go.Proofs.YtoiodkbdmdbmpaaDoor.Gl Go.Proofs.YtoiodkbdmdbmpaaDoor.Ext
attribute [local go_sem] max2_int min2_int max_two min_two max_three min_three max_four min_four   -- for this text's walks alone
set_option linter.unusedVariables false
set_option linter.unusedSimpArgs false

theorem cells3 : Tryd.prog.cellsOf 3 = 1 := by kernel_rfl
theorem cells4 : Tryd.prog.cellsOf 4 = 1 := by kernel_rfl
theorem cells9 : Tryd.prog.cellsOf 9 = 1 := by kernel_rfl
theorem cells22 : Tryd.prog.cellsOf 22 = 1 := by kernel_rfl
theorem cells24 : Tryd.prog.cellsOf 24 = 1 := by kernel_rfl
theorem cells34 : Tryd.prog.cellsOf 34 = 1 := by kernel_rfl
theorem cells56 : Tryd.prog.cellsOf 56 = 1 := by kernel_rfl
theorem cells57 : Tryd.prog.cellsOf 57 = 4 := by kernel_rfl
theorem cells59 : Tryd.prog.cellsOf 59 = 14 := by kernel_rfl
theorem cells77 : Tryd.prog.cellsOf 77 = 4 := by kernel_rfl
def ok77 (y : S77) : Prop := okList (okStr) y.f0 ∧ okStr y.f1 ∧ okStr y.f2 ∧ okStr y.f3
theorem of_T77 {H : Type} {enc : TypeId × Value → H} {w : World} {base : Nat} {spare : Nat → Bool} {held : Bool} {fuel : Nat} {cs : List Value} {x : DataW H × List MemPlace} (h : DataW.trod enc Tryd.prog w base spare held fuel 77 cs = some x) : ∃ y : S77, k77.K w y cs ∧ ok77 y := by
  obtain ⟨hl, n, hf⟩ := of_fields Tryd.underlying77 h
  rw [cells77] at hl
  simp only [List.mem_cons, List.not_mem_nil, or_false, forall_eq_or_imp, forall_eq] at hf
  obtain ⟨⟨y0, f0⟩, ⟨y1, f1⟩, ⟨y2, f2⟩, ⟨y3, f3⟩⟩ := hf
  rw [cells34] at f0
  obtain ⟨x0, g0, b0⟩ := of_slice (ok := okStr) Tryd.underlying34 cells9 (fun _ _ _ h_ => of_string Tryd.underlying9 h_) f0
  rw [cells9] at f1
  obtain ⟨x1, g1, b1⟩ := of_string Tryd.underlying9 f1
  rw [cells9] at f2
  obtain ⟨x2, g2, b2⟩ := of_string Tryd.underlying9 f2
  rw [cells9] at f3
  obtain ⟨x3, g3, b3⟩ := of_string Tryd.underlying9 f3
  exact ⟨⟨x0, x1, x2, x3⟩, (pair_K (n := 1) 0 rfl g0 (pair_K (n := 1) 1 rfl g1 (pair_K (n := 1) 2 rfl g2 (last_K (n := 1) 3 hl g3)))), ⟨b0, b1, b2, b3⟩⟩
def ok57 (y : S57) : Prop := okInt .i64 y.f0 ∧ okInt .i64 y.f1 ∧ okInt .i64 y.f2 ∧ okBool y.f3
theorem of_T57 {H : Type} {enc : TypeId × Value → H} {w : World} {base : Nat} {spare : Nat → Bool} {held : Bool} {fuel : Nat} {cs : List Value} {x : DataW H × List MemPlace} (h : DataW.trod enc Tryd.prog w base spare held fuel 57 cs = some x) : ∃ y : S57, k57.K w y cs ∧ ok57 y := by
  obtain ⟨hl, n, hf⟩ := of_fields Tryd.underlying57 h
  rw [cells57] at hl
  simp only [List.mem_cons, List.not_mem_nil, or_false, forall_eq_or_imp, forall_eq] at hf
  obtain ⟨⟨y0, f0⟩, ⟨y1, f1⟩, ⟨y2, f2⟩, ⟨y3, f3⟩⟩ := hf
  rw [cells3] at f0
  obtain ⟨x0, g0, b0⟩ := of_int Tryd.underlying3 f0
  rw [cells3] at f1
  obtain ⟨x1, g1, b1⟩ := of_int Tryd.underlying3 f1
  rw [cells3] at f2
  obtain ⟨x2, g2, b2⟩ := of_int Tryd.underlying3 f2
  rw [cells4] at f3
  obtain ⟨x3, g3, b3⟩ := of_bool Tryd.underlying4 f3
  exact ⟨⟨x0, x1, x2, x3⟩, (pair_K (n := 1) 0 rfl g0 (pair_K (n := 1) 1 rfl g1 (pair_K (n := 1) 2 rfl g2 (last_K (n := 1) 3 hl g3)))), ⟨b0, b1, b2, b3⟩⟩
def ok59 (y : S59) : Prop := okStr y.f0 ∧ okInt .i64 y.f1 ∧ okList (ok77) y.f2 ∧ okList (ok77) y.f3 ∧ okStr y.f4 ∧ okStr y.f5 ∧ okStr y.f6 ∧ ok57 y.f7 ∧ okInt .i64 y.f8 ∧ okStr y.f9 ∧ okStr y.f10
theorem of_T59 {H : Type} {enc : TypeId × Value → H} {w : World} {base : Nat} {spare : Nat → Bool} {held : Bool} {fuel : Nat} {cs : List Value} {x : DataW H × List MemPlace} (h : DataW.trod enc Tryd.prog w base spare held fuel 59 cs = some x) : ∃ y : S59, k59.K w y cs ∧ ok59 y := by
  obtain ⟨hl, n, hf⟩ := of_fields Tryd.underlying59 h
  rw [cells59] at hl
  simp only [List.mem_cons, List.not_mem_nil, or_false, forall_eq_or_imp, forall_eq] at hf
  obtain ⟨⟨y0, f0⟩, ⟨y1, f1⟩, ⟨y2, f2⟩, ⟨y3, f3⟩, ⟨y4, f4⟩, ⟨y5, f5⟩, ⟨y6, f6⟩, ⟨y7, f7⟩, ⟨y8, f8⟩, ⟨y9, f9⟩, ⟨y10, f10⟩⟩ := hf
  rw [cells9] at f0
  obtain ⟨x0, g0, b0⟩ := of_string Tryd.underlying9 f0
  rw [cells3] at f1
  obtain ⟨x1, g1, b1⟩ := of_int Tryd.underlying3 f1
  rw [cells56] at f2
  obtain ⟨x2, g2, b2⟩ := of_slice (ok := ok77) Tryd.underlying56 cells77 (fun _ _ _ h_ => of_T77 h_) f2
  rw [cells56] at f3
  obtain ⟨x3, g3, b3⟩ := of_slice (ok := ok77) Tryd.underlying56 cells77 (fun _ _ _ h_ => of_T77 h_) f3
  rw [cells9] at f4
  obtain ⟨x4, g4, b4⟩ := of_string Tryd.underlying9 f4
  rw [cells9] at f5
  obtain ⟨x5, g5, b5⟩ := of_string Tryd.underlying9 f5
  rw [cells9] at f6
  obtain ⟨x6, g6, b6⟩ := of_string Tryd.underlying9 f6
  rw [cells57] at f7
  obtain ⟨x7, g7, b7⟩ := of_T57 f7
  rw [cells3] at f8
  obtain ⟨x8, g8, b8⟩ := of_int Tryd.underlying3 f8
  rw [cells9] at f9
  obtain ⟨x9, g9, b9⟩ := of_string Tryd.underlying9 f9
  rw [cells9] at f10
  obtain ⟨x10, g10, b10⟩ := of_string Tryd.underlying9 f10
  exact ⟨⟨x0, x1, x2, x3, x4, x5, x6, x7, x8, x9, x10⟩, (pair_K (n := 1) 0 rfl g0 (pair_K (n := 1) 1 rfl g1 (pair_K (n := 1) 2 rfl g2 (pair_K (n := 1) 3 rfl g3 (pair_K (n := 1) 4 rfl g4 (pair_K (n := 1) 5 rfl g5 (pair_K (n := 1) 6 rfl g6 (pair_K (n := 4) 7 rfl g7 (pair_K (n := 1) 11 rfl g8 (pair_K (n := 1) 12 rfl g9 (last_K (n := 1) 13 hl g10))))))))))), ⟨b0, b1, b2, b3, b4, b5, b6, b7, b8, b9, b10⟩⟩
def ok24 (y : S24) : Prop := okList (ok59) y.f0
theorem of_T24 {H : Type} {enc : TypeId × Value → H} {w : World} {base : Nat} {spare : Nat → Bool} {held : Bool} {fuel : Nat} {cs : List Value} {x : DataW H × List MemPlace} (h : DataW.trod enc Tryd.prog w base spare held fuel 24 cs = some x) : ∃ y : S24, k24.K w y cs ∧ ok24 y := by
  obtain ⟨hl, n, hf⟩ := of_fields Tryd.underlying24 h
  rw [cells24] at hl
  simp only [List.mem_cons, List.not_mem_nil, or_false, forall_eq_or_imp, forall_eq] at hf
  obtain ⟨y0, f0⟩ := hf
  rw [cells22] at f0
  obtain ⟨x0, g0, b0⟩ := of_slice (ok := ok59) Tryd.underlying22 cells59 (fun _ _ _ h_ => of_T59 h_) f0
  exact ⟨⟨x0⟩, (last_K (n := 1) 0 (by simpa using hl) g0), b0⟩

def laws_FnExactFindEntry.Pur : Prop := ∀ (l0_0 : List (S59)) (a1 : ByteArray), okList (ok59) l0_0 → okStr a1 → ∃ k, laws_FnExactFindEntry.f k l0_0 a1 = some true
theorem laws_FnExactFindEntry.wlk (P : laws_FnExactFindEntry.Pur) (A0_0 : Option Addr) (c0_0 : Nat) (l0_0 : List (S59)) (a1 : ByteArray) (w : World) (hr0_0 : Kd.C k59 w A0_0 l0_0.length l0_0) (hc0_0 : l0_0.length ≤ c0_0) {gF1 gF2 gF3 : Bool} (hG : GL gF1 gF2 gF3 w) (bl0_0 : okList (ok59) l0_0) (ba1 : okStr a1) :
    Calls Tryd.prog 3 #[.agg #[.slice A0_0 l0_0.length c0_0], .string a1] w fun e w' => e = .returned (.bool true) ∧ Below w.heap.size w w' := by
  obtain ⟨k, h⟩ := P l0_0 a1 bl0_0 ba1
  refine (laws_FnExactFindEntry.calls k A0_0 c0_0 l0_0 a1 true w hG hr0_0 hc0_0 h).mono ?_
  rintro e w' ⟨rfl, hd⟩
  exact ⟨rfl, hd⟩

end Go.Proofs.YtoiodkbdmdbmpaaDoor.G

namespace Go.Proofs.YtoiodkbdmdbmpaaDoor.B
open Go.RowKit Go.Proofs.YtoiodkbdmdbmpaaDoorW.PrintWords Go.Proofs.YtoiodkbdmdbmpaaDoorW.PrintLast
set_option linter.unusedVariables false
set_option linter.unusedSimpArgs false
theorem w64 {x : Int} (h : -9223372036854775808 ≤ x) (h' : x ≤ 9223372036854775807) : wrap64 x = x := by unfold wrap64; omega
theorem ev_pos {α : Type} {c : Prop} [Decidable c] {g f : Nat → Option α} {r : α} (h : c) (e : Ev g r) : Ev (fun k => if c then g k else f k) r := Ev.congr (fun _ => if_pos h) e
theorem ev_neg {α : Type} {c : Prop} [Decidable c] {g f : Nat → Option α} {r : α} (h : ¬ c) (e : Ev f r) : Ev (fun k => if c then g k else f k) r := Ev.congr (fun _ => if_neg h) e
theorem ev_ite {α : Type} {c : Prop} [Decidable c] {g f : Nat → Option α} {a b : α} (h : c → Ev g a) (h' : ¬ c → Ev f b) : Ev (fun k => if c then g k else f k) (if c then a else b) := by
  by_cases hc : c
  · rw [if_pos hc]; exact ev_pos hc (h hc)
  · rw [if_neg hc]; exact ev_neg hc (h' hc)
theorem ev_bind0 {α β : Type} {o : Option α} {f : Nat → α → Option β} {a : α} {r : β} (h : o = some a) (k : Ev (fun n => f n a) r) : Ev (fun n => o.bind (f n)) r := Ev.congr (fun _ => by rw [h]; rfl) k
theorem ev_eq {α : Type} {g : Nat → Option α} {a b : α} (h : Ev g a) (e : a = b) : Ev g b := e ▸ h
abbrev L (s : ByteArray) : List UInt8 := s.data.toList
def mkB (l : List UInt8) : ByteArray := ⟨l.toArray⟩
theorem L_mk (l : List UInt8) : L (mkB l) = l := by simp [mkB]
theorem mk_L (s : ByteArray) : mkB (L s) = s := by cases s; simp [mkB, L]
theorem L_inj {a b : ByteArray} (h : L a = L b) : a = b := by rw [← mk_L a, h, mk_L]
theorem L_iff {a b : ByteArray} : a = b ↔ L a = L b := ⟨fun h => by rw [h], L_inj⟩
theorem L_len (s : ByteArray) : (L s).length = s.size := (Lib.size_eq s).symm
theorem size_mk (l : List UInt8) : (mkB l).size = l.length := by rw [← L_len, L_mk]
theorem toList_L (s : ByteArray) : s.toList = L s := Lib.toList_data s
theorem L_extract (s : ByteArray) (a b : Nat) : L (s.extract a b) = ((L s).drop a).take (b - a) := Lib.extract_data s a b
theorem bt_get (s : ByteArray) (i : Nat) (h : i < s.size) : bt s (i : Int) = (((L s)[i]'(by rw [L_len]; exact h)).toNat : Int) := by
  unfold bt
  simp only [Int.toNat_natCast, h, dif_pos]
  rfl
theorem size_pos_iff (s : ByteArray) : s.size = 0 ↔ L s = [] := by rw [← L_len, List.length_eq_zero_iff]
theorem u8_inj {a b : UInt8} (h : (a.toNat : Int) = (b.toNat : Int)) : a = b := UInt8.toNat_inj.1 (by omega)
theorem toList_eq_iff {a b : ByteArray} : a.toList = b.toList ↔ a = b := by rw [toList_L, toList_L, L_iff]
def ahd (seg : List UInt8) : List (List UInt8) → List (List UInt8)
  | [] => [seg]
  | h :: t => (seg ++ h) :: t
def spl (b : UInt8) : List UInt8 → List (List UInt8)
  | [] => [[]]
  | c :: cs => if c = b then [] :: spl b cs else ahd [c] (spl b cs)
theorem spl_cons (b c : UInt8) (cs : List UInt8) : spl b (c :: cs) = if c = b then [] :: spl b cs else ahd [c] (spl b cs) := rfl
theorem spl_ne (b : UInt8) (l : List UInt8) : spl b l ≠ [] := by
  cases l with
  | nil => simp [spl]
  | cons c cs => unfold spl; split <;> simp; unfold ahd; split <;> simp
theorem ahd_nil (p : List (List UInt8)) (h : p ≠ []) : ahd [] p = p := by cases p <;> simp_all [ahd]
theorem ahd_ahd (a b : List UInt8) (p : List (List UInt8)) : ahd a (ahd b p) = ahd (a ++ b) p := by cases p <;> simp [ahd]
theorem spl_length (b : UInt8) (l : List UInt8) : (spl b l).length ≤ l.length + 1 := by
  induction l with
  | nil => simp [spl]
  | cons c cs ih =>
    unfold spl
    split
    · simp; omega
    · cases h : spl b cs with
      | nil => exact absurd h (spl_ne b cs)
      | cons p q => rw [h] at ih; simp [ahd] at ih ⊢; omega
theorem spl_step (b : UInt8) (l : List UInt8) (from_ i : Nat) (hi : i < l.length) (hf : from_ ≤ i) :
    ahd ((l.drop from_).take (i - from_)) (spl b (l.drop i)) =
      if l[i] = b then ((l.drop from_).take (i - from_)) :: spl b (l.drop (i + 1)) else ahd ((l.drop from_).take (i + 1 - from_)) (spl b (l.drop (i + 1))) := by
  rw [List.drop_eq_getElem_cons hi, spl_cons]
  by_cases h : l[i] = b
  · rw [if_pos h, if_pos h]
    simp [ahd]
  · rw [if_neg h, if_neg h]
    have e : (l.drop from_).take (i + 1 - from_) = (l.drop from_).take (i - from_) ++ [l[i]] := by
      rw [show i + 1 - from_ = (i - from_) + 1 by omega, List.take_succ_eq_append_getElem (by rw [List.length_drop]; omega)]
      congr 2
      rw [List.getElem_drop]
      congr 1
      omega
    rw [e]
    exact ahd_ahd _ _ _
theorem spl_none (c : UInt8) : ∀ l : List UInt8, (∀ k : Nat, l[k]? ≠ some c) → spl c l = [l]
  | [], _ => rfl
  | a :: l, h => by
    have h0 : a ≠ c := fun e => h 0 (by simp [e])
    rw [spl_cons, if_neg h0, spl_none c l (fun k => by simpa using h (k + 1))]; rfl
theorem spl_first (c : UInt8) : ∀ (i : Nat) (l : List UInt8), l[i]? = some c → (∀ k : Nat, k < i → l[k]? ≠ some c) → spl c l = l.take i :: spl c (l.drop (i + 1))
  | 0, [], h, _ => by simp at h
  | 0, a :: l, h, _ => by
    have h0 : a = c := by simpa using h
    rw [spl_cons, if_pos h0]; rfl
  | i + 1, [], h, _ => by simp at h
  | i + 1, a :: l, h, hk => by
    have h0 : a ≠ c := fun e => hk 0 (by omega) (by simp [e])
    rw [spl_cons, if_neg h0, spl_first c i l (by simpa using h) (fun k hk' => by simpa using hk (k + 1) (by omega))]
    rfl
theorem indexB_one (s : ByteArray) (c : UInt8) : Lib.indexB s (mkB [c]) = Lib.indexByte (L s) c := by
  unfold Lib.indexB
  have : (mkB [c]).data.toList = [c] := L_mk [c]
  rw [this]
  exact Lib.index_one _ _
theorem splitB_spl (c : UInt8) (n : Nat) : ∀ s : ByteArray, s.size ≤ n → (Lib.splitB (mkB [c]) 0 (Lib.countB s (mkB [c])) s).map L = spl c (L s) := by
  have h1 : (mkB [c]).size = 1 := by rw [size_mk]; rfl
  induction n with
  | zero =>
    intro s hs
    rcases Lib.indexB_cases s (mkB [c]) with hm | ⟨i, hi, hr⟩
    · rw [Lib.splitB_miss _ _ _ _ hm]
      have := Lib.indexByte_none (by rw [← indexB_one]; exact hm : Lib.indexByte (L s) c = -1)
      rw [spl_none c (L s) this]; rfl
    · omega
  | succ n ih =>
    intro s hs
    rcases Lib.indexB_cases s (mkB [c]) with hm | ⟨i, hi, hr⟩
    · rw [Lib.splitB_miss _ _ _ _ hm]
      have := Lib.indexByte_none (by rw [← indexB_one]; exact hm : Lib.indexByte (L s) c = -1)
      rw [spl_none c (L s) this]; rfl
    · rw [h1] at hr
      have hc := Lib.countB_hit s (mkB [c]) i (by omega) hi
      rw [h1] at hc
      rw [hc, Nat.add_comm 1, Lib.splitB_hit _ _ _ _ i hi, h1, List.map_cons, ih (s.extract (i + 1) s.size) (by rw [ByteArray.size_extract]; omega)]
      obtain ⟨a, b⟩ := Lib.indexByte_some (by rw [← indexB_one]; exact hi : Lib.indexByte (L s) c = i)
      rw [spl_first c i (L s) a b, L_extract, L_extract]
      congr 1
      congr 1
      rw [List.take_of_length_le (by rw [List.length_drop, L_len]; omega)]
theorem splitB_eq (c : UInt8) (s : ByteArray) : Lib.splitB (mkB [c]) 0 (Lib.countB s (mkB [c])) s = (spl c (L s)).map mkB := by
  rw [← splitB_spl c s.size s (Nat.le_refl _), List.map_map]
  have : (mkB ∘ L) = id := by funext x; exact mk_L x
  rw [this, List.map_id]
end Go.Proofs.YtoiodkbdmdbmpaaDoor.B

namespace Go.Proofs.YtoiodkbdmdbmpaaDoor.G
open Go.RowKit Go.Proofs.YtoiodkbdmdbmpaaDoorW.PrintWords Go.Proofs.YtoiodkbdmdbmpaaDoorW.PrintLast Go.Proofs.YtoiodkbdmdbmpaaDoor.B
set_option linter.unusedVariables false
set_option linter.unusedSimpArgs false
theorem split_loop (s : ByteArray) (b : UInt8) (hs : s.size ≤ 8796093022000) (d : Nat) : ∀ (out : List ByteArray) (f i : Nat), out.length ≤ i → f ≤ i → i ≤ s.size → s.size - i = d →
    Ev (fun k => spec_l1Split.l0 k s (b.toNat : Int) out f i) (out ++ (ahd (((L s).drop f).take (i - f)) (spl b ((L s).drop i))).map mkB) := by
  have hL : (L s).length = s.size := L_len s
  induction d with
  | zero =>
    intro out f i h0 h1 h2 hd
    have e : i = s.size := by omega
    refine Ev.step (f := fun _ => some (out ++ [s.extract f s.size])) (fun k => ?_) (ev_eq (Ev.now _) ?_)
    · simp only [spec_l1Split.l0]
      rw [if_neg (by omega), if_pos (by omega), if_pos (by omega), if_pos (by omega)]
      simp
    · rw [List.drop_of_length_le (l := L s) (i := i) (by omega)]
      simp [spl, ahd]
      apply L_inj
      rw [L_extract, L_mk, e]
  | succ d ih =>
    intro out f i h0 h1 h2 hd
    have hlt : i < s.size := by omega
    have hlt' : i < (L s).length := by omega
    rw [spl_step b (L s) f i hlt' h1]
    have hw : wrap64 ((i : Int) + 1) = ((i + 1 : Nat) : Int) := by rw [w64 (by omega) (by omega)]; rfl
    by_cases e : (L s)[i] = b
    · rw [if_pos e]
      refine Ev.step (f := fun k => spec_l1Split.l0 k s (b.toNat : Int) (out ++ [s.extract f i]) ((i + 1 : Nat) : Int) ((i + 1 : Nat) : Int)) (fun k => ?_) (ev_eq (ih (out ++ [s.extract f i]) (i + 1) (i + 1) (by simp; omega) (by omega) (by omega) (by omega)) ?_)
      · simp only [spec_l1Split.l0]
        rw [if_pos (by omega), if_pos (by omega), if_pos (by rw [bt_get s i hlt, e]), if_pos (by omega), if_pos (by omega), if_pos (by omega), if_pos (by omega), hw]
        simp
      · rw [Nat.sub_self, List.take_zero, ahd_nil _ (spl_ne b _), List.append_assoc]
        congr 1
        simp
        apply L_inj
        rw [L_extract, L_mk]
    · rw [if_neg e]
      refine Ev.step (f := fun k => spec_l1Split.l0 k s (b.toNat : Int) out f ((i + 1 : Nat) : Int)) (fun k => ?_) (ih out f (i + 1) (by omega) (by omega) (by omega) (by omega))
      simp only [spec_l1Split.l0]
      rw [if_pos (by omega), if_pos (by omega), if_neg (by rw [bt_get s i hlt]; exact fun h => e (u8_inj h)), hw]
theorem split_ev (s : ByteArray) (b : UInt8) (hs : s.size ≤ 8796093022000) : Ev (fun k => spec_l1Split.f k s (b.toNat : Int)) ((spl b (L s)).map mkB) := by
  have := split_loop s b hs s.size [] 0 0 (by simp) (by omega) (by omega) (by omega)
  unfold spec_l1Split.f
  simpa [ahd_nil _ (spl_ne b _)] using this
def upD (c : Int) : Bool := decide (65 ≤ c) && decide (c ≤ 90)
def loD (c : Int) : Bool := decide (97 ≤ c) && decide (c ≤ 122)
def leD (c : Int) : Bool := upD c || loD c
def inD (n : Nat) : Bool := decide (1 ≤ n) && decide (n ≤ 12)
theorem spec_up (c : Int) : spec_l2Upper.f c = some (upD c) := by unfold spec_l2Upper.f upD; by_cases h : 65 ≤ c <;> simp [h]
theorem spec_lo (c : Int) : spec_l2Lower.f c = some (loD c) := by unfold spec_l2Lower.f loD; by_cases h : 97 ≤ c <;> simp [h]
theorem impl_up (c : Int) : impl_isUpper.f c = some (upD c) := by unfold impl_isUpper.f upD; by_cases h : 65 ≤ c <;> simp [h]
theorem impl_lo (c : Int) : impl_isLower.f c = some (loD c) := by unfold impl_isLower.f loD; by_cases h : 97 ≤ c <;> simp [h]
theorem spec_le (c : Int) : spec_l2Letter.f c = some (leD c) := by unfold spec_l2Letter.f leD; rw [spec_up, spec_lo]; cases upD c <;> simp
theorem impl_le (c : Int) : impl_isLetter.f c = some (leD c) := by unfold impl_isLetter.f leD; rw [impl_up, impl_lo]; cases upD c <;> simp
theorem in12 (n : Nat) : (if (n : Int) ≥ 1 then some (decide ((n : Int) ≤ 12)) else some false) = some (inD n) := by
  unfold inD
  by_cases h : 1 ≤ n
  · rw [if_pos (by omega)]
    congr 1
    rw [decide_eq_true h, Bool.true_and, decide_eq_decide]; omega
  · rw [if_neg (by omega)]; simp [h]
theorem spec_in (s : ByteArray) : spec_l1In.f (s.size : Int) 1 12 = some (inD s.size) := in12 s.size
theorem impl_in (s : ByteArray) : impl_inside.f (s.size : Int) 1 12 = some (inD s.size) := in12 s.size
theorem inD_iff {n : Nat} : inD n = true ↔ 1 ≤ n ∧ n ≤ 12 := by simp [inD]
def okD (s : ByteArray) (i : Nat) : Bool := leD (bt s i) || ((decide (bt s i = 45) || decide (bt s i = 39)) && leD (bt s ((i : Int) - 1)))
def wlD (s : ByteArray) : Nat → Nat → Bool
  | 0, _ => true
  | d + 1, i => okD s i && wlD s d (i + 1)
def wordD (s : ByteArray) : Bool := inD s.size && ((leD (bt s 0) && leD (bt s ((s.size : Int) - 1))) && wlD s (s.size - 1) 1)
def greatD (s : ByteArray) : Bool := wordD s && upD (bt s 0)
theorem word_step (s : ByteArray) (i k : Nat) (h1 : 1 ≤ i) (h2 : i < s.size) (h3 : s.size ≤ 12) : spec_l2Word.l0 (k + 1) s (i : Int) = if okD s i = true then spec_l2Word.l0 k s ((i + 1 : Nat) : Int) else some false := by
  have hw : wrap64 ((i : Int) + 1) = ((i + 1 : Nat) : Int) := by rw [w64 (by omega) (by omega)]; rfl
  have hw' : wrap64 ((i : Int) - 1) = (i : Int) - 1 := w64 (by omega) (by omega)
  have a1 : (0 : Int) ≤ (i : Int) - 1 := by omega
  have a2 : (i : Int) - 1 < (s.size : Int) := by omega
  simp only [spec_l2Word.l0]
  rw [if_pos (show (i : Int) < (s.size : Int) by omega), if_pos (show (0 : Int) ≤ (i : Int) by omega), spec_le, hw, hw']
  simp only [Option.bind_some, if_pos a1, if_pos a2, spec_le]
  unfold okD
  generalize ((i + 1 : Nat) : Int) = j
  cases leD (bt s i) <;> cases leD (bt s ((i : Int) - 1)) <;> by_cases c : bt s i = 45 <;> by_cases d : bt s i = 39 <;> simp [c, d]
theorem word_loop (s : ByteArray) (hs : s.size ≤ 12) (d : Nat) : ∀ i : Nat, 1 ≤ i → i ≤ s.size → s.size - i = d → Ev (fun k => spec_l2Word.l0 k s (i : Int)) (wlD s d i) := by
  induction d with
  | zero =>
    intro i h1 h2 hd
    refine Ev.step (f := fun _ => some true) (fun k => ?_) (Ev.now _)
    simp only [spec_l2Word.l0]; rw [if_neg (by omega)]
  | succ d ih =>
    intro i h1 h2 hd
    refine Ev.step (f := fun k => if okD s i = true then spec_l2Word.l0 k s ((i + 1 : Nat) : Int) else some false) (fun k => word_step s i k h1 (by omega) hs) ?_
    unfold wlD
    cases h : okD s i with
    | true => exact ev_pos rfl (ev_eq (ih (i + 1) (by omega) (by omega) (by omega)) (by simp))
    | false => exact ev_neg (by simp) (ev_eq (Ev.now _) (by simp))
theorem loops_eq (s : ByteArray) (k : Nat) : ∀ i : Int, impl_isNameWord.l0 k s i = spec_l2Word.l0 k s i := by
  induction k with
  | zero => intro i; simp [impl_isNameWord.l0, spec_l2Word.l0]
  | succ k ih => intro i; simp only [impl_isNameWord.l0, spec_l2Word.l0, impl_le, spec_le, ih]
theorem spec_word (s : ByteArray) : Ev (fun k => spec_l2Word.f k s) (wordD s) := by
  unfold spec_l2Word.f wordD
  cases h : inD s.size with
  | false =>
    refine Ev.step (f := fun _ => some false) (fun k => ?_) (ev_eq (Ev.now _) (by simp))
    simp only [spec_in, h, Option.bind_some, spec_l2Word.j0]; simp
  | true =>
    obtain ⟨h1, h2⟩ := inD_iff.1 h
    have hw : wrap64 ((s.size : Int) - 1) = (s.size : Int) - 1 := w64 (by omega) (by omega)
    refine Ev.step (f := fun k => if (leD (bt s 0) && leD (bt s ((s.size : Int) - 1))) = true then spec_l2Word.l0 k s ((1 : Nat) : Int) else some false) (fun k => ?_) ?_
    · have a1 : (0 : Int) < (s.size : Int) := by omega
      have a2 : (0 : Int) ≤ (s.size : Int) - 1 := by omega
      have a3 : (s.size : Int) - 1 < (s.size : Int) := by omega
      simp only [spec_in, h, Option.bind_some, if_pos a1, if_pos a2, if_pos a3, hw, spec_le, spec_l2Word.j0]
      cases leD (bt s 0) <;> cases leD (bt s ((s.size : Int) - 1)) <;> simp
    · cases h3 : (leD (bt s 0) && leD (bt s ((s.size : Int) - 1))) with
      | true => exact ev_pos rfl (ev_eq (word_loop s h2 (s.size - 1) 1 (by omega) (by omega) rfl) (by simp))
      | false => exact ev_neg (by simp) (ev_eq (Ev.now _) (by simp))
theorem impl_word (s : ByteArray) : Ev (fun k => impl_isNameWord.f k s) (wordD s) := by
  unfold impl_isNameWord.f wordD
  cases h : inD s.size with
  | false =>
    refine Ev.step (f := fun _ => some false) (fun k => ?_) (ev_eq (Ev.now _) (by simp))
    simp only [impl_in, h, Option.bind_some, impl_isNameWord.j0]; simp
  | true =>
    obtain ⟨h1, h2⟩ := inD_iff.1 h
    have hw : wrap64 ((s.size : Int) - 1) = (s.size : Int) - 1 := w64 (by omega) (by omega)
    refine Ev.step (f := fun k => if (leD (bt s 0) && leD (bt s ((s.size : Int) - 1))) = true then spec_l2Word.l0 k s ((0 : Nat) : Int) else some false) (fun k => ?_) ?_
    · have a1 : (0 : Int) < (s.size : Int) := by omega
      have a2 : (0 : Int) ≤ (s.size : Int) - 1 := by omega
      have a3 : (s.size : Int) - 1 < (s.size : Int) := by omega
      simp only [impl_in, h, Option.bind_some, if_pos a1, if_pos a2, if_pos a3, hw, impl_le, impl_isNameWord.j0, loops_eq]
      cases leD (bt s 0) <;> cases leD (bt s ((s.size : Int) - 1)) <;> simp
    · cases h3 : (leD (bt s 0) && leD (bt s ((s.size : Int) - 1))) with
      | true =>
        refine ev_pos rfl (Ev.step (f := fun k => spec_l2Word.l0 k s ((1 : Nat) : Int)) (fun k => ?_) (ev_eq (word_loop s h2 (s.size - 1) 1 (by omega) (by omega) rfl) (by simp)))
        have h0 : leD (bt s 0) = true := by simp at h3; exact h3.1
        simp only [spec_l2Word.l0]
        rw [if_pos (by omega), if_pos (by omega), spec_le, show ((0 : Nat) : Int) = 0 from rfl, h0, w64 (by omega) (by omega)]
        simp
      | false => exact ev_neg (by simp) (ev_eq (Ev.now _) (by simp))
theorem word_in {s : ByteArray} (h : wordD s = true) : 1 ≤ s.size ∧ s.size ≤ 12 := by
  unfold wordD at h
  cases hi : inD s.size with
  | true => exact inD_iff.1 hi
  | false => rw [hi] at h; simp at h
theorem impl_great (s : ByteArray) : Ev (fun k => impl_isGreatWord.f k s) (greatD s) := by
  unfold impl_isGreatWord.f greatD
  refine Ev.bind (impl_word s) ?_
  cases h : wordD s with
  | true =>
    have := word_in h
    refine ev_pos rfl (ev_pos (by omega) (ev_eq (Ev.congr (f := fun _ => some (upD (bt s 0))) (fun k => by rw [impl_up]; rfl) (Ev.now _)) (by simp)))
  | false => exact ev_neg (by simp) (ev_eq (Ev.now _) (by simp))
def lowF (s : ByteArray) (j : Nat) : Bool := ((L s).drop j).all fun b => loD (b.toNat : Int)
def lowD (s : ByteArray) : Bool := lowF s 0
def wsD (l : List ByteArray) : Bool := l.all fun w => inD w.size && lowD w
theorem lowF_step (s : ByteArray) (j : Nat) (h : j < s.size) : lowF s j = (loD (bt s j) && lowF s (j + 1)) := by
  unfold lowF
  have hl : j < (L s).length := by rw [L_len]; exact h
  rw [List.drop_eq_getElem_cons hl, List.all_cons, bt_get s j h]
theorem lowF_end (s : ByteArray) (j : Nat) (h : s.size ≤ j) : lowF s j = true := by
  unfold lowF
  rw [List.drop_of_length_le (by rw [L_len]; exact h)]; rfl
theorem low_all (s : ByteArray) (h : lowD s = true) (j : Nat) (hj : j < s.size) : leD (bt s j) = true := by
  have hl : j < (L s).length := by rw [L_len]; exact hj
  have := List.all_eq_true.1 h _ (by rw [List.drop_zero]; exact List.getElem_mem hl)
  rw [bt_get s j hj]
  unfold leD
  rw [this]; simp
theorem wl_low (s : ByteArray) (h : lowD s = true) (d : Nat) : ∀ i, i + d ≤ s.size → wlD s d i = true := by
  induction d with
  | zero => intro i _; rfl
  | succ d ih =>
    intro i hi
    unfold wlD okD
    rw [low_all s h i (by omega), ih (i + 1) (by omega)]; rfl
theorem word_low (s : ByteArray) : (wordD s && lowD s) = (inD s.size && lowD s) := by
  cases h : lowD s with
  | false => simp
  | true =>
    unfold wordD
    cases hi : inD s.size with
    | false => simp
    | true =>
      obtain ⟨h1, h2⟩ := inD_iff.1 hi
      have e1 := low_all s h 0 (by omega)
      have e2 := low_all s h (s.size - 1) (by omega)
      rw [show ((s.size - 1 : Nat) : Int) = (s.size : Int) - 1 by omega] at e2
      rw [show ((0 : Nat) : Int) = 0 from rfl] at e1
      rw [e1, e2, wl_low s h (s.size - 1) 1 (by omega)]; rfl
theorem rd_get (l : List ByteArray) (i : Nat) (h : i < l.length) : rdOf ByteArray.empty l (i : Int) = l[i] := by simp [rdOf, h]
theorem spec_inner (ws : List ByteArray) (i : Nat) (hi : i < ws.length) (hs : (ws[i]).size ≤ 12) (hl : ws.length ≤ 4611686018427387904) (T : Bool) (hT : Ev (fun k => spec_l2Particle.l0 k ws ((i + 1 : Nat) : Int)) T) (d : Nat) : ∀ j : Nat, j ≤ (ws[i]).size → (ws[i]).size - j = d →
    Ev (fun k => spec_l2Particle.l1 k ws (i : Int) (j : Int)) (lowF ws[i] j && T) := by
  have hw : wrap64 ((i : Int) + 1) = ((i + 1 : Nat) : Int) := by rw [w64 (by omega) (by omega)]; rfl
  induction d with
  | zero =>
    intro j h1 hd
    refine Ev.step (f := fun k => spec_l2Particle.l0 k ws ((i + 1 : Nat) : Int)) (fun k => ?_) (ev_eq hT (by rw [lowF_end _ _ (by omega)]; simp))
    simp only [spec_l2Particle.l1, rd_get ws i hi]
    rw [if_pos (by omega), if_pos (by omega), if_neg (by omega), hw]
  | succ d ih =>
    intro j h1 hd
    rw [lowF_step _ j (by omega)]
    have hw' : wrap64 ((j : Int) + 1) = ((j + 1 : Nat) : Int) := by rw [w64 (by omega) (by omega)]; rfl
    refine Ev.step (f := fun k => if loD (bt ws[i] (j : Int)) = true then spec_l2Particle.l1 k ws (i : Int) ((j + 1 : Nat) : Int) else some false) (fun k => ?_) ?_
    · simp only [spec_l2Particle.l1, rd_get ws i hi]
      rw [if_pos (by omega), if_pos (by omega), if_pos (by omega), if_pos (by omega), hw', spec_lo]; rfl
    · cases h : loD (bt ws[i] (j : Int)) with
      | true => exact ev_pos rfl (ev_eq (ih (j + 1) (by omega) (by omega)) (by simp))
      | false => exact ev_neg (by simp) (ev_eq (Ev.now _) (by simp))
theorem spec_outer (ws : List ByteArray) (hl : ws.length ≤ 4611686018427387904) (d : Nat) : ∀ i : Nat, i ≤ ws.length → ws.length - i = d →
    Ev (fun k => spec_l2Particle.l0 k ws (i : Int)) (wsD (ws.drop i) && decide (ws.length ≤ 2)) := by
  induction d with
  | zero =>
    intro i h1 hd
    refine Ev.step (f := fun k => some (decide ((ws.length : Int) ≤ 2))) (fun k => ?_) (ev_eq (Ev.now _) ?_)
    · simp only [spec_l2Particle.l0]; rw [if_neg (by omega)]
    · rw [List.drop_of_length_le (by omega)]
      show decide _ = (true && decide _)
      rw [Bool.true_and, decide_eq_decide]; omega
  | succ d ih =>
    intro i h1 hd
    have hi : i < ws.length := by omega
    refine Ev.step (f := fun k => (spec_l2Word.f k ws[i]).bind fun t => if t = true then spec_l2Particle.l1 k ws (i : Int) ((0 : Nat) : Int) else some false) (fun k => ?_) ?_
    · simp only [spec_l2Particle.l0, rd_get ws i hi]
      rw [if_pos (by omega), if_pos (by omega)]; rfl
    · refine Ev.bind (spec_word _) ?_
      have e : (wsD (ws.drop i) && decide (ws.length ≤ 2)) = ((wordD ws[i] && lowD ws[i]) && (wsD (ws.drop (i + 1)) && decide (ws.length ≤ 2))) := by
        rw [word_low, List.drop_eq_getElem_cons hi]
        simp only [wsD, List.all_cons, Bool.and_assoc]
      rw [e]
      cases h : wordD ws[i] with
      | true => exact ev_pos rfl (ev_eq (spec_inner ws i hi (word_in h).2 hl _ (ih (i + 1) (by omega) (by omega)) _ 0 (by omega) rfl) (by simp [lowD]))
      | false => exact ev_neg (by simp) (ev_eq (Ev.now _) (by simp))
theorem impl_inner (ws ws' : List ByteArray) (n i : Nat) (w : ByteArray) (hi : i < 4611686018427387904) (hs : w.size ≤ 12) (T : Bool) (hT : Ev (fun k => impl_isParticle.l0 k ws ws' (n : Int) ((i + 1 : Nat) : Int)) T) (d : Nat) : ∀ j : Nat, j ≤ w.size → w.size - j = d →
    Ev (fun k => impl_isParticle.l1 k ws w (j : Int) ws' (n : Int) (i : Int)) (lowF w j && T) := by
  have hw : wrap64 ((i : Int) + 1) = ((i + 1 : Nat) : Int) := by rw [w64 (by omega) (by omega)]; rfl
  induction d with
  | zero =>
    intro j h1 hd
    refine Ev.step (f := fun k => impl_isParticle.l0 k ws ws' (n : Int) ((i + 1 : Nat) : Int)) (fun k => ?_) (ev_eq hT (by rw [lowF_end _ _ (by omega)]; simp))
    simp only [impl_isParticle.l1]
    rw [if_neg (by omega), hw]
  | succ d ih =>
    intro j h1 hd
    rw [lowF_step _ j (by omega)]
    have hw' : wrap64 ((j : Int) + 1) = ((j + 1 : Nat) : Int) := by rw [w64 (by omega) (by omega)]; rfl
    refine Ev.step (f := fun k => if loD (bt w (j : Int)) = true then impl_isParticle.l1 k ws w ((j + 1 : Nat) : Int) ws' (n : Int) (i : Int) else some false) (fun k => ?_) ?_
    · simp only [impl_isParticle.l1]
      rw [if_pos (by omega), if_pos (by omega), hw', impl_lo]; rfl
    · cases h : loD (bt w (j : Int)) with
      | true => exact ev_pos rfl (ev_eq (ih (j + 1) (by omega) (by omega)) (by simp))
      | false => exact ev_neg (by simp) (ev_eq (Ev.now _) (by simp))
theorem impl_outer (ws : List ByteArray) (hl : ws.length ≤ 4611686018427387904) (d : Nat) : ∀ i : Nat, i ≤ ws.length → ws.length - i = d →
    Ev (fun k => impl_isParticle.l0 k ws ws (ws.length : Int) (i : Int)) (wsD (ws.drop i) && decide (ws.length ≤ 2)) := by
  induction d with
  | zero =>
    intro i h1 hd
    refine Ev.step (f := fun k => some (decide ((ws.length : Int) ≤ 2))) (fun k => ?_) (ev_eq (Ev.now _) ?_)
    · simp only [impl_isParticle.l0]; rw [if_neg (by omega)]
    · rw [List.drop_of_length_le (by omega)]
      show decide _ = (true && decide _)
      rw [Bool.true_and, decide_eq_decide]; omega
  | succ d ih =>
    intro i h1 hd
    have hi : i < ws.length := by omega
    have e : (wsD (ws.drop i) && decide (ws.length ≤ 2)) = (inD (ws[i]).size && (lowD ws[i] && (wsD (ws.drop (i + 1)) && decide (ws.length ≤ 2)))) := by
      rw [List.drop_eq_getElem_cons hi]
      simp only [wsD, List.all_cons, Bool.and_assoc]
    rw [e]
    refine Ev.step (f := fun k => if inD (ws[i]).size = true then impl_isParticle.l1 k ws ws[i] ((0 : Nat) : Int) ws (ws.length : Int) (i : Int) else some false) (fun k => ?_) ?_
    · simp only [impl_isParticle.l0, rd_get ws i hi]
      rw [if_pos (by omega), if_pos (by omega), if_pos (by omega), impl_in]; rfl
    · cases h : inD (ws[i]).size with
      | true => exact ev_pos rfl (ev_eq (impl_inner ws ws ws.length i ws[i] (by omega) (inD_iff.1 h).2 _ (ih (i + 1) (by omega) (by omega)) _ 0 (by omega) rfl) (by simp [lowD]))
      | false => exact ev_neg (by simp) (ev_eq (Ev.now _) (by simp))
def wordsOf (s : ByteArray) : List ByteArray := (spl 32 (L s)).map mkB
def partD (s : ByteArray) : Bool := decide (s.size = 0) || (wsD (wordsOf s) && decide ((wordsOf s).length ≤ 2))
theorem wordsOf_len (s : ByteArray) : (wordsOf s).length ≤ s.size + 1 := by
  have := spl_length 32 (L s)
  rw [L_len] at this
  unfold wordsOf
  rw [List.length_map]; exact this
theorem nil_iff (s : ByteArray) : s.toList = ([] : List UInt8) ↔ s.size = 0 := by rw [toList_L, size_pos_iff]
theorem split_sp (s : ByteArray) (c : UInt8) (hs : s.size ≤ 4294967280) : strings_Split.f s (⟨#[c]⟩ : ByteArray) = some ((spl c (L s)).map mkB) := by
  have e : (⟨#[c]⟩ : ByteArray) = mkB [c] := rfl
  have h1 : (mkB [c]).size = 1 := by rw [size_mk]; rfl
  have hc := Lib.countB_le (mkB [c]) (by omega) s.size s (Nat.le_refl _)
  unfold strings_Split.f
  rw [e, if_pos ⟨by omega, by omega, Lib.splitB_all (mkB [c]) (by omega) 0 _ s rfl, by omega⟩, splitB_eq]
theorem spec_part (s : ByteArray) (hs : s.size ≤ 4294967280) : Ev (fun k => spec_l2Particle.f k s) (partD s) := by
  unfold spec_l2Particle.f partD
  by_cases h : s.size = 0
  · exact ev_pos ((nil_iff s).2 h) (ev_eq (Ev.now _) (by simp [h]))
  · refine ev_neg (fun e => h ((nil_iff s).1 e)) (Ev.bind (split_ev s 32 (by omega)) (ev_eq (spec_outer (wordsOf s) (by have := wordsOf_len s; omega) _ 0 (by omega) rfl) ?_))
    simp [h]
theorem impl_part (s : ByteArray) (hs : s.size ≤ 4294967280) : Ev (fun k => impl_isParticle.f k s) (partD s) := by
  unfold impl_isParticle.f partD
  by_cases h : s.size = 0
  · exact ev_pos ((nil_iff s).2 h) (ev_eq (Ev.now _) (by simp [h]))
  · refine ev_neg (fun e => h ((nil_iff s).1 e)) (ev_bind0 (split_sp s 32 hs) (ev_eq (impl_outer (wordsOf s) (by have := wordsOf_len s; omega) _ 0 (by omega) rfl) ?_))
    simp [h]
def rngD (c : Int) : Bool := decide (32 ≤ c) && decide (c ≤ 126)
def rngF (s : ByteArray) : Nat → Nat → Bool
  | 0, _ => true
  | d + 1, i => rngD (bt s (i : Int)) && rngF s d (i + 1)
def edgeD (s : ByteArray) : Bool := !decide (bt s 0 = 32) && !decide (bt s ((s.size : Int) - 1) = 32)
theorem trimR (n : Nat) : ∀ s : ByteArray, s.size = n → n ≤ 4611686018427387904 → ∃ t, Ev (fun k => strings_trimRightByte.f k s 32) t ∧ t.size ≤ n ∧ (1 ≤ n → bt s ((n : Int) - 1) = 32 → t.size < n) ∧ ((n = 0 ∨ bt s ((n : Int) - 1) ≠ 32) → t = s) := by
  induction n with
  | zero =>
    intro s hs hb
    refine ⟨s, Ev.step (f := fun _ => some s) (fun k => ?_) (Ev.now _), by omega, fun h => by omega, fun _ => rfl⟩
    simp only [strings_trimRightByte.f, strings_trimRightByte.l0]; rw [if_neg (by omega)]
  | succ n ih =>
    intro s hs hb
    have hw : wrap64 ((s.size : Int) - 1) = (n : Int) := by rw [w64 (by omega) (by omega)]; omega
    have e0 : ((n + 1 : Nat) : Int) - 1 = (n : Int) := by omega
    rw [e0]
    by_cases c : bt s (n : Int) = 32
    · have hs' : (s.extract 0 n).size = n := by rw [ByteArray.size_extract]; omega
      obtain ⟨t, ht, h1, _, _⟩ := ih (s.extract 0 n) hs' (by omega)
      refine ⟨t, Ev.step (f := fun k => strings_trimRightByte.f k (s.extract 0 n) 32) (fun k => ?_) ht, by omega, fun _ _ => by omega, fun h => ?_⟩
      · simp only [strings_trimRightByte.f, strings_trimRightByte.l0, hw]
        rw [if_pos (by omega), if_pos (by omega), if_pos (by omega), if_pos c, if_pos (by omega), Int.toNat_natCast]
      · rcases h with h | h
        · omega
        · exact absurd c h
    · refine ⟨s, Ev.step (f := fun _ => some s) (fun k => ?_) (Ev.now _), by omega, fun _ h => absurd h c, fun _ => rfl⟩
      simp only [strings_trimRightByte.f, strings_trimRightByte.l0, hw]
      rw [if_pos (by omega), if_pos (by omega), if_pos (by omega), if_neg c]
theorem trimL (n : Nat) : ∀ s : ByteArray, s.size = n → n ≤ 4611686018427387904 → ∃ t, Ev (fun k => strings_trimLeftByte.f k s 32) t ∧ t.size ≤ n ∧ (1 ≤ n → bt s 0 = 32 → t.size < n) ∧ ((n = 0 ∨ bt s 0 ≠ 32) → t = s) := by
  induction n with
  | zero =>
    intro s hs hb
    refine ⟨s, Ev.step (f := fun _ => some s) (fun k => ?_) (Ev.now _), by omega, fun h => by omega, fun _ => rfl⟩
    simp only [strings_trimLeftByte.f, strings_trimLeftByte.l0]; rw [if_neg (by omega)]
  | succ n ih =>
    intro s hs hb
    by_cases c : bt s 0 = 32
    · have hs' : (s.extract 1 s.size).size = n := by rw [ByteArray.size_extract]; omega
      obtain ⟨t, ht, h1, _, _⟩ := ih (s.extract 1 s.size) hs' (by omega)
      refine ⟨t, Ev.step (f := fun k => strings_trimLeftByte.f k (s.extract 1 s.size) 32) (fun k => ?_) ht, by omega, fun _ _ => by omega, fun h => ?_⟩
      · simp only [strings_trimLeftByte.f, strings_trimLeftByte.l0]
        rw [if_pos (by omega), if_pos (by omega), if_pos c, if_pos (by omega)]
      · rcases h with h | h
        · omega
        · exact absurd c h
    · refine ⟨s, Ev.step (f := fun _ => some s) (fun k => ?_) (Ev.now _), by omega, fun _ h => absurd h c, fun _ => rfl⟩
      simp only [strings_trimLeftByte.f, strings_trimLeftByte.l0]
      rw [if_pos (by omega), if_pos (by omega), if_neg c]
theorem trim_ev (s : ByteArray) (h1 : 1 ≤ s.size) (h2 : s.size ≤ 4611686018427387904) : ∃ t, Ev (fun k => strings_Trim.f k s (⟨#[32]⟩ : ByteArray)) t ∧ (t.toList == s.toList) = edgeD s := by
  obtain ⟨t1, ht1, ha, hb, hc⟩ := trimR s.size s rfl h2
  obtain ⟨t2, ht2, ha', hb', hc'⟩ := trimL t1.size t1 rfl (by omega)
  refine ⟨t2, ?_, ?_⟩
  · unfold strings_Trim.f
    have hz : ¬ s.toList = ([] : List UInt8) := fun e => by rw [toList_L] at e; have := (size_pos_iff s).2 e; omega
    refine ev_neg hz ?_
    have e1 : ((⟨#[32]⟩ : ByteArray).toList == ([] : List UInt8)) = false := by rw [toList_L]; rfl
    have e2 : ((⟨#[32]⟩ : ByteArray).size : Int) = 1 := rfl
    have e3 : bt (⟨#[32]⟩ : ByteArray) 0 = 32 := rfl
    rw [e1]
    refine Ev.step (f := fun k => strings_Trim.j1 k s (⟨#[32]⟩ : ByteArray) true) (fun k => ?_) (Ev.step (f := fun k => (strings_trimRightByte.f k s 32).bind fun t => (strings_trimLeftByte.f k t 32).bind fun u => some u) (fun k => ?_) (Ev.bind ht1 (Ev.bind ht2 (Ev.now _))))
    · simp only [strings_Trim.j0]
      rw [if_neg (by simp), e2, if_pos rfl, if_pos (by omega), e3]; rfl
    · simp only [strings_Trim.j1]
      rw [if_pos trivial, e2, if_pos (by omega), e3]
  · unfold edgeD
    by_cases c : bt s ((s.size : Int) - 1) = 32
    · have : t2.size < s.size := by have := hb h1 c; omega
      have ne : ¬ t2.toList = s.toList := fun e => by have := toList_eq_iff.1 e; subst this; omega
      rw [show (t2.toList == s.toList) = false by simpa using ne]; simp [c]
    · have e := hc (Or.inr c)
      subst e
      by_cases c0 : bt t1 0 = 32
      · have h3 := hb' h1 c0
        have ne : ¬ t2.toList = t1.toList := fun e => by have := toList_eq_iff.1 e; subst this; omega
        rw [show (t2.toList == t1.toList) = false by simpa using ne]; simp [c0]
      · have e := hc' (Or.inr c0)
        subst e
        simp [c, c0]
theorem print_loop (s : ByteArray) (h1 : 1 ≤ s.size) (h2 : s.size ≤ 100) (d : Nat) : ∀ i : Nat, i ≤ s.size → s.size - i = d →
    Ev (fun k => impl_isPrintable.l0 k s (i : Int)) (rngF s d i && edgeD s) := by
  induction d with
  | zero =>
    intro i hi hd
    obtain ⟨t, ht, e⟩ := trim_ev s h1 (by omega)
    refine Ev.step (f := fun k => (strings_Trim.f k s (⟨#[32]⟩ : ByteArray)).bind fun t231 => (some (t231.toList == s.toList))) (fun k => ?_) (Ev.bind ht (ev_eq (Ev.now _) (by rw [e]; simp [rngF])))
    simp only [impl_isPrintable.l0]; rw [if_neg (by omega)]
  | succ d ih =>
    intro i hi hd
    have hw : wrap64 ((i : Int) + 1) = ((i + 1 : Nat) : Int) := by rw [w64 (by omega) (by omega)]; rfl
    refine Ev.step (f := fun k => if rngD (bt s (i : Int)) = true then impl_isPrintable.l0 k s ((i + 1 : Nat) : Int) else some false) (fun k => ?_) ?_
    · simp only [impl_isPrintable.l0]
      rw [if_pos (by omega), if_pos (by omega), hw]
      unfold rngD
      by_cases c1 : bt s (i : Int) < 32
      · rw [if_pos c1, if_neg (by simp; omega)]
      · rw [if_neg c1]
        by_cases c2 : bt s (i : Int) > 126
        · rw [if_pos c2, if_neg (by simp; omega)]
        · rw [if_neg c2, if_pos (by simp; omega)]
    · unfold rngF
      cases h : rngD (bt s (i : Int)) with
      | true => exact ev_pos rfl (ev_eq (ih (i + 1) (by omega) (by omega)) (by simp))
      | false => exact ev_neg (by simp) (ev_eq (Ev.now _) (by simp))
theorem trim_nil (s : ByteArray) (h : s.size = 0) : Ev (fun k => strings_Trim.f k s (⟨#[32]⟩ : ByteArray)) s := by
  unfold strings_Trim.f
  refine ev_pos ((nil_iff s).2 h) (Ev.step (f := fun _ => some s) (fun k => ?_) (Ev.now _))
  simp only [strings_Trim.j0]
  rw [if_pos trivial]
def textD (s : ByteArray) : Bool := decide (s.size ≤ 40) && (decide (s.size = 0) || (rngF s s.size 0 && edgeD s))
theorem impl_text (s : ByteArray) : Ev (fun k => impl_isText.f k s) (textD s) := by
  unfold impl_isText.f textD
  by_cases h : s.size ≤ 40
  · refine ev_pos (by omega) ?_
    unfold impl_isPrintable.f
    by_cases h0 : s.size = 0
    · refine Ev.bind (a := true) ?_ (ev_eq (Ev.now _) (by simp [h, h0]))
      refine Ev.step (f := fun k => (strings_Trim.f k s (⟨#[32]⟩ : ByteArray)).bind fun t231 => (some (t231.toList == s.toList))) (fun k => ?_) (Ev.bind (trim_nil s h0) (ev_eq (Ev.now _) (by simp)))
      simp only [impl_isPrintable.l0]; rw [if_neg (by omega)]
    · exact Ev.bind (print_loop s (by omega) (by omega) _ 0 (by omega) rfl) (ev_eq (Ev.now _) (by simp [h, h0]))
  · exact ev_neg (by omega) (ev_eq (Ev.now _) (by simp [h]))
theorem spec_text_end (s : ByteArray) (h2 : s.size ≤ 40) : Ev (fun k => spec_l4Text.l0 k s (s.size : Int)) (decide (s.size = 0) || edgeD s) := by
  refine Ev.step (f := fun _ => some (decide (s.size = 0) || edgeD s)) (fun k => ?_) (Ev.now _)
  simp only [spec_l4Text.l0]
  rw [if_neg (by omega)]
  by_cases h0 : s.size = 0
  · rw [if_pos ((nil_iff s).2 h0)]; simp [h0]
  · have hw : wrap64 ((s.size : Int) - 1) = (s.size : Int) - 1 := w64 (by omega) (by omega)
    rw [if_neg (fun e => h0 ((nil_iff s).1 e)), if_pos (by omega)]
    unfold edgeD
    by_cases c : bt s 0 = 32
    · rw [if_pos c]; simp [c, h0]
    · rw [if_neg c, hw, if_pos (by omega), if_pos (by omega)]
      by_cases e : bt s ((s.size : Int) - 1) = 32
      · rw [e]; simp [h0]
      · rw [show (bt s ((s.size : Int) - 1) != 32) = true from bne_iff_ne.2 e]; simp [c, e, h0]
theorem spec_text_loop (s : ByteArray) (h2 : s.size ≤ 40) (d : Nat) : ∀ i : Nat, i ≤ s.size → s.size - i = d →
    Ev (fun k => spec_l4Text.l0 k s (i : Int)) (rngF s d i && (decide (s.size = 0) || edgeD s)) := by
  induction d with
  | zero =>
    intro i hi hd
    obtain rfl : i = s.size := by omega
    exact ev_eq (spec_text_end s h2) (by simp [rngF])
  | succ d ih =>
    intro i hi hd
    have hw : wrap64 ((i : Int) + 1) = ((i + 1 : Nat) : Int) := by rw [w64 (by omega) (by omega)]; rfl
    refine Ev.step (f := fun k => if rngD (bt s (i : Int)) = true then spec_l4Text.l0 k s ((i + 1 : Nat) : Int) else some false) (fun k => ?_) ?_
    · simp only [spec_l4Text.l0]
      rw [if_pos (by omega), if_pos (by omega), hw]
      unfold rngD
      by_cases c1 : bt s (i : Int) < 32
      · rw [if_pos c1, if_neg (by simp; omega)]
      · rw [if_neg c1]
        by_cases c2 : bt s (i : Int) > 126
        · rw [if_pos c2, if_neg (by simp; omega)]
        · rw [if_neg c2, if_pos (by simp; omega)]
    · unfold rngF
      cases h : rngD (bt s (i : Int)) with
      | true => exact ev_pos rfl (ev_eq (ih (i + 1) (by omega) (by omega)) (by simp))
      | false => exact ev_neg (by simp) (ev_eq (Ev.now _) (by simp))
theorem spec_text (s : ByteArray) : Ev (fun k => spec_l4Text.f k s) (textD s) := by
  unfold spec_l4Text.f textD
  by_cases h : s.size ≤ 40
  · refine ev_neg (by omega) (ev_eq (spec_text_loop s h _ 0 (by omega) rfl) ?_)
    by_cases h0 : s.size = 0
    · rw [h0]; simp [rngF]
    · simp [h, h0]
  · exact ev_pos (by omega) (ev_eq (Ev.now _) (by simp [h]))
def digD (c : Int) : Bool := decide (48 ≤ c) && decide (c ≤ 57)
def keyC (c : Int) : Bool := loD c || digD c
def keyF (s : ByteArray) : Nat → Nat → Bool
  | 0, _ => true
  | d + 1, i => keyC (bt s (i : Int)) && keyF s d (i + 1)
def inK (n : Nat) : Bool := decide (1 ≤ n) && decide (n ≤ 10)
def keyD (s : ByteArray) : Bool := inK s.size && (loD (bt s 0) && keyF s s.size 0)
theorem in10 (n : Nat) : (if (n : Int) ≥ 1 then some (decide ((n : Int) ≤ 10)) else some false) = some (inK n) := by
  unfold inK
  by_cases h : 1 ≤ n
  · rw [if_pos (by omega)]
    congr 1
    rw [decide_eq_true h, Bool.true_and, decide_eq_decide]; omega
  · rw [if_neg (by omega)]; simp [h]
theorem inK_iff {n : Nat} : inK n = true ↔ 1 ≤ n ∧ n ≤ 10 := by simp [inK]
theorem impl_dig (c : Int) : impl_isDigit.f c = some (digD c) := by unfold impl_isDigit.f digD; by_cases h : 48 ≤ c <;> simp [h]
theorem spec_key_loop (s : ByteArray) (h2 : s.size ≤ 10) (d : Nat) : ∀ i : Nat, i ≤ s.size → s.size - i = d → Ev (fun k => spec_l4Key.l0 k s (i : Int)) (keyF s d i) := by
  induction d with
  | zero =>
    intro i hi hd
    refine Ev.step (f := fun _ => some true) (fun k => ?_) (Ev.now _)
    simp only [spec_l4Key.l0]; rw [if_neg (by omega)]
  | succ d ih =>
    intro i hi hd
    have hw : wrap64 ((i : Int) + 1) = ((i + 1 : Nat) : Int) := by rw [w64 (by omega) (by omega)]; rfl
    refine Ev.step (f := fun k => if keyC (bt s (i : Int)) = true then spec_l4Key.l0 k s ((i + 1 : Nat) : Int) else some false) (fun k => ?_) ?_
    · simp only [spec_l4Key.l0]
      rw [if_pos (by omega), if_pos (by omega), hw, spec_lo]
      simp only [Option.bind_some]
      unfold keyC
      cases loD (bt s (i : Int)) with
      | true => rw [if_pos rfl, Bool.true_or, if_pos rfl]
      | false =>
        rw [if_neg (by simp)]
        unfold digD
        by_cases c1 : bt s (i : Int) < 48
        · rw [if_pos c1, if_neg (by simp; omega)]
        · rw [if_neg c1]
          by_cases c2 : bt s (i : Int) > 57
          · rw [if_pos c2, if_neg (by simp; omega)]
          · rw [if_neg c2, if_pos (by simp; omega)]
    · unfold keyF
      cases h : keyC (bt s (i : Int)) with
      | true => exact ev_pos rfl (ev_eq (ih (i + 1) (by omega) (by omega)) (by simp))
      | false => exact ev_neg (by simp) (ev_eq (Ev.now _) (by simp))
theorem impl_key_loop (s : ByteArray) (h2 : s.size ≤ 10) (d : Nat) : ∀ i : Nat, i ≤ s.size → s.size - i = d → Ev (fun k => impl_isKey.l0 k s (i : Int)) (keyF s d i) := by
  induction d with
  | zero =>
    intro i hi hd
    refine Ev.step (f := fun _ => some true) (fun k => ?_) (Ev.now _)
    simp only [impl_isKey.l0]; rw [if_neg (by omega)]
  | succ d ih =>
    intro i hi hd
    have hw : wrap64 ((i : Int) + 1) = ((i + 1 : Nat) : Int) := by rw [w64 (by omega) (by omega)]; rfl
    refine Ev.step (f := fun k => if keyC (bt s (i : Int)) = true then impl_isKey.l0 k s ((i + 1 : Nat) : Int) else some false) (fun k => ?_) ?_
    · simp only [impl_isKey.l0]
      rw [if_pos (by omega), if_pos (by omega), hw, impl_lo]
      simp only [Option.bind_some]
      unfold keyC
      cases loD (bt s (i : Int)) with
      | true => rw [if_pos rfl, Bool.true_or, if_pos rfl]
      | false =>
        rw [if_neg (by simp), impl_dig]
        simp only [Option.bind_some, Bool.false_or]
    · unfold keyF
      cases h : keyC (bt s (i : Int)) with
      | true => exact ev_pos rfl (ev_eq (ih (i + 1) (by omega) (by omega)) (by simp))
      | false => exact ev_neg (by simp) (ev_eq (Ev.now _) (by simp))
theorem spec_key (s : ByteArray) : Ev (fun k => spec_l4Key.f k s) (keyD s) := by
  have hj1 : Ev (fun k => spec_l4Key.j0 k s true) false := Ev.step (f := fun _ => some false) (fun k => by simp [spec_l4Key.j0]) (Ev.now _)
  unfold spec_l4Key.f spec_l1In.f keyD
  rw [in10]
  refine Ev.bind (a := inK s.size) (Ev.now _) ?_
  cases h : inK s.size with
  | false => exact ev_neg (by simp) (ev_eq hj1 (by simp))
  | true =>
    obtain ⟨h1, h2⟩ := inK_iff.1 h
    refine ev_pos rfl (ev_pos (by omega) (ev_bind0 (spec_lo _) ?_))
    cases loD (bt s 0) with
    | false => exact ev_eq hj1 (by simp)
    | true => exact Ev.step (f := fun k => spec_l4Key.l0 k s ((0 : Nat) : Int)) (fun k => by simp [spec_l4Key.j0]) (ev_eq (spec_key_loop s h2 _ 0 (by omega) rfl) (by simp))
theorem impl_key (s : ByteArray) : Ev (fun k => impl_isKey.f k s) (keyD s) := by
  have hj1 : Ev (fun k => impl_isKey.j0 k s true) false := Ev.step (f := fun _ => some false) (fun k => by simp [impl_isKey.j0]) (Ev.now _)
  unfold impl_isKey.f impl_inside.f keyD
  rw [in10]
  refine Ev.bind (a := inK s.size) (Ev.now _) ?_
  cases h : inK s.size with
  | false => exact ev_neg (by simp) (ev_eq hj1 (by simp))
  | true =>
    obtain ⟨h1, h2⟩ := inK_iff.1 h
    refine ev_pos rfl (ev_pos (by omega) (ev_bind0 (impl_lo _) ?_))
    cases loD (bt s 0) with
    | false => exact ev_eq hj1 (by simp)
    | true => exact Ev.step (f := fun k => impl_isKey.l0 k s ((0 : Nat) : Int)) (fun k => by simp [impl_isKey.j0]) (ev_eq (impl_key_loop s h2 _ 0 (by omega) rfl) (by simp))
def bytesS (l : List ByteArray) : Nat := (l.map (·.size)).sum
def bulkS (l : List ByteArray) : Nat := l.length + bytesS l
theorem bytesS_cons (a : ByteArray) (l : List ByteArray) : bytesS (a :: l) = a.size + bytesS l := by simp [bytesS]
def lftOf (left : Int) (n : Nat) : Int := if (n : Int) ≤ left then left - n else -1
theorem szS_loop (l : List ByteArray) (hb : ∀ s ∈ l, s.size ≤ 9223372036854775807) (hl : l.length ≤ 9223372036854775807) (d : Nat) : ∀ (left : Int) (i : Nat), 0 ≤ left → left ≤ 4611686018427387904 → l.length - i = d → i ≤ l.length →
    Ev (fun k => laws_szStringS.l0 k l left i) (lftOf left (bytesS (l.drop i))) := by
  induction d with
  | zero =>
    intro left i h0 h1 hd hi
    refine Ev.step (f := fun _ => some left) (fun k => ?_) (ev_eq (Ev.now _) ?_)
    · simp only [laws_szStringS.l0]; rw [if_neg (by omega)]
    · rw [List.drop_of_length_le (by omega)]; simp [lftOf, bytesS]; omega
  | succ d ih =>
    intro left i h0 h1 hd hi
    have hlt : i < l.length := by omega
    have hs := hb l[i] (List.getElem_mem hlt)
    have hr : rdOf ByteArray.empty l (i : Int) = l[i] := by simp [rdOf, hlt]
    have hw : wrap64 (left - (l[i].size : Int)) = left - (l[i].size : Int) := w64 (by omega) (by omega)
    rw [List.drop_eq_getElem_cons hlt, bytesS_cons]
    by_cases hn : left - (l[i].size : Int) < 0
    · refine Ev.step (f := fun _ => some (-1)) (fun k => ?_) (ev_eq (Ev.now _) ?_)
      · simp only [laws_szStringS.l0]; rw [if_pos (by omega), if_pos (by omega), hr, hw, if_pos hn]
      · unfold lftOf; rw [if_neg (by omega)]
    · refine Ev.step (f := fun k => laws_szStringS.l0 k l (left - (l[i].size : Int)) ((i + 1 : Nat) : Int)) (fun k => ?_) (ev_eq (ih (left - (l[i].size : Int)) (i + 1) (by omega) (by omega) (by omega) (by omega)) ?_)
      · simp only [laws_szStringS.l0]; rw [if_pos (by omega), if_pos (by omega), hr, hw, if_neg hn, w64 (x := (i : Int) + 1) (by omega) (by omega)]; rfl
      · unfold lftOf; split <;> split <;> omega
theorem szS_ev (l : List ByteArray) (hb : ∀ s ∈ l, s.size ≤ 9223372036854775807) (hl : l.length ≤ 9223372036854775807) (left : Int) (h0 : 0 ≤ left) (h1 : left ≤ 4611686018427387904) :
    Ev (fun k => laws_szStringS.f k l left) (lftOf left (bulkS l)) := by
  unfold laws_szStringS.f
  have hw : wrap64 (left - (l.length : Int)) = left - (l.length : Int) := w64 (by omega) (by omega)
  rw [hw]
  by_cases hn : left - (l.length : Int) < 0
  · refine ev_pos hn (ev_eq (Ev.now _) ?_)
    unfold lftOf bulkS; rw [if_neg (by omega)]
  · refine ev_neg hn (ev_eq (szS_loop l hb hl l.length (left - l.length) 0 (by omega) (by omega) rfl (by omega)) ?_)
    rw [List.drop_zero]
    unfold lftOf bulkS; split <;> split <;> omega
theorem toS_loop (l : List ByteArray) (hl : l.length ≤ 17592186044416) (d : Nat) : ∀ (i : Nat), l.length - i = d → i ≤ l.length →
    Ev (fun k => laws_toStringS.l0 k l (l.take i ++ List.replicate (l.length - i) (⟨#[]⟩ : ByteArray)) i) l := by
  induction d with
  | zero =>
    intro i hd hi
    refine Ev.step (f := fun _ => some l) (fun k => ?_) (Ev.now _)
    simp only [laws_toStringS.l0]; rw [if_neg (by omega), hd, List.take_of_length_le (by omega)]; simp
  | succ d ih =>
    intro i hd hi
    have hlt : i < l.length := by omega
    refine Ev.step (f := fun k => laws_toStringS.l0 k l (l.take (i + 1) ++ List.replicate (l.length - (i + 1)) (⟨#[]⟩ : ByteArray)) ((i + 1 : Nat) : Int)) (fun k => ?_) (ih (i + 1) (by omega) (by omega))
    have hr : rdOf ByteArray.empty l (i : Int) = l[i] := by simp [rdOf, hlt]
    have hlen : (l.take i).length = i := by simp; omega
    have e : (l.take i ++ List.replicate (l.length - i) (⟨#[]⟩ : ByteArray)).set i l[i] = l.take (i + 1) ++ List.replicate (l.length - (i + 1)) (⟨#[]⟩ : ByteArray) := by
      rw [List.set_append_right _ _ (by omega), hlen, Nat.sub_self, show l.length - i = (l.length - (i + 1)) + 1 by omega, List.replicate_succ, List.set_cons_zero, List.take_succ_eq_append_getElem hlt, List.append_assoc]
      rfl
    simp only [laws_toStringS.l0]
    rw [if_pos (by omega), if_pos (by omega), if_pos (by simp; omega), hr, w64 (x := (i : Int) + 1) (by omega) (by omega), Int.toNat_natCast, e]
    rfl
theorem toS_ev (l : List ByteArray) (hl : l.length ≤ 17592186044416) : Ev (fun k => laws_toStringS.f k l) l := by
  unfold laws_toStringS.f
  refine ev_pos (by omega) (ev_pos (by omega) ?_)
  have := toS_loop l hl l.length 0 rfl (by omega)
  simpa using this
def sufD (S : ByteArray) : Bool := decide (S.size = 0) || wordD S
def restD (P F S : ByteArray) : Bool := partD P && (greatD F && sufD S)
def goodN (G : List ByteArray) (P F S : ByteArray) : Bool := G.all greatD && (decide (G.length ≤ 3) && restD P F S)
theorem spec_tail (P F S : ByteArray) (hP : P.size ≤ 4294967280) : Ev (fun k => (spec_l2Particle.f k P).bind fun t134 => (if t134 = true then ((spec_l2Word.f k F).bind fun t135 => (if t135 = true then (if 0 < (F.size : Int) then ((spec_l2Upper.f (bt F 0)).bind fun t136 => (if t136 = true then (if S.toList = ([] : List UInt8) then (some true) else ((spec_l2Word.f k S).bind fun t137 => (some t137))) else (some false))) else (none)) else (some false))) else (some false))) (restD P F S) := by
  unfold restD
  refine Ev.bind (spec_part P hP) ?_
  cases partD P with
  | false => exact ev_neg (by simp) (Ev.now _)
  | true =>
    refine ev_pos rfl (Ev.bind (spec_word F) ?_)
    unfold greatD
    cases h : wordD F with
    | false => exact ev_neg (by simp) (Ev.now _)
    | true =>
      have := word_in h
      refine ev_pos rfl (ev_pos (by omega) (ev_bind0 (spec_up _) ?_))
      cases upD (bt F 0) with
      | false => exact ev_neg (by simp) (Ev.now _)
      | true =>
        refine ev_pos rfl ?_
        unfold sufD
        by_cases h : S.size = 0
        · exact ev_pos ((nil_iff S).2 h) (ev_eq (Ev.now _) (by simp [h]))
        · exact ev_neg (fun e => h ((nil_iff S).1 e)) (Ev.bind (spec_word S) (ev_eq (Ev.now _) (by simp [h])))
theorem spec_good_loop (G : List ByteArray) (P F S : ByteArray) (hG : G.length ≤ 4611686018427387904) (hP : P.size ≤ 4294967280) (d : Nat) : ∀ i : Nat, i ≤ G.length → G.length - i = d →
    Ev (fun k => spec_l2Good.l0 k (i : Int) G P F S) ((G.drop i).all greatD && (decide (G.length ≤ 3) && restD P F S)) := by
  induction d with
  | zero =>
    intro i h1 hd
    refine Ev.step (f := fun k => if (G.length : Int) ≤ 3 then ((spec_l2Particle.f k P).bind fun t134 => (if t134 = true then ((spec_l2Word.f k F).bind fun t135 => (if t135 = true then (if 0 < (F.size : Int) then ((spec_l2Upper.f (bt F 0)).bind fun t136 => (if t136 = true then (if S.toList = ([] : List UInt8) then (some true) else ((spec_l2Word.f k S).bind fun t137 => (some t137))) else (some false))) else (none)) else (some false))) else (some false))) else some false) (fun k => ?_) ?_
    · simp only [spec_l2Good.l0]; rw [if_neg (by omega)]
    · rw [List.drop_of_length_le (by omega)]
      by_cases h : G.length ≤ 3
      · exact ev_pos (by omega) (ev_eq (spec_tail P F S hP) (by simp [h]))
      · exact ev_neg (by omega) (ev_eq (Ev.now _) (by simp [h]))
  | succ d ih =>
    intro i h1 hd
    have hi : i < G.length := by omega
    have hw : wrap64 ((i : Int) + 1) = ((i + 1 : Nat) : Int) := by rw [w64 (by omega) (by omega)]; rfl
    rw [List.drop_eq_getElem_cons hi, List.all_cons, Bool.and_assoc]
    refine Ev.step (f := fun k => (spec_l2Word.f k G[i]).bind fun t131 => (if t131 = true then (if 0 < ((G[i]).size : Int) then ((spec_l2Upper.f (bt G[i] 0)).bind fun t133 => (if t133 = true then (spec_l2Good.l0 k ((i + 1 : Nat) : Int) G P F S) else (some false))) else (none)) else (some false))) (fun k => ?_) ?_
    · simp only [spec_l2Good.l0, rd_get G i hi]
      rw [if_pos (by omega), if_pos (by omega), hw]
    · refine Ev.bind (spec_word _) ?_
      rw [show greatD G[i] = (wordD G[i] && upD (bt G[i] 0)) from rfl]
      cases h : wordD G[i] with
      | false => exact ev_neg (by simp) (ev_eq (Ev.now _) (by simp))
      | true =>
        have := word_in h
        refine ev_pos rfl (ev_pos (by omega) (ev_bind0 (spec_up _) ?_))
        cases upD (bt G[i] 0) with
        | false => exact ev_neg (by simp) (ev_eq (Ev.now _) (by simp))
        | true => exact ev_pos rfl (ev_eq (ih (i + 1) (by omega) (by omega)) (by simp))
theorem spec_name (G : List ByteArray) (P F S : ByteArray) (hG : G.length ≤ 4611686018427387904) (hP : P.size ≤ 4294967280) : Ev (fun k => spec_l2Good.f k G P F S) (goodN G P F S) := by
  have := spec_good_loop G P F S hG hP _ 0 (by omega) rfl
  unfold spec_l2Good.f goodN
  rw [List.drop_zero] at this
  exact this
theorem idx_loop (G : List ByteArray) (hG : G.length ≤ 4611686018427387904) (d : Nat) : ∀ i : Nat, i ≤ G.length → G.length - i = d →
    ∃ v, Ev (fun k => slices_IndexFunc_string_string_at_69.l0 k G (G.length : Int) (i : Int)) v ∧ decide (v ≥ 0) = !((G.drop i).all greatD) := by
  induction d with
  | zero =>
    intro i h1 hd
    refine ⟨-1, Ev.step (f := fun _ => some (-1)) (fun k => ?_) (Ev.now _), ?_⟩
    · simp only [slices_IndexFunc_string_string_at_69.l0]; rw [if_neg (by omega)]
    · rw [List.drop_of_length_le (by omega)]; simp
  | succ d ih =>
    intro i h1 hd
    have hi : i < G.length := by omega
    have hw : wrap64 ((i : Int) + 1) = ((i + 1 : Nat) : Int) := by rw [w64 (by omega) (by omega)]; rfl
    rw [List.drop_eq_getElem_cons hi, List.all_cons]
    have hst : ∀ v, Ev (fun k => (impl_IsValidName_1.f k G[i]).bind fun t => if t = true then some (i : Int) else slices_IndexFunc_string_string_at_69.l0 k G (G.length : Int) ((i + 1 : Nat) : Int)) v → Ev (fun k => slices_IndexFunc_string_string_at_69.l0 k G (G.length : Int) (i : Int)) v := by
      intro v hv
      refine Ev.step (fun k => ?_) hv
      simp only [slices_IndexFunc_string_string_at_69.l0, rd_get G i hi]
      rw [if_pos (by omega), if_pos (by omega), if_pos (by omega), hw]
    have hf : Ev (fun k => impl_IsValidName_1.f k G[i]) (!greatD G[i]) := by
      unfold impl_IsValidName_1.f
      exact Ev.bind (impl_great _) (Ev.now _)
    cases h : greatD G[i] with
    | true =>
      obtain ⟨v, hv, e⟩ := ih (i + 1) (by omega) (by omega)
      refine ⟨v, hst v (Ev.bind hf (ev_neg (by simp [h]) hv)), ?_⟩
      rw [e]; simp
    | false =>
      refine ⟨(i : Int), hst _ (Ev.bind hf (ev_pos (by simp [h]) (Ev.now _))), ?_⟩
      simp
theorem contains_ev (G : List ByteArray) (hG : G.length ≤ 4611686018427387904) : Ev (fun k => slices_ContainsFunc_string_string_at_69.f k G) (!(G.all greatD)) := by
  obtain ⟨v, hv, e⟩ := idx_loop G hG _ 0 (by omega) rfl
  unfold slices_ContainsFunc_string_string_at_69.f slices_IndexFunc_string_string_at_69.f
  rw [List.drop_zero] at e
  exact Ev.bind hv (ev_eq (Ev.now _) e)
theorem impl_valid (G : List ByteArray) (P F S : ByteArray) (hG : G.length ≤ 4611686018427387904) (hP : P.size ≤ 4294967280) : Ev (fun k => impl_IsValidName.f k G P F S) (goodN G P F S) := by
  have hj1 : Ev (fun k => impl_IsValidName.j0 k true G P F S) false := Ev.step (f := fun _ => some false) (fun k => by simp [impl_IsValidName.j0]) (Ev.now _)
  have hj0 : Ev (fun k => impl_IsValidName.j0 k false G P F S) (restD P F S) := by
    refine Ev.step (f := fun k => (impl_isParticle.f k P).bind fun t172 => (if t172 = true then ((impl_isGreatWord.f k F).bind fun t173 => (if t173 = true then (if S.toList = ([] : List UInt8) then (some true) else ((impl_isNameWord.f k S).bind fun t174 => (some t174))) else (some false))) else (some false))) (fun k => by simp [impl_IsValidName.j0]) ?_
    unfold restD
    refine Ev.bind (impl_part P hP) ?_
    cases partD P with
    | false => exact ev_neg (by simp) (Ev.now _)
    | true =>
      refine ev_pos rfl (Ev.bind (impl_great F) ?_)
      cases greatD F with
      | false => exact ev_neg (by simp) (Ev.now _)
      | true =>
        refine ev_pos rfl ?_
        unfold sufD
        by_cases h : S.size = 0
        · exact ev_pos ((nil_iff S).2 h) (ev_eq (Ev.now _) (by simp [h]))
        · exact ev_neg (fun e => h ((nil_iff S).1 e)) (Ev.bind (impl_word S) (ev_eq (Ev.now _) (by simp [h])))
  unfold impl_IsValidName.f goodN
  by_cases h : G.length ≤ 3
  · refine ev_neg (by omega) (Ev.bind (contains_ev G hG) ?_)
    cases G.all greatD with
    | true => exact ev_eq hj0 (by simp [h])
    | false => exact ev_eq hj1 (by simp)
  · exact ev_pos (by omega) (ev_eq hj1 (by simp [h]))
def bulkN (G : List ByteArray) (P F S : ByteArray) : Nat := bulkS G + P.size + F.size + S.size
theorem szN_ev (G : List ByteArray) (P F S : ByteArray) (hb : ∀ s ∈ G, s.size ≤ 9223372036854775807) (hl : G.length ≤ 9223372036854775807) (hP : P.size ≤ 9223372036854775807) (hF : F.size ≤ 9223372036854775807) (hS : S.size ≤ 9223372036854775807) (left : Int) (h0 : 0 ≤ left) (h1 : left ≤ 4611686018427387904) :
    Ev (fun k => laws_szName.f k G P F S left) (lftOf left (bulkN G P F S)) := by
  unfold laws_szName.f
  refine Ev.bind (szS_ev G hb hl left h0 h1) ?_
  unfold bulkN
  by_cases c : (bulkS G : Int) ≤ left
  · have e : lftOf left (bulkS G) = left - bulkS G := by unfold lftOf; rw [if_pos c]
    rw [e]
    have w1 : wrap64 (left - (bulkS G : Int) - (P.size : Int)) = left - (bulkS G : Int) - (P.size : Int) := w64 (by omega) (by omega)
    rw [w1]
    refine ev_neg (by omega) ?_
    by_cases c1 : left - (bulkS G : Int) - (P.size : Int) < 0
    · exact ev_pos c1 (ev_eq (Ev.now _) (by unfold lftOf; rw [if_neg (by omega)]))
    refine ev_neg c1 ?_
    have w2 : wrap64 (left - (bulkS G : Int) - (P.size : Int) - (F.size : Int)) = left - (bulkS G : Int) - (P.size : Int) - (F.size : Int) := w64 (by omega) (by omega)
    rw [w2]
    by_cases c2 : left - (bulkS G : Int) - (P.size : Int) - (F.size : Int) < 0
    · exact ev_pos c2 (ev_eq (Ev.now _) (by unfold lftOf; rw [if_neg (by omega)]))
    refine ev_neg c2 ?_
    have w3 : wrap64 (left - (bulkS G : Int) - (P.size : Int) - (F.size : Int) - (S.size : Int)) = left - (bulkS G : Int) - (P.size : Int) - (F.size : Int) - (S.size : Int) := w64 (by omega) (by omega)
    rw [w3]
    by_cases c3 : left - (bulkS G : Int) - (P.size : Int) - (F.size : Int) - (S.size : Int) < 0
    · exact ev_pos c3 (ev_eq (Ev.now _) (by unfold lftOf; rw [if_neg (by omega)]))
    · exact ev_neg c3 (ev_eq (Ev.now _) (by unfold lftOf; rw [if_pos (by omega)]; omega))
  · have e : lftOf left (bulkS G) = -1 := by unfold lftOf; rw [if_neg c]
    rw [e]
    exact ev_pos (by omega) (ev_eq (Ev.now _) (by unfold lftOf; rw [if_neg (by omega)]))
theorem toN_ev (G : List ByteArray) (P F S : ByteArray) (hl : G.length ≤ 17592186044416) : Ev (fun k => laws_toName.f k G P F S) (G, P, F, S) := by
  unfold laws_toName.f
  exact Ev.bind (toS_ev G hl) (Ev.now _)
theorem eqS_same_loop (l : List ByteArray) (hl : l.length ≤ 4611686018427387904) (d : Nat) : ∀ i : Nat, i ≤ l.length → l.length - i = d → Ev (fun k => laws_eqStringS.l0 k l l (i : Int)) true := by
  induction d with
  | zero =>
    intro i h1 hd
    refine Ev.step (f := fun _ => some true) (fun k => ?_) (Ev.now _)
    simp only [laws_eqStringS.l0]; rw [if_neg (by omega)]
  | succ d ih =>
    intro i h1 hd
    have hw : wrap64 ((i : Int) + 1) = ((i + 1 : Nat) : Int) := by rw [w64 (by omega) (by omega)]; rfl
    refine Ev.step (f := fun k => laws_eqStringS.l0 k l l ((i + 1 : Nat) : Int)) (fun k => ?_) (ih (i + 1) (by omega) (by omega))
    simp only [laws_eqStringS.l0]
    rw [if_pos (by omega), if_pos (by omega), if_pos (by omega), if_pos trivial, hw]
theorem eqS_same (l : List ByteArray) (hl : l.length ≤ 4611686018427387904) : Ev (fun k => laws_eqStringS.f k l l) true := by
  unfold laws_eqStringS.f
  exact ev_pos rfl (eqS_same_loop l hl _ 0 (by omega) rfl)
theorem eqN_same (G : List ByteArray) (P F S : ByteArray) (hl : G.length ≤ 4611686018427387904) : Ev (fun k => laws_eqName.f k G P F S G P F S) true := by
  unfold laws_eqName.f
  exact Ev.bind (eqS_same G hl) (ev_pos rfl (ev_pos rfl (ev_pos rfl (ev_pos rfl (Ev.now _)))))


end Go.Proofs.YtoiodkbdmdbmpaaDoor.G

namespace Go.Proofs.YtoiodkbdmdbmpaaDoor.G
open Go.RowKit Go.Proofs.YtoiodkbdmdbmpaaDoorW.PrintWords Go.Proofs.YtoiodkbdmdbmpaaDoorW.PrintLast Go.Proofs.YtoiodkbdmdbmpaaDoor.B Go.Proofs.YtoiodkbdmdbmpaaDoor.Opn
set_option linter.unusedVariables false
set_option linter.unusedSimpArgs false
def conv (x : S77) : S75 := ⟨x.f0, x.f1, x.f2, x.f3⟩
def bulkL (l : List S77) : Nat := (l.map fun x => bulkN x.f0 x.f1 x.f2 x.f3).sum
theorem rd24 (l : List S77) (i : Nat) (h : i < l.length) : rd_T77 l (i : Int) = l[i] := by simp [rd_T77, h]
theorem rd27 (l : List S75) (i : Nat) (h : i < l.length) : rd_T75 l (i : Int) = l[i] := by simp [rd_T75, h]
theorem bulkL_cons (a : S77) (l : List S77) : bulkL (a :: l) = bulkN a.f0 a.f1 a.f2 a.f3 + bulkL l := by simp [bulkL]
theorem bulkL_mem {l : List S77} {x : S77} (h : x ∈ l) : bulkN x.f0 x.f1 x.f2 x.f3 ≤ bulkL l := by
  induction l with
  | nil => simp at h
  | cons a l ih =>
    rw [bulkL_cons]
    rcases List.mem_cons.1 h with rfl | h
    · omega
    · have := ih h; omega
theorem szL_loop (l : List S77) (hb : ∀ x ∈ l, ok77 x) (hl : l.length ≤ 9223372036854775807) (d : Nat) : ∀ (left : Int) (i : Nat), 0 ≤ left → left ≤ 1048576 → l.length - i = d → i ≤ l.length →
    Ev (fun k => laws_szNameS.l0 k l left (i : Int)) (lftOf left (bulkL (l.drop i))) := by
  induction d with
  | zero =>
    intro left i h0 h1 hd hi
    refine Ev.step (f := fun _ => some left) (fun k => ?_) (ev_eq (Ev.now _) ?_)
    · simp only [laws_szNameS.l0]; rw [if_neg (by omega)]
    · rw [List.drop_of_length_le (by omega)]; unfold lftOf bulkL; simp; omega
  | succ d ih =>
    intro left i h0 h1 hd hi
    have hlt : i < l.length := by omega
    obtain ⟨b0, b1, b2, b3⟩ := hb l[i] (List.getElem_mem hlt)
    have hsz := szN_ev (l[i]).f0 (l[i]).f1 (l[i]).f2 (l[i]).f3 b0.2 b0.1 b1 b2 b3 left h0 (by omega)
    have hw : wrap64 ((i : Int) + 1) = ((i + 1 : Nat) : Int) := by rw [w64 (by omega) (by omega)]; rfl
    rw [List.drop_eq_getElem_cons hlt, bulkL_cons]
    refine Ev.step (f := fun k => (laws_szName.f k (l[i]).f0 (l[i]).f1 (l[i]).f2 (l[i]).f3 left).bind fun t276 => (if t276 < 0 then (some (-1)) else (laws_szNameS.l0 k l t276 ((i + 1 : Nat) : Int)))) (fun k => ?_) (Ev.bind hsz ?_)
    · simp only [laws_szNameS.l0, rd24 l i hlt, hw]
      rw [if_pos (by omega), if_pos (by omega)]
    · by_cases c : (bulkN (l[i]).f0 (l[i]).f1 (l[i]).f2 (l[i]).f3 : Int) ≤ left
      · have e : lftOf left (bulkN (l[i]).f0 (l[i]).f1 (l[i]).f2 (l[i]).f3) = left - bulkN (l[i]).f0 (l[i]).f1 (l[i]).f2 (l[i]).f3 := by unfold lftOf; rw [if_pos c]
        rw [e]
        refine ev_neg (by omega) (ev_eq (ih _ (i + 1) (by omega) (by omega) (by omega) (by omega)) ?_)
        unfold lftOf; split <;> split <;> omega
      · have e : lftOf left (bulkN (l[i]).f0 (l[i]).f1 (l[i]).f2 (l[i]).f3) = -1 := by unfold lftOf; rw [if_neg c]
        rw [e]
        exact ev_pos (by omega) (ev_eq (Ev.now _) (by unfold lftOf; rw [if_neg (by omega)]))
theorem szL_ev (l : List S77) (hb : ∀ x ∈ l, ok77 x) (hl : l.length ≤ 9223372036854775807) (left : Int) (h0 : 0 ≤ left) (h1 : left ≤ 1048576) :
    Ev (fun k => laws_szNameS.f k l left) (lftOf left (l.length + bulkL l)) := by
  unfold laws_szNameS.f
  have hw : wrap64 (left - (l.length : Int)) = left - (l.length : Int) := w64 (by omega) (by omega)
  rw [hw]
  by_cases hn : left - (l.length : Int) < 0
  · exact ev_pos hn (ev_eq (Ev.now _) (by unfold lftOf; rw [if_neg (by omega)]))
  · refine ev_neg hn (ev_eq (szL_loop l hb hl l.length (left - l.length) 0 (by omega) (by omega) rfl (by omega)) ?_)
    rw [List.drop_zero]
    unfold lftOf; split <;> split <;> omega
theorem toL_loop (l : List S77) (hl : l.length ≤ 1048576) (hs : ∀ x ∈ l, x.f0.length ≤ 1048576) (d : Nat) : ∀ (i : Nat), l.length - i = d → i ≤ l.length →
    Ev (fun k => laws_toNameS.l0 k l ((l.take i).map conv ++ List.replicate (l.length - i) z75) (i : Int)) (l.map conv) := by
  induction d with
  | zero =>
    intro i hd hi
    refine Ev.step (f := fun _ => some (l.map conv)) (fun k => ?_) (Ev.now _)
    simp only [laws_toNameS.l0]; rw [if_neg (by omega), hd, List.take_of_length_le (by omega)]; simp
  | succ d ih =>
    intro i hd hi
    have hlt : i < l.length := by omega
    have hw : wrap64 ((i : Int) + 1) = ((i + 1 : Nat) : Int) := by rw [w64 (by omega) (by omega)]; rfl
    have hlen : ((l.take i).map conv).length = i := by simp; omega
    have hall : ((l.take i).map conv ++ List.replicate (l.length - i) z75).length = l.length := by simp; omega
    have e : ((l.take i).map conv ++ List.replicate (l.length - i) z75).set i (conv l[i]) = (l.take (i + 1)).map conv ++ List.replicate (l.length - (i + 1)) z75 := by
      rw [List.set_append_right _ _ (by omega), hlen, Nat.sub_self, show l.length - i = (l.length - (i + 1)) + 1 by omega, List.replicate_succ, List.set_cons_zero, List.take_succ_eq_append_getElem hlt, List.map_append, List.append_assoc]
      rfl
    have ht := toN_ev (l[i]).f0 (l[i]).f1 (l[i]).f2 (l[i]).f3 (by have := hs _ (List.getElem_mem hlt); omega)
    refine Ev.step (f := fun k => (laws_toName.f k (l[i]).f0 (l[i]).f1 (l[i]).f2 (l[i]).f3).bind fun bt289 => laws_toNameS.l0 k l (((l.take i).map conv ++ List.replicate (l.length - i) z75).set i (⟨bt289.1, bt289.2.1, bt289.2.2.1, bt289.2.2.2⟩ : S75)) ((i + 1 : Nat) : Int)) (fun k => ?_) (Ev.bind ht ?_)
    · have a3 : (i : Int) < ((((l.take i).map conv ++ List.replicate (l.length - i) z75).length : Nat) : Int) := by rw [hall]; omega
      simp only [laws_toNameS.l0, rd24 l i hlt, hw, if_pos a3, Int.toNat_natCast]
      rw [if_pos (by omega), if_pos (by omega)]
    · have hq := ih (i + 1) (by omega) (by omega)
      rw [← e] at hq
      exact hq
theorem toL_ev (l : List S77) (hl : l.length ≤ 1048576) (hs : ∀ x ∈ l, x.f0.length ≤ 1048576) : Ev (fun k => laws_toNameS.f k l) (l.map conv) := by
  unfold laws_toNameS.f
  refine ev_pos (by omega) (ev_pos (by omega) ?_)
  have := toL_loop l hl hs l.length 0 rfl (by omega)
  simpa using this
def goodS (x : S75) : Bool := goodN x.f0 x.f1 x.f2 x.f3
def okS (x : S75) : Prop := x.f0.length ≤ 4611686018427387904 ∧ x.f1.size ≤ 4294967280
def listD (l : List S75) : Bool := l.all goodS && decide (l.length ≤ 4)
theorem spec_list_loop (l : List S75) (ho : ∀ x ∈ l, okS x) (hl : l.length ≤ 1048576) (d : Nat) : ∀ i : Nat, i ≤ l.length → min l.length 5 - i = d → i ≤ 5 →
    Ev (fun k => spec_l2List.l0 k l (i : Int)) (((l.take 5).drop i).all goodS && decide (l.length ≤ 4)) := by
  have stop : ∀ i : Nat, Ev (fun k => spec_l2List.j1 k l (i : Int) false) (decide (l.length ≤ 4)) := fun i => by
    refine Ev.step (f := fun _ => some (decide ((l.length : Int) ≤ 4))) (fun k => by simp [spec_l2List.j1]) (ev_eq (Ev.now _) ?_)
    rw [decide_eq_decide]; omega
  induction d with
  | zero =>
    intro i h1 hd h5
    rw [List.drop_of_length_le (by rw [List.length_take]; omega)]
    refine Ev.step (f := fun k => spec_l2List.j1 k l (i : Int) false) (fun k => ?_) (ev_eq (stop i) (by simp))
    simp only [spec_l2List.l0]
    by_cases c : i < l.length
    · rw [if_pos (by omega), decide_eq_false (by omega)]
    · rw [if_neg (by omega)]
  | succ d ih =>
    intro i h1 hd h5
    have hi : i < l.length := by omega
    have hw : wrap64 ((i : Int) + 1) = ((i + 1 : Nat) : Int) := by rw [w64 (by omega) (by omega)]; rfl
    have hi' : i < (l.take 5).length := by rw [List.length_take]; omega
    have hx := ho _ (List.getElem_mem hi)
    rw [List.drop_eq_getElem_cons hi', List.all_cons, List.getElem_take, Bool.and_assoc]
    refine Ev.step (f := fun k => spec_l2List.j1 k l (i : Int) true) (fun k => ?_) (Ev.step (f := fun k => (spec_l2Good.f k (l[i]).f0 (l[i]).f1 (l[i]).f2 (l[i]).f3).bind fun t278 => (if t278 = true then (spec_l2List.l0 k l ((i + 1 : Nat) : Int)) else (some false))) (fun k => ?_) (Ev.bind (spec_name _ _ _ _ hx.1 hx.2) ?_))
    · simp only [spec_l2List.l0]
      rw [if_pos (by omega), decide_eq_true (by omega)]
    · simp only [spec_l2List.j1, rd27 l i hi, hw]
      rw [if_pos trivial, if_pos (by omega), if_pos (by omega)]
    · show Ev _ (goodN (l[i]).f0 (l[i]).f1 (l[i]).f2 (l[i]).f3 && _)
      cases goodN (l[i]).f0 (l[i]).f1 (l[i]).f2 (l[i]).f3 with
      | true => exact ev_pos rfl (ev_eq (ih (i + 1) (by omega) (by omega) (by omega)) (by simp))
      | false => exact ev_neg (by simp) (ev_eq (Ev.now _) (by simp))
theorem spec_list (l : List S75) (ho : ∀ x ∈ l, okS x) (hl : l.length ≤ 1048576) : Ev (fun k => spec_l2List.f k l) (listD l) := by
  have h := spec_list_loop l ho hl _ 0 (by omega) rfl (by omega)
  unfold spec_l2List.f listD
  refine ev_eq h ?_
  rw [List.drop_zero]
  by_cases c : l.length ≤ 4
  · rw [List.take_of_length_le (by omega)]
  · rw [decide_eq_false c]; simp
theorem idxN_loop (l : List S75) (ho : ∀ x ∈ l, okS x) (hl : l.length ≤ 1048576) (d : Nat) : ∀ i : Nat, i ≤ l.length → l.length - i = d →
    ∃ v, Ev (fun k => impl_Name_67_at_57.l0 k l (l.length : Int) (i : Int)) v ∧ decide (v ≥ 0) = !((l.drop i).all goodS) := by
  induction d with
  | zero =>
    intro i h1 hd
    refine ⟨-1, Ev.step (f := fun _ => some (-1)) (fun k => ?_) (Ev.now _), ?_⟩
    · simp only [impl_Name_67_at_57.l0]; rw [if_neg (by omega)]
    · rw [List.drop_of_length_le (by omega)]; simp
  | succ d ih =>
    intro i h1 hd
    have hi : i < l.length := by omega
    have hw : wrap64 ((i : Int) + 1) = ((i + 1 : Nat) : Int) := by rw [w64 (by omega) (by omega)]; rfl
    have hx := ho _ (List.getElem_mem hi)
    rw [List.drop_eq_getElem_cons hi, List.all_cons]
    have hst : ∀ v, Ev (fun k => (impl_areNames_1.f k (l[i]).f0 (l[i]).f1 (l[i]).f2 (l[i]).f3).bind fun t => if t = true then some (i : Int) else impl_Name_67_at_57.l0 k l (l.length : Int) ((i + 1 : Nat) : Int)) v → Ev (fun k => impl_Name_67_at_57.l0 k l (l.length : Int) (i : Int)) v := by
      intro v hv
      refine Ev.step (fun k => ?_) hv
      simp only [impl_Name_67_at_57.l0, rd27 l i hi, hw]
      rw [if_pos (by omega), if_pos (by omega), if_pos (by omega)]
    have hf : Ev (fun k => impl_areNames_1.f k (l[i]).f0 (l[i]).f1 (l[i]).f2 (l[i]).f3) (!goodS l[i]) := by
      unfold impl_areNames_1.f
      exact Ev.bind (impl_valid _ _ _ _ hx.1 hx.2) (Ev.now _)
    cases h : goodS l[i] with
    | true =>
      obtain ⟨v, hv, e⟩ := ih (i + 1) (by omega) (by omega)
      refine ⟨v, hst v (Ev.bind hf (ev_neg (by simp [h]) hv)), ?_⟩
      rw [e]; simp
    | false =>
      refine ⟨(i : Int), hst _ (Ev.bind hf (ev_pos (by simp [h]) (Ev.now _))), ?_⟩
      simp
theorem impl_list (l : List S75) (ho : ∀ x ∈ l, okS x) (hl : l.length ≤ 1048576) : Ev (fun k => impl_areNames.f k l) (listD l) := by
  unfold impl_areNames.f listD
  by_cases c : l.length ≤ 4
  · obtain ⟨v, hv, e⟩ := idxN_loop l ho hl _ 0 (by omega) rfl
    rw [List.drop_zero] at e
    refine ev_pos (by omega) (Ev.bind (g := fun k => impl_Name_56_at_57.f k l) (a := decide (v ≥ 0)) ?_ (ev_eq (Ev.now _) ?_))
    · unfold impl_Name_56_at_57.f impl_Name_67_at_57.f
      exact Ev.bind hv (Ev.now _)
    · rw [e]; simp [c]
  · exact ev_neg (by omega) (ev_eq (Ev.now _) (by simp [c]))
theorem eqL_loop (l : List S75) (ho : ∀ x ∈ l, okS x) (hl : l.length ≤ 1048576) (d : Nat) : ∀ i : Nat, i ≤ l.length → l.length - i = d → Ev (fun k => laws_eqNameS.l0 k l l (i : Int)) true := by
  induction d with
  | zero =>
    intro i h1 hd
    refine Ev.step (f := fun _ => some true) (fun k => ?_) (Ev.now _)
    simp only [laws_eqNameS.l0]; rw [if_neg (by omega)]
  | succ d ih =>
    intro i h1 hd
    have hi : i < l.length := by omega
    have hw : wrap64 ((i : Int) + 1) = ((i + 1 : Nat) : Int) := by rw [w64 (by omega) (by omega)]; rfl
    refine Ev.step (f := fun k => (laws_eqName.f k (l[i]).f0 (l[i]).f1 (l[i]).f2 (l[i]).f3 (l[i]).f0 (l[i]).f1 (l[i]).f2 (l[i]).f3).bind fun t308 => (if t308 = true then (laws_eqNameS.l0 k l l ((i + 1 : Nat) : Int)) else (some false))) (fun k => ?_) (Ev.bind (eqN_same _ _ _ _ (ho _ (List.getElem_mem hi)).1) (ev_pos rfl (ih (i + 1) (by omega) (by omega))))
    simp only [laws_eqNameS.l0, rd27 l i hi, hw]
    rw [if_pos (by omega), if_pos (by omega), if_pos (by omega)]
theorem eqL_same (l : List S75) (ho : ∀ x ∈ l, okS x) (hl : l.length ≤ 1048576) : Ev (fun k => laws_eqNameS.f k l l) true := by
  unfold laws_eqNameS.f
  exact ev_pos rfl (eqL_loop l ho hl _ 0 (by omega) rfl)
theorem conv_ok {l : List S77} (h : bulkL l ≤ 1048576) : ∀ x ∈ l.map conv, okS x := by
  intro x hx
  obtain ⟨y, hy, rfl⟩ := List.mem_map.1 hx
  have := bulkL_mem hy
  unfold bulkN bulkS at this
  exact ⟨by show y.f0.length ≤ _; omega, by show y.f1.size ≤ _; omega⟩
end Go.Proofs.YtoiodkbdmdbmpaaDoor.G

namespace Go.Proofs.YtoiodkbdmdbmpaaDoor.G
open Go.RowKit Go.Proofs.YtoiodkbdmdbmpaaDoorW.PrintWords Go.Proofs.YtoiodkbdmdbmpaaDoorW.PrintLast
set_option linter.unusedVariables false
set_option linter.unusedSimpArgs false
def daysD (y m : Int) : Int :=
  if m = 2 then (if Int.tmod y 4 = 0 ∧ (Int.tmod y 100 ≠ 0 ∨ Int.tmod y 400 = 0) then 29 else 28) else if m = 4 ∨ m = 6 ∨ m = 9 ∨ m = 11 then 30 else 31
def goodD (y m d : Int) (c : Bool) : Bool :=
  if y = 0 ∧ m = 0 ∧ d = 0 ∧ c = false then true
  else if ¬ (1 ≤ y ∧ y ≤ 2999 ∧ 0 ≤ m ∧ m ≤ 12) then false
  else if m = 0 then decide (d = 0)
  else if c then false else decide (0 ≤ d ∧ d ≤ daysD y m)
theorem tmod_400_4 (y : Int) (h : Int.tmod y 400 = 0) : Int.tmod y 4 = 0 := by
  have h1 : (400 : Int) ∣ y := Int.dvd_of_tmod_eq_zero h
  exact Int.tmod_eq_zero_of_dvd (Int.dvd_trans (by decide) h1)
theorem spec_days (k : Nat) (y m : Int) : spec_l3Days.f (k + 1) y m = some (daysD y m) := by
  unfold spec_l3Days.f daysD
  by_cases h2 : m = 2
  · subst h2
    simp only [if_true, spec_l3Days.j0]
    by_cases a : Int.tmod y 4 = 0 <;> by_cases b : Int.tmod y 100 = 0 <;> by_cases c : Int.tmod y 400 = 0 <;> simp [a, b, c]
    · exact a (tmod_400_4 y c)
    · exact a (tmod_400_4 y c)
  · by_cases a : m = 4 <;> by_cases b : m = 6 <;> by_cases c : m = 9 <;> by_cases d : m = 11 <;> simp [h2, a, b, c, d]
theorem impl_days (y m : Int) : impl_daysInMonth.f y m = some (daysD y m) := by
  unfold impl_daysInMonth.f daysD
  by_cases h2 : m = 2
  · subst h2
    by_cases a : Int.tmod y 4 = 0 <;> by_cases b : Int.tmod y 100 = 0 <;> by_cases c : Int.tmod y 400 = 0 <;> simp [a, b, c]
  · by_cases a : m = 4 <;> by_cases b : m = 6 <;> by_cases c : m = 9 <;> by_cases d : m = 11 <;> simp [h2, a, b, c, d]
theorem spec_good (k : Nat) (y m d : Int) (c : Bool) : spec_l3Good.f (k + 2) y m d c = some (goodD y m d c) := by
  unfold spec_l3Good.f goodD
  by_cases z : y = 0 ∧ m = 0 ∧ d = 0 ∧ c = false
  · obtain ⟨rfl, rfl, rfl, rfl⟩ := z; simp
  · rw [if_neg (by simpa using z), if_neg z]
    simp only [spec_l1In.f]
    by_cases a : 1 ≤ y <;> by_cases b : y ≤ 2999 <;> by_cases e : 0 ≤ m <;> by_cases f : m ≤ 12 <;> simp [a, b, e, f, spec_l3Good.j0]
    rw [spec_days]
    by_cases g : m = 0 <;> by_cases h : d = 0 <;> by_cases i : 0 ≤ d <;> cases c <;> simp [g, h, i, spec_l1In.f, impl_inside.f]
theorem impl_good (k : Nat) (y m d : Int) (c : Bool) : impl_IsValidDate.f (k + 2) y m d c = some (goodD y m d c) := by
  unfold impl_IsValidDate.f goodD
  by_cases z : y = 0 ∧ m = 0 ∧ d = 0 ∧ c = false
  · obtain ⟨rfl, rfl, rfl, rfl⟩ := z; simp
  · rw [if_neg (by simpa using z), if_neg z]
    simp only [impl_inside.f]
    by_cases a : 1 ≤ y <;> by_cases b : y ≤ 2999 <;> by_cases e : 0 ≤ m <;> by_cases f : m ≤ 12 <;> simp [a, b, e, f, impl_IsValidDate.j0]
    rw [impl_days]
    by_cases g : m = 0 <;> by_cases h : d = 0 <;> by_cases i : 0 ≤ d <;> cases c <;> simp [g, h, i, spec_l1In.f, impl_inside.f]
end Go.Proofs.YtoiodkbdmdbmpaaDoor.G

namespace Go.Proofs.YtoiodkbdmdbmpaaDoor.G
open Go.RowKit Go.Proofs.YtoiodkbdmdbmpaaDoorW.PrintWords Go.Proofs.YtoiodkbdmdbmpaaDoorW.PrintLast Go.Proofs.YtoiodkbdmdbmpaaDoor.B Go.Proofs.YtoiodkbdmdbmpaaDoor.Opn
set_option linter.unusedVariables false
set_option linter.unusedSimpArgs false
def kindD (n : Int) : Bool := decide (1 ≤ n) && decide (n ≤ 4)
def volD (n : Int) : Bool := decide (0 ≤ n) && decide (n ≤ 9999)
def crossD (X K : ByteArray) : Bool := decide (X.size = 0) || (keyD X && (X.toList != K.toList))
theorem in_kind (n : Int) : (if n ≥ 1 then some (decide (n ≤ 4)) else some false) = some (kindD n) := by
  unfold kindD
  by_cases h : n ≥ 1
  · rw [if_pos h, decide_eq_true (show 1 ≤ n from h)]; rfl
  · rw [if_neg h, decide_eq_false (show ¬ 1 ≤ n from h)]; rfl
theorem in_vol (n : Int) : (if n ≥ 0 then some (decide (n ≤ 9999)) else some false) = some (volD n) := by
  unfold volD
  by_cases h : n ≥ 0
  · rw [if_pos h, decide_eq_true (show 0 ≤ n from h)]; rfl
  · rw [if_neg h, decide_eq_false (show ¬ 0 ≤ n from h)]; rfl
theorem spec_date (y m d : Int) (c : Bool) : Ev (fun k => spec_l3Good.f k y m d c) (goodD y m d c) := ⟨2, fun k hk => by
  obtain ⟨k', rfl⟩ : ∃ k', k = k' + 2 := ⟨k - 2, by omega⟩
  exact spec_good k' y m d c⟩
theorem impl_date (y m d : Int) (c : Bool) : Ev (fun k => impl_IsValidDate.f k y m d c) (goodD y m d c) := ⟨2, fun k hk => by
  obtain ⟨k', rfl⟩ : ∃ k', k = k' + 2 := ⟨k - 2, by omega⟩
  exact impl_good k' y m d c⟩
theorem spec_cross (X K : ByteArray) : Ev (fun k => if X.toList = ([] : List UInt8) then (some true) else ((spec_l4Key.f k X).bind fun t643 => (if t643 = true then (some (X.toList != K.toList)) else (some false)))) (crossD X K) := by
  unfold crossD
  by_cases h : X.size = 0
  · exact ev_pos ((nil_iff X).2 h) (ev_eq (Ev.now _) (by simp [h]))
  · refine ev_neg (fun e => h ((nil_iff X).1 e)) (Ev.bind (spec_key X) ?_)
    cases keyD X with
    | true => exact ev_pos rfl (ev_eq (Ev.now _) (by simp [h]))
    | false => exact ev_neg (by simp) (ev_eq (Ev.now _) (by simp [h]))
theorem impl_cross (X K : ByteArray) : Ev (fun k => if X.toList = ([] : List UInt8) then (some true) else ((impl_isKey.f k X).bind fun t643 => (if t643 = true then (some (X.toList != K.toList)) else (some false)))) (crossD X K) := by
  unfold crossD
  by_cases h : X.size = 0
  · exact ev_pos ((nil_iff X).2 h) (ev_eq (Ev.now _) (by simp [h]))
  · refine ev_neg (fun e => h ((nil_iff X).1 e)) (Ev.bind (impl_key X) ?_)
    cases keyD X with
    | true => exact ev_pos rfl (ev_eq (Ev.now _) (by simp [h]))
    | false => exact ev_neg (by simp) (ev_eq (Ev.now _) (by simp [h]))
def headE (K : ByteArray) (kd : Int) (A E : List S75) : Bool := keyD K && (kindD kd && (listD A && listD E))
def textsE (T C Pb Pg : ByteArray) : Bool := textD T && (textD C && (textD Pb && textD Pg))
def tailE (y m d : Int) (c : Bool) (v : Int) : Bool := goodD y m d c && volD v
def entD (K : ByteArray) (kd : Int) (A E : List S75) (T C Pb : ByteArray) (y m d : Int) (c : Bool) (v : Int) (Pg X : ByteArray) : Bool :=
  headE K kd A E && (textsE T C Pb Pg && (tailE y m d c v && crossD X K))
theorem ev_and {g : Nat → Option Bool} {f n : Nat → Option Bool} {b r : Bool} (h : Ev g b) (hn : Ev n false) (hf : b = true → Ev f r) : Ev (fun k => (g k).bind fun t => if t = true then f k else n k) (b && r) := by
  refine Ev.bind h ?_
  cases b with
  | true => exact ev_pos rfl (ev_eq (hf rfl) (by simp))
  | false => exact ev_neg (by simp) (ev_eq hn (by simp))
theorem ev_and0 {o : Option Bool} {f n : Nat → Option Bool} {b r : Bool} (h : o = some b) (hn : Ev n false) (hf : b = true → Ev f r) : Ev (fun k => o.bind fun t => if t = true then f k else n k) (b && r) := by
  subst h
  cases b with
  | true => exact ev_bind0 rfl (ev_pos rfl (ev_eq (hf rfl) (by simp)))
  | false => exact ev_bind0 rfl (ev_neg (by simp) (ev_eq hn (by simp)))
theorem ev_last {g f n : Nat → Option Bool} {J : Nat → Bool → Option Bool} {b r : Bool} (h : Ev g b) (hn : Ev (fun k => J k true) false) (hf : Ev (fun k => J k false) r) : Ev (fun k => (g k).bind fun t => J k (!t)) (b && r) := by
  refine Ev.bind h ?_
  cases b with
  | true => exact ev_eq hf (by simp)
  | false => exact ev_eq hn (by simp)
section
variable (K : ByteArray) (kd : Int) (A E : List S75) (T C Pb : ByteArray) (y m d : Int) (c : Bool) (v : Int) (Pg X : ByteArray)
theorem spec_ent (hA : ∀ x ∈ A, okS x) (lA : A.length ≤ 1048576) (hE : ∀ x ∈ E, okS x) (lE : E.length ≤ 1048576) : Ev (fun k => spec_l4Entry.f k K kd A E T C Pb y m d c v Pg X) (entD K kd A E T C Pb y m d c v Pg X) := by
  have n1 : Ev (fun k => spec_l4Entry.j1 k true K kd A E T C Pb y m d c v Pg X) false := Ev.step (f := fun _ => some false) (fun k => by simp [spec_l4Entry.j1]) (Ev.now _)
  have n0 : Ev (fun k => spec_l4Entry.j0 k true K kd A E T C Pb y m d c v Pg X) false := Ev.step (f := fun _ => some false) (fun k => by simp [spec_l4Entry.j0]) (Ev.now _)
  have p1 : Ev (fun k => spec_l4Entry.j1 k false K kd A E T C Pb y m d c v Pg X) (goodD y m d c && (volD v && crossD X K)) := by
    refine Ev.step (f := fun k => (spec_l3Good.f k y m d c).bind fun t641 => (if t641 = true then ((spec_l1In.f v 0 9999).bind fun t642 => (if t642 = true then (if X.toList = ([] : List UInt8) then (some true) else ((spec_l4Key.f k X).bind fun t643 => (if t643 = true then (some (X.toList != K.toList)) else (some false)))) else (some false))) else (some false))) (fun k => by simp [spec_l4Entry.j1]) ?_
    exact ev_and (spec_date y m d c) (Ev.now _) (fun _ => ev_and0 (by unfold spec_l1In.f; exact in_vol v) (Ev.now _) (fun _ => spec_cross X K))
  have p0 : Ev (fun k => spec_l4Entry.j0 k false K kd A E T C Pb y m d c v Pg X) (textD T && (textD C && (textD Pb && (textD Pg && (goodD y m d c && (volD v && crossD X K)))))) := by
    refine Ev.step (f := fun k => (spec_l4Text.f k T).bind fun t637 => (if t637 = true then ((spec_l4Text.f k C).bind fun t638 => (if t638 = true then ((spec_l4Text.f k Pb).bind fun t639 => (if t639 = true then ((spec_l4Text.f k Pg).bind fun t640 => (spec_l4Entry.j1 k (!t640) K kd A E T C Pb y m d c v Pg X)) else (spec_l4Entry.j1 k true K kd A E T C Pb y m d c v Pg X))) else (spec_l4Entry.j1 k true K kd A E T C Pb y m d c v Pg X))) else (spec_l4Entry.j1 k true K kd A E T C Pb y m d c v Pg X))) (fun k => by simp [spec_l4Entry.j0]) ?_
    exact ev_and (spec_text T) n1 (fun _ => ev_and (spec_text C) n1 (fun _ => ev_and (spec_text Pb) n1 (fun _ => ev_last (f := fun _ => none) (n := fun _ => none) (J := fun k b => spec_l4Entry.j1 k b K kd A E T C Pb y m d c v Pg X) (spec_text Pg) n1 p1)))
  unfold spec_l4Entry.f
  refine ev_eq (ev_and (spec_key K) n0 (fun _ => ev_and0 (by unfold spec_l1In.f; exact in_kind kd) n0 (fun _ => ev_and (spec_list A hA lA) n0 (fun _ => ev_last (f := fun _ => none) (n := fun _ => none) (J := fun k b => spec_l4Entry.j0 k b K kd A E T C Pb y m d c v Pg X) (spec_list E hE lE) n0 p0)))) ?_
  unfold entD headE textsE tailE
  simp only [Bool.and_assoc]
theorem impl_ent (hA : ∀ x ∈ A, okS x) (lA : A.length ≤ 1048576) (hE : ∀ x ∈ E, okS x) (lE : E.length ≤ 1048576) : Ev (fun k => impl_IsValidEntry.f k K kd A E T C Pb y m d c v Pg X) (entD K kd A E T C Pb y m d c v Pg X) := by
  have n0 : Ev (fun k => impl_IsValidEntry.j0 k true K kd A E T C Pb y m d c v Pg X) false := Ev.step (f := fun _ => some false) (fun k => by simp [impl_IsValidEntry.j0]) (Ev.now _)
  have p0 : Ev (fun k => impl_IsValidEntry.j0 k false K kd A E T C Pb y m d c v Pg X) (textD T && (textD C && (textD Pb && (textD Pg && crossD X K)))) := by
    refine Ev.step (f := fun k => (impl_isText.f k T).bind fun t685 => (if t685 = true then ((impl_isText.f k C).bind fun t686 => (if t686 = true then ((impl_isText.f k Pb).bind fun t687 => (if t687 = true then ((impl_isText.f k Pg).bind fun t688 => (if t688 = true then (if X.toList = ([] : List UInt8) then (some true) else ((impl_isKey.f k X).bind fun t689 => (if t689 = true then (some (X.toList != K.toList)) else (some false)))) else (some false))) else (some false))) else (some false))) else (some false))) (fun k => by simp [impl_IsValidEntry.j0]) ?_
    exact ev_and (impl_text T) (Ev.now _) (fun _ => ev_and (impl_text C) (Ev.now _) (fun _ => ev_and (impl_text Pb) (Ev.now _) (fun _ => ev_and (impl_text Pg) (Ev.now _) (fun _ => impl_cross X K))))
  have hk : impl_isKind.f kd = some (kindD kd) := by unfold impl_isKind.f impl_inside.f; rw [in_kind]; rfl
  have hv : impl_inside.f v 0 9999 = some (volD v) := by unfold impl_inside.f; exact in_vol v
  unfold impl_IsValidEntry.f
  refine ev_eq (ev_and (impl_key K) n0 (fun _ => ev_and0 hk n0 (fun _ => ev_and (impl_list A hA lA) n0 (fun _ => ev_and (impl_list E hE lE) n0 (fun _ => ev_and (impl_date y m d c) n0 (fun _ => ev_last (f := fun _ => none) (n := fun _ => none) (J := fun k b => impl_IsValidEntry.j0 k b K kd A E T C Pb y m d c v Pg X) (Ev.congr (fun _ => hv) (Ev.now _)) n0 p0)))))) ?_
  unfold entD headE textsE tailE
  simp only [Bool.and_assoc]
  cases keyD K <;> cases kindD kd <;> cases listD A <;> cases listD E <;> simp only [Bool.true_and, Bool.false_and]
  cases textD T <;> cases textD C <;> cases textD Pb <;> cases textD Pg <;> cases goodD y m d c <;> cases volD v <;> simp
end
def bulkE (K : ByteArray) (A E : List S77) (T C Pb Pg X : ByteArray) : Nat := K.size + (A.length + bulkL A) + (E.length + bulkL E) + T.size + C.size + Pb.size + Pg.size + X.size
theorem szE_ev (K : ByteArray) (kd : Int) (A E : List S77) (T C Pb : ByteArray) (y m d : Int) (c : Bool) (v : Int) (Pg X : ByteArray) (hA : ∀ x ∈ A, ok77 x) (lA : A.length ≤ 9223372036854775807) (hE : ∀ x ∈ E, ok77 x) (lE : E.length ≤ 9223372036854775807)
    (bK : K.size ≤ 9223372036854775807) (bT : T.size ≤ 9223372036854775807) (bC : C.size ≤ 9223372036854775807) (bP : Pb.size ≤ 9223372036854775807) (bG : Pg.size ≤ 9223372036854775807) (bX : X.size ≤ 9223372036854775807) (left : Int) (h0 : 0 ≤ left) (h1 : left ≤ 1048576) :
    Ev (fun k => laws_szEntry.f k K kd A E T C Pb y m d c v Pg X left) (lftOf left (bulkE K A E T C Pb Pg X)) := by
  have neg : ∀ n : Nat, ¬ (n : Int) ≤ left → lftOf left n = -1 := fun n h => by unfold lftOf; rw [if_neg h]
  unfold laws_szEntry.f
  have w0 : wrap64 (left - (K.size : Int)) = left - (K.size : Int) := w64 (by omega) (by omega)
  rw [w0]
  by_cases c0 : left - (K.size : Int) < 0
  · exact ev_pos c0 (ev_eq (Ev.now _) (neg _ (by unfold bulkE; omega)).symm)
  refine ev_neg c0 (Ev.bind (szL_ev A hA lA _ (by omega) (by omega)) ?_)
  by_cases c1 : ((A.length + bulkL A : Nat) : Int) ≤ left - (K.size : Int)
  · have e : lftOf (left - (K.size : Int)) (A.length + bulkL A) = left - (K.size : Int) - (A.length + bulkL A : Nat) := by unfold lftOf; rw [if_pos c1]
    rw [e]
    refine ev_neg (by omega) (Ev.bind (szL_ev E hE lE _ (by omega) (by omega)) ?_)
    by_cases c2 : ((E.length + bulkL E : Nat) : Int) ≤ left - (K.size : Int) - (A.length + bulkL A : Nat)
    · have e : lftOf (left - (K.size : Int) - (A.length + bulkL A : Nat)) (E.length + bulkL E) = left - (K.size : Int) - (A.length + bulkL A : Nat) - (E.length + bulkL E : Nat) := by unfold lftOf; rw [if_pos c2]
      rw [e]
      obtain ⟨l2, hl2⟩ : ∃ l2, l2 = left - (K.size : Int) - (A.length + bulkL A : Nat) - (E.length + bulkL E : Nat) := ⟨_, rfl⟩
      rw [← hl2]
      refine ev_neg (by omega) ?_
      have w1 : wrap64 (l2 - (T.size : Int)) = l2 - (T.size : Int) := w64 (by omega) (by omega)
      rw [w1]
      by_cases c3 : l2 - (T.size : Int) < 0
      · exact ev_pos c3 (ev_eq (Ev.now _) (neg _ (by unfold bulkE; omega)).symm)
      refine ev_neg c3 ?_
      have w2 : wrap64 (l2 - (T.size : Int) - (C.size : Int)) = l2 - (T.size : Int) - (C.size : Int) := w64 (by omega) (by omega)
      rw [w2]
      by_cases c4 : l2 - (T.size : Int) - (C.size : Int) < 0
      · exact ev_pos c4 (ev_eq (Ev.now _) (neg _ (by unfold bulkE; omega)).symm)
      refine ev_neg c4 ?_
      have w3 : wrap64 (l2 - (T.size : Int) - (C.size : Int) - (Pb.size : Int)) = l2 - (T.size : Int) - (C.size : Int) - (Pb.size : Int) := w64 (by omega) (by omega)
      rw [w3]
      by_cases c5 : l2 - (T.size : Int) - (C.size : Int) - (Pb.size : Int) < 0
      · exact ev_pos c5 (ev_eq (Ev.now _) (neg _ (by unfold bulkE; omega)).symm)
      refine ev_neg c5 ?_
      have w4 : wrap64 (l2 - (T.size : Int) - (C.size : Int) - (Pb.size : Int) - (Pg.size : Int)) = l2 - (T.size : Int) - (C.size : Int) - (Pb.size : Int) - (Pg.size : Int) := w64 (by omega) (by omega)
      rw [w4]
      by_cases c6 : l2 - (T.size : Int) - (C.size : Int) - (Pb.size : Int) - (Pg.size : Int) < 0
      · exact ev_pos c6 (ev_eq (Ev.now _) (neg _ (by unfold bulkE; omega)).symm)
      refine ev_neg c6 ?_
      have w5 : wrap64 (l2 - (T.size : Int) - (C.size : Int) - (Pb.size : Int) - (Pg.size : Int) - (X.size : Int)) = l2 - (T.size : Int) - (C.size : Int) - (Pb.size : Int) - (Pg.size : Int) - (X.size : Int) := w64 (by omega) (by omega)
      rw [w5]
      by_cases c7 : l2 - (T.size : Int) - (C.size : Int) - (Pb.size : Int) - (Pg.size : Int) - (X.size : Int) < 0
      · exact ev_pos c7 (ev_eq (Ev.now _) (neg _ (by unfold bulkE; omega)).symm)
      · exact ev_neg c7 (ev_eq (Ev.now _) (by unfold lftOf; rw [if_pos (by unfold bulkE; omega)]; unfold bulkE; omega))
    · have e : lftOf (left - (K.size : Int) - (A.length + bulkL A : Nat)) (E.length + bulkL E) = -1 := by unfold lftOf; rw [if_neg c2]
      rw [e]
      exact ev_pos (by omega) (ev_eq (Ev.now _) (neg _ (by unfold bulkE; omega)).symm)
  · have e : lftOf (left - (K.size : Int)) (A.length + bulkL A) = -1 := by unfold lftOf; rw [if_neg c1]
    rw [e]
    exact ev_pos (by omega) (ev_eq (Ev.now _) (neg _ (by unfold bulkE; omega)).symm)
theorem toE_ev (K : ByteArray) (kd : Int) (A E : List S77) (T C Pb : ByteArray) (y m d : Int) (c : Bool) (v : Int) (Pg X : ByteArray) (lA : A.length ≤ 1048576) (sA : ∀ x ∈ A, x.f0.length ≤ 1048576) (lE : E.length ≤ 1048576) (sE : ∀ x ∈ E, x.f0.length ≤ 1048576) :
    Ev (fun k => laws_toEntry.f k K kd A E T C Pb y m d c v Pg X) (K, kd, A.map conv, E.map conv, T, C, Pb, y, m, d, c, v, Pg, X) := by
  unfold laws_toEntry.f
  exact Ev.bind (toL_ev A lA sA) (Ev.bind (toL_ev E lE sE) (Ev.now _))
theorem eqE_same (K : ByteArray) (kd : Int) (A E : List S75) (T C Pb : ByteArray) (y m d : Int) (c : Bool) (v : Int) (Pg X : ByteArray) (hA : ∀ x ∈ A, okS x) (lA : A.length ≤ 1048576) (hE : ∀ x ∈ E, okS x) (lE : E.length ≤ 1048576) :
    Ev (fun k => laws_eqEntry.f k K kd A E T C Pb y m d c v Pg X K kd A E T C Pb y m d c v Pg X) true := by
  have hd : laws_eqDate.f y m d c y m d c = some true := by unfold laws_eqDate.f; simp
  unfold laws_eqEntry.f
  exact ev_pos rfl (ev_pos rfl (Ev.bind (eqL_same A hA lA) (ev_pos rfl (Ev.bind (eqL_same E hE lE) (ev_pos rfl (ev_pos rfl (ev_pos rfl (ev_pos rfl (ev_bind0 hd (ev_pos rfl (ev_pos rfl (ev_pos rfl (ev_pos rfl (Ev.now _))))))))))))))
def convE (x : S59) : S51 := ⟨x.f0, x.f1, x.f2.map conv, x.f3.map conv, x.f4, x.f5, x.f6, (⟨x.f7.f0, x.f7.f1, x.f7.f2, x.f7.f3⟩ : S49), x.f8, x.f9, x.f10⟩
def bulk1 (x : S59) : Nat := bulkE x.f0 x.f2 x.f3 x.f4 x.f5 x.f6 x.f9 x.f10
def bulkB (l : List S59) : Nat := (l.map bulk1).sum
theorem rdLE (l : List S59) (i : Nat) (h : i < l.length) : rd_T59 l (i : Int) = l[i] := by simp [rd_T59, h]
theorem rdIE (l : List S51) (i : Nat) (h : i < l.length) : rd_T51 l (i : Int) = l[i] := by simp [rd_T51, h]
theorem bulkB_cons (a : S59) (l : List S59) : bulkB (a :: l) = bulk1 a + bulkB l := by simp [bulkB]
theorem bulkB_mem {l : List S59} {x : S59} (h : x ∈ l) : bulk1 x ≤ bulkB l := by
  induction l with
  | nil => simp at h
  | cons a l ih =>
    rw [bulkB_cons]
    rcases List.mem_cons.1 h with rfl | h
    · omega
    · have := ih h; omega
theorem sz1_ev (x : S59) (hx : ok59 x) (left : Int) (h0 : 0 ≤ left) (h1 : left ≤ 1048576) : Ev (fun k => laws_szEntry.f k (x).f0 (x).f1 (x).f2 (x).f3 (x).f4 (x).f5 (x).f6 (x).f7.f0 (x).f7.f1 (x).f7.f2 (x).f7.f3 (x).f8 (x).f9 (x).f10 left) (lftOf left (bulk1 x)) := by
  obtain ⟨b0, _, b2, b3, b4, b5, b6, _, _, b9, b10⟩ := hx
  exact szE_ev (x).f0 (x).f1 (x).f2 (x).f3 (x).f4 (x).f5 (x).f6 (x).f7.f0 (x).f7.f1 (x).f7.f2 (x).f7.f3 (x).f8 (x).f9 (x).f10 b2.2 b2.1 b3.2 b3.1 b0 b4 b5 b6 b9 b10 left h0 h1
theorem szB_loop (l : List S59) (hb : ∀ x ∈ l, ok59 x) (hl : l.length ≤ 9223372036854775807) (d : Nat) : ∀ (left : Int) (i : Nat), 0 ≤ left → left ≤ 1048576 → l.length - i = d → i ≤ l.length →
    Ev (fun k => laws_szEntryS.l0 k l left (i : Int)) (lftOf left (bulkB (l.drop i))) := by
  induction d with
  | zero =>
    intro left i h0 h1 hd hi
    refine Ev.step (f := fun _ => some left) (fun k => ?_) (ev_eq (Ev.now _) ?_)
    · simp only [laws_szEntryS.l0]; rw [if_neg (by omega)]
    · rw [List.drop_of_length_le (by omega)]; unfold lftOf bulkB; simp; omega
  | succ d ih =>
    intro left i h0 h1 hd hi
    have hlt : i < l.length := by omega
    have hsz := sz1_ev l[i] (hb l[i] (List.getElem_mem hlt)) left h0 h1
    have hw : wrap64 ((i : Int) + 1) = ((i + 1 : Nat) : Int) := by rw [w64 (by omega) (by omega)]; rfl
    rw [List.drop_eq_getElem_cons hlt, bulkB_cons]
    refine Ev.step (f := fun k => (laws_szEntry.f k (l[i]).f0 (l[i]).f1 (l[i]).f2 (l[i]).f3 (l[i]).f4 (l[i]).f5 (l[i]).f6 (l[i]).f7.f0 (l[i]).f7.f1 (l[i]).f7.f2 (l[i]).f7.f3 (l[i]).f8 (l[i]).f9 (l[i]).f10 left).bind fun t276 => (if t276 < 0 then (some (-1)) else (laws_szEntryS.l0 k l t276 ((i + 1 : Nat) : Int)))) (fun k => ?_) (Ev.bind hsz ?_)
    · simp only [laws_szEntryS.l0, rdLE l i hlt, hw]
      rw [if_pos (by omega), if_pos (by omega)]
    · by_cases c : (bulk1 l[i] : Int) ≤ left
      · have e : lftOf left (bulk1 l[i]) = left - bulk1 l[i] := by unfold lftOf; rw [if_pos c]
        rw [e]
        refine ev_neg (by omega) (ev_eq (ih _ (i + 1) (by omega) (by omega) (by omega) (by omega)) ?_)
        unfold lftOf; split <;> split <;> omega
      · have e : lftOf left (bulk1 l[i]) = -1 := by unfold lftOf; rw [if_neg c]
        rw [e]
        exact ev_pos (by omega) (ev_eq (Ev.now _) (by unfold lftOf; rw [if_neg (by omega)]))
theorem szB_ev (l : List S59) (hb : ∀ x ∈ l, ok59 x) (hl : l.length ≤ 9223372036854775807) (left : Int) (h0 : 0 ≤ left) (h1 : left ≤ 1048576) :
    Ev (fun k => laws_szLibrary.f k l left) (lftOf left (l.length + bulkB l)) := by
  have inner : Ev (fun k => laws_szEntryS.f k l left) (lftOf left (l.length + bulkB l)) := by
    unfold laws_szEntryS.f
    have hw : wrap64 (left - (l.length : Int)) = left - (l.length : Int) := w64 (by omega) (by omega)
    rw [hw]
    by_cases hn : left - (l.length : Int) < 0
    · exact ev_pos hn (ev_eq (Ev.now _) (by unfold lftOf; rw [if_neg (by omega)]))
    · refine ev_neg hn (ev_eq (szB_loop l hb hl l.length (left - l.length) 0 (by omega) (by omega) rfl (by omega)) ?_)
      rw [List.drop_zero]
      unfold lftOf; split <;> split <;> omega
  unfold laws_szLibrary.f
  refine Ev.bind inner ?_
  by_cases c : ((l.length + bulkB l : Nat) : Int) ≤ left
  · exact ev_neg (by unfold lftOf; rw [if_pos c]; omega) (Ev.now _)
  · have e : lftOf left (l.length + bulkB l) = -1 := by unfold lftOf; rw [if_neg c]
    rw [e]; exact ev_pos (by omega) (Ev.now _)
theorem parts1 {x : S59} (h : bulk1 x ≤ 1048576) : (x.f2.length ≤ 1048576 ∧ bulkL x.f2 ≤ 1048576) ∧ (x.f3.length ≤ 1048576 ∧ bulkL x.f3 ≤ 1048576) := by
  unfold bulk1 bulkE at h; omega
theorem given1 {l : List S77} (h : bulkL l ≤ 1048576) : ∀ x ∈ l, x.f0.length ≤ 1048576 := fun x hx => by have := bulkL_mem hx; unfold bulkN bulkS at this; omega
theorem toB_loop (l : List S59) (hl : l.length ≤ 1048576) (hs : ∀ x ∈ l, bulk1 x ≤ 1048576) (d : Nat) : ∀ (i : Nat), l.length - i = d → i ≤ l.length →
    Ev (fun k => laws_toEntryS.l0 k l ((l.take i).map convE ++ List.replicate (l.length - i) z51) (i : Int)) (l.map convE) := by
  induction d with
  | zero =>
    intro i hd hi
    refine Ev.step (f := fun _ => some (l.map convE)) (fun k => ?_) (Ev.now _)
    simp only [laws_toEntryS.l0]; rw [if_neg (by omega), hd, List.take_of_length_le (by omega)]; simp
  | succ d ih =>
    intro i hd hi
    have hlt : i < l.length := by omega
    have hw : wrap64 ((i : Int) + 1) = ((i + 1 : Nat) : Int) := by rw [w64 (by omega) (by omega)]; rfl
    have hlen : ((l.take i).map convE).length = i := by simp; omega
    have hall : ((l.take i).map convE ++ List.replicate (l.length - i) z51).length = l.length := by simp; omega
    have e : ((l.take i).map convE ++ List.replicate (l.length - i) z51).set i (convE l[i]) = (l.take (i + 1)).map convE ++ List.replicate (l.length - (i + 1)) z51 := by
      rw [List.set_append_right _ _ (by omega), hlen, Nat.sub_self, show l.length - i = (l.length - (i + 1)) + 1 by omega, List.replicate_succ, List.set_cons_zero, List.take_succ_eq_append_getElem hlt, List.map_append, List.append_assoc]
      rfl
    obtain ⟨⟨p1, p2⟩, p3, p4⟩ := parts1 (hs _ (List.getElem_mem hlt))
    have ht := toE_ev (l[i]).f0 (l[i]).f1 (l[i]).f2 (l[i]).f3 (l[i]).f4 (l[i]).f5 (l[i]).f6 (l[i]).f7.f0 (l[i]).f7.f1 (l[i]).f7.f2 (l[i]).f7.f3 (l[i]).f8 (l[i]).f9 (l[i]).f10 p1 (given1 p2) p3 (given1 p4)
    obtain ⟨K, hK⟩ := ht
    obtain ⟨K', hK'⟩ := ih (i + 1) (by omega) (by omega)
    refine ⟨K + K' + 1, fun k hk => ?_⟩
    obtain ⟨k', rfl⟩ : ∃ k', k = k' + 1 := ⟨k - 1, by omega⟩
    have e1 := hK k' (by omega)
    have e2 := hK' k' (by omega)
    simp only at e1 e2
    have a3 : (i : Int) < ((((l.take i).map convE ++ List.replicate (l.length - i) z51).length : Nat) : Int) := by rw [hall]; omega
    simp only [laws_toEntryS.l0, rdLE l i hlt, hw, if_pos a3, Int.toNat_natCast]
    rw [if_pos (by omega), if_pos (by omega), e1]
    simp only [Option.bind_some]
    rw [← e] at e2
    exact e2
theorem toB_ev (l : List S59) (hl : l.length ≤ 1048576) (hs : ∀ x ∈ l, bulk1 x ≤ 1048576) : Ev (fun k => laws_toLibrary.f k l) (l.map convE) := by
  unfold laws_toLibrary.f laws_toEntryS.f
  refine Ev.bind (ev_pos (by omega) (ev_pos (by omega) ?_)) (Ev.now _)
  have := toB_loop l hl hs l.length 0 rfl (by omega)
  simpa using this
structure EOk (x : S51) : Prop where
  a : ∀ y ∈ x.f2, okS y
  la : x.f2.length ≤ 1048576
  e : ∀ y ∈ x.f3, okS y
  le : x.f3.length ≤ 1048576
theorem convE_ok {l : List S59} (h : ∀ x ∈ l, bulk1 x ≤ 1048576) : ∀ x ∈ l.map convE, EOk x := by
  intro x hx
  obtain ⟨y, hy, rfl⟩ := List.mem_map.1 hx
  obtain ⟨⟨p1, p2⟩, p3, p4⟩ := parts1 (h y hy)
  exact ⟨conv_ok p2, by show (y.f2.map conv).length ≤ _; rw [List.length_map]; exact p1, conv_ok p4, by show (y.f3.map conv).length ≤ _; rw [List.length_map]; exact p3⟩
theorem eqB_loop (l : List S51) (ho : ∀ x ∈ l, EOk x) (hl : l.length ≤ 1048576) (d : Nat) : ∀ i : Nat, i ≤ l.length → l.length - i = d → Ev (fun k => laws_eqEntryS.l0 k l l (i : Int)) true := by
  induction d with
  | zero =>
    intro i h1 hd
    refine Ev.step (f := fun _ => some true) (fun k => ?_) (Ev.now _)
    simp only [laws_eqEntryS.l0]; rw [if_neg (by omega)]
  | succ d ih =>
    intro i h1 hd
    have hi : i < l.length := by omega
    have hw : wrap64 ((i : Int) + 1) = ((i + 1 : Nat) : Int) := by rw [w64 (by omega) (by omega)]; rfl
    have o := ho _ (List.getElem_mem hi)
    refine Ev.step (f := fun k => (laws_eqEntry.f k (l[i]).f0 (l[i]).f1 (l[i]).f2 (l[i]).f3 (l[i]).f4 (l[i]).f5 (l[i]).f6 (l[i]).f7.f0 (l[i]).f7.f1 (l[i]).f7.f2 (l[i]).f7.f3 (l[i]).f8 (l[i]).f9 (l[i]).f10 (l[i]).f0 (l[i]).f1 (l[i]).f2 (l[i]).f3 (l[i]).f4 (l[i]).f5 (l[i]).f6 (l[i]).f7.f0 (l[i]).f7.f1 (l[i]).f7.f2 (l[i]).f7.f3 (l[i]).f8 (l[i]).f9 (l[i]).f10).bind fun t308 => (if t308 = true then (laws_eqEntryS.l0 k l l ((i + 1 : Nat) : Int)) else (some false))) (fun k => ?_) (Ev.bind (eqE_same (l[i]).f0 (l[i]).f1 (l[i]).f2 (l[i]).f3 (l[i]).f4 (l[i]).f5 (l[i]).f6 (l[i]).f7.f0 (l[i]).f7.f1 (l[i]).f7.f2 (l[i]).f7.f3 (l[i]).f8 (l[i]).f9 (l[i]).f10 o.a o.la o.e o.le) (ev_pos rfl (ih (i + 1) (by omega) (by omega))))
    simp only [laws_eqEntryS.l0, rdIE l i hi, hw]
    rw [if_pos (by omega), if_pos (by omega), if_pos (by omega)]
theorem eqB_same (l : List S51) (ho : ∀ x ∈ l, EOk x) (hl : l.length ≤ 1048576) : Ev (fun k => laws_eqLibrary.f k l l) true := by
  unfold laws_eqLibrary.f laws_eqEntryS.f
  exact Ev.bind (ev_pos rfl (eqB_loop l ho hl _ 0 (by omega) rfl)) (ev_pos rfl (Ev.now _))
def entS (x : S51) : Bool := entD (x).f0 (x).f1 (x).f2 (x).f3 (x).f4 (x).f5 (x).f6 (x).f7.f0 (x).f7.f1 (x).f7.f2 (x).f7.f3 (x).f8 (x).f9 (x).f10
theorem spec_entS (x : S51) (o : EOk x) : Ev (fun k => spec_l4Entry.f k (x).f0 (x).f1 (x).f2 (x).f3 (x).f4 (x).f5 (x).f6 (x).f7.f0 (x).f7.f1 (x).f7.f2 (x).f7.f3 (x).f8 (x).f9 (x).f10) (entS x) := spec_ent (x).f0 (x).f1 (x).f2 (x).f3 (x).f4 (x).f5 (x).f6 (x).f7.f0 (x).f7.f1 (x).f7.f2 (x).f7.f3 (x).f8 (x).f9 (x).f10 o.a o.la o.e o.le
theorem impl_entS (x : S51) (o : EOk x) : Ev (fun k => impl_IsValidEntry.f k (x).f0 (x).f1 (x).f2 (x).f3 (x).f4 (x).f5 (x).f6 (x).f7.f0 (x).f7.f1 (x).f7.f2 (x).f7.f3 (x).f8 (x).f9 (x).f10) (entS x) := impl_ent (x).f0 (x).f1 (x).f2 (x).f3 (x).f4 (x).f5 (x).f6 (x).f7.f0 (x).f7.f1 (x).f7.f2 (x).f7.f3 (x).f8 (x).f9 (x).f10 o.a o.la o.e o.le
def stepD (l : List S51) (i : Nat) : Bool := entS (rd_T51 l (i : Int)) && (decide (i = 0) || Op.bytesLess ((rd_T51 l ((i : Int) - 1)).f0).toList ((rd_T51 l (i : Int)).f0).toList)
def libF (l : List S51) : Nat → Nat → Bool
  | 0, _ => true
  | d + 1, i => stepD l i && libF l d (i + 1)
def libD (l : List S51) : Bool := libF l l.length 0 && decide (l.length ≤ 8)
theorem spec_lib_loop (l : List S51) (ho : ∀ x ∈ l, EOk x) (hl : l.length ≤ 1048576) (d : Nat) : ∀ i : Nat, i ≤ l.length → l.length - i = d → Ev (fun k => spec_l4Good.l0 k (i : Int) l) (libF l d i) := by
  induction d with
  | zero =>
    intro i h1 hd
    refine Ev.step (f := fun _ => some true) (fun k => ?_) (Ev.now _)
    simp only [spec_l4Good.l0]; rw [if_neg (by omega)]
  | succ d ih =>
    intro i h1 hd
    have hi : i < l.length := by omega
    have hw : wrap64 ((i : Int) + 1) = ((i + 1 : Nat) : Int) := by rw [w64 (by omega) (by omega)]; rfl
    have hw' : wrap64 ((i : Int) - 1) = (i : Int) - 1 := w64 (by omega) (by omega)
    have hr := rdIE l i hi
    have he := spec_entS l[i] (ho _ (List.getElem_mem hi))
    have hn := ih (i + 1) (by omega) (by omega)
    show Ev _ (stepD l i && libF l d (i + 1))
    unfold stepD
    rw [hr]
    refine Ev.step (f := fun k => (spec_l4Entry.f k (l[i]).f0 (l[i]).f1 (l[i]).f2 (l[i]).f3 (l[i]).f4 (l[i]).f5 (l[i]).f6 (l[i]).f7.f0 (l[i]).f7.f1 (l[i]).f7.f2 (l[i]).f7.f3 (l[i]).f8 (l[i]).f9 (l[i]).f10).bind fun t763 => (if t763 = true then (if (decide (i = 0) || Op.bytesLess ((rd_T51 l ((i : Int) - 1)).f0).toList (l[i].f0).toList) = true then (spec_l4Good.l0 k ((i + 1 : Nat) : Int) l) else (some false)) else (some false))) (fun k => ?_) ?_
    · simp only [spec_l4Good.l0, hr, hw, hw']
      rw [if_pos (by omega), if_pos (by omega)]
      by_cases c : i = 0
      · have c' : ¬ (i : Int) > 0 := by omega
        simp only [if_neg c', decide_eq_true c, Bool.true_or, if_true]
      · have c' : (i : Int) > 0 := by omega
        have a1 : (0 : Int) ≤ (i : Int) - 1 := by omega
        have a2 : (i : Int) - 1 < (l.length : Int) := by omega
        simp only [if_pos c', if_pos a1, if_pos a2, decide_eq_false c, Bool.false_or]
    · refine Ev.bind he ?_
      cases entS l[i] with
      | false => exact ev_neg (by simp) (ev_eq (Ev.now _) (by simp))
      | true =>
        refine ev_pos rfl ?_
        cases (decide (i = 0) || Op.bytesLess ((rd_T51 l ((i : Int) - 1)).f0).toList (l[i].f0).toList) with
        | true => exact ev_pos rfl (ev_eq hn (by simp))
        | false => exact ev_neg (by simp) (ev_eq (Ev.now _) (by simp))
theorem impl_lib_loop (l : List S51) (ho : ∀ x ∈ l, EOk x) (hl : l.length ≤ 1048576) (d : Nat) : ∀ i : Nat, i ≤ l.length → l.length - i = d → Ev (fun k => impl_IsValidLibrary.l0 k l (l.length : Int) (i : Int) l) (libF l d i && decide (l.length ≤ 8)) := by
  induction d with
  | zero =>
    intro i h1 hd
    refine Ev.step (f := fun _ => some (decide ((l.length : Int) ≤ 8))) (fun k => ?_) (ev_eq (Ev.now _) ?_)
    · simp only [impl_IsValidLibrary.l0]; rw [if_neg (by omega)]
    · show _ = (true && _)
      rw [Bool.true_and, decide_eq_decide]; omega
  | succ d ih =>
    intro i h1 hd
    have hi : i < l.length := by omega
    have hw : wrap64 ((i : Int) + 1) = ((i + 1 : Nat) : Int) := by rw [w64 (by omega) (by omega)]; rfl
    have hw' : wrap64 ((i : Int) - 1) = (i : Int) - 1 := w64 (by omega) (by omega)
    have hr := rdIE l i hi
    have he := impl_entS l[i] (ho _ (List.getElem_mem hi))
    have hn := ih (i + 1) (by omega) (by omega)
    show Ev _ ((stepD l i && libF l d (i + 1)) && _)
    unfold stepD
    rw [hr]
    refine Ev.step (f := fun k => (impl_IsValidEntry.f k (l[i]).f0 (l[i]).f1 (l[i]).f2 (l[i]).f3 (l[i]).f4 (l[i]).f5 (l[i]).f6 (l[i]).f7.f0 (l[i]).f7.f1 (l[i]).f7.f2 (l[i]).f7.f3 (l[i]).f8 (l[i]).f9 (l[i]).f10).bind fun t763 => (if t763 = true then (if (decide (i = 0) || Op.bytesLess ((rd_T51 l ((i : Int) - 1)).f0).toList (l[i].f0).toList) = true then (impl_IsValidLibrary.l0 k l (l.length : Int) ((i + 1 : Nat) : Int) l) else (some false)) else (some false))) (fun k => ?_) ?_
    · simp only [impl_IsValidLibrary.l0, hr, hw, hw']
      rw [if_pos (by omega), if_pos (by omega), if_pos (by omega)]
      by_cases c : i = 0
      · have c' : ¬ (i : Int) > 0 := by omega
        simp only [if_neg c', decide_eq_true c, Bool.true_or, if_true]
      · have c' : (i : Int) > 0 := by omega
        have a1 : (0 : Int) ≤ (i : Int) - 1 := by omega
        have a2 : (i : Int) - 1 < (l.length : Int) := by omega
        simp only [if_pos c', if_pos a1, if_pos a2, decide_eq_false c, Bool.false_or]
    · refine Ev.bind he ?_
      cases entS l[i] with
      | false => exact ev_neg (by simp) (ev_eq (Ev.now _) (by simp))
      | true =>
        refine ev_pos rfl ?_
        cases (decide (i = 0) || Op.bytesLess ((rd_T51 l ((i : Int) - 1)).f0).toList (l[i].f0).toList) with
        | true => exact ev_pos rfl (ev_eq hn (by simp))
        | false => exact ev_neg (by simp) (ev_eq (Ev.now _) (by simp))
theorem spec_lib (l : List S51) (ho : ∀ x ∈ l, EOk x) (hl : l.length ≤ 1048576) : Ev (fun k => spec_l4Good.f k l) (libD l) := by
  unfold spec_l4Good.f libD
  by_cases c : l.length ≤ 8
  · exact ev_neg (by omega) (ev_eq (spec_lib_loop l ho hl _ 0 (by omega) rfl) (by simp [c]))
  · exact ev_pos (by omega) (ev_eq (Ev.now _) (by simp [c]))
theorem impl_lib (l : List S51) (ho : ∀ x ∈ l, EOk x) (hl : l.length ≤ 1048576) : Ev (fun k => impl_IsValidLibrary.f k l) (libD l) := by
  unfold impl_IsValidLibrary.f libD
  exact impl_lib_loop l ho hl _ 0 (by omega) rfl
end Go.Proofs.YtoiodkbdmdbmpaaDoor.G

namespace Go.Proofs.YtoiodkbdmdbmpaaDoor.Pure
open Go.RowKit Go.Proofs.YtoiodkbdmdbmpaaDoor.G Go.Proofs.YtoiodkbdmdbmpaaDoorW.PrintWords Go.Proofs.YtoiodkbdmdbmpaaDoorW.PrintLast Go.Proofs.YtoiodkbdmdbmpaaDoor.B Go.Proofs.YtoiodkbdmdbmpaaDoor.Opn
set_option linter.unusedVariables false
set_option linter.unusedSimpArgs false
theorem ev_shift {α : Type} {f : Nat → Option α} {v : α} (h : Ev (fun k => f (k + 1)) v) : Ev f v := Ev.step (f := fun k => f (k + 1)) (fun _ => rfl) h
theorem find_loop (l : List S51) (a : ByteArray) (hl : l.length ≤ 1048576) (d : Nat) : ∀ i : Nat, i ≤ l.length → l.length - i = d → Ev (fun k => spec_l4Find.l0 k a (i : Int) l) (impl_entryIndex.ix a (l.drop i) (i : Int)) := by
  induction d with
  | zero =>
    intro i h1 hd
    refine Ev.step (f := fun _ => some (-1)) (fun k => ?_) (ev_eq (Ev.now _) ?_)
    · simp only [spec_l4Find.l0]; rw [if_neg (by omega)]
    · rw [List.drop_of_length_le (by omega)]; rfl
  | succ d ih =>
    intro i h1 hd
    have hi : i < l.length := by omega
    have hw : wrap64 ((i : Int) + 1) = ((i + 1 : Nat) : Int) := by rw [w64 (by omega) (by omega)]; rfl
    have hr := rdIE l i hi
    rw [List.drop_eq_getElem_cons hi]
    by_cases q : (l[i]).f0.toList = a.toList
    · refine Ev.step (f := fun _ => some (i : Int)) (fun k => ?_) (ev_eq (Ev.now _) ?_)
      · simp only [spec_l4Find.l0, hr]; rw [if_pos (by omega), if_pos (by omega), if_pos q]
      · simp only [impl_entryIndex.ix]; rw [if_pos q]
    · refine Ev.step (f := fun k => spec_l4Find.l0 k a ((i + 1 : Nat) : Int) l) (fun k => ?_) (ev_eq (ih (i + 1) (by omega) (by omega)) ?_)
      · simp only [spec_l4Find.l0, hr, hw]; rw [if_pos (by omega), if_pos (by omega), if_neg q]
      · simp only [impl_entryIndex.ix]; rw [if_neg q]; rfl
theorem find_ev (l : List S51) (a : ByteArray) (hl : l.length ≤ 1048576) : Ev (fun k => spec_l4Find.f k l a) (impl_entryIndex.ix a l 0) := by
  unfold spec_l4Find.f
  have := find_loop l a hl _ 0 (by omega) rfl
  rw [List.drop_zero] at this
  exact this
def fiR (l : List S51) (a : ByteArray) : Int × Bool := if libD l = true then (if impl_entryIndex.ix a l 0 < 0 then (0, false) else (impl_entryIndex.ix a l 0, true)) else (0, false)
theorem spec_fi (l : List S51) (a : ByteArray) (ho : ∀ x ∈ l, EOk x) (hl : l.length ≤ 1048576) : Ev (fun k => spec_FindEntry.f k l a) (fiR l a) := by
  unfold spec_FindEntry.f fiR
  exact Ev.bind (spec_lib l ho hl) (ev_ite (fun _ => Ev.bind (find_ev l a hl) (ev_ite (fun _ => Ev.now _) (fun _ => Ev.bind (find_ev l a hl) (Ev.now _)))) (fun _ => Ev.now _))
theorem impl_fi (l : List S51) (a : ByteArray) (ho : ∀ x ∈ l, EOk x) (hl : l.length ≤ 1048576) : Ev (fun k => impl_FindEntry.f k l a) (fiR l a) := by
  unfold impl_FindEntry.f fiR
  have h : impl_entryIndex.f l a = some (impl_entryIndex.ix a l 0) := by unfold impl_entryIndex.f; rw [if_pos (by omega)]
  exact ev_bind0 h (Ev.bind (impl_lib l ho hl) (ev_ite (fun _ => ev_ite (fun _ => Ev.now _) (fun _ => Ev.now _)) (fun _ => Ev.now _)))
theorem FnExactFindEntry : laws_FnExactFindEntry.Pur := by
  intro l a hb _
  apply Ev.rounds
  unfold laws_FnExactFindEntry.f
  by_cases q0 : (a.size : Int) > 1048576
  · exact ev_pos q0 (Ev.now _)
  refine ev_neg q0 (Ev.bind (szB_ev l hb.2 hb.1 1048576 (by omega) (by omega)) ?_)
  by_cases q : ((l.length + bulkB l : Nat) : Int) ≤ 1048576
  · have hl : lftOf 1048576 (l.length + bulkB l) = 1048576 - (l.length + bulkB l : Nat) := by unfold lftOf; rw [if_pos q]
    rw [hl]
    have hs : ∀ x ∈ l, bulk1 x ≤ 1048576 := fun x hx => by have := bulkB_mem hx; omega
    have ho := convE_ok hs
    have ll : (l.map convE).length ≤ 1048576 := by rw [List.length_map]; omega
    have ht := toB_ev l (by omega) hs
    have he := eqB_same _ ho ll
    have hj : Ev (fun k => laws_FnExactFindEntry.j0 k false l (l.map convE)) true := by
      apply ev_shift
      simp only [laws_FnExactFindEntry.j0]
      exact ev_neg (by decide) (Ev.bind ht (Ev.bind he (ev_pos rfl (Ev.now _))))
    refine ev_neg (by omega) (Ev.bind ht (Ev.bind (spec_fi _ a ho ll) (Ev.bind ht (Ev.bind (impl_fi _ a ho ll) (ev_pos rfl ?_)))))
    have e : ((fiR (l.map convE) a).2 != (fiR (l.map convE) a).2) = false := by simp
    rw [e]
    exact hj
  · have hl : lftOf 1048576 (l.length + bulkB l) = -1 := by unfold lftOf; rw [if_neg q]
    rw [hl]
    exact ev_pos (by omega) (Ev.now _)
end Go.Proofs.YtoiodkbdmdbmpaaDoor.Pure
