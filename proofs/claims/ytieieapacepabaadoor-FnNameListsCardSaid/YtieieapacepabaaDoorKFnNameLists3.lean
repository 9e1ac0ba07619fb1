/- Texts of this session for the law FnNameLists, put together by a program (merge.py): each ends with its namespace; conditions stand with each theorem. -/
import Derived.Test.YtieieapacepabaaDoorKFnNameLists2
import Derived.Shelf.Strings.Builder1
import Derived.Shelf.Strings.Builder2
import Derived.Shelf.Strings.OnBuilder
import Derived.Shelf.Small.Strs
import Derived.Shelf.Strings.Search1
import Derived.Shelf.Strings.Search2
import Derived.Shelf.Strings.Search3
import Derived.Shelf.Strings.Count
import Derived.Shelf.LaysM
import Derived.Shelf.Strings.Shaped
import Derived.Shelf.Strings.Prefix
import Derived.Shelf.Strings.Split
import Derived.Shelf.Strings.SplitShaped
import Derived.Shelf.Unicode.DecodeSlow
import Derived.Ground.SlgfProg
import Derived.Shelf.SlicesE.IndexFunc
import Derived.Shelf.SlicesE.DeleteFunc
import Derived.Test.YtieieapacepabaaDoorProg
namespace Go.Proofs.YtieieapacepabaaDoor.G
open Go.RowKit Go.Proofs.YtieieapacepabaaDoorW.PrintWords Go.Proofs.YtieieapacepabaaDoorW.PrintLast Go.Proofs.YtieieapacepabaaDoorW.PrintMore
open Go.Proofs.YtieieapacepabaaDoor.Gl Go.Proofs.YtieieapacepabaaDoor.Ext
attribute [local go_sem] max2_int min2_int max_two min_two max_three min_three max_four min_four   -- for this text's walks alone
set_option linter.unusedVariables false
set_option linter.unusedSimpArgs false

/-! ### spec_l1Cur_names: function 60 -/
def spec_l1Cur_names.l0 : Nat → List (S26) → Int → List Int → Int → Int → Option ((List (S26)) × Int × Int)
 | 0, _, _, _, _, _ => none
 | k + 1, x3, x4, x1000, x1001, x1002 => if x4 > 0 then ((spec_l1Cur_name.f k x1000 x1001 x1002).bind fun bt435 => (if x3.length < 1954687338268 then (spec_l1Cur_names.l0 k (x3 ++ [(⟨bt435.1, bt435.2.1, bt435.2.2.1, bt435.2.2.2.1⟩ : S26)]) (wrap64 (x4 - 1)) x1000 bt435.2.2.2.2.1 bt435.2.2.2.2.2) else (none))) else (some (x3, x1001, x1002))
def spec_l1Cur_names.f (k : Nat) (s0_0 : List Int) (s0_1 : Int) (s0_2 : Int) : Option ((List (S26)) × Int × Int) := (spec_l1Cur_pick.f s0_0 s0_1 s0_2 4).bind fun bt432 => (spec_l1Cur_names.l0 k (([] : List (S26))) bt432.1 s0_0 bt432.2.1 bt432.2.2)
theorem spec_l1Cur_names.mono_l : ∀ k, (∀ y0 y1 y2 y3 y4, LeO (spec_l1Cur_names.l0 k y0 y1 y2 y3 y4) (spec_l1Cur_names.l0 (k + 1) y0 y1 y2 y3 y4))
 | 0 => fun _ _ _ _ _ r h => by simp [spec_l1Cur_names.l0] at h
 | k + 1 => by
  have ih0 := spec_l1Cur_names.mono_l k
  ·
   intro y0 y1 y2 y3 y4
   unfold spec_l1Cur_names.l0
   repeat' first
   | (with_reducible exact ih0 _ _ _ _ _)
   | (with_reducible exact spec_l1Cur_name.mono _ _ _ _)
   | (with_reducible exact LeO.refl _)
   | (with_reducible exact LeO.none _)
   | (with_reducible refine LeO.ite ?_ ?_)
   | (with_reducible refine LeO.bind ?_ (fun _ => ?_))
   | exact ih0 _ _ _ _ _
   | exact spec_l1Cur_name.mono _ _ _ _
   | exact LeO.none _
   | refine LeO.ite ?_ ?_
   | refine LeO.bind ?_ (fun _ => ?_)
theorem spec_l1Cur_names.mono : ∀ a0 a1 a2 k, LeO (spec_l1Cur_names.f k a0 a1 a2) (spec_l1Cur_names.f (k + 1) a0 a1 a2) := by
 intro a0 a1 a2 k
 have ih0 := spec_l1Cur_names.mono_l k
 unfold spec_l1Cur_names.f
 repeat' first
   | (with_reducible exact ih0 _ _ _ _ _)
   | (with_reducible exact spec_l1Cur_name.mono _ _ _ _)
   | (with_reducible exact LeO.refl _)
   | (with_reducible exact LeO.none _)
   | (with_reducible refine LeO.ite ?_ ?_)
   | (with_reducible refine LeO.bind ?_ (fun _ => ?_))
   | exact ih0 _ _ _ _ _
   | exact spec_l1Cur_name.mono _ _ _ _
   | exact LeO.none _
   | refine LeO.ite ?_ ?_
   | refine LeO.bind ?_ (fun _ => ?_)
set_option maxHeartbeats 8000000 in
set_option maxRecDepth 100000 in
theorem spec_l1Cur_names.calls (k : Nat) (g : Nat) (s0_0 : List Int) (s0_1 : Int) (s0_2 : Int) (r1 : List (S26)) (r2 : Int) (r3 : Int) (w0 w : World) (hI : IsS45 w0 w g s0_0 s0_1 s0_2) (hB : Below w0.heap.size w0 w) (h : spec_l1Cur_names.f k s0_0 s0_1 s0_2 = some (r1, r2, r3)) :
  Calls Tryd.prog 60 #[.pointer (some ⟨g, 0, none⟩)] w fun e w' => ∃ v0_ : Value, e = .returned (v0_) ∧ Kd.S k26 26 w' w.heap.size (fun _ => True) v0_ r1 ∧ IsS45 w0 w' g s0_0 r2 r3 ∧ Below w0.heap.size w0 w' ∧ KeepBut w w' g none := by
 have HI0 := Aside0.mk hI
 have HK := Aside0.mk (KeepBut.refl w g none)
 have HL := Aside0.mk hB.size
 clear hI
 have HW0 := Aside0.mk hB.size
 have HB := Aside0.mk hB
 clear hB
 have H : ((spec_l1Cur_pick.f s0_0 s0_1 s0_2 4).bind fun bt432 => (spec_l1Cur_names.l0 k (([] : List (S26))) bt432.1 s0_0 bt432.2.1 bt432.2.2)) = some (r1, r2, r3) := h
 clear h
 obtain ⟨y429, hy429⟩ : ∃ y_ : List (S26), y_ = (([] : List (S26))) := ⟨_, rfl⟩
 replace H : ((spec_l1Cur_pick.f s0_0 s0_1 s0_2 4).bind fun bt432 => (spec_l1Cur_names.l0 k y429 bt432.1 s0_0 bt432.2.1 bt432.2.2)) = some (r1, r2, r3) := by first | (rw [hy429]; with_reducible exact H) | (have H2_ := (Option.bind_some _ _).symm.trans H; rw [hy429]; with_reducible exact H2_) | (have H2_ := (Option.bind_some _ _).symm.trans H; with_reducible exact H2_) | with_reducible exact H | (rw [hy429]; exact H) | exact H
 have Ny429 := Aside0.mk hy429
 clear hy429
 replace H := Option.bind_eq_some_iff.mp H
 obtain ⟨⟨t432, t433, t434⟩, A20, H⟩ := H
 replace H : (spec_l1Cur_names.l0 k y429 t432 s0_0 t433 t434) = some (r1, r2, r3) := H
 have A2 := Aside0.mk A20
 clear A20
 have H' := Aside0.mk H
 clear H
 go_enter Tryd.func60, Tryd.ntmps60
 go_wp2_with (first | ((with_reducible refine gate_dst (N := 5) rfl ?_); refine Kd.S_lit k26 _ 26 ?hg (N := 5) ?hd (xs := ([] : List (S26))) (inner := []) (ok := fun _ => True) (okp := fun _ => True) ?hr ?hp (fun _ hk => hk) trivial (Below.refl _ _) (Nat.le_refl _) (by simp) ?_; (case hd => rfl); (case hg => rfl); (case hr => first | (go_simp; done) | (go_simp; rfl)); (case hp => exact (Reps.none _ _)); intro v430 w3 ho4 hb hg_ hnew_; clear hg_ hnew_; (first | rw [← Ny429.out] at ho4 | (simp only [Int.reduceToNat] at ho4; rw [← Ny429.out] at ho4)); have n0_ := Aside0.mk (Kd.S_lower ho4 (keep_size (w := w) (g := g) (row := none) au36)); have n1_ := Aside0.mk (IsS45.below au22 hb); have n2_ := Aside0.mk (KeepBut.trans au36 (KeepBut.of_below hb g none) (.inl rfl)); have n3_ := Aside0.mk (below_step au21 hb); clear HI0; clear HK; clear HB; have HO431 := n0_; have HI0 := n1_; have HK := n2_; have HB := n3_; clear n0_ n1_ n2_ n3_; clear hb ho4) | ((with_reducible refine gate_callee (f := 36) rfl ?_); refine goesL_ (some 7) rfl rfl Tryd.func36 (by kernel_rfl) rfl #[.pointer (some ⟨g, 0, none⟩), .int .i64 4] rfl au37 ?_; (with_reducible refine (spec_l1Cur_pick.calls g s0_0 s0_1 s0_2 4 t432 t433 t434 w0 _ ?side1 ?side2 A2.out).mono ?_); (case side1 => repeat (first | (with_reducible first | exact HI0.out | apply IsS45.alloc | apply IsS45.drewN | apply IsS45.drew | apply IsS45.set_1 | apply IsS45.set_2) | exact HI0.out)); (case side2 => repeat (first | (with_reducible first | exact HB.out | apply below_alloc | apply pw_below_drewN | apply below_drew1 | refine below_set ?_ (IsS45.ge HI0.out)) | exact HB.out)); rintro e w5 ⟨rfl, hi, hb, hk⟩; refine ⟨_, rfl, ?_⟩; have n0_ := Aside0.mk (Kd.S_mono (Kd.S_keep (IsS45.apartS (show IsS45 w0 _ g s0_0 s0_1 s0_2 from by repeat (first | (with_reducible first | exact HI0.out | apply IsS45.alloc | apply IsS45.drewN | apply IsS45.drew | apply IsS45.set_1 | apply IsS45.set_2) | exact HI0.out)) (by (with_reducible repeat (first | apply Kd.S_alloc | apply Kd.S_drewN | apply Kd.S_drew)); exact HO431.out) (by decide)) hk (fun _ h => h.2)) (fun _ h => h.1)); have n1_ := Aside0.mk (KeepBut.trans au36 hk (.inl rfl)); have n2_ := Aside0.mk (hb); have n3_ := Aside0.mk (hi); clear HO431; clear HK; clear HB; clear HI0; have HO431 := n0_; have HK := n1_; have HB := n2_; have HI0 := n3_; clear n0_ n1_ n2_ n3_; (try clear hb); (try clear hb2); (try clear hk); (try clear hi)))
 go_loopg [3, 4] k (fun kq v3 v4 w' => ∃ (x3_1 : List (S26)) (x4_1 : Int) (x1001_1 : Int) (x1002_1 : Int), v4 = .int .i64 x4_1 ∧ Aside0 (spec_l1Cur_names.l0 kq x3_1 x4_1 s0_0 x1001_1 x1002_1 = some (r1, r2, r3)) ∧ Aside0 (kq ≤ k) ∧ Aside0 (Kd.S k26 26 w' w.heap.size (fun _ => True) v3 x3_1) ∧ Aside0 (IsS45 w0 w' g s0_0 x1001_1 x1002_1) ∧ Aside0 (KeepBut w w' g none) ∧ Aside0 (Below w0.heap.size w0 w'))
 case atStart => exact ⟨(y429), (t432), (t433), (t434), au74, H', ⟨Nat.le_refl _⟩, ⟨by (with_reducible repeat (first | apply Kd.S_alloc | apply Kd.S_drewN | apply Kd.S_drew)); exact HO431.out⟩, ⟨by repeat (first | (with_reducible first | exact HI0.out | apply IsS45.alloc | apply IsS45.drewN | apply IsS45.drew | apply IsS45.set_1 | apply IsS45.set_2) | exact HI0.out)⟩, ⟨by repeat (first | (with_reducible first | exact HK.out | apply KeepBut.set_ | apply keep_drewN | apply keep_drew | apply keep_alloc) | exact HK.out)⟩, ⟨by repeat (first | (with_reducible first | exact HB.out | apply below_alloc | apply pw_below_drewN | apply below_drew1 | refine below_set ?_ (IsS45.ge HI0.out)) | exact HB.out)⟩⟩
 case round =>
  clear H'
  try clear p2
  try clear c3
  obtain ⟨x3_1, x4_1, x1001_1, x1002_1, rfl, HA, HK1, HO_3, HI0, HK, HB⟩ := hrel
  cases gk with
  | zero => exact absurd HA.out (by simp [spec_l1Cur_names.l0])
  | succ k1 =>
   have H := HA.out
   clear HA
   simp only [spec_l1Cur_names.l0] at H
   by_cases c6 : x4_1 > 0
   ·
    rw [if_pos c6] at H
    have c6b0 : decide (0 < x4_1) = true := decide_eq_true c6
    clear c6
    replace H := Option.bind_eq_some_iff.mp H
    obtain ⟨⟨t435, t438, t439, t440, t441, t442⟩, A70, H⟩ := H
    replace H : (if x3_1.length < 1954687338268 then (spec_l1Cur_names.l0 k1 (x3_1 ++ [(⟨t435, t438, t439, t440⟩ : S26)]) (wrap64 (x4_1 - 1)) s0_0 t441 t442) else (none)) = some (r1, r2, r3) := H
    have A7 := Aside0.mk A70
    clear A70
    by_cases c8 : x3_1.length < 1954687338268
    ·
     rw [if_pos c8] at H
     have LMc8 := Aside0.mk c8
     clear c8
     obtain ⟨y443, hy443⟩ : ∃ y_ : List (S26), y_ = (x3_1 ++ [(⟨t435, t438, t439, t440⟩ : S26)]) := ⟨_, rfl⟩
     replace H : (spec_l1Cur_names.l0 k1 y443 (wrap64 (x4_1 - 1)) s0_0 t441 t442) = some (r1, r2, r3) := by first | (rw [hy443]; with_reducible exact H) | (have H2_ := (Option.bind_some _ _).symm.trans H; rw [hy443]; with_reducible exact H2_) | (have H2_ := (Option.bind_some _ _).symm.trans H; with_reducible exact H2_) | with_reducible exact H | (rw [hy443]; exact H) | exact H
     have Ny443 := Aside0.mk hy443
     clear hy443
     have H' := Aside0.mk H
     clear H
     go_wp2_with (first | ((with_reducible refine gate_callee (f := 61) rfl ?_); refine goesL_ (some 14) rfl rfl Tryd.func61 (by kernel_rfl) rfl #[.pointer (some ⟨g, 0, none⟩)] rfl au37 ?_; (with_reducible refine (spec_l1Cur_name.calls k1 g s0_0 x1001_1 x1002_1 t435 t438 t439 t440 t441 t442 w0 _ ?side1 ?side2 A7.out).mono ?_); (case side1 => repeat (first | (with_reducible first | exact HI0.out | apply IsS45.alloc | apply IsS45.drewN | apply IsS45.drew | apply IsS45.set_1 | apply IsS45.set_2) | exact HI0.out)); (case side2 => repeat (first | (with_reducible first | exact HB.out | apply below_alloc | apply pw_below_drewN | apply below_drew1 | refine below_set ?_ (IsS45.ge HI0.out)) | exact HB.out)); rintro e w9 ⟨v436, rfl, ho0, hi, hb, hk⟩; refine ⟨_, rfl, ?_⟩; have n0_ := Aside0.mk (Kd.S_mono (Kd.S_told (Kd.S_oldK (IsS45.apartS (show IsS45 w0 _ g s0_0 x1001_1 x1002_1 from by repeat (first | (with_reducible first | exact HI0.out | apply IsS45.alloc | apply IsS45.drewN | apply IsS45.drew | apply IsS45.set_1 | apply IsS45.set_2) | exact HI0.out)) au69 (by decide)) hk) (Kd.R_base ho0)) (fun _ h_ => h_.1)); have n1_ := Aside0.mk (Kd.R_lower ho0 (keep_size (w := w) (g := g) (row := none) au36)); have n2_ := Aside0.mk (KeepBut.trans au36 hk (.inl rfl)); have n3_ := Aside0.mk (hb); have n4_ := Aside0.mk (hi); clear HO_3; clear HK; clear HB; clear HI0; have HO_3 := n0_; have HO437 := n1_; have HK := n2_; have HB := n3_; have HI0 := n4_; clear n0_ n1_ n2_ n3_ n4_; (try clear hb); (try clear hb2); (try clear hk); (try clear hi); (try clear ho0); obtain ⟨Ao11, co11, eo11⟩ := Kd.R_slice HO437.out; subst eo11) | ((with_reducible refine gate_builtin (b := .append) (xs := #[.tmp 12, .tmp 15]) rfl ?_); at_builtin; refine Kd.S_append k26 w.heap.size rfl (.tmp 12) (.tmp 15) 34 26 (.agg #[(.slice none 0 0), (.string ⟨#[]⟩), (.string ⟨#[]⟩), (.string ⟨#[]⟩)]) 72 rfl Tryd.underlying34 info26 rfl (by decide) (by omega) u3 x3_1 (⟨t435, t438, t439, t440⟩ : S26) [.slice Ao11 t435.length co11, .string t438, .string t439, .string t440] (fun _ => True) (fun k_ => some k_ = (.slice Ao11 t435.length co11 : Value).ownBlock) rfl rfl ?aP (fun k_ hk_ => ((Kd.R_mono (ok' := fun k_ => ((fun _ => True)) k_ ∧ some k_ ≠ (u3 : Value).ownBlock) (Kd.R_apart' (HO437.out) (Kd.S_typed HO_3.out) (by decide)) (fun k_ hk => ⟨trivial, hk.2⟩))).1 k_ hk_.symm) ?aF ?aO (Below.refl _ _) ?aS ?aL ?_; (case aP => exact k26_mkM _ _ _ (⟨t435, t438, t439, t440⟩ : S26) (Kd.R_mono (Kd.R_tight rfl (Kd.R_mono (ok' := fun k_ => ((fun _ => True)) k_ ∧ some k_ ≠ (u3 : Value).ownBlock) (Kd.R_apart' (HO437.out) (Kd.S_typed HO_3.out) (by decide)) (fun k_ hk => ⟨trivial, hk.2⟩))) (fun _ h_ => h_))); (case aF => exact (fun _ _ => trivial)); (case aO => exact au35); (case aS => exact (keep_size (w := w) (g := g) (row := none) au36)); (case aL => have := LMc8.out; omega); intro v444 w10 ho hb hg hat; rw [← Ny443.out] at ho; have n0_ := Aside0.mk (IsS45.grown au22 hg (IsS45.own_neS HI0.out HO_3.out (by decide))); have n1_ := Aside0.mk (below_weaken au21 HL.out hb); have n2_ := Aside0.mk (KeepBut.trans au36 (KeepBut.of_grown hg g) (Kd.S_base2 HO_3.out)); have n3_ := Aside0.mk (ho); clear HI0; clear HB; clear HK; clear HO_3; clear HO437; have HI0 := n0_; have HB := n1_; have HK := n2_; have HO445 := n3_; clear n0_ n1_ n2_ n3_; clear ho hb hg hat))
     go_roundg k1
     case measure => have := HK1.out; omega
     case rel => exact ⟨(y443), (wrap64 (x4_1 - 1)), (t441), (t442), au74, H', ⟨by have := HK1.out; omega⟩, ⟨by (with_reducible repeat (first | apply Kd.S_alloc | apply Kd.S_drewN | apply Kd.S_drew)); exact HO445.out⟩, ⟨by repeat (first | (with_reducible first | exact HI0.out | apply IsS45.alloc | apply IsS45.drewN | apply IsS45.drew | apply IsS45.set_1 | apply IsS45.set_2) | exact HI0.out)⟩, ⟨by repeat (first | (with_reducible first | exact HK.out | apply KeepBut.set_ | apply keep_drewN | apply keep_drew | apply keep_alloc) | exact HK.out)⟩, ⟨by repeat (first | (with_reducible first | exact HB.out | apply below_alloc | apply pw_below_drewN | apply below_drew1 | refine below_set ?_ (IsS45.ge HI0.out)) | exact HB.out)⟩⟩
    ·
     rw [if_neg c8] at H
     exact absurd H (by simp)
   ·
    rw [if_neg c6] at H
    have c6b0 : decide (0 < x4_1) = false := decide_eq_false c6
    clear c6
    simp only [Option.some.injEq, Prod.mk.injEq] at H
    obtain ⟨rfl, rfl, rfl⟩ := H
    go_wp2
    go_ret
    exact ⟨_, by first | rfl | (simp [errW_none, errW_some] <;> rfl) | (simp [*, errW_none, errW_some] <;> rfl), by (with_reducible repeat (first | apply Kd.S_alloc | apply Kd.S_drewN | apply Kd.S_drew)); exact HO_3.out, by repeat (first | (with_reducible first | exact HI0.out | apply IsS45.alloc | apply IsS45.drewN | apply IsS45.drew | apply IsS45.set_1 | apply IsS45.set_2) | exact HI0.out), by repeat (first | (with_reducible first | exact HB.out | apply below_alloc | apply pw_below_drewN | apply below_drew1 | refine below_set ?_ (IsS45.ge HI0.out)) | exact HB.out), by repeat (first | (with_reducible first | exact HK.out | apply KeepBut.set_ | apply keep_drewN | apply keep_drew | apply keep_alloc) | exact HK.out)⟩


/-! ### spec_l1Cur_anyNames: function 26 -/
def spec_l1Cur_anyNames.l0 : Nat → List (S26) → List Int → Int → Int → Option ((List (S26)) × Int × Int)
 | 0, _, _, _, _ => none
 | k + 1, x3, x1000, x1001, x1002 => (spec_l1Cur_pick.f x1000 x1001 x1002 2).bind fun bt465 => (if (x3.length : Int) < (wrap64 (4 + bt465.1)) then ((spec_l1Cur_name.f k x1000 bt465.2.1 bt465.2.2).bind fun bt468 => (if x3.length < 1954687338268 then (spec_l1Cur_anyNames.l0 k (x3 ++ [(⟨bt468.1, bt468.2.1, bt468.2.2.1, bt468.2.2.2.1⟩ : S26)]) x1000 bt468.2.2.2.2.1 bt468.2.2.2.2.2) else (none))) else (some (x3, bt465.2.1, bt465.2.2)))
def spec_l1Cur_anyNames.f (k : Nat) (s0_0 : List Int) (s0_1 : Int) (s0_2 : Int) : Option ((List (S26)) × Int × Int) := (spec_l1Cur_names.f k s0_0 s0_1 s0_2).bind fun bt446 => ((spec_l1Cur_pick.f s0_0 bt446.2.1 bt446.2.2 12).bind fun bt451 => (if bt451.1 = 0 then ((spec_l1Cur_anyName.f k s0_0 bt451.2.1 bt451.2.2).bind fun bt454 => (if bt446.1.length < 1954687338268 then (some ((bt446.1 ++ [(⟨bt454.1, bt454.2.1, bt454.2.2.1, bt454.2.2.2.1⟩ : S26)]), bt454.2.2.2.2.1, bt454.2.2.2.2.2)) else (none))) else (if bt451.1 = 1 then (spec_l1Cur_anyNames.l0 k bt446.1 s0_0 bt451.2.1 bt451.2.2) else (some (bt446.1, bt451.2.1, bt451.2.2)))))
theorem spec_l1Cur_anyNames.mono_l : ∀ k, (∀ y0 y1 y2 y3, LeO (spec_l1Cur_anyNames.l0 k y0 y1 y2 y3) (spec_l1Cur_anyNames.l0 (k + 1) y0 y1 y2 y3))
 | 0 => fun _ _ _ _ r h => by simp [spec_l1Cur_anyNames.l0] at h
 | k + 1 => by
  have ih0 := spec_l1Cur_anyNames.mono_l k
  ·
   intro y0 y1 y2 y3
   unfold spec_l1Cur_anyNames.l0
   repeat' first
   | (with_reducible exact ih0 _ _ _ _)
   | (with_reducible exact spec_l1Cur_anyName.mono _ _ _ _)
   | (with_reducible exact spec_l1Cur_name.mono _ _ _ _)
   | (with_reducible exact spec_l1Cur_names.mono _ _ _ _)
   | (with_reducible exact LeO.refl _)
   | (with_reducible exact LeO.none _)
   | (with_reducible refine LeO.ite ?_ ?_)
   | (with_reducible refine LeO.bind ?_ (fun _ => ?_))
   | exact ih0 _ _ _ _
   | exact spec_l1Cur_anyName.mono _ _ _ _
   | exact spec_l1Cur_name.mono _ _ _ _
   | exact spec_l1Cur_names.mono _ _ _ _
   | exact LeO.none _
   | refine LeO.ite ?_ ?_
   | refine LeO.bind ?_ (fun _ => ?_)
theorem spec_l1Cur_anyNames.mono : ∀ a0 a1 a2 k, LeO (spec_l1Cur_anyNames.f k a0 a1 a2) (spec_l1Cur_anyNames.f (k + 1) a0 a1 a2) := by
 intro a0 a1 a2 k
 have ih0 := spec_l1Cur_anyNames.mono_l k
 unfold spec_l1Cur_anyNames.f
 repeat' first
   | (with_reducible exact ih0 _ _ _ _)
   | (with_reducible exact spec_l1Cur_anyName.mono _ _ _ _)
   | (with_reducible exact spec_l1Cur_name.mono _ _ _ _)
   | (with_reducible exact spec_l1Cur_names.mono _ _ _ _)
   | (with_reducible exact LeO.refl _)
   | (with_reducible exact LeO.none _)
   | (with_reducible refine LeO.ite ?_ ?_)
   | (with_reducible refine LeO.bind ?_ (fun _ => ?_))
   | exact ih0 _ _ _ _
   | exact spec_l1Cur_anyName.mono _ _ _ _
   | exact spec_l1Cur_name.mono _ _ _ _
   | exact spec_l1Cur_names.mono _ _ _ _
   | exact LeO.none _
   | refine LeO.ite ?_ ?_
   | refine LeO.bind ?_ (fun _ => ?_)
set_option maxHeartbeats 8000000 in
set_option maxRecDepth 100000 in
theorem spec_l1Cur_anyNames.calls (k : Nat) (g : Nat) (s0_0 : List Int) (s0_1 : Int) (s0_2 : Int) (r1 : List (S26)) (r2 : Int) (r3 : Int) (w0 w : World) (hI : IsS45 w0 w g s0_0 s0_1 s0_2) (hB : Below w0.heap.size w0 w) (h : spec_l1Cur_anyNames.f k s0_0 s0_1 s0_2 = some (r1, r2, r3)) :
  Calls Tryd.prog 26 #[.pointer (some ⟨g, 0, none⟩)] w fun e w' => ∃ v0_ : Value, e = .returned (v0_) ∧ Kd.S k26 26 w' w.heap.size (fun _ => True) v0_ r1 ∧ IsS45 w0 w' g s0_0 r2 r3 ∧ Below w0.heap.size w0 w' ∧ KeepBut w w' g none := by
 have HI0 := Aside0.mk hI
 have HK := Aside0.mk (KeepBut.refl w g none)
 have HL := Aside0.mk hB.size
 clear hI
 have HW0 := Aside0.mk hB.size
 have HB := Aside0.mk hB
 clear hB
 have H : ((spec_l1Cur_names.f k s0_0 s0_1 s0_2).bind fun bt446 => ((spec_l1Cur_pick.f s0_0 bt446.2.1 bt446.2.2 12).bind fun bt451 => (if bt451.1 = 0 then ((spec_l1Cur_anyName.f k s0_0 bt451.2.1 bt451.2.2).bind fun bt454 => (if bt446.1.length < 1954687338268 then (some ((bt446.1 ++ [(⟨bt454.1, bt454.2.1, bt454.2.2.1, bt454.2.2.2.1⟩ : S26)]), bt454.2.2.2.2.1, bt454.2.2.2.2.2)) else (none))) else (if bt451.1 = 1 then (spec_l1Cur_anyNames.l0 k bt446.1 s0_0 bt451.2.1 bt451.2.2) else (some (bt446.1, bt451.2.1, bt451.2.2)))))) = some (r1, r2, r3) := h
 clear h
 replace H := Option.bind_eq_some_iff.mp H
 obtain ⟨⟨t446, t449, t450⟩, A20, H⟩ := H
 replace H : ((spec_l1Cur_pick.f s0_0 t449 t450 12).bind fun bt451 => (if bt451.1 = 0 then ((spec_l1Cur_anyName.f k s0_0 bt451.2.1 bt451.2.2).bind fun bt454 => (if t446.length < 1954687338268 then (some ((t446 ++ [(⟨bt454.1, bt454.2.1, bt454.2.2.1, bt454.2.2.2.1⟩ : S26)]), bt454.2.2.2.2.1, bt454.2.2.2.2.2)) else (none))) else (if bt451.1 = 1 then (spec_l1Cur_anyNames.l0 k t446 s0_0 bt451.2.1 bt451.2.2) else (some (t446, bt451.2.1, bt451.2.2))))) = some (r1, r2, r3) := H
 have A2 := Aside0.mk A20
 clear A20
 replace H := Option.bind_eq_some_iff.mp H
 obtain ⟨⟨t451, t452, t453⟩, A30, H⟩ := H
 replace H : (if t451 = 0 then ((spec_l1Cur_anyName.f k s0_0 t452 t453).bind fun bt454 => (if t446.length < 1954687338268 then (some ((t446 ++ [(⟨bt454.1, bt454.2.1, bt454.2.2.1, bt454.2.2.2.1⟩ : S26)]), bt454.2.2.2.2.1, bt454.2.2.2.2.2)) else (none))) else (if t451 = 1 then (spec_l1Cur_anyNames.l0 k t446 s0_0 t452 t453) else (some (t446, t452, t453)))) = some (r1, r2, r3) := H
 have A3 := Aside0.mk A30
 clear A30
 by_cases c4 : t451 = 0
 ·
  rw [if_pos c4] at H
  have c4b0 : (t451 == 0) = true := beq_iff_eq.mpr c4
  have c4b1 : (t451 != 0) = false := bne_eq_false_iff_eq.mpr c4
  clear c4
  replace H := Option.bind_eq_some_iff.mp H
  obtain ⟨⟨t454, t457, t458, t459, t460, t461⟩, A50, H⟩ := H
  replace H : (if t446.length < 1954687338268 then (some ((t446 ++ [(⟨t454, t457, t458, t459⟩ : S26)]), t460, t461)) else (none)) = some (r1, r2, r3) := H
  have A5 := Aside0.mk A50
  clear A50
  by_cases c6 : t446.length < 1954687338268
  ·
   rw [if_pos c6] at H
   have LMc6 := Aside0.mk c6
   clear c6
   obtain ⟨y462, hy462⟩ : ∃ y_ : List (S26), y_ = (t446 ++ [(⟨t454, t457, t458, t459⟩ : S26)]) := ⟨_, rfl⟩
   replace H : (some (y462, t460, t461)) = some (r1, r2, r3) := by first | (rw [hy462]; with_reducible exact H) | (have H2_ := (Option.bind_some _ _).symm.trans H; rw [hy462]; with_reducible exact H2_) | (have H2_ := (Option.bind_some _ _).symm.trans H; with_reducible exact H2_) | with_reducible exact H | (rw [hy462]; exact H) | exact H
   have Ny462 := Aside0.mk hy462
   clear hy462
   simp only [Option.some.injEq, Prod.mk.injEq] at H
   obtain ⟨rfl, rfl, rfl⟩ := H
   go_enter Tryd.func26, Tryd.ntmps26
   go_wp2_with (first | ((with_reducible refine gate_callee (f := 60) rfl ?_); refine goesL_ (some 5) rfl rfl Tryd.func60 (by kernel_rfl) rfl #[.pointer (some ⟨g, 0, none⟩)] rfl au37 ?_; (with_reducible refine (spec_l1Cur_names.calls k g s0_0 s0_1 s0_2 t446 t449 t450 w0 _ ?side1 ?side2 A2.out).mono ?_); (case side1 => repeat (first | (with_reducible first | exact HI0.out | apply IsS45.alloc | apply IsS45.drewN | apply IsS45.drew | apply IsS45.set_1 | apply IsS45.set_2) | exact HI0.out)); (case side2 => repeat (first | (with_reducible first | exact HB.out | apply below_alloc | apply pw_below_drewN | apply below_drew1 | refine below_set ?_ (IsS45.ge HI0.out)) | exact HB.out)); rintro e w7 ⟨v447, rfl, ho0, hi, hb, hk⟩; refine ⟨_, rfl, ?_⟩; have n0_ := Aside0.mk (Kd.S_lower ho0 (keep_size (w := w) (g := g) (row := none) au36)); have n1_ := Aside0.mk (KeepBut.trans au36 hk (.inl rfl)); have n2_ := Aside0.mk (hb); have n3_ := Aside0.mk (hi); clear HK; clear HB; clear HI0; have HO448 := n0_; have HK := n1_; have HB := n2_; have HI0 := n3_; clear n0_ n1_ n2_ n3_; (try clear hb); (try clear hb2); (try clear hk); (try clear hi); (try clear ho0)) | ((with_reducible refine gate_callee (f := 36) rfl ?_); refine goesL_ (some 7) rfl rfl Tryd.func36 (by kernel_rfl) rfl #[.pointer (some ⟨g, 0, none⟩), .int .i64 12] rfl au37 ?_; (with_reducible refine (spec_l1Cur_pick.calls g s0_0 t449 t450 12 t451 t452 t453 w0 _ ?side1 ?side2 A3.out).mono ?_); (case side1 => repeat (first | (with_reducible first | exact HI0.out | apply IsS45.alloc | apply IsS45.drewN | apply IsS45.drew | apply IsS45.set_1 | apply IsS45.set_2) | exact HI0.out)); (case side2 => repeat (first | (with_reducible first | exact HB.out | apply below_alloc | apply pw_below_drewN | apply below_drew1 | refine below_set ?_ (IsS45.ge HI0.out)) | exact HB.out)); rintro e w8 ⟨rfl, hi, hb, hk⟩; refine ⟨_, rfl, ?_⟩; have n0_ := Aside0.mk (Kd.S_mono (Kd.S_keep (IsS45.apartS (show IsS45 w0 _ g s0_0 t449 t450 from by repeat (first | (with_reducible first | exact HI0.out | apply IsS45.alloc | apply IsS45.drewN | apply IsS45.drew | apply IsS45.set_1 | apply IsS45.set_2) | exact HI0.out)) au61 (by decide)) hk (fun _ h => h.2)) (fun _ h => h.1)); have n1_ := Aside0.mk (KeepBut.trans au36 hk (.inl rfl)); have n2_ := Aside0.mk (hb); have n3_ := Aside0.mk (hi); clear HO448; clear HK; clear HB; clear HI0; have HO448 := n0_; have HK := n1_; have HB := n2_; have HI0 := n3_; clear n0_ n1_ n2_ n3_; (try clear hb); (try clear hb2); (try clear hk); (try clear hi)) | ((with_reducible refine gate_callee (f := 40) rfl ?_); refine goesL_ (some 12) rfl rfl Tryd.func40 (by kernel_rfl) rfl #[.pointer (some ⟨g, 0, none⟩)] rfl au37 ?_; (with_reducible refine (spec_l1Cur_anyName.calls k g s0_0 t452 t453 t454 t457 t458 t459 t460 t461 w0 _ ?side1 ?side2 A5.out).mono ?_); (case side1 => repeat (first | (with_reducible first | exact HI0.out | apply IsS45.alloc | apply IsS45.drewN | apply IsS45.drew | apply IsS45.set_1 | apply IsS45.set_2) | exact HI0.out)); (case side2 => repeat (first | (with_reducible first | exact HB.out | apply below_alloc | apply pw_below_drewN | apply below_drew1 | refine below_set ?_ (IsS45.ge HI0.out)) | exact HB.out)); rintro e w9 ⟨v455, rfl, ho0, hi, hb, hk⟩; refine ⟨_, rfl, ?_⟩; have n0_ := Aside0.mk (Kd.S_mono (Kd.S_told (Kd.S_oldK (IsS45.apartS (show IsS45 w0 _ g s0_0 t452 t453 from by repeat (first | (with_reducible first | exact HI0.out | apply IsS45.alloc | apply IsS45.drewN | apply IsS45.drew | apply IsS45.set_1 | apply IsS45.set_2) | exact HI0.out)) au61 (by decide)) hk) (Kd.R_base ho0)) (fun _ h_ => h_.1)); have n1_ := Aside0.mk (Kd.R_lower ho0 (keep_size (w := w) (g := g) (row := none) au36)); have n2_ := Aside0.mk (KeepBut.trans au36 hk (.inl rfl)); have n3_ := Aside0.mk (hb); have n4_ := Aside0.mk (hi); clear HO448; clear HK; clear HB; clear HI0; have HO448 := n0_; have HO456 := n1_; have HK := n2_; have HB := n3_; have HI0 := n4_; clear n0_ n1_ n2_ n3_ n4_; (try clear hb); (try clear hb2); (try clear hk); (try clear hi); (try clear ho0); obtain ⟨Ao11, co11, eo11⟩ := Kd.R_slice HO456.out; subst eo11) | ((with_reducible refine gate_builtin (b := .append) (xs := #[.tmp 10, .tmp 13]) rfl ?_); at_builtin; refine Kd.S_append k26 w.heap.size rfl (.tmp 10) (.tmp 13) 34 26 (.agg #[(.slice none 0 0), (.string ⟨#[]⟩), (.string ⟨#[]⟩), (.string ⟨#[]⟩)]) 72 rfl Tryd.underlying34 info26 rfl (by decide) (by omega) v447 t446 (⟨t454, t457, t458, t459⟩ : S26) [.slice Ao11 t454.length co11, .string t457, .string t458, .string t459] (fun _ => True) (fun k_ => some k_ = (.slice Ao11 t454.length co11 : Value).ownBlock) rfl rfl ?aP (fun k_ hk_ => ((Kd.R_mono (ok' := fun k_ => ((fun _ => True)) k_ ∧ some k_ ≠ (v447 : Value).ownBlock) (Kd.R_apart' (HO456.out) (Kd.S_typed HO448.out) (by decide)) (fun k_ hk => ⟨trivial, hk.2⟩))).1 k_ hk_.symm) ?aF ?aO (Below.refl _ _) ?aS ?aL ?_; (case aP => exact k26_mkM _ _ _ (⟨t454, t457, t458, t459⟩ : S26) (Kd.R_mono (Kd.R_tight rfl (Kd.R_mono (ok' := fun k_ => ((fun _ => True)) k_ ∧ some k_ ≠ (v447 : Value).ownBlock) (Kd.R_apart' (HO456.out) (Kd.S_typed HO448.out) (by decide)) (fun k_ hk => ⟨trivial, hk.2⟩))) (fun _ h_ => h_))); (case aF => exact (fun _ _ => trivial)); (case aO => exact (by (with_reducible repeat (first | apply Kd.S_alloc | apply Kd.S_drewN | apply Kd.S_drew)); exact Kd.S_mono HO448.out (fun k_ hk => ⟨trivial, fun e_ => hk.2 e_⟩))); (case aS => exact (keep_size (w := w) (g := g) (row := none) au36)); (case aL => have := LMc6.out; omega); intro v463 w10 ho hb hg hat; rw [← Ny462.out] at ho; have n0_ := Aside0.mk (IsS45.grown au22 hg (IsS45.own_neS HI0.out HO448.out (by decide))); have n1_ := Aside0.mk (below_weaken au21 HL.out hb); have n2_ := Aside0.mk (KeepBut.trans au36 (KeepBut.of_grown hg g) (Kd.S_base2 HO448.out)); have n3_ := Aside0.mk (ho); clear HI0; clear HB; clear HK; clear HO448; clear HO456; have HI0 := n0_; have HB := n1_; have HK := n2_; have HO464 := n3_; clear n0_ n1_ n2_ n3_; clear ho hb hg hat))
   go_ret
   exact ⟨_, by first | rfl | (simp [errW_none, errW_some] <;> rfl) | (simp [*, errW_none, errW_some] <;> rfl), by (with_reducible repeat (first | apply Kd.S_alloc | apply Kd.S_drewN | apply Kd.S_drew)); exact HO464.out, by repeat (first | (with_reducible first | exact HI0.out | apply IsS45.alloc | apply IsS45.drewN | apply IsS45.drew | apply IsS45.set_1 | apply IsS45.set_2) | exact HI0.out), by repeat (first | (with_reducible first | exact HB.out | apply below_alloc | apply pw_below_drewN | apply below_drew1 | refine below_set ?_ (IsS45.ge HI0.out)) | exact HB.out), by repeat (first | (with_reducible first | exact HK.out | apply KeepBut.set_ | apply keep_drewN | apply keep_drew | apply keep_alloc) | exact HK.out)⟩
  ·
   rw [if_neg c6] at H
   exact absurd H (by simp)
 ·
  rw [if_neg c4] at H
  have c4b0 : (t451 == 0) = false := beq_eq_false_iff_ne.mpr c4
  have c4b1 : (t451 != 0) = true := bne_iff_ne.mpr c4
  by_cases c12 : t451 = 1
  ·
   rw [if_pos c12] at H
   have c12b0 : (t451 == 1) = true := beq_iff_eq.mpr c12
   have c12b1 : (t451 != 1) = false := bne_eq_false_iff_eq.mpr c12
   clear c12
   have H' := Aside0.mk H
   clear H
   go_enter Tryd.func26, Tryd.ntmps26
   go_wp2_with (first | ((with_reducible refine gate_callee (f := 60) rfl ?_); refine goesL_ (some 5) rfl rfl Tryd.func60 (by kernel_rfl) rfl #[.pointer (some ⟨g, 0, none⟩)] rfl au37 ?_; (with_reducible refine (spec_l1Cur_names.calls k g s0_0 s0_1 s0_2 t446 t449 t450 w0 _ ?side1 ?side2 A2.out).mono ?_); (case side1 => repeat (first | (with_reducible first | exact HI0.out | apply IsS45.alloc | apply IsS45.drewN | apply IsS45.drew | apply IsS45.set_1 | apply IsS45.set_2) | exact HI0.out)); (case side2 => repeat (first | (with_reducible first | exact HB.out | apply below_alloc | apply pw_below_drewN | apply below_drew1 | refine below_set ?_ (IsS45.ge HI0.out)) | exact HB.out)); rintro e w13 ⟨v447, rfl, ho0, hi, hb, hk⟩; refine ⟨_, rfl, ?_⟩; have n0_ := Aside0.mk (Kd.S_lower ho0 (keep_size (w := w) (g := g) (row := none) au36)); have n1_ := Aside0.mk (KeepBut.trans au36 hk (.inl rfl)); have n2_ := Aside0.mk (hb); have n3_ := Aside0.mk (hi); clear HK; clear HB; clear HI0; have HO448 := n0_; have HK := n1_; have HB := n2_; have HI0 := n3_; clear n0_ n1_ n2_ n3_; (try clear hb); (try clear hb2); (try clear hk); (try clear hi); (try clear ho0)) | ((with_reducible refine gate_callee (f := 36) rfl ?_); refine goesL_ (some 7) rfl rfl Tryd.func36 (by kernel_rfl) rfl #[.pointer (some ⟨g, 0, none⟩), .int .i64 12] rfl au37 ?_; (with_reducible refine (spec_l1Cur_pick.calls g s0_0 t449 t450 12 t451 t452 t453 w0 _ ?side1 ?side2 A3.out).mono ?_); (case side1 => repeat (first | (with_reducible first | exact HI0.out | apply IsS45.alloc | apply IsS45.drewN | apply IsS45.drew | apply IsS45.set_1 | apply IsS45.set_2) | exact HI0.out)); (case side2 => repeat (first | (with_reducible first | exact HB.out | apply below_alloc | apply pw_below_drewN | apply below_drew1 | refine below_set ?_ (IsS45.ge HI0.out)) | exact HB.out)); rintro e w14 ⟨rfl, hi, hb, hk⟩; refine ⟨_, rfl, ?_⟩; have n0_ := Aside0.mk (Kd.S_mono (Kd.S_keep (IsS45.apartS (show IsS45 w0 _ g s0_0 t449 t450 from by repeat (first | (with_reducible first | exact HI0.out | apply IsS45.alloc | apply IsS45.drewN | apply IsS45.drew | apply IsS45.set_1 | apply IsS45.set_2) | exact HI0.out)) au61 (by decide)) hk (fun _ h => h.2)) (fun _ h => h.1)); have n1_ := Aside0.mk (KeepBut.trans au36 hk (.inl rfl)); have n2_ := Aside0.mk (hb); have n3_ := Aside0.mk (hi); clear HO448; clear HK; clear HB; clear HI0; have HO448 := n0_; have HK := n1_; have HB := n2_; have HI0 := n3_; clear n0_ n1_ n2_ n3_; (try clear hb); (try clear hb2); (try clear hk); (try clear hi)))
   go_loopg [3] k (fun kq v3 w' => ∃ (x3_1 : List (S26)) (x1001_1 : Int) (x1002_1 : Int), Aside0 (spec_l1Cur_anyNames.l0 kq x3_1 s0_0 x1001_1 x1002_1 = some (r1, r2, r3)) ∧ Aside0 (kq ≤ k) ∧ Aside0 (Kd.S k26 26 w' w.heap.size (fun _ => True) v3 x3_1) ∧ Aside0 (IsS45 w0 w' g s0_0 x1001_1 x1002_1) ∧ Aside0 (KeepBut w w' g none) ∧ Aside0 (Below w0.heap.size w0 w'))
   case atStart => exact ⟨(t446), (t452), (t453), H', ⟨Nat.le_refl _⟩, ⟨by (with_reducible repeat (first | apply Kd.S_alloc | apply Kd.S_drewN | apply Kd.S_drew)); exact HO448.out⟩, ⟨by repeat (first | (with_reducible first | exact HI0.out | apply IsS45.alloc | apply IsS45.drewN | apply IsS45.drew | apply IsS45.set_1 | apply IsS45.set_2) | exact HI0.out)⟩, ⟨by repeat (first | (with_reducible first | exact HK.out | apply KeepBut.set_ | apply keep_drewN | apply keep_drew | apply keep_alloc) | exact HK.out)⟩, ⟨by repeat (first | (with_reducible first | exact HB.out | apply below_alloc | apply pw_below_drewN | apply below_drew1 | refine below_set ?_ (IsS45.ge HI0.out)) | exact HB.out)⟩⟩
   case round =>
    clear H'
    try clear c1
    try clear c2
    try clear p2
    try clear c3
    try clear c4
    try clear c4b0
    try clear c4b1
    try clear c6
    try clear c12
    try clear c12b0
    try clear c12b1
    obtain ⟨x3_1, x1001_1, x1002_1, HA, HK1, HO_3, HI0, HK, HB⟩ := hrel
    cases gk with
    | zero => exact absurd HA.out (by simp [spec_l1Cur_anyNames.l0])
    | succ k1 =>
     have H := HA.out
     clear HA
     simp only [spec_l1Cur_anyNames.l0] at H
     replace H := Option.bind_eq_some_iff.mp H
     obtain ⟨⟨t465, t466, t467⟩, A150, H⟩ := H
     replace H : (if (x3_1.length : Int) < (wrap64 (4 + t465)) then ((spec_l1Cur_name.f k1 s0_0 t466 t467).bind fun bt468 => (if x3_1.length < 1954687338268 then (spec_l1Cur_anyNames.l0 k1 (x3_1 ++ [(⟨bt468.1, bt468.2.1, bt468.2.2.1, bt468.2.2.2.1⟩ : S26)]) s0_0 bt468.2.2.2.2.1 bt468.2.2.2.2.2) else (none))) else (some (x3_1, t466, t467))) = some (r1, r2, r3) := H
     have A15 := Aside0.mk A150
     clear A150
     by_cases c16 : (x3_1.length : Int) < (wrap64 (4 + t465))
     ·
      rw [if_pos c16] at H
      have c16b0 : decide ((x3_1.length : Int) < (wrap64 (4 + t465))) = true := decide_eq_true c16
      clear c16
      replace H := Option.bind_eq_some_iff.mp H
      obtain ⟨⟨t468, t471, t472, t473, t474, t475⟩, A170, H⟩ := H
      replace H : (if x3_1.length < 1954687338268 then (spec_l1Cur_anyNames.l0 k1 (x3_1 ++ [(⟨t468, t471, t472, t473⟩ : S26)]) s0_0 t474 t475) else (none)) = some (r1, r2, r3) := H
      have A17 := Aside0.mk A170
      clear A170
      by_cases c18 : x3_1.length < 1954687338268
      ·
       rw [if_pos c18] at H
       have LMc18 := Aside0.mk c18
       clear c18
       obtain ⟨y476, hy476⟩ : ∃ y_ : List (S26), y_ = (x3_1 ++ [(⟨t468, t471, t472, t473⟩ : S26)]) := ⟨_, rfl⟩
       replace H : (spec_l1Cur_anyNames.l0 k1 y476 s0_0 t474 t475) = some (r1, r2, r3) := by first | (rw [hy476]; with_reducible exact H) | (have H2_ := (Option.bind_some _ _).symm.trans H; rw [hy476]; with_reducible exact H2_) | (have H2_ := (Option.bind_some _ _).symm.trans H; with_reducible exact H2_) | with_reducible exact H | (rw [hy476]; exact H) | exact H
       have Ny476 := Aside0.mk hy476
       clear hy476
       have H' := Aside0.mk H
       clear H
       obtain ⟨Ao19, co19, eo19⟩ := Kd.S_slice HO_3.out
       subst eo19
       go_wp2_with (first | ((with_reducible refine gate_callee (f := 36) rfl ?_); refine goesL_ (some 20) rfl rfl Tryd.func36 (by kernel_rfl) rfl #[.pointer (some ⟨g, 0, none⟩), .int .i64 2] rfl au37 ?_; (with_reducible refine (spec_l1Cur_pick.calls g s0_0 x1001_1 x1002_1 2 t465 t466 t467 w0 _ ?side1 ?side2 A15.out).mono ?_); (case side1 => repeat (first | (with_reducible first | exact HI0.out | apply IsS45.alloc | apply IsS45.drewN | apply IsS45.drew | apply IsS45.set_1 | apply IsS45.set_2) | exact HI0.out)); (case side2 => repeat (first | (with_reducible first | exact HB.out | apply below_alloc | apply pw_below_drewN | apply below_drew1 | refine below_set ?_ (IsS45.ge HI0.out)) | exact HB.out)); rintro e w20 ⟨rfl, hi, hb, hk⟩; refine ⟨_, rfl, ?_⟩; have n0_ := Aside0.mk (Kd.S_mono (Kd.S_keep (IsS45.apartS (show IsS45 w0 _ g s0_0 x1001_1 x1002_1 from by repeat (first | (with_reducible first | exact HI0.out | apply IsS45.alloc | apply IsS45.drewN | apply IsS45.drew | apply IsS45.set_1 | apply IsS45.set_2) | exact HI0.out)) au69 (by decide)) hk (fun _ h => h.2)) (fun _ h => h.1)); have n1_ := Aside0.mk (KeepBut.trans au36 hk (.inl rfl)); have n2_ := Aside0.mk (hb); have n3_ := Aside0.mk (hi); clear HO_3; clear HK; clear HB; clear HI0; have HO_3 := n0_; have HK := n1_; have HB := n2_; have HI0 := n3_; clear n0_ n1_ n2_ n3_; (try clear hb); (try clear hb2); (try clear hk); (try clear hi)) | ((with_reducible refine gate_callee (f := 61) rfl ?_); refine goesL_ (some 25) rfl rfl Tryd.func61 (by kernel_rfl) rfl #[.pointer (some ⟨g, 0, none⟩)] rfl au37 ?_; (with_reducible refine (spec_l1Cur_name.calls k1 g s0_0 t466 t467 t468 t471 t472 t473 t474 t475 w0 _ ?side1 ?side2 A17.out).mono ?_); (case side1 => repeat (first | (with_reducible first | exact HI0.out | apply IsS45.alloc | apply IsS45.drewN | apply IsS45.drew | apply IsS45.set_1 | apply IsS45.set_2) | exact HI0.out)); (case side2 => repeat (first | (with_reducible first | exact HB.out | apply below_alloc | apply pw_below_drewN | apply below_drew1 | refine below_set ?_ (IsS45.ge HI0.out)) | exact HB.out)); rintro e w21 ⟨v469, rfl, ho0, hi, hb, hk⟩; refine ⟨_, rfl, ?_⟩; have n0_ := Aside0.mk (Kd.S_mono (Kd.S_told (Kd.S_oldK (IsS45.apartS (show IsS45 w0 _ g s0_0 t466 t467 from by repeat (first | (with_reducible first | exact HI0.out | apply IsS45.alloc | apply IsS45.drewN | apply IsS45.drew | apply IsS45.set_1 | apply IsS45.set_2) | exact HI0.out)) au69 (by decide)) hk) (Kd.R_base ho0)) (fun _ h_ => h_.1)); have n1_ := Aside0.mk (Kd.R_lower ho0 (keep_size (w := w) (g := g) (row := none) au36)); have n2_ := Aside0.mk (KeepBut.trans au36 hk (.inl rfl)); have n3_ := Aside0.mk (hb); have n4_ := Aside0.mk (hi); clear HO_3; clear HK; clear HB; clear HI0; have HO_3 := n0_; have HO470 := n1_; have HK := n2_; have HB := n3_; have HI0 := n4_; clear n0_ n1_ n2_ n3_ n4_; (try clear hb); (try clear hb2); (try clear hk); (try clear hi); (try clear ho0); obtain ⟨Ao23, co23, eo23⟩ := Kd.R_slice HO470.out; subst eo23) | ((with_reducible refine gate_builtin (b := .append) (xs := #[.tmp 23, .tmp 26]) rfl ?_); at_builtin; refine Kd.S_append k26 w.heap.size rfl (.tmp 23) (.tmp 26) 34 26 (.agg #[(.slice none 0 0), (.string ⟨#[]⟩), (.string ⟨#[]⟩), (.string ⟨#[]⟩)]) 72 rfl Tryd.underlying34 info26 rfl (by decide) (by omega) (.slice Ao19 x3_1.length co19) x3_1 (⟨t468, t471, t472, t473⟩ : S26) [.slice Ao23 t468.length co23, .string t471, .string t472, .string t473] (fun _ => True) (fun k_ => some k_ = (.slice Ao23 t468.length co23 : Value).ownBlock) rfl rfl ?aP (fun k_ hk_ => ((Kd.R_mono (ok' := fun k_ => ((fun _ => True)) k_ ∧ some k_ ≠ (.slice Ao19 x3_1.length co19 : Value).ownBlock) (Kd.R_apart' (HO470.out) (Kd.S_typed HO_3.out) (by decide)) (fun k_ hk => ⟨trivial, hk.2⟩))).1 k_ hk_.symm) ?aF ?aO (Below.refl _ _) ?aS ?aL ?_; (case aP => exact k26_mkM _ _ _ (⟨t468, t471, t472, t473⟩ : S26) (Kd.R_mono (Kd.R_tight rfl (Kd.R_mono (ok' := fun k_ => ((fun _ => True)) k_ ∧ some k_ ≠ (.slice Ao19 x3_1.length co19 : Value).ownBlock) (Kd.R_apart' (HO470.out) (Kd.S_typed HO_3.out) (by decide)) (fun k_ hk => ⟨trivial, hk.2⟩))) (fun _ h_ => h_))); (case aF => exact (fun _ _ => trivial)); (case aO => exact au35); (case aS => exact (keep_size (w := w) (g := g) (row := none) au36)); (case aL => have := LMc18.out; omega); intro v477 w22 ho hb hg hat; rw [← Ny476.out] at ho; have n0_ := Aside0.mk (IsS45.grown au22 hg (IsS45.own_neS HI0.out HO_3.out (by decide))); have n1_ := Aside0.mk (below_weaken au21 HL.out hb); have n2_ := Aside0.mk (KeepBut.trans au36 (KeepBut.of_grown hg g) (Kd.S_base2 HO_3.out)); have n3_ := Aside0.mk (ho); clear HI0; clear HB; clear HK; clear HO_3; clear HO470; have HI0 := n0_; have HB := n1_; have HK := n2_; have HO478 := n3_; clear n0_ n1_ n2_ n3_; clear ho hb hg hat))
       go_roundg k1
       case measure => have := HK1.out; omega
       case rel => exact ⟨(y476), (t474), (t475), H', ⟨by have := HK1.out; omega⟩, ⟨by (with_reducible repeat (first | apply Kd.S_alloc | apply Kd.S_drewN | apply Kd.S_drew)); exact HO478.out⟩, ⟨by repeat (first | (with_reducible first | exact HI0.out | apply IsS45.alloc | apply IsS45.drewN | apply IsS45.drew | apply IsS45.set_1 | apply IsS45.set_2) | exact HI0.out)⟩, ⟨by repeat (first | (with_reducible first | exact HK.out | apply KeepBut.set_ | apply keep_drewN | apply keep_drew | apply keep_alloc) | exact HK.out)⟩, ⟨by repeat (first | (with_reducible first | exact HB.out | apply below_alloc | apply pw_below_drewN | apply below_drew1 | refine below_set ?_ (IsS45.ge HI0.out)) | exact HB.out)⟩⟩
      ·
       rw [if_neg c18] at H
       exact absurd H (by simp)
     ·
      rw [if_neg c16] at H
      have c16b0 : decide ((x3_1.length : Int) < (wrap64 (4 + t465))) = false := decide_eq_false c16
      clear c16
      simp only [Option.some.injEq, Prod.mk.injEq] at H
      obtain ⟨rfl, rfl, rfl⟩ := H
      obtain ⟨Ao24, co24, eo24⟩ := Kd.S_slice HO_3.out
      subst eo24
      go_wp2_with (first | ((with_reducible refine gate_callee (f := 36) rfl ?_); refine goesL_ (some 20) rfl rfl Tryd.func36 (by kernel_rfl) rfl #[.pointer (some ⟨g, 0, none⟩), .int .i64 2] rfl au37 ?_; (with_reducible refine (spec_l1Cur_pick.calls g s0_0 x1001_1 x1002_1 2 t465 t466 t467 w0 _ ?side1 ?side2 A15.out).mono ?_); (case side1 => repeat (first | (with_reducible first | exact HI0.out | apply IsS45.alloc | apply IsS45.drewN | apply IsS45.drew | apply IsS45.set_1 | apply IsS45.set_2) | exact HI0.out)); (case side2 => repeat (first | (with_reducible first | exact HB.out | apply below_alloc | apply pw_below_drewN | apply below_drew1 | refine below_set ?_ (IsS45.ge HI0.out)) | exact HB.out)); rintro e w25 ⟨rfl, hi, hb, hk⟩; refine ⟨_, rfl, ?_⟩; have n0_ := Aside0.mk (Kd.S_mono (Kd.S_keep (IsS45.apartS (show IsS45 w0 _ g s0_0 x1001_1 x1002_1 from by repeat (first | (with_reducible first | exact HI0.out | apply IsS45.alloc | apply IsS45.drewN | apply IsS45.drew | apply IsS45.set_1 | apply IsS45.set_2) | exact HI0.out)) au69 (by decide)) hk (fun _ h => h.2)) (fun _ h => h.1)); have n1_ := Aside0.mk (KeepBut.trans au36 hk (.inl rfl)); have n2_ := Aside0.mk (hb); have n3_ := Aside0.mk (hi); clear HO_3; clear HK; clear HB; clear HI0; have HO_3 := n0_; have HK := n1_; have HB := n2_; have HI0 := n3_; clear n0_ n1_ n2_ n3_; (try clear hb); (try clear hb2); (try clear hk); (try clear hi)))
      go_ret
      exact ⟨_, by first | rfl | (simp [errW_none, errW_some] <;> rfl) | (simp [*, errW_none, errW_some] <;> rfl), by (with_reducible repeat (first | apply Kd.S_alloc | apply Kd.S_drewN | apply Kd.S_drew)); exact HO_3.out, by repeat (first | (with_reducible first | exact HI0.out | apply IsS45.alloc | apply IsS45.drewN | apply IsS45.drew | apply IsS45.set_1 | apply IsS45.set_2) | exact HI0.out), by repeat (first | (with_reducible first | exact HB.out | apply below_alloc | apply pw_below_drewN | apply below_drew1 | refine below_set ?_ (IsS45.ge HI0.out)) | exact HB.out), by repeat (first | (with_reducible first | exact HK.out | apply KeepBut.set_ | apply keep_drewN | apply keep_drew | apply keep_alloc) | exact HK.out)⟩
  ·
   rw [if_neg c12] at H
   have c12b0 : (t451 == 1) = false := beq_eq_false_iff_ne.mpr c12
   have c12b1 : (t451 != 1) = true := bne_iff_ne.mpr c12
   simp only [Option.some.injEq, Prod.mk.injEq] at H
   obtain ⟨rfl, rfl, rfl⟩ := H
   go_enter Tryd.func26, Tryd.ntmps26
   go_wp2_with (first | ((with_reducible refine gate_callee (f := 60) rfl ?_); refine goesL_ (some 5) rfl rfl Tryd.func60 (by kernel_rfl) rfl #[.pointer (some ⟨g, 0, none⟩)] rfl au37 ?_; (with_reducible refine (spec_l1Cur_names.calls k g s0_0 s0_1 s0_2 t446 t449 t450 w0 _ ?side1 ?side2 A2.out).mono ?_); (case side1 => repeat (first | (with_reducible first | exact HI0.out | apply IsS45.alloc | apply IsS45.drewN | apply IsS45.drew | apply IsS45.set_1 | apply IsS45.set_2) | exact HI0.out)); (case side2 => repeat (first | (with_reducible first | exact HB.out | apply below_alloc | apply pw_below_drewN | apply below_drew1 | refine below_set ?_ (IsS45.ge HI0.out)) | exact HB.out)); rintro e w26 ⟨v447, rfl, ho0, hi, hb, hk⟩; refine ⟨_, rfl, ?_⟩; have n0_ := Aside0.mk (Kd.S_lower ho0 (keep_size (w := w) (g := g) (row := none) au36)); have n1_ := Aside0.mk (KeepBut.trans au36 hk (.inl rfl)); have n2_ := Aside0.mk (hb); have n3_ := Aside0.mk (hi); clear HK; clear HB; clear HI0; have HO448 := n0_; have HK := n1_; have HB := n2_; have HI0 := n3_; clear n0_ n1_ n2_ n3_; (try clear hb); (try clear hb2); (try clear hk); (try clear hi); (try clear ho0)) | ((with_reducible refine gate_callee (f := 36) rfl ?_); refine goesL_ (some 7) rfl rfl Tryd.func36 (by kernel_rfl) rfl #[.pointer (some ⟨g, 0, none⟩), .int .i64 12] rfl au37 ?_; (with_reducible refine (spec_l1Cur_pick.calls g s0_0 t449 t450 12 t451 t452 t453 w0 _ ?side1 ?side2 A3.out).mono ?_); (case side1 => repeat (first | (with_reducible first | exact HI0.out | apply IsS45.alloc | apply IsS45.drewN | apply IsS45.drew | apply IsS45.set_1 | apply IsS45.set_2) | exact HI0.out)); (case side2 => repeat (first | (with_reducible first | exact HB.out | apply below_alloc | apply pw_below_drewN | apply below_drew1 | refine below_set ?_ (IsS45.ge HI0.out)) | exact HB.out)); rintro e w27 ⟨rfl, hi, hb, hk⟩; refine ⟨_, rfl, ?_⟩; have n0_ := Aside0.mk (Kd.S_mono (Kd.S_keep (IsS45.apartS (show IsS45 w0 _ g s0_0 t449 t450 from by repeat (first | (with_reducible first | exact HI0.out | apply IsS45.alloc | apply IsS45.drewN | apply IsS45.drew | apply IsS45.set_1 | apply IsS45.set_2) | exact HI0.out)) au61 (by decide)) hk (fun _ h => h.2)) (fun _ h => h.1)); have n1_ := Aside0.mk (KeepBut.trans au36 hk (.inl rfl)); have n2_ := Aside0.mk (hb); have n3_ := Aside0.mk (hi); clear HO448; clear HK; clear HB; clear HI0; have HO448 := n0_; have HK := n1_; have HB := n2_; have HI0 := n3_; clear n0_ n1_ n2_ n3_; (try clear hb); (try clear hb2); (try clear hk); (try clear hi)))
   go_ret
   exact ⟨_, by first | rfl | (simp [errW_none, errW_some] <;> rfl) | (simp [*, errW_none, errW_some] <;> rfl), by (with_reducible repeat (first | apply Kd.S_alloc | apply Kd.S_drewN | apply Kd.S_drew)); exact HO448.out, by repeat (first | (with_reducible first | exact HI0.out | apply IsS45.alloc | apply IsS45.drewN | apply IsS45.drew | apply IsS45.set_1 | apply IsS45.set_2) | exact HI0.out), by repeat (first | (with_reducible first | exact HB.out | apply below_alloc | apply pw_below_drewN | apply below_drew1 | refine below_set ?_ (IsS45.ge HI0.out)) | exact HB.out), by repeat (first | (with_reducible first | exact HK.out | apply KeepBut.set_ | apply keep_drewN | apply keep_drew | apply keep_alloc) | exact HK.out)⟩


/-! ### spec_l1Cur_among: function 27 -/
def spec_l1Cur_among.f (s0_0 : List Int) (s0_1 : Int) (s0_2 : Int) (l1 : List Int) : Option (Int × Int × Int) := (spec_l1Cur_pick.f s0_0 s0_1 s0_2 (l1.length : Int)).bind fun bt479 => (if 0 ≤ bt479.1 then (if bt479.1 < (l1.length : Int) then (some (rd l1 bt479.1, bt479.2.1, bt479.2.2)) else (none)) else (none))
set_option maxHeartbeats 8000000 in
set_option maxRecDepth 100000 in
theorem spec_l1Cur_among.calls (g : Nat) (s0_0 : List Int) (s0_1 : Int) (s0_2 : Int) (A1 : Option Addr) (c1 : Nat) (l1 : List Int) (r1 : Int) (r2 : Int) (r3 : Int) (w0 w : World) (hI : IsS45 w0 w g s0_0 s0_1 s0_2) (hB : Below w0.heap.size w0 w) (hr1 : Kd.C (Kd.int .i64) w A1 l1.length l1) (hc1 : l1.length ≤ c1) (hf1 : ∀ ad, A1 = some ad → 0 < l1.length → ad.block ≠ g) (h : spec_l1Cur_among.f s0_0 s0_1 s0_2 l1 = some (r1, r2, r3)) :
  Calls Tryd.prog 27 #[.pointer (some ⟨g, 0, none⟩), .slice A1 l1.length c1] w fun e w' => e = .returned (.int .i64 r1) ∧ IsS45 w0 w' g s0_0 r2 r3 ∧ Below w0.heap.size w0 w' ∧ KeepBut w w' g none := by
 have HR1 := Aside0.mk hr1
 have HC1 := Aside0.mk hc1
 clear hr1 hc1
 have HI0 := Aside0.mk hI
 have HK := Aside0.mk (KeepBut.refl w g none)
 have HL := Aside0.mk hB.size
 clear hI
 have HW0 := Aside0.mk hB.size
 have HB := Aside0.mk hB
 clear hB
 have H : ((spec_l1Cur_pick.f s0_0 s0_1 s0_2 (l1.length : Int)).bind fun bt479 => (if 0 ≤ bt479.1 then (if bt479.1 < (l1.length : Int) then (some (rd l1 bt479.1, bt479.2.1, bt479.2.2)) else (none)) else (none))) = some (r1, r2, r3) := h
 clear h
 replace H := Option.bind_eq_some_iff.mp H
 obtain ⟨⟨t479, t480, t481⟩, A30, H⟩ := H
 replace H : (if 0 ≤ t479 then (if t479 < (l1.length : Int) then (some (rd l1 t479, t480, t481)) else (none)) else (none)) = some (r1, r2, r3) := H
 have A3 := Aside0.mk A30
 clear A30
 by_cases c4 : 0 ≤ t479
 ·
  rw [if_pos c4] at H
  have c4b0 : decide (0 ≤ t479) = true := decide_eq_true c4
  clear c4
  by_cases c5 : t479 < (l1.length : Int)
  ·
   rw [if_pos c5] at H
   have c5b0 : decide (t479 < (l1.length : Int)) = true := decide_eq_true c5
   clear c5
   simp only [Option.some.injEq, Prod.mk.injEq] at H
   obtain ⟨rfl, rfl, rfl⟩ := H
   go_enter Tryd.func27, Tryd.ntmps27
   go_wp2_with (first | ((with_reducible refine gate_callee (f := 36) rfl ?_); refine goesL_ (some 9) rfl rfl Tryd.func36 (by kernel_rfl) rfl #[.pointer (some ⟨g, 0, none⟩), .int .i64 (l1.length : Int)] rfl au37 ?_; (with_reducible refine (spec_l1Cur_pick.calls g s0_0 s0_1 s0_2 (l1.length : Int) t479 t480 t481 w0 _ ?side1 ?side2 A3.out).mono ?_); (case side1 => repeat (first | (with_reducible first | exact HI0.out | apply IsS45.alloc | apply IsS45.drewN | apply IsS45.drew | apply IsS45.set_1 | apply IsS45.set_2) | exact HI0.out)); (case side2 => repeat (first | (with_reducible first | exact HB.out | apply below_alloc | apply pw_below_drewN | apply below_drew1 | refine below_set ?_ (IsS45.ge HI0.out)) | exact HB.out)); rintro e w6 ⟨rfl, hi, hb, hk⟩; refine ⟨_, rfl, ?_⟩; have n0_ := Aside0.mk (KeepBut.trans au36 hk (.inl rfl)); have n1_ := Aside0.mk (hb); have n2_ := Aside0.mk (hi); clear HK; clear HB; clear HI0; have HK := n0_; have HB := n1_; have HI0 := n2_; clear n0_ n1_ n2_; (try clear hb); (try clear hb2); (try clear hk); (try clear hi); have p482 : 0 ≤ (t479 : Int) := of_decide_eq_true au73; have q482 : t479 < (l1.length : Int) := of_decide_eq_true au73; obtain ⟨ad482, e482, hx482_0⟩ := Kd.at_int HR1.out t479 p482 q482; cases e482; replace hx482_0 := keep_cell HK.out hx482_0 (by first | (rw [add_block]; exact hf1 _ rfl (by omega)) | exact hf1 _ rfl (by omega) | exact hf1 ad482 rfl (by omega)); replace p482 := eq_true p482; replace q482 := eq_true q482))
   go_ret
   exact ax0
  ·
   rw [if_neg c5] at H
   exact absurd H (by simp)
 ·
  rw [if_neg c4] at H
  exact absurd H (by simp)


/-! ### spec_DrawJoinNames: function 12 -/
def spec_DrawJoinNames.f (k : Nat) (l0 : List Int) : Option ((List (S26)) × Int) := (spec_l1Cur_anyNames.f k l0 0 0).bind fun bt484 => ((spec_l1Cur_among.f l0 bt484.2.1 bt484.2.2 (([1, 2, 3, 4, 2, 3, 0, 5] : List Int))).bind fun bt492 => (some (bt484.1, bt492.1)))
theorem spec_DrawJoinNames.mono : ∀ a0 k, LeO (spec_DrawJoinNames.f k a0) (spec_DrawJoinNames.f (k + 1) a0) := by
 intro a0 k
 unfold spec_DrawJoinNames.f
 repeat' first
   | (with_reducible exact spec_l1Cur_anyNames.mono _ _ _ _)
   | (with_reducible exact LeO.refl _)
   | (with_reducible exact LeO.none _)
   | (with_reducible refine LeO.ite ?_ ?_)
   | (with_reducible refine LeO.bind ?_ (fun _ => ?_))
   | exact spec_l1Cur_anyNames.mono _ _ _ _
   | exact LeO.none _
   | refine LeO.ite ?_ ?_
   | refine LeO.bind ?_ (fun _ => ?_)
set_option maxHeartbeats 8000000 in
set_option maxRecDepth 100000 in
theorem spec_DrawJoinNames.calls (k : Nat) (A0 : Option Addr) (c0 : Nat) (l0 : List Int) (r1 : List (S26)) (r2 : Int) (w : World) (hr0 : Kd.C (Kd.int .u8) w A0 l0.length l0) (hc0 : l0.length ≤ c0) (h : spec_DrawJoinNames.f k l0 = some (r1, r2)) :
  Calls Tryd.prog 12 #[.slice A0 l0.length c0] w fun e w' => ∃ v0_ : Value, e = .returned (.tuple #[v0_, .int .i64 r2]) ∧ Kd.S k26 26 w' w.heap.size (fun _ => True) v0_ r1 ∧ Below w.heap.size w w' := by
 have hu45 := Tryd.underlying45
 have HR0 := Aside0.mk hr0
 have HC0 := Aside0.mk hc0
 clear hr0 hc0
 have HB := Aside0.mk (Below.refl w.heap.size w)
 have H : ((spec_l1Cur_anyNames.f k l0 0 0).bind fun bt484 => ((spec_l1Cur_among.f l0 bt484.2.1 bt484.2.2 (([1, 2, 3, 4, 2, 3, 0, 5] : List Int))).bind fun bt492 => (some (bt484.1, bt492.1)))) = some (r1, r2) := h
 clear h
 replace H := Option.bind_eq_some_iff.mp H
 obtain ⟨⟨t484, t487, t488⟩, A20, H⟩ := H
 replace H : ((spec_l1Cur_among.f l0 t487 t488 (([1, 2, 3, 4, 2, 3, 0, 5] : List Int))).bind fun bt492 => (some (t484, bt492.1))) = some (r1, r2) := H
 have A2 := Aside0.mk A20
 clear A20
 obtain ⟨y489, hy489⟩ : ∃ y_ : List Int, y_ = (([1, 2, 3, 4, 2, 3, 0, 5] : List Int)) := ⟨_, rfl⟩
 replace H : ((spec_l1Cur_among.f l0 t487 t488 y489).bind fun bt492 => (some (t484, bt492.1))) = some (r1, r2) := by first | (rw [hy489]; with_reducible exact H) | (have H2_ := (Option.bind_some _ _).symm.trans H; rw [hy489]; with_reducible exact H2_) | (have H2_ := (Option.bind_some _ _).symm.trans H; with_reducible exact H2_) | with_reducible exact H | (rw [hy489]; exact H) | exact H
 have Ny489 := Aside0.mk hy489
 clear hy489
 replace H := Option.bind_eq_some_iff.mp H
 obtain ⟨⟨t492, t493, t494⟩, A30, H⟩ := H
 replace H : (some (t484, t492)) = some (r1, r2) := H
 have A3 := Aside0.mk A30
 clear A30
 simp only [Option.some.injEq, Prod.mk.injEq] at H
 obtain ⟨rfl, rfl⟩ := H
 go_enter Tryd.func12, Tryd.ntmps12
 go_wp2_with (first | ((with_reducible refine gate_dst (N := 7) rfl ?_); refine box_event ?hg (N := 7) ?hd (cs := #[.slice A0 l0.length c0, .int .i64 0, .int .u64 0]) (t := 45) ?hr ?_; (case hd => rfl); (case hg => rfl); (case hr => first | (go_simp; done) | (go_simp; rfl)); intro gb483 hg w4 hbox hb; have n0_ := Aside0.mk (below_step au38 hb); have n1_ := Aside0.mk ((show IsS45 w w4 gb483 l0 0 0 from ⟨_, _, hbox, by rw [hg]; exact (below_size au38), HR0.out⟩)); clear HB; have HB := n0_; have HI483 := n1_; clear n0_ n1_; clear hb hbox hg) | ((with_reducible refine gate_callee (f := 26) rfl ?_); refine goesL_ (some 9) rfl rfl Tryd.func26 (by kernel_rfl) rfl #[.pointer (some ⟨gb483, 0, none⟩)] rfl au37 ?_; (with_reducible refine (spec_l1Cur_anyNames.calls k gb483 l0 0 0 t484 t487 t488 w _ ?side1 ?side2 A2.out).mono ?_); (case side1 => repeat (first | (with_reducible first | exact HI483.out | apply IsS45.alloc | apply IsS45.drewN | apply IsS45.drew | apply IsS45.set_1 | apply IsS45.set_2) | exact HI483.out)); (case side2 => repeat (first | (with_reducible first | exact HB.out | apply below_alloc | apply pw_below_drewN | apply below_drew1 | refine below_set ?_ (IsS45.ge HI483.out)) | exact HB.out)); rintro e w5 ⟨v485, rfl, ho0, hi, hb, hk⟩; refine ⟨_, rfl, ?_⟩; have n0_ := Aside0.mk (Kd.S_lower ho0 (below_size au18)); have n1_ := Aside0.mk (hb); have n2_ := Aside0.mk (hi); clear HB; clear HI483; have HO486 := n0_; have HB := n1_; have HI483 := n2_; clear n0_ n1_ n2_; (try clear hb); (try clear hb2); (try clear hk); (try clear hi); (try clear ho0)) | ((with_reducible refine gate_dst (N := 11) rfl ?_); refine Kd.R_lit (Kd.int .i64) _ 3 ?hg (N := 11) ?hd (xs := ([1, 2, 3, 4, 2, 3, 0, 5] : List Int)) (inner := [.int .i64 1, .int .i64 2, .int .i64 3, .int .i64 4, .int .i64 2, .int .i64 3, .int .i64 0, .int .i64 5]) (ok := fun _ => True) (okp := fun _ => True) ?hr ?hp (fun _ hk => hk) trivial (Below.refl _ _) (Nat.le_refl _) (by simp) ?_; (case hd => rfl); (case hg => rfl); (case hr => first | (go_simp; done) | (go_simp; rfl)); (case hp => exact (Reps.one (show Kd.M (Kd.int .i64) _ _ _ 1 [.int .i64 1] from rfl) (Reps.one (show Kd.M (Kd.int .i64) _ _ _ 2 [.int .i64 2] from rfl) (Reps.one (show Kd.M (Kd.int .i64) _ _ _ 3 [.int .i64 3] from rfl) (Reps.one (show Kd.M (Kd.int .i64) _ _ _ 4 [.int .i64 4] from rfl) (Reps.one (show Kd.M (Kd.int .i64) _ _ _ 2 [.int .i64 2] from rfl) (Reps.one (show Kd.M (Kd.int .i64) _ _ _ 3 [.int .i64 3] from rfl) (Reps.one (show Kd.M (Kd.int .i64) _ _ _ 0 [.int .i64 0] from rfl) (Reps.one (show Kd.M (Kd.int .i64) _ _ _ 5 [.int .i64 5] from rfl) (Reps.none _ _)))))))))); intro v490 w6 ho7 hb hg_ hnew_; clear hg_ hnew_; (first | rw [← Ny489.out] at ho7 | (simp only [Int.reduceToNat] at ho7; rw [← Ny489.out] at ho7)); have n0_ := Aside0.mk (Kd.S_below au62 hb); have n1_ := Aside0.mk (Kd.R_lower ho7 (below_size au18)); have n2_ := Aside0.mk (IsS45.below (by repeat (first | (with_reducible first | exact HI483.out | apply IsS45.alloc | apply IsS45.drewN | apply IsS45.drew | apply IsS45.set_1 | apply IsS45.set_2) | exact HI483.out)) hb); have n3_ := Aside0.mk (below_step au18 hb); clear HO486; clear HI483; clear HB; have HO486 := n0_; have HO491 := n1_; have HI483 := n2_; have HB := n3_; clear n0_ n1_ n2_ n3_; clear hb ho7; obtain ⟨Ao8, co8, eo8⟩ := Kd.R_slice HO491.out; subst eo8) | ((with_reducible refine gate_callee (f := 27) rfl ?_); refine goesL_ (some 12) rfl rfl Tryd.func27 (by kernel_rfl) rfl #[.pointer (some ⟨gb483, 0, none⟩), .slice Ao8 y489.length co8] rfl au37 ?_; (with_reducible refine (spec_l1Cur_among.calls gb483 l0 t487 t488 _ _ y489 t492 t493 t494 w _ ?side1 ?side2 ?side3 ?side4 ?side5 A3.out).mono ?_); (case side1 => repeat (first | (with_reducible first | exact HI483.out | apply IsS45.alloc | apply IsS45.drewN | apply IsS45.drew | apply IsS45.set_1 | apply IsS45.set_2) | exact HI483.out)); (case side2 => repeat (first | (with_reducible first | exact HB.out | apply below_alloc | apply pw_below_drewN | apply below_drew1 | refine below_set ?_ (IsS45.ge HI483.out)) | exact HB.out)); (case side3 => repeat (first | exact (Kd.R_reads' HO491.out).2.2 | (with_reducible refine Kd.C_alloc ?_ _) | (with_reducible refine Kd.C_drewN ?_ _) | (with_reducible refine Kd.C_drew ?_))); (case side4 => exact (Kd.R_reads' HO491.out).2.1); (case side5 => exact far_slice (IsS45.own_ne HI483.out HO491.out (by decide))); rintro e w9 ⟨rfl, hi, hb, hk⟩; refine ⟨_, rfl, ?_⟩; have n0_ := Aside0.mk (Kd.S_mono (Kd.S_keep (IsS45.apartS (show IsS45 w _ gb483 l0 t487 t488 from by repeat (first | (with_reducible first | exact HI483.out | apply IsS45.alloc | apply IsS45.drewN | apply IsS45.drew | apply IsS45.set_1 | apply IsS45.set_2) | exact HI483.out)) au62 (by decide)) hk (fun _ h => h.2)) (fun _ h => h.1)); have n1_ := Aside0.mk (Kd.R_mono (Kd.R_keep (IsS45.apart (show IsS45 w _ gb483 l0 t487 t488 from by repeat (first | (with_reducible first | exact HI483.out | apply IsS45.alloc | apply IsS45.drewN | apply IsS45.drew | apply IsS45.set_1 | apply IsS45.set_2) | exact HI483.out)) (by (with_reducible repeat (first | apply Kd.R_alloc | apply Kd.R_drewN | apply Kd.R_drew)); exact HO491.out) (by decide)) hk (fun _ h => h.2)) (fun _ h => h.1)); have n2_ := Aside0.mk (hb); have n3_ := Aside0.mk (hi); clear HO486; clear HO491; clear HB; clear HI483; have HO486 := n0_; have HO491 := n1_; have HB := n2_; have HI483 := n3_; clear n0_ n1_ n2_ n3_; (try clear hb); (try clear hb2); (try clear hk); (try clear hi)))
 go_ret2
 exact ⟨_, by first | rfl | (simp [errW_none, errW_some] <;> rfl) | (simp [*, errW_none, errW_some] <;> rfl), by (with_reducible repeat (first | apply Kd.S_alloc | apply Kd.S_drewN | apply Kd.S_drew)); exact HO486.out, by repeat (first | (with_reducible first | exact HB.out | apply below_alloc | apply pw_below_drewN | apply below_drew1 | refine below_set ?_ (IsS45.ge HI483.out)) | exact HB.out)⟩


/-! ### impl_inside: function 64 -/
def impl_inside.f (a0 : Int) (a1 : Int) (a2 : Int) : Option (Bool) := if a0 ≥ a1 then (some (decide (a0 ≤ a2))) else (some false)
set_option maxHeartbeats 8000000 in
set_option maxRecDepth 100000 in
theorem impl_inside.calls (a0 : Int) (a1 : Int) (a2 : Int) (r : Bool) (w : World) (h : impl_inside.f a0 a1 a2 = some r) :
  Calls Tryd.prog 64 #[.int .i64 a0, .int .i64 a1, .int .i64 a2] w fun e w' => e = .returned (.bool r) ∧ Drawn0 w w' := by
 have H : (if a0 ≥ a1 then (some (decide (a0 ≤ a2))) else (some false)) = some r := h
 clear h
 by_cases c4 : a0 ≥ a1
 ·
  rw [if_pos c4] at H
  have c4b0 : decide (a1 ≤ a0) = true := decide_eq_true c4
  clear c4
  obtain rfl := Option.some.inj H
  go_enter Tryd.func64, Tryd.ntmps64
  go_wp2
  go_ret
  exact ax1
 ·
  rw [if_neg c4] at H
  have c4b0 : decide (a1 ≤ a0) = false := decide_eq_false c4
  clear c4
  obtain rfl := Option.some.inj H
  go_enter Tryd.func64, Tryd.ntmps64
  go_wp2
  go_ret
  exact ax1


/-! ### impl_isUpper: function 70 -/
def impl_isUpper.f (a0 : Int) : Option (Bool) := if a0 ≥ 65 then (some (decide (a0 ≤ 90))) else (some false)
set_option maxHeartbeats 8000000 in
set_option maxRecDepth 100000 in
theorem impl_isUpper.calls (a0 : Int) (r : Bool) (w : World) (h : impl_isUpper.f a0 = some r) :
  Calls Tryd.prog 70 #[.int .u8 a0] w fun e w' => e = .returned (.bool r) ∧ Drawn0 w w' := by
 have H : (if a0 ≥ 65 then (some (decide (a0 ≤ 90))) else (some false)) = some r := h
 clear h
 by_cases c2 : a0 ≥ 65
 ·
  rw [if_pos c2] at H
  have c2b0 : decide (65 ≤ a0) = true := decide_eq_true c2
  clear c2
  obtain rfl := Option.some.inj H
  go_enter Tryd.func70, Tryd.ntmps70
  go_wp2
  go_ret
  exact ax1
 ·
  rw [if_neg c2] at H
  have c2b0 : decide (65 ≤ a0) = false := decide_eq_false c2
  clear c2
  obtain rfl := Option.some.inj H
  go_enter Tryd.func70, Tryd.ntmps70
  go_wp2
  go_ret
  exact ax1


/-! ### impl_isLower: function 72 -/
def impl_isLower.f (a0 : Int) : Option (Bool) := if a0 ≥ 97 then (some (decide (a0 ≤ 122))) else (some false)
set_option maxHeartbeats 8000000 in
set_option maxRecDepth 100000 in
theorem impl_isLower.calls (a0 : Int) (r : Bool) (w : World) (h : impl_isLower.f a0 = some r) :
  Calls Tryd.prog 72 #[.int .u8 a0] w fun e w' => e = .returned (.bool r) ∧ Drawn0 w w' := by
 have H : (if a0 ≥ 97 then (some (decide (a0 ≤ 122))) else (some false)) = some r := h
 clear h
 by_cases c2 : a0 ≥ 97
 ·
  rw [if_pos c2] at H
  have c2b0 : decide (97 ≤ a0) = true := decide_eq_true c2
  clear c2
  obtain rfl := Option.some.inj H
  go_enter Tryd.func72, Tryd.ntmps72
  go_wp2
  go_ret
  exact ax1
 ·
  rw [if_neg c2] at H
  have c2b0 : decide (97 ≤ a0) = false := decide_eq_false c2
  clear c2
  obtain rfl := Option.some.inj H
  go_enter Tryd.func72, Tryd.ntmps72
  go_wp2
  go_ret
  exact ax1


/-! ### impl_isLetter: function 73 -/
def impl_isLetter.f (a0 : Int) : Option (Bool) := (impl_isUpper.f a0).bind fun t240 => (if t240 = true then (some true) else ((impl_isLower.f a0).bind fun t241 => (some t241)))
set_option maxHeartbeats 8000000 in
set_option maxRecDepth 100000 in
theorem impl_isLetter.calls (a0 : Int) (r : Bool) (w : World) (h : impl_isLetter.f a0 = some r) :
  Calls Tryd.prog 73 #[.int .u8 a0] w fun e w' => e = .returned (.bool r) ∧ Drawn0 w w' := by
 have H : ((impl_isUpper.f a0).bind fun t240 => (if t240 = true then (some true) else ((impl_isLower.f a0).bind fun t241 => (some t241)))) = some r := h
 clear h
 replace H := Option.bind_eq_some_iff.mp H
 obtain ⟨t240, A20, H⟩ := H
 try dsimp only at H
 have A2 := Aside0.mk A20
 clear A20
 by_cases c3 : t240 = true
 ·
  subst c3
  replace H := (if_pos rfl).symm.trans H
  obtain rfl := Option.some.inj H
  go_enter Tryd.func73, Tryd.ntmps73
  go_wp2_with (first | ((with_reducible refine gate_callee (f := 70) rfl ?_); refine goesL_ (some 4) rfl rfl Tryd.func70 (by kernel_rfl) rfl #[.int .u8 a0] rfl au37 ?_; (with_reducible refine (impl_isUpper.calls a0 true _ A2.out).mono ?_); rintro e w' ⟨rfl, ⟨nd, rfl⟩⟩; refine ⟨_, rfl, ?_⟩))
  go_ret
  exact ax1
 ·
  replace c3 := Bool.eq_false_iff.mpr c3
  subst c3
  replace H := (if_neg (show ¬ (false = true) by decide)).symm.trans H
  replace H := Option.bind_eq_some_iff.mp H
  obtain ⟨t241, A40, H⟩ := H
  try dsimp only at H
  have A4 := Aside0.mk A40
  clear A40
  obtain rfl := Option.some.inj H
  go_enter Tryd.func73, Tryd.ntmps73
  go_wp2_with (first | ((with_reducible refine gate_callee (f := 70) rfl ?_); refine goesL_ (some 4) rfl rfl Tryd.func70 (by kernel_rfl) rfl #[.int .u8 a0] rfl au37 ?_; (with_reducible refine (impl_isUpper.calls a0 false _ A2.out).mono ?_); rintro e w' ⟨rfl, ⟨nd, rfl⟩⟩; refine ⟨_, rfl, ?_⟩) | (go_at_call 72; (with_reducible refine (impl_isLower.calls a0 t241 _ A4.out).mono ?_); rintro e w' ⟨rfl, ⟨nd, rfl⟩⟩))
  go_ret
  exact ax1


/-! ### impl_isNameWord: function 45 -/
mutual
def impl_isNameWord.j0 : Nat → ByteArray → Bool → Option (Bool)
 | 0, _, _ => none
 | k + 1, x0, x22 => if x22 = true then (some false) else (impl_isNameWord.l0 k x0 0)
def impl_isNameWord.l0 : Nat → ByteArray → Int → Option (Bool)
 | 0, _, _ => none
 | k + 1, x0, x3 => if x3 < (x0.size : Int) then (if 0 ≤ x3 then ((impl_isLetter.f (bt x0 x3)).bind fun t245 => (if t245 = true then (impl_isNameWord.l0 k x0 (wrap64 (x3 + 1))) else (if (bt x0 x3) = 45 then (if 0 ≤ (wrap64 (x3 - 1)) then (if (wrap64 (x3 - 1)) < (x0.size : Int) then ((impl_isLetter.f (bt x0 (wrap64 (x3 - 1)))).bind fun t246 => (if t246 = true then (impl_isNameWord.l0 k x0 (wrap64 (x3 + 1))) else (some false))) else (none)) else (none)) else (if (bt x0 x3) = 39 then (if 0 ≤ (wrap64 (x3 - 1)) then (if (wrap64 (x3 - 1)) < (x0.size : Int) then ((impl_isLetter.f (bt x0 (wrap64 (x3 - 1)))).bind fun t247 => (if t247 = true then (impl_isNameWord.l0 k x0 (wrap64 (x3 + 1))) else (some false))) else (none)) else (none)) else (some false))))) else (none)) else (some true)
end
def impl_isNameWord.f (k : Nat) (a0 : ByteArray) : Option (Bool) := (impl_inside.f (a0.size : Int) 1 12).bind fun t242 => (if t242 = true then (if 0 ≤ (wrap64 ((a0.size : Int) - 1)) then (if (wrap64 ((a0.size : Int) - 1)) < (a0.size : Int) then ((impl_isLetter.f (bt a0 (wrap64 ((a0.size : Int) - 1)))).bind fun t243 => (if t243 = true then (if 0 < (a0.size : Int) then ((impl_isLetter.f (bt a0 0)).bind fun t244 => (impl_isNameWord.j0 k a0 (!t244))) else (none)) else (impl_isNameWord.j0 k a0 true))) else (none)) else (none)) else (impl_isNameWord.j0 k a0 true))
theorem impl_isNameWord.mono_l : ∀ k, (∀ y0 y1, LeO (impl_isNameWord.j0 k y0 y1) (impl_isNameWord.j0 (k + 1) y0 y1)) ∧ (∀ y0 y1, LeO (impl_isNameWord.l0 k y0 y1) (impl_isNameWord.l0 (k + 1) y0 y1))
 | 0 => ⟨fun _ _ r h => by simp [impl_isNameWord.j0] at h, fun _ _ r h => by simp [impl_isNameWord.l0] at h⟩
 | k + 1 => by
  obtain ⟨ih0, ih1⟩ := impl_isNameWord.mono_l k
  refine ⟨?_, ?_⟩
  ·
   intro y0 y1
   unfold impl_isNameWord.j0
   repeat' first
   | (with_reducible exact ih0 _ _)
   | (with_reducible exact ih1 _ _)
   | (with_reducible exact LeO.refl _)
   | (with_reducible exact LeO.none _)
   | (with_reducible refine LeO.ite ?_ ?_)
   | (with_reducible refine LeO.bind ?_ (fun _ => ?_))
   | exact ih0 _ _
   | exact ih1 _ _
   | exact LeO.none _
   | refine LeO.ite ?_ ?_
   | refine LeO.bind ?_ (fun _ => ?_)
  ·
   intro y0 y1
   unfold impl_isNameWord.l0
   repeat' first
   | (with_reducible exact ih0 _ _)
   | (with_reducible exact ih1 _ _)
   | (with_reducible exact LeO.refl _)
   | (with_reducible exact LeO.none _)
   | (with_reducible refine LeO.ite ?_ ?_)
   | (with_reducible refine LeO.bind ?_ (fun _ => ?_))
   | exact ih0 _ _
   | exact ih1 _ _
   | exact LeO.none _
   | refine LeO.ite ?_ ?_
   | refine LeO.bind ?_ (fun _ => ?_)
theorem impl_isNameWord.mono : ∀ a0 k, LeO (impl_isNameWord.f k a0) (impl_isNameWord.f (k + 1) a0) := by
 intro a0 k
 obtain ⟨ih0, ih1⟩ := impl_isNameWord.mono_l k
 unfold impl_isNameWord.f
 repeat' first
   | (with_reducible exact ih0 _ _)
   | (with_reducible exact ih1 _ _)
   | (with_reducible exact LeO.refl _)
   | (with_reducible exact LeO.none _)
   | (with_reducible refine LeO.ite ?_ ?_)
   | (with_reducible refine LeO.bind ?_ (fun _ => ?_))
   | exact ih0 _ _
   | exact ih1 _ _
   | exact LeO.none _
   | refine LeO.ite ?_ ?_
   | refine LeO.bind ?_ (fun _ => ?_)
set_option maxRecDepth 100000 in
theorem impl_isNameWord.L0 {P : Prop} (h : P := by
  go_wp2_with (first | ((with_reducible refine gate_callee (f := 73) rfl ?_); refine goesL_ (some 32) rfl rfl Tryd.func73 (by kernel_rfl) rfl #[.int .u8 (bt a0 x3_2)] rfl au37 ?_; (with_reducible refine (impl_isLetter.calls (bt a0 x3_2) _ _ A18.out).mono ?_); rintro e w' ⟨rfl, ⟨nd, rfl⟩⟩; refine ⟨_, rfl, ?_⟩; have p20 : 0 ≤ (x3_2 : Int) := of_decide_eq_true au73; have q20 : x3_2 < (a0.size : Int) := of_decide_eq_true au73; have hx20 := bt_at a0 x3_2; replace p20 := eq_true p20; replace q20 := eq_true q20; have p28 : 0 ≤ (x3_2 : Int) := of_decide_eq_true au73; have q28 : x3_2 < (a0.size : Int) := of_decide_eq_true au73; have hx28 := bt_at a0 x3_2; replace p28 := eq_true p28; replace q28 := eq_true q28; have p33 : 0 ≤ ((ji30) : Int) := of_decide_eq_true au73; have q33 : (ji30) < (a0.size : Int) := of_decide_eq_true au73; have hx33 := bt_at a0 (ji30); replace p33 := eq_true p33; replace q33 := eq_true q33) | (go_at_call 73; (with_reducible refine (impl_isLetter.calls (bt a0 (ji30)) _ _ A34.out).mono ?_); rintro e w' ⟨rfl, ⟨nd, rfl⟩⟩))
  go_ret
  first | (exact ⟨by first | rfl | (simp; done) | (simp only [← hji30] <;> (first | rfl | simp)) | (simp [*]; done), by repeat (first | exact Drawn0.refl _ | apply Drawn0.step)⟩) | (exact ax1)) : P := h
set_option maxHeartbeats 8000000 in
set_option maxRecDepth 100000 in
theorem impl_isNameWord.calls (k : Nat) (a0 : ByteArray) (r : Bool) (w : World) (h : impl_isNameWord.f k a0 = some r) :
  Calls Tryd.prog 45 #[.string a0] w fun e w' => e = .returned (.bool r) ∧ Drawn0 w w' := by
 have H : ((impl_inside.f (a0.size : Int) 1 12).bind fun t242 => (if t242 = true then (if 0 ≤ (wrap64 ((a0.size : Int) - 1)) then (if (wrap64 ((a0.size : Int) - 1)) < (a0.size : Int) then ((impl_isLetter.f (bt a0 (wrap64 ((a0.size : Int) - 1)))).bind fun t243 => (if t243 = true then (if 0 < (a0.size : Int) then ((impl_isLetter.f (bt a0 0)).bind fun t244 => (impl_isNameWord.j0 k a0 (!t244))) else (none)) else (impl_isNameWord.j0 k a0 true))) else (none)) else (none)) else (impl_isNameWord.j0 k a0 true))) = some r := h
 clear h
 have HC2 := Aside0.mk H
 clear H
 go_enter Tryd.func45, Tryd.ntmps45
 go_upto_region 1 with (fail)
 go_cut [22] (fun v22 wc => ∃ (kq : Nat) (x22_1 : Bool), v22 = .bool x22_1 ∧ Aside0 (impl_isNameWord.j0 kq a0 x22_1 = some r) ∧ Aside0 (kq ≤ k) ∧ Drawn0 w wc)
 case first =>
  have H := HC2.out
  clear HC2
  replace H := Option.bind_eq_some_iff.mp H
  obtain ⟨t242, A30, H⟩ := H
  try dsimp only at H
  have A3 := Aside0.mk A30
  clear A30
  by_cases c4 : t242 = true
  ·
   subst c4
   replace H := (if_pos rfl).symm.trans H
   obtain ⟨ji5, hji5⟩ : ∃ j_ : Int, (wrap64 ((a0.size : Int) - 1)) = j_ := ⟨_, rfl⟩
   replace H : (if 0 ≤ (ji5) then (if (ji5) < (a0.size : Int) then ((impl_isLetter.f (bt a0 (ji5))).bind fun t243 => (if t243 = true then (if 0 < (a0.size : Int) then ((impl_isLetter.f (bt a0 0)).bind fun t244 => (impl_isNameWord.j0 k a0 (!t244))) else (none)) else (impl_isNameWord.j0 k a0 true))) else (none)) else (none)) = some r := by first | (rw [hji5] at H; exact H) | (simp only [hji5] at H ⊢; exact H)
   (try rw [hji5] at A3)
   have hji5w : (IntKind.i64.wrap ((a0.size : Int) - 1)) = ji5 := (i64_w _).trans hji5
   by_cases c6 : 0 ≤ (ji5)
   ·
    rw [if_pos c6] at H
    have c6b0 : decide (0 ≤ (ji5)) = true := decide_eq_true c6
    clear c6
    (first | rw [c6b0] | (simp only [i64_w, i32_w]; rw [c6b0]) | skip)
    by_cases c7 : (ji5) < (a0.size : Int)
    ·
     rw [if_pos c7] at H
     have c7b0 : decide ((ji5) < (a0.size : Int)) = true := decide_eq_true c7
     clear c7
     replace H := Option.bind_eq_some_iff.mp H
     obtain ⟨t243, A90, H⟩ := H
     try dsimp only at H
     have A9 := Aside0.mk A90
     clear A90
     by_cases c10 : t243 = true
     ·
      subst c10
      replace H := (if_pos rfl).symm.trans H
      by_cases c11 : 0 < (a0.size : Int)
      ·
       rw [if_pos c11] at H
       have c11b0 : decide (0 < (a0.size : Int)) = true := decide_eq_true c11
       have c11b1 : decide (0 < a0.size) = true := decide_eq_true (by omega)
       clear c11
       replace H := Option.bind_eq_some_iff.mp H
       obtain ⟨t244, A130, H⟩ := H
       try dsimp only at H
       have A13 := Aside0.mk A130
       clear A130
       have H' := Aside0.mk H
       clear H
       go_wp2_with (first | ((with_reducible refine gate_callee (f := 64) rfl ?_); refine goesL_ (some 6) rfl rfl Tryd.func64 (by kernel_rfl) rfl #[.int .i64 (a0.size : Int), .int .i64 1, .int .i64 12] rfl au37 ?_; (with_reducible refine (impl_inside.calls (a0.size : Int) 1 12 _ _ A3.out).mono ?_); rintro e w' ⟨rfl, ⟨nd, rfl⟩⟩; refine ⟨_, rfl, ?_⟩; have p8 : 0 ≤ ((ji5) : Int) := of_decide_eq_true au73; have q8 : (ji5) < (a0.size : Int) := of_decide_eq_true au73; have hx8 := bt_at a0 (ji5); replace p8 := eq_true p8; replace q8 := eq_true q8) | (go_at_call 73; (with_reducible refine (impl_isLetter.calls (bt a0 (ji5)) _ _ A9.out).mono ?_); rintro e w' ⟨rfl, ⟨nd, rfl⟩⟩; have p12 : 0 ≤ (0 : Int) := (by omega); have q12 : 0 < a0.size := (by have : (0 : Int) < (a0.size : Int) := of_decide_eq_true au73; omega); have hx12 : ∀ h : 0 < a0.size, ((a0[0]'h).toNat : Int) = bt a0 0 := bt_at a0 0; clear p12; have qi12 : (0 < (a0.size : Int)) = True := eq_true (of_decide_eq_true au73); replace q12 := eq_true q12) | (go_at_call 73; (with_reducible refine (impl_isLetter.calls (bt a0 0) t244 _ A13.out).mono ?_); rintro e w' ⟨rfl, ⟨nd, rfl⟩⟩))
       go_meet
       case rel => exact ⟨_, (!t244), au74, H', ⟨by first | omega | exact Nat.le_refl _⟩, by repeat (first | exact Drawn0.refl _ | apply Drawn0.step)⟩
      ·
       rw [if_neg c11] at H
       exact absurd H (by simp)
     ·
      replace c10 := Bool.eq_false_iff.mpr c10
      subst c10
      replace H := (if_neg (show ¬ (false = true) by decide)).symm.trans H
      have H' := Aside0.mk H
      clear H
      go_wp2_with (first | ((with_reducible refine gate_callee (f := 64) rfl ?_); refine goesL_ (some 6) rfl rfl Tryd.func64 (by kernel_rfl) rfl #[.int .i64 (a0.size : Int), .int .i64 1, .int .i64 12] rfl au37 ?_; (with_reducible refine (impl_inside.calls (a0.size : Int) 1 12 _ _ A3.out).mono ?_); rintro e w' ⟨rfl, ⟨nd, rfl⟩⟩; refine ⟨_, rfl, ?_⟩; have p8 : 0 ≤ ((ji5) : Int) := of_decide_eq_true au73; have q8 : (ji5) < (a0.size : Int) := of_decide_eq_true au73; have hx8 := bt_at a0 (ji5); replace p8 := eq_true p8; replace q8 := eq_true q8) | (go_at_call 73; (with_reducible refine (impl_isLetter.calls (bt a0 (ji5)) _ _ A9.out).mono ?_); rintro e w' ⟨rfl, ⟨nd, rfl⟩⟩))
      go_meet
      case rel => exact ⟨_, (true), au74, H', ⟨by first | omega | exact Nat.le_refl _⟩, by repeat (first | exact Drawn0.refl _ | apply Drawn0.step)⟩
    ·
     rw [if_neg c7] at H
     exact absurd H (by simp)
   ·
    rw [if_neg c6] at H
    exact absurd H (by simp)
  ·
   replace c4 := Bool.eq_false_iff.mpr c4
   subst c4
   replace H := (if_neg (show ¬ (false = true) by decide)).symm.trans H
   have H' := Aside0.mk H
   clear H
   go_wp2_with (first | ((with_reducible refine gate_callee (f := 64) rfl ?_); refine goesL_ (some 6) rfl rfl Tryd.func64 (by kernel_rfl) rfl #[.int .i64 (a0.size : Int), .int .i64 1, .int .i64 12] rfl au37 ?_; (with_reducible refine (impl_inside.calls (a0.size : Int) 1 12 _ _ A3.out).mono ?_); rintro e w' ⟨rfl, ⟨nd, rfl⟩⟩; refine ⟨_, rfl, ?_⟩))
   go_meet
   case rel => exact ⟨_, (true), au74, H', ⟨by first | omega | exact Nat.le_refl _⟩, by repeat (first | exact Drawn0.refl _ | apply Drawn0.step)⟩
 case rest =>
  clear HC2
  try clear c1
  try clear p1
  try clear q1
  try clear hx1
  try clear qi1
  try clear p2
  try clear c4
  try clear c6
  try clear c6b0
  try clear p6
  try clear c7
  try clear c7b0
  try clear p8
  try clear q8
  try clear hx8
  try clear c10
  try clear c11
  try clear c11b0
  try clear c11b1
  try clear p12
  try clear q12
  try clear hx12
  try clear qi12
  try clear p12
  try clear p8
  try clear q12
  try clear q8
  obtain ⟨kq, x22_1, rfl, HA, HJ1, ⟨mc1, rfl⟩⟩ := hcut
  cases kq with
  | zero => exact absurd HA.out (by simp [impl_isNameWord.j0])
  | succ kj1 =>
   have H := HA.out
   clear HA
   simp only [impl_isNameWord.j0] at H
   by_cases c14 : x22_1 = true
   ·
    subst c14
    replace H := (if_pos rfl).symm.trans H
    obtain rfl := Option.some.inj H
    exact impl_isNameWord.L0
   ·
    replace c14 := Bool.eq_false_iff.mpr c14
    subst c14
    replace H := (if_neg (show ¬ (false = true) by decide)).symm.trans H
    have H' := Aside0.mk H
    clear H
    go_wp2
    go_loopg [3] kj1 (fun kq v3 w' => ∃ (x3_2 : Int), v3 = .int .i64 x3_2 ∧ Aside0 (impl_isNameWord.l0 kq a0 x3_2 = some r) ∧ Aside0 (kq ≤ kj1) ∧ Drawn0 w w')
    case atStart => exact ⟨(0), au74, H', ⟨Nat.le_refl _⟩, by repeat (first | exact Drawn0.refl _ | apply Drawn0.step)⟩
    case round =>
     clear H'
     try clear c1
     try clear p1
     try clear q1
     try clear hx1
     try clear qi1
     try clear p2
     try clear c4
     try clear c6
     try clear c6b0
     try clear p6
     try clear c7
     try clear c7b0
     try clear p8
     try clear q8
     try clear hx8
     try clear c10
     try clear c11
     try clear c11b0
     try clear c11b1
     try clear p12
     try clear q12
     try clear hx12
     try clear qi12
     try clear c14
     try clear p1
     try clear p12
     try clear p2
     try clear p6
     try clear p8
     try clear q1
     try clear q12
     try clear q8
     obtain ⟨x3_2, rfl, HA, HK2, ⟨m2, rfl⟩⟩ := hrel
     cases gk with
     | zero => exact absurd HA.out (by simp [impl_isNameWord.l0])
     | succ k2 =>
      have H := HA.out
      clear HA
      simp only [impl_isNameWord.l0] at H
      by_cases c15 : x3_2 < (a0.size : Int)
      ·
       rw [if_pos c15] at H
       have c15b0 : decide (x3_2 < (a0.size : Int)) = true := decide_eq_true c15
       clear c15
       by_cases c16 : 0 ≤ x3_2
       ·
        rw [if_pos c16] at H
        have c16b0 : decide (0 ≤ x3_2) = true := decide_eq_true c16
        clear c16
        replace H := Option.bind_eq_some_iff.mp H
        obtain ⟨t245, A180, H⟩ := H
        try dsimp only at H
        have A18 := Aside0.mk A180
        clear A180
        by_cases c19 : t245 = true
        ·
         subst c19
         replace H := (if_pos rfl).symm.trans H
         have H' := Aside0.mk H
         clear H
         have p17 : 0 ≤ (x3_2 : Int) := of_decide_eq_true au73
         have q17 : x3_2 < (a0.size : Int) := of_decide_eq_true au73
         have hx17 := bt_at a0 x3_2
         replace p17 := eq_true p17
         replace q17 := eq_true q17
         go_wp2_with (first | ((with_reducible refine gate_callee (f := 73) rfl ?_); refine goesL_ (some 32) rfl rfl Tryd.func73 (by kernel_rfl) rfl #[.int .u8 (bt a0 x3_2)] rfl au37 ?_; (with_reducible refine (impl_isLetter.calls (bt a0 x3_2) _ _ A18.out).mono ?_); rintro e w' ⟨rfl, ⟨nd, rfl⟩⟩; refine ⟨_, rfl, ?_⟩))
         go_roundg k2
         case measure => have := HJ1.out; have := HK2.out; omega
         case rel => exact ⟨(wrap64 (x3_2 + 1)), au74, H', ⟨by have := HJ1.out; have := HK2.out; omega⟩, by repeat (first | exact Drawn0.refl _ | apply Drawn0.step)⟩
        ·
         replace c19 := Bool.eq_false_iff.mpr c19
         subst c19
         replace H := (if_neg (show ¬ (false = true) by decide)).symm.trans H
         by_cases c21 : (bt a0 x3_2) = 45
         ·
          rw [if_pos c21] at H
          have c21b0 : ((bt a0 x3_2) == 45) = true := beq_iff_eq.mpr c21
          have c21b1 : ((bt a0 x3_2) != 45) = false := bne_eq_false_iff_eq.mpr c21
          clear c21
          obtain ⟨ji22, hji22⟩ : ∃ j_ : Int, (wrap64 (x3_2 - 1)) = j_ := ⟨_, rfl⟩
          replace H : (if 0 ≤ (ji22) then (if (ji22) < (a0.size : Int) then ((impl_isLetter.f (bt a0 (ji22))).bind fun t246 => (if t246 = true then (impl_isNameWord.l0 k2 a0 (wrap64 (x3_2 + 1))) else (some false))) else (none)) else (none)) = some r := by first | (rw [hji22] at H; exact H) | (simp only [hji22] at H ⊢; exact H)
          (try rw [hji22] at A18)
          have hji22w : (IntKind.i64.wrap (x3_2 - 1)) = ji22 := (i64_w _).trans hji22
          by_cases c23 : 0 ≤ (ji22)
          ·
           rw [if_pos c23] at H
           have c23b0 : decide (0 ≤ (ji22)) = true := decide_eq_true c23
           clear c23
           by_cases c24 : (ji22) < (a0.size : Int)
           ·
            rw [if_pos c24] at H
            have c24b0 : decide ((ji22) < (a0.size : Int)) = true := decide_eq_true c24
            clear c24
            replace H := Option.bind_eq_some_iff.mp H
            obtain ⟨t246, A260, H⟩ := H
            try dsimp only at H
            have A26 := Aside0.mk A260
            clear A260
            by_cases c27 : t246 = true
            ·
             subst c27
             replace H := (if_pos rfl).symm.trans H
             have H' := Aside0.mk H
             clear H
             have p17 : 0 ≤ (x3_2 : Int) := of_decide_eq_true au73
             have q17 : x3_2 < (a0.size : Int) := of_decide_eq_true au73
             have hx17 := bt_at a0 x3_2
             replace p17 := eq_true p17
             replace q17 := eq_true q17
             go_wp2_with (first | ((with_reducible refine gate_callee (f := 73) rfl ?_); refine goesL_ (some 32) rfl rfl Tryd.func73 (by kernel_rfl) rfl #[.int .u8 (bt a0 x3_2)] rfl au37 ?_; (with_reducible refine (impl_isLetter.calls (bt a0 x3_2) _ _ A18.out).mono ?_); rintro e w' ⟨rfl, ⟨nd, rfl⟩⟩; refine ⟨_, rfl, ?_⟩; have p20 : 0 ≤ (x3_2 : Int) := of_decide_eq_true au73; have q20 : x3_2 < (a0.size : Int) := of_decide_eq_true au73; have hx20 := bt_at a0 x3_2; replace p20 := eq_true p20; replace q20 := eq_true q20; have p25 : 0 ≤ ((ji22) : Int) := of_decide_eq_true au73; have q25 : (ji22) < (a0.size : Int) := of_decide_eq_true au73; have hx25 := bt_at a0 (ji22); replace p25 := eq_true p25; replace q25 := eq_true q25) | (go_at_call 73; (with_reducible refine (impl_isLetter.calls (bt a0 (ji22)) _ _ A26.out).mono ?_); rintro e w' ⟨rfl, ⟨nd, rfl⟩⟩))
             go_roundg k2
             case measure => have := HJ1.out; have := HK2.out; omega
             case rel => exact ⟨(wrap64 (x3_2 + 1)), au74, H', ⟨by have := HJ1.out; have := HK2.out; omega⟩, by repeat (first | exact Drawn0.refl _ | apply Drawn0.step)⟩
            ·
             replace c27 := Bool.eq_false_iff.mpr c27
             subst c27
             replace H := (if_neg (show ¬ (false = true) by decide)).symm.trans H
             obtain rfl := Option.some.inj H
             have p17 : 0 ≤ (x3_2 : Int) := of_decide_eq_true au73
             have q17 : x3_2 < (a0.size : Int) := of_decide_eq_true au73
             have hx17 := bt_at a0 x3_2
             replace p17 := eq_true p17
             replace q17 := eq_true q17
             go_wp2_with (first | ((with_reducible refine gate_callee (f := 73) rfl ?_); refine goesL_ (some 32) rfl rfl Tryd.func73 (by kernel_rfl) rfl #[.int .u8 (bt a0 x3_2)] rfl au37 ?_; (with_reducible refine (impl_isLetter.calls (bt a0 x3_2) _ _ A18.out).mono ?_); rintro e w' ⟨rfl, ⟨nd, rfl⟩⟩; refine ⟨_, rfl, ?_⟩; have p20 : 0 ≤ (x3_2 : Int) := of_decide_eq_true au73; have q20 : x3_2 < (a0.size : Int) := of_decide_eq_true au73; have hx20 := bt_at a0 x3_2; replace p20 := eq_true p20; replace q20 := eq_true q20; have p25 : 0 ≤ ((ji22) : Int) := of_decide_eq_true au73; have q25 : (ji22) < (a0.size : Int) := of_decide_eq_true au73; have hx25 := bt_at a0 (ji22); replace p25 := eq_true p25; replace q25 := eq_true q25) | (go_at_call 73; (with_reducible refine (impl_isLetter.calls (bt a0 (ji22)) _ _ A26.out).mono ?_); rintro e w' ⟨rfl, ⟨nd, rfl⟩⟩))
             go_ret
             exact ax2
           ·
            rw [if_neg c24] at H
            exact absurd H (by simp)
          ·
           rw [if_neg c23] at H
           exact absurd H (by simp)
         ·
          rw [if_neg c21] at H
          have c21b0 : ((bt a0 x3_2) == 45) = false := beq_eq_false_iff_ne.mpr c21
          have c21b1 : ((bt a0 x3_2) != 45) = true := bne_iff_ne.mpr c21
          by_cases c29 : (bt a0 x3_2) = 39
          ·
           rw [if_pos c29] at H
           have c29b0 : ((bt a0 x3_2) == 39) = true := beq_iff_eq.mpr c29
           have c29b1 : ((bt a0 x3_2) != 39) = false := bne_eq_false_iff_eq.mpr c29
           clear c29
           obtain ⟨ji30, hji30⟩ : ∃ j_ : Int, (wrap64 (x3_2 - 1)) = j_ := ⟨_, rfl⟩
           replace H : (if 0 ≤ (ji30) then (if (ji30) < (a0.size : Int) then ((impl_isLetter.f (bt a0 (ji30))).bind fun t247 => (if t247 = true then (impl_isNameWord.l0 k2 a0 (wrap64 (x3_2 + 1))) else (some false))) else (none)) else (none)) = some r := by first | (rw [hji30] at H; exact H) | (simp only [hji30] at H ⊢; exact H)
           (try rw [hji30] at A18)
           have hji30w : (IntKind.i64.wrap (x3_2 - 1)) = ji30 := (i64_w _).trans hji30
           by_cases c31 : 0 ≤ (ji30)
           ·
            rw [if_pos c31] at H
            have c31b0 : decide (0 ≤ (ji30)) = true := decide_eq_true c31
            clear c31
            by_cases c32 : (ji30) < (a0.size : Int)
            ·
             rw [if_pos c32] at H
             have c32b0 : decide ((ji30) < (a0.size : Int)) = true := decide_eq_true c32
             clear c32
             replace H := Option.bind_eq_some_iff.mp H
             obtain ⟨t247, A340, H⟩ := H
             try dsimp only at H
             have A34 := Aside0.mk A340
             clear A340
             by_cases c35 : t247 = true
             ·
              subst c35
              replace H := (if_pos rfl).symm.trans H
              have H' := Aside0.mk H
              clear H
              have p17 : 0 ≤ (x3_2 : Int) := of_decide_eq_true au73
              have q17 : x3_2 < (a0.size : Int) := of_decide_eq_true au73
              have hx17 := bt_at a0 x3_2
              replace p17 := eq_true p17
              replace q17 := eq_true q17
              go_wp2_with (first | ((with_reducible refine gate_callee (f := 73) rfl ?_); refine goesL_ (some 32) rfl rfl Tryd.func73 (by kernel_rfl) rfl #[.int .u8 (bt a0 x3_2)] rfl au37 ?_; (with_reducible refine (impl_isLetter.calls (bt a0 x3_2) _ _ A18.out).mono ?_); rintro e w' ⟨rfl, ⟨nd, rfl⟩⟩; refine ⟨_, rfl, ?_⟩; have p20 : 0 ≤ (x3_2 : Int) := of_decide_eq_true au73; have q20 : x3_2 < (a0.size : Int) := of_decide_eq_true au73; have hx20 := bt_at a0 x3_2; replace p20 := eq_true p20; replace q20 := eq_true q20; have p28 : 0 ≤ (x3_2 : Int) := of_decide_eq_true au73; have q28 : x3_2 < (a0.size : Int) := of_decide_eq_true au73; have hx28 := bt_at a0 x3_2; replace p28 := eq_true p28; replace q28 := eq_true q28; have p33 : 0 ≤ ((ji30) : Int) := of_decide_eq_true au73; have q33 : (ji30) < (a0.size : Int) := of_decide_eq_true au73; have hx33 := bt_at a0 (ji30); replace p33 := eq_true p33; replace q33 := eq_true q33) | (go_at_call 73; (with_reducible refine (impl_isLetter.calls (bt a0 (ji30)) _ _ A34.out).mono ?_); rintro e w' ⟨rfl, ⟨nd, rfl⟩⟩))
              go_roundg k2
              case measure => have := HJ1.out; have := HK2.out; omega
              case rel => exact ⟨(wrap64 (x3_2 + 1)), au74, H', ⟨by have := HJ1.out; have := HK2.out; omega⟩, by repeat (first | exact Drawn0.refl _ | apply Drawn0.step)⟩
             ·
              replace c35 := Bool.eq_false_iff.mpr c35
              subst c35
              replace H := (if_neg (show ¬ (false = true) by decide)).symm.trans H
              obtain rfl := Option.some.inj H
              have p17 : 0 ≤ (x3_2 : Int) := of_decide_eq_true au73
              have q17 : x3_2 < (a0.size : Int) := of_decide_eq_true au73
              have hx17 := bt_at a0 x3_2
              replace p17 := eq_true p17
              replace q17 := eq_true q17
              exact impl_isNameWord.L0
            ·
             rw [if_neg c32] at H
             exact absurd H (by simp)
           ·
            rw [if_neg c31] at H
            exact absurd H (by simp)
          ·
           rw [if_neg c29] at H
           have c29b0 : ((bt a0 x3_2) == 39) = false := beq_eq_false_iff_ne.mpr c29
           have c29b1 : ((bt a0 x3_2) != 39) = true := bne_iff_ne.mpr c29
           obtain rfl := Option.some.inj H
           have p17 : 0 ≤ (x3_2 : Int) := of_decide_eq_true au73
           have q17 : x3_2 < (a0.size : Int) := of_decide_eq_true au73
           have hx17 := bt_at a0 x3_2
           replace p17 := eq_true p17
           replace q17 := eq_true q17
           go_wp2_with (first | ((with_reducible refine gate_callee (f := 73) rfl ?_); refine goesL_ (some 32) rfl rfl Tryd.func73 (by kernel_rfl) rfl #[.int .u8 (bt a0 x3_2)] rfl au37 ?_; (with_reducible refine (impl_isLetter.calls (bt a0 x3_2) _ _ A18.out).mono ?_); rintro e w' ⟨rfl, ⟨nd, rfl⟩⟩; refine ⟨_, rfl, ?_⟩; have p20 : 0 ≤ (x3_2 : Int) := of_decide_eq_true au73; have q20 : x3_2 < (a0.size : Int) := of_decide_eq_true au73; have hx20 := bt_at a0 x3_2; replace p20 := eq_true p20; replace q20 := eq_true q20; have p28 : 0 ≤ (x3_2 : Int) := of_decide_eq_true au73; have q28 : x3_2 < (a0.size : Int) := of_decide_eq_true au73; have hx28 := bt_at a0 x3_2; replace p28 := eq_true p28; replace q28 := eq_true q28))
           go_ret
           exact ax1
       ·
        rw [if_neg c16] at H
        exact absurd H (by simp)
      ·
       rw [if_neg c15] at H
       have c15b0 : decide (x3_2 < (a0.size : Int)) = false := decide_eq_false c15
       clear c15
       obtain rfl := Option.some.inj H
       exact impl_isNameWord.L0


/-! ### impl_isGreatWord: function 43 -/
def impl_isGreatWord.f (k : Nat) (a0 : ByteArray) : Option (Bool) := (impl_isNameWord.f k a0).bind fun t248 => (if t248 = true then (if 0 < (a0.size : Int) then ((impl_isUpper.f (bt a0 0)).bind fun t249 => (some t249)) else (none)) else (some false))
theorem impl_isGreatWord.mono : ∀ a0 k, LeO (impl_isGreatWord.f k a0) (impl_isGreatWord.f (k + 1) a0) := by
 intro a0 k
 unfold impl_isGreatWord.f
 repeat' first
   | (with_reducible exact impl_isNameWord.mono _ _)
   | (with_reducible exact LeO.refl _)
   | (with_reducible exact LeO.none _)
   | (with_reducible refine LeO.ite ?_ ?_)
   | (with_reducible refine LeO.bind ?_ (fun _ => ?_))
   | exact impl_isNameWord.mono _ _
   | exact LeO.none _
   | refine LeO.ite ?_ ?_
   | refine LeO.bind ?_ (fun _ => ?_)
set_option maxHeartbeats 8000000 in
set_option maxRecDepth 100000 in
theorem impl_isGreatWord.calls (k : Nat) (a0 : ByteArray) (r : Bool) (w : World) (h : impl_isGreatWord.f k a0 = some r) :
  Calls Tryd.prog 43 #[.string a0] w fun e w' => e = .returned (.bool r) ∧ Drawn0 w w' := by
 have H : ((impl_isNameWord.f k a0).bind fun t248 => (if t248 = true then (if 0 < (a0.size : Int) then ((impl_isUpper.f (bt a0 0)).bind fun t249 => (some t249)) else (none)) else (some false))) = some r := h
 clear h
 replace H := Option.bind_eq_some_iff.mp H
 obtain ⟨t248, A20, H⟩ := H
 try dsimp only at H
 have A2 := Aside0.mk A20
 clear A20
 by_cases c3 : t248 = true
 ·
  subst c3
  replace H := (if_pos rfl).symm.trans H
  by_cases c4 : 0 < (a0.size : Int)
  ·
   rw [if_pos c4] at H
   have c4b0 : decide (0 < (a0.size : Int)) = true := decide_eq_true c4
   have c4b1 : decide (0 < a0.size) = true := decide_eq_true (by omega)
   clear c4
   replace H := Option.bind_eq_some_iff.mp H
   obtain ⟨t249, A60, H⟩ := H
   try dsimp only at H
   have A6 := Aside0.mk A60
   clear A60
   obtain rfl := Option.some.inj H
   go_enter Tryd.func43, Tryd.ntmps43
   go_wp2_with (first | ((with_reducible refine gate_callee (f := 45) rfl ?_); refine goesL_ (some 4) rfl rfl Tryd.func45 (by kernel_rfl) rfl #[.string a0] rfl au37 ?_; (with_reducible refine (impl_isNameWord.calls k a0 true _ A2.out).mono ?_); rintro e w' ⟨rfl, ⟨nd, rfl⟩⟩; refine ⟨_, rfl, ?_⟩; have p5 : 0 ≤ (0 : Int) := (by omega); have q5 : 0 < a0.size := (by have : (0 : Int) < (a0.size : Int) := of_decide_eq_true au73; omega); have hx5 : ∀ h : 0 < a0.size, ((a0[0]'h).toNat : Int) = bt a0 0 := bt_at a0 0; clear p5; have qi5 : (0 < (a0.size : Int)) = True := eq_true (of_decide_eq_true au73); replace q5 := eq_true q5) | (go_at_call 70; (with_reducible refine (impl_isUpper.calls (bt a0 0) t249 _ A6.out).mono ?_); rintro e w' ⟨rfl, ⟨nd, rfl⟩⟩))
   go_ret
   exact ax1
  ·
   rw [if_neg c4] at H
   exact absurd H (by simp)
 ·
  replace c3 := Bool.eq_false_iff.mpr c3
  subst c3
  replace H := (if_neg (show ¬ (false = true) by decide)).symm.trans H
  obtain rfl := Option.some.inj H
  go_enter Tryd.func43, Tryd.ntmps43
  go_wp2_with (first | ((with_reducible refine gate_callee (f := 45) rfl ?_); refine goesL_ (some 4) rfl rfl Tryd.func45 (by kernel_rfl) rfl #[.string a0] rfl au37 ?_; (with_reducible refine (impl_isNameWord.calls k a0 false _ A2.out).mono ?_); rintro e w' ⟨rfl, ⟨nd, rfl⟩⟩; refine ⟨_, rfl, ?_⟩))
  go_ret
  exact ax1

end Go.Proofs.YtieieapacepabaaDoor.G

namespace Go.Proofs
open Go.Shelf
def Tryd.lays156_ren : Go.Shelf.Ren := ⟨fun | 156 => 66 | 165 => 84 | 166 => 85 | 169 => 86 | 240 => 93 | 241 => 94 | 276 => 98 | 277 => 99 | n => n, fun | 31 => 24 | 9 => 9 | 3 => 3 | 4 => 4 | 0 => 0 | 20 => 20 | 72 => 80 | 76 => 84 | 70 => 78 | 37 => 22 | 75 => 83 | 127 => 91 | 164 => 93 | 5 => 5 | 80 => 86 | n => n, fun | n => n⟩
theorem Tryd.lays156 : Go.Proofs.Lays.n156 Tryd.prog Tryd.lays156_ren := {
  mixed := by kernel_rfl
  f156 := Tryd.func66.trans (congrArg some (by kernel_rfl))
  f165 := Tryd.func84.trans (congrArg some (by kernel_rfl))
  f166 := Tryd.func85.trans (congrArg some (by kernel_rfl))
  f169 := Tryd.func86.trans (congrArg some (by kernel_rfl))
  f240 := Tryd.func93.trans (congrArg some (by kernel_rfl))
  f241 := Tryd.func94.trans (congrArg some (by kernel_rfl))
  f276 := Tryd.func98.trans (congrArg some (by kernel_rfl))
  f277 := Tryd.func99.trans (congrArg some (by kernel_rfl))
  t0 := Tryd.underlying0
  a0 := Tryd.isAgg0
  z0 := Tryd.sizeOf0
  v0 := Tryd.zeroValue0
  t3 := Tryd.underlying3
  a3 := Tryd.isAgg3
  z3 := Tryd.sizeOf3
  v3 := Tryd.zeroValue3
  t4 := Tryd.underlying4
  a4 := Tryd.isAgg4
  z4 := Tryd.sizeOf4
  v4 := Tryd.zeroValue4
  t9 := Tryd.underlying9
  a9 := Tryd.isAgg9
  z9 := Tryd.sizeOf9
  v9 := Tryd.zeroValue9
  t20 := Tryd.underlying20
  a20 := Tryd.isAgg20
  z20 := Tryd.sizeOf20
  v20 := Tryd.zeroValue20
  t31 := Tryd.underlying24
  a31 := Tryd.isAgg24
  z31 := Tryd.sizeOf24
  v31 := Tryd.zeroValue24
  t37 := Tryd.underlying22
  a37 := Tryd.isAgg22
  z37 := Tryd.sizeOf22
  v37 := Tryd.zeroValue22
  t70 := Tryd.underlying78
  a70 := Tryd.isAgg78
  z70 := Tryd.sizeOf78
  v70 := Tryd.zeroValue78
  t72 := Tryd.underlying80
  a72 := Tryd.isAgg80
  z72 := Tryd.sizeOf80
  v72 := Tryd.zeroValue80
  t75 := Tryd.underlying83
  a75 := Tryd.isAgg83
  z75 := Tryd.sizeOf83
  v75 := Tryd.zeroValue83
  t76 := Tryd.underlying84
  a76 := Tryd.isAgg84
  z76 := Tryd.sizeOf84
  v76 := Tryd.zeroValue84
  t127 := Tryd.underlying91
  a127 := Tryd.isAgg91
  z127 := Tryd.sizeOf91
  v127 := Tryd.zeroValue91
  t164 := Tryd.underlying93
  a164 := Tryd.isAgg93
  z164 := Tryd.sizeOf93
  v164 := Tryd.zeroValue93 }
theorem Tryd.Builder_Extra_156 : Builder.Extra Tryd.prog Tryd.lays156_ren := {
  sizeBuilder := by kernel_rfl
  liesBuilder := by kernel_rfl
  t5 := Tryd.underlying5
  a5 := Tryd.isAgg5
  z5 := Tryd.sizeOf5
  v5 := Tryd.zeroValue5
  infoByte := by kernel_rfl
  cellsByte := by kernel_rfl
  sizeByte := by kernel_rfl
  neB5 := by decide }
open Go.RowKit in
theorem Tryd.strings_Join_none (a : Option Addr) (c : Nat) (sep : ByteArray) (w : World) :
    Calls Tryd.prog 66 #[.slice a 0 c, .string sep] w fun e w' => e = .returned (.string ⟨#[]⟩) ∧ w' = w := Any.strings_Join_none Tryd.lays156 Tryd.Builder_Extra_156 a c sep w
open Go.RowKit in
theorem Tryd.strings_Join (bk o c : Nat) (xs : List ByteArray) (sep : ByteArray) (w : World) (hcells : ∀ (j : Nat) x, xs[j]? = some x → w.cell? ⟨bk, o + j, none⟩ = some (.string x)) (hbk : bk < w.heap.size) (hN : xs.length ≤ 140737488355328) (hcap : xs.length ≤ c) (hlen : (Lib.join (xs.map (·.data.toList)) sep.data.toList).length ≤ 140737488355328) :
    Calls Tryd.prog 66 #[.slice (some ⟨bk, o, none⟩) xs.length c, .string sep] w fun e w' => e = .returned (.string ⟨(Lib.join (xs.map (·.data.toList)) sep.data.toList).toArray⟩) ∧ Below w.heap.size w w' := Any.strings_Join Tryd.lays156 Tryd.Builder_Extra_156 bk o c xs sep w hcells hbk hN hcap hlen
def Tryd.lays146_ren : Go.Shelf.Ren := ⟨fun | 146 => 71 | 221 => 88 | 268 => 95 | 138 => 96 | 143 => 97 | 195 => 100 | 197 => 101 | 218 => 102 | 219 => 103 | 260 => 104 | 217 => 105 | 225 => 106 | 224 => 107 | 267 => 108 | 266 => 109 | 314 => 110 | n => n, fun | 9 => 9 | 31 => 24 | 3 => 3 | 4 => 4 | 0 => 0 | 105 => 97 | 21 => 21 | 5 => 5 | 46 => 87 | 119 => 100 | 139 => 103 | 138 => 102 | 146 => 105 | 51 => 104 | n => n, fun | 1 => 0 | 3 => 1 | 4 => 2 | n => n⟩
theorem Tryd.lays146 : Go.Proofs.Lays.n146 Tryd.prog Tryd.lays146_ren := {
  mixed := by kernel_rfl
  f138 := Tryd.func96.trans (congrArg some (by kernel_rfl))
  f143 := Tryd.func97.trans (congrArg some (by kernel_rfl))
  f146 := Tryd.func71.trans (congrArg some (by kernel_rfl))
  f195 := Tryd.func100.trans (congrArg some (by kernel_rfl))
  f197 := Tryd.func101.trans (congrArg some (by kernel_rfl))
  f217 := Tryd.func105.trans (congrArg some (by kernel_rfl))
  f218 := Tryd.func102.trans (congrArg some (by kernel_rfl))
  f219 := Tryd.func103.trans (congrArg some (by kernel_rfl))
  f221 := Tryd.func88.trans (congrArg some (by kernel_rfl))
  f224 := Tryd.func107.trans (congrArg some (by kernel_rfl))
  f225 := Tryd.func106.trans (congrArg some (by kernel_rfl))
  f260 := Tryd.func104.trans (congrArg some (by kernel_rfl))
  f266 := Tryd.func109.trans (congrArg some (by kernel_rfl))
  f267 := Tryd.func108.trans (congrArg some (by kernel_rfl))
  f268 := Tryd.func95.trans (congrArg some (by kernel_rfl))
  f314 := Tryd.func110.trans (congrArg some (by kernel_rfl))
  t0 := Tryd.underlying0
  a0 := Tryd.isAgg0
  z0 := Tryd.sizeOf0
  v0 := Tryd.zeroValue0
  t3 := Tryd.underlying3
  a3 := Tryd.isAgg3
  z3 := Tryd.sizeOf3
  v3 := Tryd.zeroValue3
  t4 := Tryd.underlying4
  a4 := Tryd.isAgg4
  z4 := Tryd.sizeOf4
  v4 := Tryd.zeroValue4
  t5 := Tryd.underlying5
  a5 := Tryd.isAgg5
  z5 := Tryd.sizeOf5
  v5 := Tryd.zeroValue5
  t9 := Tryd.underlying9
  a9 := Tryd.isAgg9
  z9 := Tryd.sizeOf9
  v9 := Tryd.zeroValue9
  t21 := Tryd.underlying21
  a21 := Tryd.isAgg21
  z21 := Tryd.sizeOf21
  v21 := Tryd.zeroValue21
  t31 := Tryd.underlying24
  a31 := Tryd.isAgg24
  z31 := Tryd.sizeOf24
  v31 := Tryd.zeroValue24
  t46 := Tryd.underlying87
  a46 := Tryd.isAgg87
  z46 := Tryd.sizeOf87
  v46 := Tryd.zeroValue87
  t51 := Tryd.underlying104
  a51 := Tryd.isAgg104
  z51 := Tryd.sizeOf104
  v51 := Tryd.zeroValue104
  t105 := Tryd.underlying97
  a105 := Tryd.isAgg97
  z105 := Tryd.sizeOf97
  v105 := Tryd.zeroValue97
  t119 := Tryd.underlying100
  a119 := Tryd.isAgg100
  z119 := Tryd.sizeOf100
  t138 := Tryd.underlying102
  a138 := Tryd.isAgg102
  z138 := Tryd.sizeOf102
  v138 := Tryd.zeroValue102
  t139 := Tryd.underlying103
  a139 := Tryd.isAgg103
  z139 := Tryd.sizeOf103
  v139 := Tryd.zeroValue103
  t146 := Tryd.underlying105
  a146 := Tryd.isAgg105
  z146 := Tryd.sizeOf105
  v146 := Tryd.zeroValue105
  g1 := by kernel_rfl
  g3 := by kernel_rfl
  g4 := by kernel_rfl }
open Go.RowKit Go.Lib in
theorem Tryd.strings_Split (s sep : ByteArray) (m : Int) (w : World) (hs : s.size < 4294967281) (hm : w.cell? ⟨0, 0, none⟩ = some (.int .i64 m)) (h1 : 1 ≤ sep.size) :
    Calls Tryd.prog 71 #[.string s, .string sep] w fun e w' =>
      e = .returned (.slice (some ⟨w.heap.size, 0, none⟩) (Lib.countB s sep + 1) (Lib.countB s sep + 1)) ∧ w' = w.alloc (.cells ((Lib.splitB sep 0 (Lib.countB s sep) s).map Value.string).toArray 9) := Any.strings_Split Tryd.lays146 (by kernel_rfl) s sep m w hs hm h1
def Tryd.laysSlH10_f90_ren : Go.Shelf.Ren := ⟨fun | 10 => 90 | 6 => 69 | n => n, fun | 22 => 24 | 23 => 9 | 25 => 63 | 3 => 3 | 4 => 4 | 0 => 0 | n => n, fun | n => n⟩
theorem Tryd.laysSlH10_f90 : Go.Proofs.SlLaysH.n10 Tryd.prog Tryd.laysSlH10_f90_ren := {
  mixed := by kernel_rfl
  f6 := ⟨Tryd.f69.name, by decide, Tryd.func69.trans (congrArg some (by kernel_rfl))⟩
  f10 := ⟨Tryd.f90.name, by decide, Tryd.func90.trans (congrArg some (by kernel_rfl))⟩
  t0 := Tryd.underlying0
  a0 := Tryd.isAgg0
  z0 := Tryd.sizeOf0
  v0 := Tryd.zeroValue0
  t3 := Tryd.underlying3
  a3 := Tryd.isAgg3
  z3 := Tryd.sizeOf3
  v3 := Tryd.zeroValue3
  t4 := Tryd.underlying4
  a4 := Tryd.isAgg4
  z4 := Tryd.sizeOf4
  v4 := Tryd.zeroValue4
  t22 := Tryd.underlying24
  a22 := Tryd.isAgg24
  z22 := Tryd.sizeOf24
  v22 := Tryd.zeroValue24
  a23 := Tryd.isAgg9
  z23 := Tryd.sizeOf9
  t25 := Tryd.underlying63
  a25 := Tryd.isAgg63
  z25 := Tryd.sizeOf63
  v25 := Tryd.zeroValue63 }
open Go.RowKit Go.Lib Go.Sort in
theorem Tryd.slices_DeleteFunc {α : Type} [Inhabited α] (enc : α → Value) (hO : OneCell enc) (p : α → Bool) (g : Nat) (lb : Array Value) (eg : ∀ args w, (callFunc g args).run Tryd.prog w = .ok (.enter g args) w) (zr : α) (v23 : ∀ w, (zeroValue 9).run Tryd.prog w = .ok (enc zr) w) (blk off cap : Nat) (d : Array α) (w : World) (hp : PredAt Tryd.prog g lb enc p w) (hpo : PredOver Tryd.prog g lb enc p blk off d.size w) (hH : Holds enc w blk off d) (hsz : d.size ≤ 9223372036854775807) (hcap : d.size ≤ cap) :
    Calls Tryd.prog 90 #[.slice (some ⟨blk, off, none⟩) d.size cap, .func (.func g) #[] lb] w fun e w' => e = .returned (.slice (some ⟨blk, off, none⟩) (d.toList.filter fun x => !p x).length cap) ∧ ∃ q, w' = putRow enc (Sort.ahead w q) blk off ((d.toList.filter fun x => !p x) ++ List.replicate (d.size - (d.toList.filter fun x => !p x).length) zr).toArray := AnyE.slices_DeleteFunc Tryd.laysSlH10_f90 enc hO p g lb eg zr v23 blk off cap d w hp hpo hH hsz hcap
end Go.Proofs

namespace Go.Proofs.YtieieapacepabaaDoor.G
open Go.RowKit Go.Proofs.YtieieapacepabaaDoorW.PrintWords Go.Proofs.YtieieapacepabaaDoorW.PrintLast Go.Proofs.YtieieapacepabaaDoorW.PrintMore
open Go.Proofs.YtieieapacepabaaDoor.Gl Go.Proofs.YtieieapacepabaaDoor.Ext
attribute [local go_sem] max2_int min2_int max_two min_two max_three min_three max_four min_four   -- for this text's walks alone
set_option linter.unusedVariables false
set_option linter.unusedSimpArgs false

/-! ### strings_Split: function 71 -/
def strings_Split.f (a0 : ByteArray) (a1 : ByteArray) : Option (List ByteArray) :=
 if a0.size < 4294967281 ∧ 1 ≤ a1.size ∧ (Lib.splitB a1 0 (Lib.countB a0 a1) a0).length = Lib.countB a0 a1 + 1 ∧ Lib.countB a0 a1 < 4294967296 then some (Lib.splitB a1 0 (Lib.countB a0 a1) a0) else none
theorem strings_Split.calls (a0 : ByteArray) (a1 : ByteArray) (r : List ByteArray) (w : World) {gF1 gF2 gF3 : Bool} (hG : GL gF1 gF2 gF3 w) (h : strings_Split.f a0 a1 = some r) :
  Calls Tryd.prog 71 #[.string a0, .string a1] w fun e w' => ∃ v0_ : Value, e = .returned (v0_) ∧ Kd.R Kd.string 9 w' w.heap.size (fun _ => True) v0_ r ∧ Below w.heap.size w w' := by
 unfold strings_Split.f at h
 by_cases hg : a0.size < 4294967281 ∧ 1 ≤ a1.size ∧ (Lib.splitB a1 0 (Lib.countB a0 a1) a0).length = Lib.countB a0 a1 + 1 ∧ Lib.countB a0 a1 < 4294967296
 ·
  rw [if_pos hg] at h
  obtain rfl := Option.some.inj h
  obtain ⟨m, hm⟩ := hG.mx
  refine (Tryd.strings_Split a0 a1 m w hg.1 hm hg.2.1).mono ?_
  rintro e w' ⟨rfl, rfl⟩
  rw [← hg.2.2.1]
  refine ⟨_, rfl, Kd.R_of_own (own_lit_of (enc := Value.string) w w.heap.size 9 _ (Nat.le_refl _) ?_) (fun _ _ => trivial), (Below.refl _ _).alloc (Nat.le_refl _) _⟩
  rw [hg.2.2.1]; omega
 ·
  rw [if_neg hg] at h; cases h


/-! ### impl_isParticle: function 44 -/
mutual
def impl_isParticle.l0 : Nat → List ByteArray → List ByteArray → Int → Int → Option (Bool)
 | 0, _, _, _, _ => none
 | k + 1, x3, x11, x12, x13 => if x13 < x12 then (if 0 ≤ x13 then (if x13 < (x11.length : Int) then ((impl_inside.f ((rdOf ByteArray.empty x11 x13).size : Int) 1 12).bind fun t254 => (if t254 = true then (impl_isParticle.l1 k x3 (rdOf ByteArray.empty x11 x13) 0 x11 x12 x13) else (some false))) else (none)) else (none)) else (some (decide ((x3.length : Int) ≤ 2)))
def impl_isParticle.l1 : Nat → List ByteArray → ByteArray → Int → List ByteArray → Int → Int → Option (Bool)
 | 0, _, _, _, _, _, _ => none
 | k + 1, x3, x5, x6, x11, x12, x13 => if x6 < (x5.size : Int) then (if 0 ≤ x6 then ((impl_isLower.f (bt x5 x6)).bind fun t255 => (if t255 = true then (impl_isParticle.l1 k x3 x5 (wrap64 (x6 + 1)) x11 x12 x13) else (some false))) else (none)) else (impl_isParticle.l0 k x3 x11 x12 (wrap64 (x13 + 1)))
end
def impl_isParticle.f (k : Nat) (a0 : ByteArray) : Option (Bool) := if a0.toList = ([] : List UInt8) then (some true) else ((strings_Split.f a0 (⟨#[32]⟩ : ByteArray)).bind fun t250 => (impl_isParticle.l0 k t250 t250 (t250.length : Int) 0))
theorem impl_isParticle.mono_l : ∀ k, (∀ y0 y1 y2 y3, LeO (impl_isParticle.l0 k y0 y1 y2 y3) (impl_isParticle.l0 (k + 1) y0 y1 y2 y3)) ∧ (∀ y0 y1 y2 y3 y4 y5, LeO (impl_isParticle.l1 k y0 y1 y2 y3 y4 y5) (impl_isParticle.l1 (k + 1) y0 y1 y2 y3 y4 y5))
 | 0 => ⟨fun _ _ _ _ r h => by simp [impl_isParticle.l0] at h, fun _ _ _ _ _ _ r h => by simp [impl_isParticle.l1] at h⟩
 | k + 1 => by
  obtain ⟨ih0, ih1⟩ := impl_isParticle.mono_l k
  refine ⟨?_, ?_⟩
  ·
   intro y0 y1 y2 y3
   unfold impl_isParticle.l0
   repeat' first
   | (with_reducible exact ih0 _ _ _ _)
   | (with_reducible exact ih1 _ _ _ _ _ _)
   | (with_reducible exact LeO.refl _)
   | (with_reducible exact LeO.none _)
   | (with_reducible refine LeO.ite ?_ ?_)
   | (with_reducible refine LeO.bind ?_ (fun _ => ?_))
   | exact ih0 _ _ _ _
   | exact ih1 _ _ _ _ _ _
   | exact LeO.none _
   | refine LeO.ite ?_ ?_
   | refine LeO.bind ?_ (fun _ => ?_)
  ·
   intro y0 y1 y2 y3 y4 y5
   unfold impl_isParticle.l1
   repeat' first
   | (with_reducible exact ih0 _ _ _ _)
   | (with_reducible exact ih1 _ _ _ _ _ _)
   | (with_reducible exact LeO.refl _)
   | (with_reducible exact LeO.none _)
   | (with_reducible refine LeO.ite ?_ ?_)
   | (with_reducible refine LeO.bind ?_ (fun _ => ?_))
   | exact ih0 _ _ _ _
   | exact ih1 _ _ _ _ _ _
   | exact LeO.none _
   | refine LeO.ite ?_ ?_
   | refine LeO.bind ?_ (fun _ => ?_)
theorem impl_isParticle.mono : ∀ a0 k, LeO (impl_isParticle.f k a0) (impl_isParticle.f (k + 1) a0) := by
 intro a0 k
 obtain ⟨ih0, ih1⟩ := impl_isParticle.mono_l k
 unfold impl_isParticle.f
 repeat' first
   | (with_reducible exact ih0 _ _ _ _)
   | (with_reducible exact ih1 _ _ _ _ _ _)
   | (with_reducible exact LeO.refl _)
   | (with_reducible exact LeO.none _)
   | (with_reducible refine LeO.ite ?_ ?_)
   | (with_reducible refine LeO.bind ?_ (fun _ => ?_))
   | exact ih0 _ _ _ _
   | exact ih1 _ _ _ _ _ _
   | exact LeO.none _
   | refine LeO.ite ?_ ?_
   | refine LeO.bind ?_ (fun _ => ?_)
set_option maxHeartbeats 8000000 in
set_option maxRecDepth 100000 in
theorem impl_isParticle.calls (k : Nat) (a0 : ByteArray) (r : Bool) (w : World) {gF1 gF2 gF3 : Bool} (hG : GL gF1 gF2 gF3 w) (h : impl_isParticle.f k a0 = some r) :
  Calls Tryd.prog 44 #[.string a0] w fun e w' => e = .returned (.bool r) ∧ Below w.heap.size w w' := by
 have HG := Aside0.mk hG
 clear hG
 have HB := Aside0.mk (Below.refl w.heap.size w)
 have H : (if a0.toList = ([] : List UInt8) then (some true) else ((strings_Split.f a0 (⟨#[32]⟩ : ByteArray)).bind fun t250 => (impl_isParticle.l0 k t250 t250 (t250.length : Int) 0))) = some r := h
 clear h
 by_cases c2 : a0.toList = ([] : List UInt8)
 ·
  rw [if_pos c2] at H
  have c2b0 : (a0.toList == ([] : List UInt8)) = true := beq_iff_eq.mpr c2
  have c2b1 : (a0.toList != ([] : List UInt8)) = false := bne_eq_false_iff_eq.mpr c2
  clear c2
  obtain rfl := Option.some.inj H
  go_enter Tryd.func44, Tryd.ntmps44
  go_wp2
  go_ret
  exact ax3
 ·
  rw [if_neg c2] at H
  have c2b0 : (a0.toList == ([] : List UInt8)) = false := beq_eq_false_iff_ne.mpr c2
  have c2b1 : (a0.toList != ([] : List UInt8)) = true := bne_iff_ne.mpr c2
  replace H := Option.bind_eq_some_iff.mp H
  obtain ⟨t250, A30, H⟩ := H
  try dsimp only at H
  have A3 := Aside0.mk A30
  clear A30
  have H' := Aside0.mk H
  clear H
  go_enter Tryd.func44, Tryd.ntmps44
  go_wp2_with (first | ((with_reducible refine gate_callee (f := 71) rfl ?_); refine goesL_ (some 10) rfl rfl Tryd.func71 (by kernel_rfl) rfl #[.string a0, .string (⟨#[32]⟩ : ByteArray)] rfl au37 ?_; (with_reducible refine (strings_Split.calls (hG := au2) a0 (⟨#[32]⟩ : ByteArray) t250 _ A3.out).mono ?_); rintro e w4 ⟨v251, rfl, ho0, hb⟩; refine ⟨_, rfl, ?_⟩; have n0_ := Aside0.mk (Kd.R_lower ho0 (below_size au38)); have n1_ := Aside0.mk (below_step au38 hb); clear HB; have HO252 := n0_; have HB := n1_; clear n0_ n1_; (try clear hb); (try clear hb2); (try clear hk); (try clear hi); (try clear ho0); obtain ⟨Ao5, co5, eo5⟩ := Kd.R_slice HO252.out; subst eo5))
  go_loopg [13] k (fun kq v13 w' => ∃ (x13_1 : Int), v13 = .int .i64 x13_1 ∧ Aside0 (impl_isParticle.l0 kq t250 t250 (t250.length : Int) x13_1 = some r) ∧ Aside0 (kq ≤ k) ∧ Aside0 (Kd.R Kd.string 9 w' w.heap.size (fun _ => True) (.slice Ao5 t250.length co5) t250) ∧ Aside0 (Kd.R Kd.string 9 w' w.heap.size (fun _ => True) (.slice Ao5 t250.length co5) t250) ∧ Aside0 (Below w.heap.size w w'))
  case atStart => exact ⟨(0), au74, H', ⟨Nat.le_refl _⟩, ⟨by (with_reducible repeat (first | apply Kd.R_alloc | apply Kd.R_drewN | apply Kd.R_drew)); exact HO252.out⟩, ⟨by (with_reducible repeat (first | apply Kd.R_alloc | apply Kd.R_drewN | apply Kd.R_drew)); exact HO252.out⟩, ⟨by repeat (first | (with_reducible first | exact HB.out | apply below_alloc | apply pw_below_drewN | apply below_drew1) | exact HB.out)⟩⟩
  case round =>
   clear H'
   try clear c2
   try clear c2b0
   try clear c2b1
   try clear p2
   try clear c4
   obtain ⟨x13_1, rfl, HA, HK1, HO_3, HO_11, HB⟩ := hrel
   cases gk with
   | zero => exact absurd HA.out (by simp [impl_isParticle.l0])
   | succ k1 =>
    have H := HA.out
    clear HA
    simp only [impl_isParticle.l0] at H
    by_cases c6 : x13_1 < (t250.length : Int)
    ·
     rw [if_pos c6] at H
     have c6b0 : decide (x13_1 < (t250.length : Int)) = true := decide_eq_true c6
     clear c6
     by_cases c7 : 0 ≤ x13_1
     ·
      rw [if_pos c7] at H
      have c7b0 : decide (0 ≤ x13_1) = true := decide_eq_true c7
      clear c7
      by_cases c8 : x13_1 < (t250.length : Int)
      ·
       rw [if_pos c8] at H
       have c8b0 : decide (x13_1 < (t250.length : Int)) = true := decide_eq_true c8
       clear c8
       replace H := Option.bind_eq_some_iff.mp H
       obtain ⟨t254, A90, H⟩ := H
       try dsimp only at H
       have A9 := Aside0.mk A90
       clear A90
       by_cases c10 : t254 = true
       ·
        subst c10
        replace H := (if_pos rfl).symm.trans H
        have H' := Aside0.mk H
        clear H
        have p253 : 0 ≤ (x13_1 : Int) := of_decide_eq_true au73
        have q253 : x13_1 < (t250.length : Int) := of_decide_eq_true au73
        obtain ⟨ad253, e253, hx253_0⟩ := Kd.at_string (Kd.R_reads' HO_11.out).2.2 x13_1 p253 q253
        cases e253
        replace p253 := eq_true p253
        replace q253 := eq_true q253
        go_wp2_with (first | ((with_reducible refine gate_callee (f := 64) rfl ?_); refine goesL_ (some 19) rfl rfl Tryd.func64 (by kernel_rfl) rfl #[.int .i64 ((rdOf ByteArray.empty t250 x13_1).size : Int), .int .i64 1, .int .i64 12] rfl au37 ?_; (with_reducible refine (impl_inside.calls ((rdOf ByteArray.empty t250 x13_1).size : Int) 1 12 true _ A9.out).mono ?_); rintro e w' ⟨rfl, ⟨nd, rfl⟩⟩; refine ⟨_, rfl, ?_⟩))
        go_loopg [6] k1 (fun kq v6 w' => ∃ (x6_2 : Int), v6 = .int .i64 x6_2 ∧ Aside0 (impl_isParticle.l1 kq t250 (rdOf ByteArray.empty t250 x13_1) x6_2 t250 (t250.length : Int) x13_1 = some r) ∧ Aside0 (kq ≤ k1) ∧ Aside0 (Kd.R Kd.string 9 w' w.heap.size (fun _ => True) (.slice (some ad253) t250.length co5) t250) ∧ Aside0 (Kd.R Kd.string 9 w' w.heap.size (fun _ => True) (.slice (some ad253) t250.length co5) t250) ∧ Aside0 (Below w.heap.size w w'))
        case atStart => exact ⟨(0), au74, H', ⟨Nat.le_refl _⟩, ⟨by (with_reducible repeat (first | apply Kd.R_alloc | apply Kd.R_drewN | apply Kd.R_drew)); exact HO_3.out⟩, ⟨by (with_reducible repeat (first | apply Kd.R_alloc | apply Kd.R_drewN | apply Kd.R_drew)); exact HO_11.out⟩, ⟨by repeat (first | (with_reducible first | exact HB.out | apply below_alloc | apply pw_below_drewN | apply below_drew1) | exact HB.out)⟩⟩
        case round =>
         clear H'
         try clear c1
         try clear c2
         try clear c2b0
         try clear c2b1
         try clear p2
         try clear q2
         try clear hx2
         try clear c4
         try clear c6
         try clear c6b0
         try clear c7
         try clear c7b0
         try clear c8
         try clear c8b0
         try clear c10
         try clear hx253_0
         try clear p2
         try clear p253
         try clear q253
         obtain ⟨x6_2, rfl, HA, HK2, HO_3, HO_11, HB⟩ := hrel
         cases gk with
         | zero => exact absurd HA.out (by simp [impl_isParticle.l1])
         | succ k2 =>
          have H := HA.out
          clear HA
          simp only [impl_isParticle.l1] at H
          by_cases c11 : x6_2 < ((rdOf ByteArray.empty t250 x13_1).size : Int)
          ·
           rw [if_pos c11] at H
           have c11b0 : decide (x6_2 < ((rdOf ByteArray.empty t250 x13_1).size : Int)) = true := decide_eq_true c11
           clear c11
           by_cases c12 : 0 ≤ x6_2
           ·
            rw [if_pos c12] at H
            have c12b0 : decide (0 ≤ x6_2) = true := decide_eq_true c12
            clear c12
            replace H := Option.bind_eq_some_iff.mp H
            obtain ⟨t255, A140, H⟩ := H
            try dsimp only at H
            have A14 := Aside0.mk A140
            clear A140
            by_cases c15 : t255 = true
            ·
             subst c15
             replace H := (if_pos rfl).symm.trans H
             have H' := Aside0.mk H
             clear H
             have p13 : 0 ≤ (x6_2 : Int) := of_decide_eq_true au73
             have q13 : x6_2 < ((rdOf ByteArray.empty t250 x13_1).size : Int) := of_decide_eq_true au73
             have hx13 := bt_at (rdOf ByteArray.empty t250 x13_1) x6_2
             replace p13 := eq_true p13
             replace q13 := eq_true q13
             go_wp2_with (first | ((with_reducible refine gate_callee (f := 72) rfl ?_); refine goesL_ (some 30) rfl rfl Tryd.func72 (by kernel_rfl) rfl #[.int .u8 (bt (rdOf ByteArray.empty t250 x13_1) x6_2)] rfl au37 ?_; (with_reducible refine (impl_isLower.calls (bt (rdOf ByteArray.empty t250 x13_1) x6_2) true _ A14.out).mono ?_); rintro e w' ⟨rfl, ⟨nd, rfl⟩⟩; refine ⟨_, rfl, ?_⟩))
             go_roundg k2
             case measure => have := HK1.out; have := HK2.out; omega
             case rel => exact ⟨(wrap64 (x6_2 + 1)), au74, H', ⟨by have := HK1.out; have := HK2.out; omega⟩, ⟨by (with_reducible repeat (first | apply Kd.R_alloc | apply Kd.R_drewN | apply Kd.R_drew)); exact HO_3.out⟩, ⟨by (with_reducible repeat (first | apply Kd.R_alloc | apply Kd.R_drewN | apply Kd.R_drew)); exact HO_11.out⟩, ⟨by repeat (first | (with_reducible first | exact HB.out | apply below_alloc | apply pw_below_drewN | apply below_drew1) | exact HB.out)⟩⟩
            ·
             replace c15 := Bool.eq_false_iff.mpr c15
             subst c15
             replace H := (if_neg (show ¬ (false = true) by decide)).symm.trans H
             obtain rfl := Option.some.inj H
             have p13 : 0 ≤ (x6_2 : Int) := of_decide_eq_true au73
             have q13 : x6_2 < ((rdOf ByteArray.empty t250 x13_1).size : Int) := of_decide_eq_true au73
             have hx13 := bt_at (rdOf ByteArray.empty t250 x13_1) x6_2
             replace p13 := eq_true p13
             replace q13 := eq_true q13
             go_wp2_with (first | ((with_reducible refine gate_callee (f := 72) rfl ?_); refine goesL_ (some 30) rfl rfl Tryd.func72 (by kernel_rfl) rfl #[.int .u8 (bt (rdOf ByteArray.empty t250 x13_1) x6_2)] rfl au37 ?_; (with_reducible refine (impl_isLower.calls (bt (rdOf ByteArray.empty t250 x13_1) x6_2) false _ A14.out).mono ?_); rintro e w' ⟨rfl, ⟨nd, rfl⟩⟩; refine ⟨_, rfl, ?_⟩))
             go_ret
             exact ax3
           ·
            rw [if_neg c12] at H
            exact absurd H (by simp)
          ·
           rw [if_neg c11] at H
           have c11b0 : decide (x6_2 < ((rdOf ByteArray.empty t250 x13_1).size : Int)) = false := decide_eq_false c11
           clear c11
           have H' := Aside0.mk H
           clear H
           go_wp2
           go_roundg k2
           case measure => have := HK1.out; have := HK2.out; omega
           case rel => exact ⟨(wrap64 (x13_1 + 1)), au74, H', ⟨by have := HK1.out; have := HK2.out; omega⟩, ⟨by (with_reducible repeat (first | apply Kd.R_alloc | apply Kd.R_drewN | apply Kd.R_drew)); exact HO_3.out⟩, ⟨by (with_reducible repeat (first | apply Kd.R_alloc | apply Kd.R_drewN | apply Kd.R_drew)); exact HO_11.out⟩, ⟨by repeat (first | (with_reducible first | exact HB.out | apply below_alloc | apply pw_below_drewN | apply below_drew1) | exact HB.out)⟩⟩
       ·
        replace c10 := Bool.eq_false_iff.mpr c10
        subst c10
        replace H := (if_neg (show ¬ (false = true) by decide)).symm.trans H
        obtain rfl := Option.some.inj H
        have p253 : 0 ≤ (x13_1 : Int) := of_decide_eq_true au73
        have q253 : x13_1 < (t250.length : Int) := of_decide_eq_true au73
        obtain ⟨ad253, e253, hx253_0⟩ := Kd.at_string (Kd.R_reads' HO_11.out).2.2 x13_1 p253 q253
        cases e253
        replace p253 := eq_true p253
        replace q253 := eq_true q253
        go_wp2_with (first | ((with_reducible refine gate_callee (f := 64) rfl ?_); refine goesL_ (some 19) rfl rfl Tryd.func64 (by kernel_rfl) rfl #[.int .i64 ((rdOf ByteArray.empty t250 x13_1).size : Int), .int .i64 1, .int .i64 12] rfl au37 ?_; (with_reducible refine (impl_inside.calls ((rdOf ByteArray.empty t250 x13_1).size : Int) 1 12 false _ A9.out).mono ?_); rintro e w' ⟨rfl, ⟨nd, rfl⟩⟩; refine ⟨_, rfl, ?_⟩))
        go_ret
        exact ax3
      ·
       rw [if_neg c8] at H
       exact absurd H (by simp)
     ·
      rw [if_neg c7] at H
      exact absurd H (by simp)
    ·
     rw [if_neg c6] at H
     have c6b0 : decide (x13_1 < (t250.length : Int)) = false := decide_eq_false c6
     clear c6
     obtain rfl := Option.some.inj H
     go_wp2
     go_ret
     exact ax3


/-! ### impl_IsValidName_1: function 42 -/
def impl_IsValidName_1.f (k : Nat) (a0 : ByteArray) : Option (Bool) := (impl_isGreatWord.f k a0).bind fun t256 => (some (!t256))
theorem impl_IsValidName_1.mono : ∀ a0 k, LeO (impl_IsValidName_1.f k a0) (impl_IsValidName_1.f (k + 1) a0) := by
 intro a0 k
 unfold impl_IsValidName_1.f
 repeat' first
   | (with_reducible exact impl_isGreatWord.mono _ _)
   | (with_reducible exact LeO.refl _)
   | (with_reducible exact LeO.none _)
   | (with_reducible refine LeO.ite ?_ ?_)
   | (with_reducible refine LeO.bind ?_ (fun _ => ?_))
   | exact impl_isGreatWord.mono _ _
   | exact LeO.none _
   | refine LeO.ite ?_ ?_
   | refine LeO.bind ?_ (fun _ => ?_)
set_option maxHeartbeats 8000000 in
set_option maxRecDepth 100000 in
theorem impl_IsValidName_1.calls (k : Nat) (a0 : ByteArray) (r : Bool) (w : World) (h : impl_IsValidName_1.f k a0 = some r) :
  Calls Tryd.prog 42 #[.string a0] w fun e w' => e = .returned (.bool r) ∧ Drawn0 w w' := by
 have H : ((impl_isGreatWord.f k a0).bind fun t256 => (some (!t256))) = some r := h
 clear h
 replace H := Option.bind_eq_some_iff.mp H
 obtain ⟨t256, A20, H⟩ := H
 try dsimp only at H
 have A2 := Aside0.mk A20
 clear A20
 obtain rfl := Option.some.inj H
 go_enter Tryd.func42, Tryd.ntmps42
 go_wp2_with (first | ((with_reducible refine gate_callee (f := 43) rfl ?_); refine goesL_ (some 4) rfl rfl Tryd.func43 (by kernel_rfl) rfl #[.string a0] rfl au37 ?_; (with_reducible refine (impl_isGreatWord.calls k a0 t256 _ A2.out).mono ?_); rintro e w' ⟨rfl, ⟨nd, rfl⟩⟩; refine ⟨_, rfl, ?_⟩))
 go_ret
 exact ax1


/-! ### slices_IndexFunc_string_string_at_42: function 69 -/
def slices_IndexFunc_string_string_at_42.l0 : Nat → List ByteArray → Int → Int → Option (Int)
 | 0, _, _, _ => none
 | k + 1, x0, x7, x8 => if x8 < x7 then (if 0 ≤ x8 then (if x8 < (x0.length : Int) then ((impl_IsValidName_1.f k (rdOf ByteArray.empty x0 x8)).bind fun t257 => (if t257 = true then (some x8) else (slices_IndexFunc_string_string_at_42.l0 k x0 x7 (wrap64 (x8 + 1))))) else (none)) else (none)) else (some (-1))
def slices_IndexFunc_string_string_at_42.f (k : Nat) (l0 : List ByteArray)  : Option (Int) := slices_IndexFunc_string_string_at_42.l0 k l0 (l0.length : Int) 0
theorem slices_IndexFunc_string_string_at_42.mono_l : ∀ k, (∀ y0 y1 y2, LeO (slices_IndexFunc_string_string_at_42.l0 k y0 y1 y2) (slices_IndexFunc_string_string_at_42.l0 (k + 1) y0 y1 y2))
 | 0 => fun _ _ _ r h => by simp [slices_IndexFunc_string_string_at_42.l0] at h
 | k + 1 => by
  have ih0 := slices_IndexFunc_string_string_at_42.mono_l k
  ·
   intro y0 y1 y2
   unfold slices_IndexFunc_string_string_at_42.l0
   repeat' first
   | (with_reducible exact ih0 _ _ _)
   | (with_reducible exact impl_IsValidName_1.mono _ _)
   | (with_reducible exact LeO.refl _)
   | (with_reducible exact LeO.none _)
   | (with_reducible refine LeO.ite ?_ ?_)
   | (with_reducible refine LeO.bind ?_ (fun _ => ?_))
   | exact ih0 _ _ _
   | exact impl_IsValidName_1.mono _ _
   | exact LeO.none _
   | refine LeO.ite ?_ ?_
   | refine LeO.bind ?_ (fun _ => ?_)
theorem slices_IndexFunc_string_string_at_42.mono : ∀ a0 k, LeO (slices_IndexFunc_string_string_at_42.f k a0) (slices_IndexFunc_string_string_at_42.f (k + 1) a0) := by
 intro a0 k
 have ih0 := slices_IndexFunc_string_string_at_42.mono_l k
 unfold slices_IndexFunc_string_string_at_42.f
 repeat' first
   | (with_reducible exact ih0 _ _ _)
   | (with_reducible exact impl_IsValidName_1.mono _ _)
   | (with_reducible exact LeO.refl _)
   | (with_reducible exact LeO.none _)
   | (with_reducible refine LeO.ite ?_ ?_)
   | (with_reducible refine LeO.bind ?_ (fun _ => ?_))
   | exact ih0 _ _ _
   | exact impl_IsValidName_1.mono _ _
   | exact LeO.none _
   | refine LeO.ite ?_ ?_
   | refine LeO.bind ?_ (fun _ => ?_)
set_option maxHeartbeats 8000000 in
set_option maxRecDepth 100000 in
theorem slices_IndexFunc_string_string_at_42.calls (k : Nat) (A0 : Option Addr) (c0 : Nat) (l0 : List ByteArray)  (r : Int) (w : World) (hr0 : Kd.C Kd.string w A0 l0.length l0) (hc0 : l0.length ≤ c0) (h : slices_IndexFunc_string_string_at_42.f k l0 = some r) :
  Calls Tryd.prog 69 #[.slice A0 l0.length c0, .func (.func 42) #[] #[]] w fun e w' => e = .returned (.int .i64 r) ∧ Drawn0 w w' := by
 have HR0 := Aside0.mk hr0
 have HC0 := Aside0.mk hc0
 clear hr0 hc0
 have H : (slices_IndexFunc_string_string_at_42.l0 k l0 (l0.length : Int) 0) = some r := h
 clear h
 have H' := Aside0.mk H
 clear H
 go_enter Tryd.func69, Tryd.ntmps69
 go_wp2
 go_loopg [8] k (fun kq v8 w' => ∃ (x8_1 : Int), v8 = .int .i64 x8_1 ∧ Aside0 (slices_IndexFunc_string_string_at_42.l0 kq l0 (l0.length : Int) x8_1 = some r) ∧ Aside0 (kq ≤ k) ∧ Drawn0 w w')
 case atStart => exact ⟨(0), au74, H', ⟨Nat.le_refl _⟩, by repeat (first | exact Drawn0.refl _ | apply Drawn0.step)⟩
 case round =>
  clear H'
  try clear p2
  obtain ⟨x8_1, rfl, HA, HK1, ⟨m1, rfl⟩⟩ := hrel
  cases gk with
  | zero => exact absurd HA.out (by simp [slices_IndexFunc_string_string_at_42.l0])
  | succ k1 =>
   have H := HA.out
   clear HA
   simp only [slices_IndexFunc_string_string_at_42.l0] at H
   by_cases c3 : x8_1 < (l0.length : Int)
   ·
    rw [if_pos c3] at H
    have c3b0 : decide (x8_1 < (l0.length : Int)) = true := decide_eq_true c3
    clear c3
    by_cases c4 : 0 ≤ x8_1
    ·
     rw [if_pos c4] at H
     have c4b0 : decide (0 ≤ x8_1) = true := decide_eq_true c4
     clear c4
     by_cases c5 : x8_1 < (l0.length : Int)
     ·
      rw [if_pos c5] at H
      have c5b0 : decide (x8_1 < (l0.length : Int)) = true := decide_eq_true c5
      clear c5
      replace H := Option.bind_eq_some_iff.mp H
      obtain ⟨t257, A60, H⟩ := H
      try dsimp only at H
      have A6 := Aside0.mk A60
      clear A60
      by_cases c7 : t257 = true
      ·
       subst c7
       replace H := (if_pos rfl).symm.trans H
       obtain rfl := Option.some.inj H
       have p256 : 0 ≤ (x8_1 : Int) := of_decide_eq_true au73
       have q256 : x8_1 < (l0.length : Int) := of_decide_eq_true au73
       obtain ⟨ad256, e256, hx256_0⟩ := Kd.at_string HR0.out x8_1 p256 q256
       cases e256
       replace p256 := eq_true p256
       replace q256 := eq_true q256
       go_wp2_with (first | ((with_reducible refine gate_tmp (t := 11) rfl ?_); refine goesLt_ (t := 11) (show _ = Value.func (.func 42) #[] #[] from rfl) (some 16) rfl rfl Tryd.func42 (by kernel_rfl) rfl #[.string (rdOf ByteArray.empty l0 x8_1)] rfl au37 ?_; (with_reducible refine (impl_IsValidName_1.calls k1 (rdOf ByteArray.empty l0 x8_1) true _ A6.out).mono ?_); rintro e w' ⟨rfl, ⟨nd, rfl⟩⟩; refine ⟨_, rfl, ?_⟩))
       go_ret
       exact ax1
      ·
       replace c7 := Bool.eq_false_iff.mpr c7
       subst c7
       replace H := (if_neg (show ¬ (false = true) by decide)).symm.trans H
       have H' := Aside0.mk H
       clear H
       have p256 : 0 ≤ (x8_1 : Int) := of_decide_eq_true au73
       have q256 : x8_1 < (l0.length : Int) := of_decide_eq_true au73
       obtain ⟨ad256, e256, hx256_0⟩ := Kd.at_string HR0.out x8_1 p256 q256
       cases e256
       replace p256 := eq_true p256
       replace q256 := eq_true q256
       go_wp2_with (first | ((with_reducible refine gate_tmp (t := 11) rfl ?_); refine goesLt_ (t := 11) (show _ = Value.func (.func 42) #[] #[] from rfl) (some 16) rfl rfl Tryd.func42 (by kernel_rfl) rfl #[.string (rdOf ByteArray.empty l0 x8_1)] rfl au37 ?_; (with_reducible refine (impl_IsValidName_1.calls k1 (rdOf ByteArray.empty l0 x8_1) false _ A6.out).mono ?_); rintro e w' ⟨rfl, ⟨nd, rfl⟩⟩; refine ⟨_, rfl, ?_⟩))
       go_roundg k1
       case measure => have := HK1.out; omega
       case rel => exact ⟨(wrap64 (x8_1 + 1)), au74, H', ⟨by have := HK1.out; omega⟩, by repeat (first | exact Drawn0.refl _ | apply Drawn0.step)⟩
     ·
      rw [if_neg c5] at H
      exact absurd H (by simp)
    ·
     rw [if_neg c4] at H
     exact absurd H (by simp)
   ·
    rw [if_neg c3] at H
    have c3b0 : decide (x8_1 < (l0.length : Int)) = false := decide_eq_false c3
    clear c3
    obtain rfl := Option.some.inj H
    go_wp2
    go_ret
    exact ax1


/-! ### slices_ContainsFunc_string_string_at_42: function 41 -/
def slices_ContainsFunc_string_string_at_42.f (k : Nat) (l0 : List ByteArray)  : Option (Bool) := (slices_IndexFunc_string_string_at_42.f k l0).bind fun t258 => (some (decide (t258 ≥ 0)))
theorem slices_ContainsFunc_string_string_at_42.mono : ∀ a0 k, LeO (slices_ContainsFunc_string_string_at_42.f k a0) (slices_ContainsFunc_string_string_at_42.f (k + 1) a0) := by
 intro a0 k
 unfold slices_ContainsFunc_string_string_at_42.f
 repeat' first
   | (with_reducible exact slices_IndexFunc_string_string_at_42.mono _ _)
   | (with_reducible exact LeO.refl _)
   | (with_reducible exact LeO.none _)
   | (with_reducible refine LeO.ite ?_ ?_)
   | (with_reducible refine LeO.bind ?_ (fun _ => ?_))
   | exact slices_IndexFunc_string_string_at_42.mono _ _
   | exact LeO.none _
   | refine LeO.ite ?_ ?_
   | refine LeO.bind ?_ (fun _ => ?_)
set_option maxHeartbeats 8000000 in
set_option maxRecDepth 100000 in
theorem slices_ContainsFunc_string_string_at_42.calls (k : Nat) (A0 : Option Addr) (c0 : Nat) (l0 : List ByteArray)  (r : Bool) (w : World) (hr0 : Kd.C Kd.string w A0 l0.length l0) (hc0 : l0.length ≤ c0) (h : slices_ContainsFunc_string_string_at_42.f k l0 = some r) :
  Calls Tryd.prog 41 #[.slice A0 l0.length c0, .func (.func 42) #[] #[]] w fun e w' => e = .returned (.bool r) ∧ Drawn0 w w' := by
 have HR0 := Aside0.mk hr0
 have HC0 := Aside0.mk hc0
 clear hr0 hc0
 have H : ((slices_IndexFunc_string_string_at_42.f k l0).bind fun t258 => (some (decide (t258 ≥ 0)))) = some r := h
 clear h
 replace H := Option.bind_eq_some_iff.mp H
 obtain ⟨t258, A30, H⟩ := H
 try dsimp only at H
 have A3 := Aside0.mk A30
 clear A30
 obtain rfl := Option.some.inj H
 go_enter Tryd.func41, Tryd.ntmps41
 go_wp2_with (first | ((with_reducible refine gate_callee (f := 69) rfl ?_); refine goesL_ (some 7) rfl rfl Tryd.func69 (by kernel_rfl) rfl #[.slice A0 l0.length c0, .func (.func 42) #[] #[]] rfl au37 ?_; (with_reducible refine (slices_IndexFunc_string_string_at_42.calls k _ _ l0  t258 _ ?side1 ?side2 A3.out).mono ?_); (case side1 => repeat (first | exact HR0.out | (with_reducible refine Kd.C_alloc ?_ _) | (with_reducible refine Kd.C_drewN ?_ _) | (with_reducible refine Kd.C_drew ?_))); (case side2 => exact HC0.out); rintro e w' ⟨rfl, ⟨nd, rfl⟩⟩; refine ⟨_, rfl, ?_⟩))
 go_ret
 exact ax1


/-! ### impl_IsValidName: function 19 -/
def impl_IsValidName.j0 : Nat → Bool → List ByteArray → ByteArray → ByteArray → ByteArray → Option (Bool)
 | 0, _, _, _, _, _ => none
 | k + 1, x11, x260000, x260001, x260002, x260003 => if x11 = true then (some false) else ((impl_isParticle.f k x260001).bind fun t261 => (if t261 = true then ((impl_isGreatWord.f k x260002).bind fun t262 => (if t262 = true then (if x260003.toList = ([] : List UInt8) then (some true) else ((impl_isNameWord.f k x260003).bind fun t263 => (some t263))) else (some false))) else (some false)))
def impl_IsValidName.f (k : Nat) (l0_0 : List ByteArray) (a0_1 : ByteArray) (a0_2 : ByteArray) (a0_3 : ByteArray) : Option (Bool) := if (l0_0.length : Int) > 3 then (impl_IsValidName.j0 k true l0_0 a0_1 a0_2 a0_3) else ((slices_ContainsFunc_string_string_at_42.f k l0_0).bind fun t260 => (impl_IsValidName.j0 k t260 l0_0 a0_1 a0_2 a0_3))
theorem impl_IsValidName.mono_l : ∀ k, (∀ y0 y1 y2 y3 y4, LeO (impl_IsValidName.j0 k y0 y1 y2 y3 y4) (impl_IsValidName.j0 (k + 1) y0 y1 y2 y3 y4))
 | 0 => fun _ _ _ _ _ r h => by simp [impl_IsValidName.j0] at h
 | k + 1 => by
  have ih0 := impl_IsValidName.mono_l k
  ·
   intro y0 y1 y2 y3 y4
   unfold impl_IsValidName.j0
   repeat' first
   | (with_reducible exact ih0 _ _ _ _ _)
   | (with_reducible exact impl_isGreatWord.mono _ _)
   | (with_reducible exact impl_isNameWord.mono _ _)
   | (with_reducible exact impl_isParticle.mono _ _)
   | (with_reducible exact slices_ContainsFunc_string_string_at_42.mono _ _)
   | (with_reducible exact LeO.refl _)
   | (with_reducible exact LeO.none _)
   | (with_reducible refine LeO.ite ?_ ?_)
   | (with_reducible refine LeO.bind ?_ (fun _ => ?_))
   | exact ih0 _ _ _ _ _
   | exact impl_isGreatWord.mono _ _
   | exact impl_isNameWord.mono _ _
   | exact impl_isParticle.mono _ _
   | exact slices_ContainsFunc_string_string_at_42.mono _ _
   | exact LeO.none _
   | refine LeO.ite ?_ ?_
   | refine LeO.bind ?_ (fun _ => ?_)
theorem impl_IsValidName.mono : ∀ a0 a1 a2 a3 k, LeO (impl_IsValidName.f k a0 a1 a2 a3) (impl_IsValidName.f (k + 1) a0 a1 a2 a3) := by
 intro a0 a1 a2 a3 k
 have ih0 := impl_IsValidName.mono_l k
 unfold impl_IsValidName.f
 repeat' first
   | (with_reducible exact ih0 _ _ _ _ _)
   | (with_reducible exact impl_isGreatWord.mono _ _)
   | (with_reducible exact impl_isNameWord.mono _ _)
   | (with_reducible exact impl_isParticle.mono _ _)
   | (with_reducible exact slices_ContainsFunc_string_string_at_42.mono _ _)
   | (with_reducible exact LeO.refl _)
   | (with_reducible exact LeO.none _)
   | (with_reducible refine LeO.ite ?_ ?_)
   | (with_reducible refine LeO.bind ?_ (fun _ => ?_))
   | exact ih0 _ _ _ _ _
   | exact impl_isGreatWord.mono _ _
   | exact impl_isNameWord.mono _ _
   | exact impl_isParticle.mono _ _
   | exact slices_ContainsFunc_string_string_at_42.mono _ _
   | exact LeO.none _
   | refine LeO.ite ?_ ?_
   | refine LeO.bind ?_ (fun _ => ?_)
set_option maxRecDepth 100000 in
theorem impl_IsValidName.L0 {P : Prop} (h : P := by
  have hcz18_0 : wc.cell? ⟨gb259, 0, none⟩ = some (.slice A0_0 l0_0.length c0_0) := (blk_cell BK259.out 0).trans rfl
  have hcz18_1 : wc.cell? ⟨gb259, 1, none⟩ = some (.string a0_1) := (blk_cell BK259.out 1).trans rfl
  have hcz18_2 : wc.cell? ⟨gb259, 2, none⟩ = some (.string a0_2) := (blk_cell BK259.out 2).trans rfl
  have hcz18_3 : wc.cell? ⟨gb259, 3, none⟩ = some (.string a0_3) := (blk_cell BK259.out 3).trans rfl
  have hfz18_0 := blk_frozen BK259.out 0
  have hfz18_1 := blk_frozen BK259.out 1
  have hfz18_2 := blk_frozen BK259.out 2
  have hfz18_3 := blk_frozen BK259.out 3
  go_wp2_with (first | ((with_reducible refine gate_callee (f := 44) rfl ?_); refine goesL_ (some 14) rfl rfl Tryd.func44 (by kernel_rfl) rfl #[.string a0_1] rfl au37 ?_; (with_reducible refine (impl_isParticle.calls (hG := au2) kj1 a0_1 _ _ A9.out).mono ?_); rintro e w19 ⟨rfl, hb⟩; refine ⟨_, rfl, ?_⟩; have n0_ := Aside0.mk (blk_below (g := gb259) (o := .cells #[.slice A0_0 l0_0.length c0_0, .string a0_1, .string a0_2, .string a0_3] 26 (0, 0)) au43 hb); have n1_ := Aside0.mk (below_step au23 hb); clear BK259; clear HB; have BK259 := n0_; have HB := n1_; clear n0_ n1_; (try clear hb); (try clear hb2); (try clear hk); (try clear hi); have hcz20_0 : w19.cell? ⟨gb259, 0, none⟩ = some (.slice A0_0 l0_0.length c0_0) := (blk_cell BK259.out 0).trans rfl; have hcz20_1 : w19.cell? ⟨gb259, 1, none⟩ = some (.string a0_1) := (blk_cell BK259.out 1).trans rfl; have hcz20_2 : w19.cell? ⟨gb259, 2, none⟩ = some (.string a0_2) := (blk_cell BK259.out 2).trans rfl; have hcz20_3 : w19.cell? ⟨gb259, 3, none⟩ = some (.string a0_3) := (blk_cell BK259.out 3).trans rfl; have hfz20_0 := blk_frozen BK259.out 0; have hfz20_1 := blk_frozen BK259.out 1; have hfz20_2 := blk_frozen BK259.out 2; have hfz20_3 := blk_frozen BK259.out 3) | (go_at_call 43; (with_reducible refine (impl_isGreatWord.calls kj1 a0_2 _ _ A11.out).mono ?_); rintro e w' ⟨rfl, ⟨nd, rfl⟩⟩) | (go_at_call 45; (with_reducible refine (impl_isNameWord.calls kj1 a0_3 t263 _ A17.out).mono ?_); rintro e w' ⟨rfl, ⟨nd, rfl⟩⟩))
  go_ret
  exact ax4) : P := h
set_option maxHeartbeats 8000000 in
set_option maxRecDepth 100000 in
theorem impl_IsValidName.calls (k : Nat) (A0_0 : Option Addr) (c0_0 : Nat) (l0_0 : List ByteArray) (a0_1 : ByteArray) (a0_2 : ByteArray) (a0_3 : ByteArray) (r : Bool) (w : World) {gF1 gF2 gF3 : Bool} (hG : GL gF1 gF2 gF3 w) (hr0_0 : Kd.C Kd.string w A0_0 l0_0.length l0_0) (hc0_0 : l0_0.length ≤ c0_0) (h : impl_IsValidName.f k l0_0 a0_1 a0_2 a0_3 = some r) :
  Calls Tryd.prog 19 #[.agg #[.slice A0_0 l0_0.length c0_0, .string a0_1, .string a0_2, .string a0_3]] w fun e w' => e = .returned (.bool r) ∧ Below w.heap.size w w' := by
 have HG := Aside0.mk hG
 clear hG
 have hu26 := Tryd.underlying26
 have HR0_0 := Aside0.mk hr0_0
 have HC0_0 := Aside0.mk hc0_0
 clear hr0_0 hc0_0
 have HB := Aside0.mk (Below.refl w.heap.size w)
 have H : (if (l0_0.length : Int) > 3 then (impl_IsValidName.j0 k true l0_0 a0_1 a0_2 a0_3) else ((slices_ContainsFunc_string_string_at_42.f k l0_0).bind fun t260 => (impl_IsValidName.j0 k t260 l0_0 a0_1 a0_2 a0_3))) = some r := h
 clear h
 have HC2 := Aside0.mk H
 clear H
 go_enter Tryd.func19, Tryd.ntmps19
 go_upto_region 1 with (first | ((with_reducible refine gate_dst (N := 1) rfl ?_); refine box_event ?hg (N := 1) ?hd (cs := #[.slice A0_0 l0_0.length c0_0, .string a0_1, .string a0_2, .string a0_3]) (t := 26) ?hr ?_; (case hd => rfl); (case hg => rfl); (case hr => first | (go_simp; done) | (go_simp; rfl)); intro gb259 hg w3 hbox hb; have n0_ := Aside0.mk (below_step au38 hb); have n1_ := Aside0.mk (hbox); have n2_ := Aside0.mk ((by rw [hg]; exact (below_size au38) : w.heap.size ≤ gb259)); have n3_ := Aside0.mk ((by rw [hg]; exact (below_size au38) : w.heap.size ≤ gb259)); clear HB; have HB := n0_; have BK259 := n1_; have GW259 := n2_; have GE259 := n3_; clear n0_ n1_ n2_ n3_; clear hb hbox hg))
 (try simp only [Act.put, List.setIfInBounds_toArray, List.set_cons_zero, List.set_cons_succ])
 go_cut [11] (fun v11 wc => ∃ (kq : Nat) (x11_1 : Bool), v11 = .bool x11_1 ∧ Aside0 (impl_IsValidName.j0 kq x11_1 l0_0 a0_1 a0_2 a0_3 = some r) ∧ Aside0 (kq ≤ k) ∧ Aside0 (wc.heap[gb259]? = some (.cells #[(.slice A0_0 l0_0.length c0_0), .string a0_1, .string a0_2, .string a0_3] 26 (0, 0))) ∧ Aside0 (Below w.heap.size w wc))
 case first =>
  have H := HC2.out
  clear HC2
  by_cases c4 : (l0_0.length : Int) > 3
  ·
   rw [if_pos c4] at H
   have c4b0 : decide (3 < (l0_0.length : Int)) = true := decide_eq_true c4
   have c4b1 : decide (3 < l0_0.length) = true := decide_eq_true (by omega)
   clear c4
   (first | rw [c4b0] | (simp only [i64_w, i32_w]; rw [c4b0]) | skip)
   have H' := Aside0.mk H
   clear H
   have hcz5_0 : w3.cell? ⟨gb259, 0, none⟩ = some (.slice A0_0 l0_0.length c0_0) := (blk_cell BK259.out 0).trans rfl
   have hcz5_1 : w3.cell? ⟨gb259, 1, none⟩ = some (.string a0_1) := (blk_cell BK259.out 1).trans rfl
   have hcz5_2 : w3.cell? ⟨gb259, 2, none⟩ = some (.string a0_2) := (blk_cell BK259.out 2).trans rfl
   have hcz5_3 : w3.cell? ⟨gb259, 3, none⟩ = some (.string a0_3) := (blk_cell BK259.out 3).trans rfl
   have hfz5_0 := blk_frozen BK259.out 0
   have hfz5_1 := blk_frozen BK259.out 1
   have hfz5_2 := blk_frozen BK259.out 2
   have hfz5_3 := blk_frozen BK259.out 3
   go_wp2
   go_meet
   case rel => exact ⟨_, (true), au74, H', ⟨by first | omega | exact Nat.le_refl _⟩, ⟨by (with_reducible repeat (first | refine blk_drewN ?_ _ | refine blk_drew ?_ | refine blk_alloc ?_ _)); exact BK259.out⟩, ⟨by repeat (first | (with_reducible first | exact HB.out | apply below_alloc | apply pw_below_drewN | apply below_drew1 | refine below_set ?_ GE259.out) | exact HB.out)⟩⟩
  ·
   rw [if_neg c4] at H
   have c4b0 : decide (3 < (l0_0.length : Int)) = false := decide_eq_false c4
   have c4b1 : decide (3 < l0_0.length) = false := decide_eq_false (by omega)
   clear c4
   (first | rw [c4b0] | (simp only [i64_w, i32_w]; rw [c4b0]) | skip)
   replace H := Option.bind_eq_some_iff.mp H
   obtain ⟨t260, A60, H⟩ := H
   try dsimp only at H
   have A6 := Aside0.mk A60
   clear A60
   have H' := Aside0.mk H
   clear H
   have hcz7_0 : w3.cell? ⟨gb259, 0, none⟩ = some (.slice A0_0 l0_0.length c0_0) := (blk_cell BK259.out 0).trans rfl
   have hcz7_1 : w3.cell? ⟨gb259, 1, none⟩ = some (.string a0_1) := (blk_cell BK259.out 1).trans rfl
   have hcz7_2 : w3.cell? ⟨gb259, 2, none⟩ = some (.string a0_2) := (blk_cell BK259.out 2).trans rfl
   have hcz7_3 : w3.cell? ⟨gb259, 3, none⟩ = some (.string a0_3) := (blk_cell BK259.out 3).trans rfl
   have hfz7_0 := blk_frozen BK259.out 0
   have hfz7_1 := blk_frozen BK259.out 1
   have hfz7_2 := blk_frozen BK259.out 2
   have hfz7_3 := blk_frozen BK259.out 3
   go_wp2_with (first | (go_at_call 41; (with_reducible refine (slices_ContainsFunc_string_string_at_42.calls k _ _ l0_0  t260 _ ?side1 ?side2 A6.out).mono ?_); (case side1 => repeat (first | exact (Kd.C_below HR0_0.out HB.out) | (with_reducible refine Kd.C_alloc ?_ _) | (with_reducible refine Kd.C_drewN ?_ _) | (with_reducible refine Kd.C_drew ?_))); (case side2 => exact HC0_0.out); rintro e w' ⟨rfl, ⟨nd, rfl⟩⟩))
   go_meet
   case rel => exact ⟨_, (t260), au74, H', ⟨by first | omega | exact Nat.le_refl _⟩, ⟨by (with_reducible repeat (first | refine blk_drewN ?_ _ | refine blk_drew ?_ | refine blk_alloc ?_ _)); exact BK259.out⟩, ⟨by repeat (first | (with_reducible first | exact HB.out | apply below_alloc | apply pw_below_drewN | apply below_drew1 | refine below_set ?_ GE259.out) | exact HB.out)⟩⟩
 case rest =>
  clear HC2
  try clear c1
  try clear p2
  try clear c4
  try clear c4b0
  try clear c4b1
  try clear hcz5_0
  try clear hcz5_1
  try clear hcz5_2
  try clear hcz5_3
  try clear hcz7_0
  try clear hcz7_1
  try clear hcz7_2
  try clear hcz7_3
  try clear hfz5_0
  try clear hfz5_1
  try clear hfz5_2
  try clear hfz5_3
  try clear hfz7_0
  try clear hfz7_1
  try clear hfz7_2
  try clear hfz7_3
  obtain ⟨kq, x11_1, rfl, HA, HJ1, BK259, HB⟩ := hcut
  cases kq with
  | zero => exact absurd HA.out (by simp [impl_IsValidName.j0])
  | succ kj1 =>
   have H := HA.out
   clear HA
   simp only [impl_IsValidName.j0] at H
   by_cases c8 : x11_1 = true
   ·
    subst c8
    replace H := (if_pos rfl).symm.trans H
    obtain rfl := Option.some.inj H
    go_wp2
    go_ret
    exact ax4
   ·
    replace c8 := Bool.eq_false_iff.mpr c8
    subst c8
    replace H := (if_neg (show ¬ (false = true) by decide)).symm.trans H
    replace H := Option.bind_eq_some_iff.mp H
    obtain ⟨t261, A90, H⟩ := H
    try dsimp only at H
    have A9 := Aside0.mk A90
    clear A90
    by_cases c10 : t261 = true
    ·
     subst c10
     replace H := (if_pos rfl).symm.trans H
     replace H := Option.bind_eq_some_iff.mp H
     obtain ⟨t262, A110, H⟩ := H
     try dsimp only at H
     have A11 := Aside0.mk A110
     clear A110
     by_cases c12 : t262 = true
     ·
      subst c12
      replace H := (if_pos rfl).symm.trans H
      by_cases c13 : a0_3.toList = ([] : List UInt8)
      ·
       rw [if_pos c13] at H
       have c13b0 : (a0_3.toList == ([] : List UInt8)) = true := beq_iff_eq.mpr c13
       have c13b1 : (a0_3.toList != ([] : List UInt8)) = false := bne_eq_false_iff_eq.mpr c13
       clear c13
       obtain rfl := Option.some.inj H
       exact impl_IsValidName.L0
      ·
       rw [if_neg c13] at H
       have c13b0 : (a0_3.toList == ([] : List UInt8)) = false := beq_eq_false_iff_ne.mpr c13
       have c13b1 : (a0_3.toList != ([] : List UInt8)) = true := bne_iff_ne.mpr c13
       replace H := Option.bind_eq_some_iff.mp H
       obtain ⟨t263, A170, H⟩ := H
       try dsimp only at H
       have A17 := Aside0.mk A170
       clear A170
       obtain rfl := Option.some.inj H
       exact impl_IsValidName.L0
     ·
      replace c12 := Bool.eq_false_iff.mpr c12
      subst c12
      replace H := (if_neg (show ¬ (false = true) by decide)).symm.trans H
      obtain rfl := Option.some.inj H
      exact impl_IsValidName.L0
    ·
     replace c10 := Bool.eq_false_iff.mpr c10
     subst c10
     replace H := (if_neg (show ¬ (false = true) by decide)).symm.trans H
     obtain rfl := Option.some.inj H
     have hcz24_0 : wc.cell? ⟨gb259, 0, none⟩ = some (.slice A0_0 l0_0.length c0_0) := (blk_cell BK259.out 0).trans rfl
     have hcz24_1 : wc.cell? ⟨gb259, 1, none⟩ = some (.string a0_1) := (blk_cell BK259.out 1).trans rfl
     have hcz24_2 : wc.cell? ⟨gb259, 2, none⟩ = some (.string a0_2) := (blk_cell BK259.out 2).trans rfl
     have hcz24_3 : wc.cell? ⟨gb259, 3, none⟩ = some (.string a0_3) := (blk_cell BK259.out 3).trans rfl
     have hfz24_0 := blk_frozen BK259.out 0
     have hfz24_1 := blk_frozen BK259.out 1
     have hfz24_2 := blk_frozen BK259.out 2
     have hfz24_3 := blk_frozen BK259.out 3
     go_wp2_with (first | ((with_reducible refine gate_callee (f := 44) rfl ?_); refine goesL_ (some 14) rfl rfl Tryd.func44 (by kernel_rfl) rfl #[.string a0_1] rfl au37 ?_; (with_reducible refine (impl_isParticle.calls (hG := au2) kj1 a0_1 _ _ A9.out).mono ?_); rintro e w25 ⟨rfl, hb⟩; refine ⟨_, rfl, ?_⟩; have n0_ := Aside0.mk (blk_below (g := gb259) (o := .cells #[.slice A0_0 l0_0.length c0_0, .string a0_1, .string a0_2, .string a0_3] 26 (0, 0)) au43 hb); have n1_ := Aside0.mk (below_step au23 hb); clear BK259; clear HB; have BK259 := n0_; have HB := n1_; clear n0_ n1_; (try clear hb); (try clear hb2); (try clear hk); (try clear hi)))
     go_ret
     exact ax4


/-! ### impl_areNames_1: function 63 -/
def impl_areNames_1.f (k : Nat) (l0_0 : List ByteArray) (a0_1 : ByteArray) (a0_2 : ByteArray) (a0_3 : ByteArray) : Option (Bool) := (impl_IsValidName.f k l0_0 a0_1 a0_2 a0_3).bind fun t496 => (some (!t496))
theorem impl_areNames_1.mono : ∀ a0 a1 a2 a3 k, LeO (impl_areNames_1.f k a0 a1 a2 a3) (impl_areNames_1.f (k + 1) a0 a1 a2 a3) := by
 intro a0 a1 a2 a3 k
 unfold impl_areNames_1.f
 repeat' first
   | (with_reducible exact impl_IsValidName.mono _ _ _ _ _)
   | (with_reducible exact LeO.refl _)
   | (with_reducible exact LeO.none _)
   | (with_reducible refine LeO.ite ?_ ?_)
   | (with_reducible refine LeO.bind ?_ (fun _ => ?_))
   | exact impl_IsValidName.mono _ _ _ _ _
   | exact LeO.none _
   | refine LeO.ite ?_ ?_
   | refine LeO.bind ?_ (fun _ => ?_)
set_option maxHeartbeats 8000000 in
set_option maxRecDepth 100000 in
theorem impl_areNames_1.calls (k : Nat) (A0_0 : Option Addr) (c0_0 : Nat) (l0_0 : List ByteArray) (a0_1 : ByteArray) (a0_2 : ByteArray) (a0_3 : ByteArray) (r : Bool) (w : World) {gF1 gF2 gF3 : Bool} (hG : GL gF1 gF2 gF3 w) (hr0_0 : Kd.C Kd.string w A0_0 l0_0.length l0_0) (hc0_0 : l0_0.length ≤ c0_0) (h : impl_areNames_1.f k l0_0 a0_1 a0_2 a0_3 = some r) :
  Calls Tryd.prog 63 #[.agg #[.slice A0_0 l0_0.length c0_0, .string a0_1, .string a0_2, .string a0_3]] w fun e w' => e = .returned (.bool r) ∧ Below w.heap.size w w' := by
 have HG := Aside0.mk hG
 clear hG
 have hu26 := Tryd.underlying26
 have HR0_0 := Aside0.mk hr0_0
 have HC0_0 := Aside0.mk hc0_0
 clear hr0_0 hc0_0
 have HB := Aside0.mk (Below.refl w.heap.size w)
 have H : ((impl_IsValidName.f k l0_0 a0_1 a0_2 a0_3).bind fun t496 => (some (!t496))) = some r := h
 clear h
 replace H := Option.bind_eq_some_iff.mp H
 obtain ⟨t496, A20, H⟩ := H
 try dsimp only at H
 have A2 := Aside0.mk A20
 clear A20
 obtain rfl := Option.some.inj H
 go_enter Tryd.func63, Tryd.ntmps63
 go_wp2_with (first | ((with_reducible refine gate_dst (N := 1) rfl ?_); refine box_event ?hg (N := 1) ?hd (cs := #[.slice A0_0 l0_0.length c0_0, .string a0_1, .string a0_2, .string a0_3]) (t := 26) ?hr ?_; (case hd => rfl); (case hg => rfl); (case hr => first | (go_simp; done) | (go_simp; rfl)); intro gb495 hg w3 hbox hb; have n0_ := Aside0.mk (below_step au38 hb); have n1_ := Aside0.mk (hbox); have n2_ := Aside0.mk ((by rw [hg]; exact (below_size au38) : w.heap.size ≤ gb495)); have n3_ := Aside0.mk ((by rw [hg]; exact (below_size au38) : w.heap.size ≤ gb495)); clear HB; have HB := n0_; have BK495 := n1_; have GW495 := n2_; have GE495 := n3_; clear n0_ n1_ n2_ n3_; clear hb hbox hg; have hcz4_0 : w3.cell? ⟨gb495, 0, none⟩ = some (.slice A0_0 l0_0.length c0_0) := (blk_cell BK495.out 0).trans rfl; have hcz4_1 : w3.cell? ⟨gb495, 1, none⟩ = some (.string a0_1) := (blk_cell BK495.out 1).trans rfl; have hcz4_2 : w3.cell? ⟨gb495, 2, none⟩ = some (.string a0_2) := (blk_cell BK495.out 2).trans rfl; have hcz4_3 : w3.cell? ⟨gb495, 3, none⟩ = some (.string a0_3) := (blk_cell BK495.out 3).trans rfl; have hfz4_0 := blk_frozen BK495.out 0; have hfz4_1 := blk_frozen BK495.out 1; have hfz4_2 := blk_frozen BK495.out 2; have hfz4_3 := blk_frozen BK495.out 3) | ((with_reducible refine gate_callee (f := 19) rfl ?_); refine goesL_ (some 4) rfl rfl Tryd.func19 (by kernel_rfl) rfl #[.agg #[.slice A0_0 l0_0.length c0_0, .string a0_1, .string a0_2, .string a0_3]] rfl au37 ?_; (with_reducible refine (impl_IsValidName.calls (hG := au2) k _ _ l0_0 a0_1 a0_2 a0_3 t496 _ ?side1 ?side2 A2.out).mono ?_); (case side1 => repeat (first | exact (Kd.C_below HR0_0.out HB.out) | (with_reducible refine Kd.C_alloc ?_ _) | (with_reducible refine Kd.C_drewN ?_ _) | (with_reducible refine Kd.C_drew ?_))); (case side2 => exact HC0_0.out); rintro e w5 ⟨rfl, hb⟩; refine ⟨_, rfl, ?_⟩; have n0_ := Aside0.mk (blk_below (g := gb495) (o := .cells #[.slice A0_0 l0_0.length c0_0, .string a0_1, .string a0_2, .string a0_3] 26 (0, 0)) (by (with_reducible repeat (first | refine blk_drewN ?_ _ | refine blk_drew ?_ | refine blk_alloc ?_ _)); exact BK495.out) hb); have n1_ := Aside0.mk (below_step (by repeat (first | (with_reducible first | exact HB.out | apply below_alloc | apply pw_below_drewN | apply below_drew1 | refine below_set ?_ GE495.out) | exact HB.out)) hb); clear BK495; clear HB; have BK495 := n0_; have HB := n1_; clear n0_ n1_; (try clear hb); (try clear hb2); (try clear hk); (try clear hi)))
 go_ret
 exact ⟨by first | rfl | (simp [errW_none, errW_some] <;> rfl) | (simp [*, errW_none, errW_some] <;> rfl), by repeat (first | (with_reducible first | exact HB.out | apply below_alloc | apply pw_below_drewN | apply below_drew1 | refine below_set ?_ GE495.out) | exact HB.out)⟩


/-! ### impl_Name_82_at_63: function 82 -/
def impl_Name_82_at_63.l0 : Nat → List (S26) → Int → Int → Option (Int)
 | 0, _, _, _ => none
 | k + 1, x0, x7, x8 => if x8 < x7 then (if 0 ≤ x8 then (if x8 < (x0.length : Int) then ((impl_areNames_1.f k ((rd_T26 x0 x8).f0) ((rd_T26 x0 x8).f1) ((rd_T26 x0 x8).f2) ((rd_T26 x0 x8).f3)).bind fun t496 => (if t496 = true then (some x8) else (impl_Name_82_at_63.l0 k x0 x7 (wrap64 (x8 + 1))))) else (none)) else (none)) else (some (-1))
def impl_Name_82_at_63.f (k : Nat) (l0 : List (S26))  : Option (Int) := impl_Name_82_at_63.l0 k l0 (l0.length : Int) 0
theorem impl_Name_82_at_63.mono_l : ∀ k, (∀ y0 y1 y2, LeO (impl_Name_82_at_63.l0 k y0 y1 y2) (impl_Name_82_at_63.l0 (k + 1) y0 y1 y2))
 | 0 => fun _ _ _ r h => by simp [impl_Name_82_at_63.l0] at h
 | k + 1 => by
  have ih0 := impl_Name_82_at_63.mono_l k
  ·
   intro y0 y1 y2
   unfold impl_Name_82_at_63.l0
   repeat' first
   | (with_reducible exact ih0 _ _ _)
   | (with_reducible exact impl_areNames_1.mono _ _ _ _ _)
   | (with_reducible exact LeO.refl _)
   | (with_reducible exact LeO.none _)
   | (with_reducible refine LeO.ite ?_ ?_)
   | (with_reducible refine LeO.bind ?_ (fun _ => ?_))
   | exact ih0 _ _ _
   | exact impl_areNames_1.mono _ _ _ _ _
   | exact LeO.none _
   | refine LeO.ite ?_ ?_
   | refine LeO.bind ?_ (fun _ => ?_)
theorem impl_Name_82_at_63.mono : ∀ a0 k, LeO (impl_Name_82_at_63.f k a0) (impl_Name_82_at_63.f (k + 1) a0) := by
 intro a0 k
 have ih0 := impl_Name_82_at_63.mono_l k
 unfold impl_Name_82_at_63.f
 repeat' first
   | (with_reducible exact ih0 _ _ _)
   | (with_reducible exact impl_areNames_1.mono _ _ _ _ _)
   | (with_reducible exact LeO.refl _)
   | (with_reducible exact LeO.none _)
   | (with_reducible refine LeO.ite ?_ ?_)
   | (with_reducible refine LeO.bind ?_ (fun _ => ?_))
   | exact ih0 _ _ _
   | exact impl_areNames_1.mono _ _ _ _ _
   | exact LeO.none _
   | refine LeO.ite ?_ ?_
   | refine LeO.bind ?_ (fun _ => ?_)
set_option maxRecDepth 100000 in
theorem impl_Name_82_at_63.L0 {P : Prop} (h : P := by
  go_wp2_with (first | ((with_reducible refine gate_tmp (t := 11) rfl ?_); refine goesLt_ (t := 11) (show _ = Value.func (.func 63) #[] #[] from rfl) (some 16) rfl rfl Tryd.func63 (by kernel_rfl) rfl #[.agg #[.slice A495_0 ((rd_T26 l0 x8_1).f0).length c495_0, .string ((rd_T26 l0 x8_1).f1), .string ((rd_T26 l0 x8_1).f2), .string ((rd_T26 l0 x8_1).f3)]] rfl au37 ?_; (with_reducible refine (impl_areNames_1.calls (hG := au2) k1 _ _ ((rd_T26 l0 x8_1).f0) ((rd_T26 l0 x8_1).f1) ((rd_T26 l0 x8_1).f2) ((rd_T26 l0 x8_1).f3) _ _ ?side1 ?side2 A6.out).mono ?_); (case side1 => repeat (first | exact (Kd.C_below HR495_0.out HB.out) | (with_reducible refine Kd.C_alloc ?_ _) | (with_reducible refine Kd.C_drewN ?_ _) | (with_reducible refine Kd.C_drew ?_))); (case side2 => exact HC495_0.out); rintro e w8 ⟨rfl, hb⟩; refine ⟨_, rfl, ?_⟩; have n0_ := Aside0.mk (below_step au38 hb); clear HB; have HB := n0_; clear n0_; (try clear hb); (try clear hb2); (try clear hk); (try clear hi)))
  go_ret
  exact ax3) : P := h
set_option maxHeartbeats 8000000 in
set_option maxRecDepth 100000 in
theorem impl_Name_82_at_63.calls (k : Nat) (A0 : Option Addr) (c0 : Nat) (l0 : List (S26))  (r : Int) (w : World) {gF1 gF2 gF3 : Bool} (hG : GL gF1 gF2 gF3 w) (hr0 : Kd.C k26 w A0 l0.length l0) (hc0 : l0.length ≤ c0) (h : impl_Name_82_at_63.f k l0 = some r) :
  Calls Tryd.prog 82 #[.slice A0 l0.length c0, .func (.func 63) #[] #[]] w fun e w' => e = .returned (.int .i64 r) ∧ Below w.heap.size w w' := by
 have HG := Aside0.mk hG
 clear hG
 have hu26 := Tryd.underlying26
 have HR0 := Aside0.mk hr0
 have HC0 := Aside0.mk hc0
 clear hr0 hc0
 have HB := Aside0.mk (Below.refl w.heap.size w)
 have H : (impl_Name_82_at_63.l0 k l0 (l0.length : Int) 0) = some r := h
 clear h
 have H' := Aside0.mk H
 clear H
 go_enter Tryd.func82, Tryd.ntmps82
 go_wp2
 go_loopg [8] k (fun kq v8 w' => ∃ (x8_1 : Int), v8 = .int .i64 x8_1 ∧ Aside0 (impl_Name_82_at_63.l0 kq l0 (l0.length : Int) x8_1 = some r) ∧ Aside0 (kq ≤ k) ∧ Aside0 (Below w.heap.size w w'))
 case atStart => exact ⟨(0), au74, H', ⟨Nat.le_refl _⟩, ⟨by repeat (first | (with_reducible first | exact HB.out | apply below_alloc | apply pw_below_drewN | apply below_drew1) | exact HB.out)⟩⟩
 case round =>
  clear H'
  try clear p2
  obtain ⟨x8_1, rfl, HA, HK1, HB⟩ := hrel
  cases gk with
  | zero => exact absurd HA.out (by simp [impl_Name_82_at_63.l0])
  | succ k1 =>
   have H := HA.out
   clear HA
   simp only [impl_Name_82_at_63.l0] at H
   by_cases c3 : x8_1 < (l0.length : Int)
   ·
    rw [if_pos c3] at H
    have c3b0 : decide (x8_1 < (l0.length : Int)) = true := decide_eq_true c3
    clear c3
    by_cases c4 : 0 ≤ x8_1
    ·
     rw [if_pos c4] at H
     have c4b0 : decide (0 ≤ x8_1) = true := decide_eq_true c4
     clear c4
     by_cases c5 : x8_1 < (l0.length : Int)
     ·
      rw [if_pos c5] at H
      have c5b0 : decide (x8_1 < (l0.length : Int)) = true := decide_eq_true c5
      clear c5
      replace H := Option.bind_eq_some_iff.mp H
      obtain ⟨t496, A60, H⟩ := H
      try dsimp only at H
      have A6 := Aside0.mk A60
      clear A60
      by_cases c7 : t496 = true
      ·
       subst c7
       replace H := (if_pos rfl).symm.trans H
       obtain rfl := Option.some.inj H
       have p495 : 0 ≤ (x8_1 : Int) := of_decide_eq_true au73
       have q495 : x8_1 < (l0.length : Int) := of_decide_eq_true au73
       obtain ⟨ad495, A495_0, c495_0, e495, hx495_0, hx495_1, hx495_2, hx495_3, hl495_0, hi495_0⟩ := at_T26 HR0.out x8_1 p495 q495
       cases e495
       replace hx495_0 := (HB.out.cell (World.block_lt_of_cell? w _ hx495_0)).trans hx495_0
       replace hx495_1 := (HB.out.cell (World.block_lt_of_cell? w _ hx495_1)).trans hx495_1
       replace hx495_2 := (HB.out.cell (World.block_lt_of_cell? w _ hx495_2)).trans hx495_2
       replace hx495_3 := (HB.out.cell (World.block_lt_of_cell? w _ hx495_3)).trans hx495_3
       have HR495_0 := Aside0.mk hi495_0
       have HC495_0 := Aside0.mk hl495_0
       clear hi495_0 hl495_0
       replace p495 := eq_true p495
       replace q495 := eq_true q495
       exact impl_Name_82_at_63.L0
      ·
       replace c7 := Bool.eq_false_iff.mpr c7
       subst c7
       replace H := (if_neg (show ¬ (false = true) by decide)).symm.trans H
       have H' := Aside0.mk H
       clear H
       have p495 : 0 ≤ (x8_1 : Int) := of_decide_eq_true au73
       have q495 : x8_1 < (l0.length : Int) := of_decide_eq_true au73
       obtain ⟨ad495, A495_0, c495_0, e495, hx495_0, hx495_1, hx495_2, hx495_3, hl495_0, hi495_0⟩ := at_T26 HR0.out x8_1 p495 q495
       cases e495
       replace hx495_0 := (HB.out.cell (World.block_lt_of_cell? w _ hx495_0)).trans hx495_0
       replace hx495_1 := (HB.out.cell (World.block_lt_of_cell? w _ hx495_1)).trans hx495_1
       replace hx495_2 := (HB.out.cell (World.block_lt_of_cell? w _ hx495_2)).trans hx495_2
       replace hx495_3 := (HB.out.cell (World.block_lt_of_cell? w _ hx495_3)).trans hx495_3
       have HR495_0 := Aside0.mk hi495_0
       have HC495_0 := Aside0.mk hl495_0
       clear hi495_0 hl495_0
       replace p495 := eq_true p495
       replace q495 := eq_true q495
       go_wp2_with (first | ((with_reducible refine gate_tmp (t := 11) rfl ?_); refine goesLt_ (t := 11) (show _ = Value.func (.func 63) #[] #[] from rfl) (some 16) rfl rfl Tryd.func63 (by kernel_rfl) rfl #[.agg #[.slice A495_0 ((rd_T26 l0 x8_1).f0).length c495_0, .string ((rd_T26 l0 x8_1).f1), .string ((rd_T26 l0 x8_1).f2), .string ((rd_T26 l0 x8_1).f3)]] rfl au37 ?_; (with_reducible refine (impl_areNames_1.calls (hG := au2) k1 _ _ ((rd_T26 l0 x8_1).f0) ((rd_T26 l0 x8_1).f1) ((rd_T26 l0 x8_1).f2) ((rd_T26 l0 x8_1).f3) _ _ ?side1 ?side2 A6.out).mono ?_); (case side1 => repeat (first | exact (Kd.C_below HR495_0.out HB.out) | (with_reducible refine Kd.C_alloc ?_ _) | (with_reducible refine Kd.C_drewN ?_ _) | (with_reducible refine Kd.C_drew ?_))); (case side2 => exact HC495_0.out); rintro e w9 ⟨rfl, hb⟩; refine ⟨_, rfl, ?_⟩; have n0_ := Aside0.mk (below_step au38 hb); clear HB; have HB := n0_; clear n0_; (try clear hb); (try clear hb2); (try clear hk); (try clear hi)))
       go_roundg k1
       case measure => have := HK1.out; omega
       case rel => exact ⟨(wrap64 (x8_1 + 1)), au74, H', ⟨by have := HK1.out; omega⟩, ⟨by repeat (first | (with_reducible first | exact HB.out | apply below_alloc | apply pw_below_drewN | apply below_drew1) | exact HB.out)⟩⟩
     ·
      rw [if_neg c5] at H
      exact absurd H (by simp)
    ·
     rw [if_neg c4] at H
     exact absurd H (by simp)
   ·
    rw [if_neg c3] at H
    have c3b0 : decide (x8_1 < (l0.length : Int)) = false := decide_eq_false c3
    clear c3
    obtain rfl := Option.some.inj H
    exact impl_Name_82_at_63.L0


/-! ### impl_Name_62_at_63: function 62 -/
def impl_Name_62_at_63.f (k : Nat) (l0 : List (S26))  : Option (Bool) := (impl_Name_82_at_63.f k l0).bind fun t497 => (some (decide (t497 ≥ 0)))
theorem impl_Name_62_at_63.mono : ∀ a0 k, LeO (impl_Name_62_at_63.f k a0) (impl_Name_62_at_63.f (k + 1) a0) := by
 intro a0 k
 unfold impl_Name_62_at_63.f
 repeat' first
   | (with_reducible exact impl_Name_82_at_63.mono _ _)
   | (with_reducible exact LeO.refl _)
   | (with_reducible exact LeO.none _)
   | (with_reducible refine LeO.ite ?_ ?_)
   | (with_reducible refine LeO.bind ?_ (fun _ => ?_))
   | exact impl_Name_82_at_63.mono _ _
   | exact LeO.none _
   | refine LeO.ite ?_ ?_
   | refine LeO.bind ?_ (fun _ => ?_)
set_option maxHeartbeats 8000000 in
set_option maxRecDepth 100000 in
theorem impl_Name_62_at_63.calls (k : Nat) (A0 : Option Addr) (c0 : Nat) (l0 : List (S26))  (r : Bool) (w : World) {gF1 gF2 gF3 : Bool} (hG : GL gF1 gF2 gF3 w) (hr0 : Kd.C k26 w A0 l0.length l0) (hc0 : l0.length ≤ c0) (h : impl_Name_62_at_63.f k l0 = some r) :
  Calls Tryd.prog 62 #[.slice A0 l0.length c0, .func (.func 63) #[] #[]] w fun e w' => e = .returned (.bool r) ∧ Below w.heap.size w w' := by
 have HG := Aside0.mk hG
 clear hG
 have HR0 := Aside0.mk hr0
 have HC0 := Aside0.mk hc0
 clear hr0 hc0
 have HB := Aside0.mk (Below.refl w.heap.size w)
 have H : ((impl_Name_82_at_63.f k l0).bind fun t497 => (some (decide (t497 ≥ 0)))) = some r := h
 clear h
 replace H := Option.bind_eq_some_iff.mp H
 obtain ⟨t497, A30, H⟩ := H
 try dsimp only at H
 have A3 := Aside0.mk A30
 clear A30
 obtain rfl := Option.some.inj H
 go_enter Tryd.func62, Tryd.ntmps62
 go_wp2_with (first | ((with_reducible refine gate_callee (f := 82) rfl ?_); refine goesL_ (some 7) rfl rfl Tryd.func82 (by kernel_rfl) rfl #[.slice A0 l0.length c0, .func (.func 63) #[] #[]] rfl au37 ?_; (with_reducible refine (impl_Name_82_at_63.calls (hG := au2) k _ _ l0  t497 _ ?side1 ?side2 A3.out).mono ?_); (case side1 => repeat (first | exact HR0.out | (with_reducible refine Kd.C_alloc ?_ _) | (with_reducible refine Kd.C_drewN ?_ _) | (with_reducible refine Kd.C_drew ?_))); (case side2 => exact HC0.out); rintro e w4 ⟨rfl, hb⟩; refine ⟨_, rfl, ?_⟩; have n0_ := Aside0.mk (below_step au38 hb); clear HB; have HB := n0_; clear n0_; (try clear hb); (try clear hb2); (try clear hk); (try clear hi)))
 go_ret
 exact ax3


/-! ### impl_areNames: function 28 -/
def impl_areNames.f (k : Nat) (l0 : List (S26)) : Option (Bool) := if (l0.length : Int) ≤ 4 then ((impl_Name_62_at_63.f k l0).bind fun t498 => (some (!t498))) else (some false)
theorem impl_areNames.mono : ∀ a0 k, LeO (impl_areNames.f k a0) (impl_areNames.f (k + 1) a0) := by
 intro a0 k
 unfold impl_areNames.f
 repeat' first
   | (with_reducible exact impl_Name_62_at_63.mono _ _)
   | (with_reducible exact LeO.refl _)
   | (with_reducible exact LeO.none _)
   | (with_reducible refine LeO.ite ?_ ?_)
   | (with_reducible refine LeO.bind ?_ (fun _ => ?_))
   | exact impl_Name_62_at_63.mono _ _
   | exact LeO.none _
   | refine LeO.ite ?_ ?_
   | refine LeO.bind ?_ (fun _ => ?_)
set_option maxHeartbeats 8000000 in
set_option maxRecDepth 100000 in
theorem impl_areNames.calls (k : Nat) (A0 : Option Addr) (c0 : Nat) (l0 : List (S26)) (r : Bool) (w : World) {gF1 gF2 gF3 : Bool} (hG : GL gF1 gF2 gF3 w) (hr0 : Kd.C k26 w A0 l0.length l0) (hc0 : l0.length ≤ c0) (h : impl_areNames.f k l0 = some r) :
  Calls Tryd.prog 28 #[.slice A0 l0.length c0] w fun e w' => e = .returned (.bool r) ∧ Below w.heap.size w w' := by
 have HG := Aside0.mk hG
 clear hG
 have HR0 := Aside0.mk hr0
 have HC0 := Aside0.mk hc0
 clear hr0 hc0
 have HB := Aside0.mk (Below.refl w.heap.size w)
 have H : (if (l0.length : Int) ≤ 4 then ((impl_Name_62_at_63.f k l0).bind fun t498 => (some (!t498))) else (some false)) = some r := h
 clear h
 by_cases c2 : (l0.length : Int) ≤ 4
 ·
  rw [if_pos c2] at H
  have c2b0 : decide ((l0.length : Int) ≤ 4) = true := decide_eq_true c2
  have c2b1 : decide (l0.length ≤ 4) = true := decide_eq_true (by omega)
  clear c2
  replace H := Option.bind_eq_some_iff.mp H
  obtain ⟨t498, A30, H⟩ := H
  try dsimp only at H
  have A3 := Aside0.mk A30
  clear A30
  obtain rfl := Option.some.inj H
  go_enter Tryd.func28, Tryd.ntmps28
  go_wp2_with (first | (go_at_call 62; (with_reducible refine (impl_Name_62_at_63.calls (hG := au2) k _ _ l0  t498 _ ?side1 ?side2 A3.out).mono ?_); (case side1 => repeat (first | exact HR0.out | (with_reducible refine Kd.C_alloc ?_ _) | (with_reducible refine Kd.C_drewN ?_ _) | (with_reducible refine Kd.C_drew ?_))); (case side2 => exact HC0.out); rintro e w4 ⟨rfl, hb⟩; have n0_ := Aside0.mk (below_step au38 hb); clear HB; have HB := n0_; clear n0_; (try clear hb); (try clear hb2); (try clear hk); (try clear hi)))
  go_ret
  exact ax3
 ·
  rw [if_neg c2] at H
  have c2b0 : decide ((l0.length : Int) ≤ 4) = false := decide_eq_false c2
  have c2b1 : decide (l0.length ≤ 4) = false := decide_eq_false (by omega)
  clear c2
  obtain rfl := Option.some.inj H
  go_enter Tryd.func28, Tryd.ntmps28
  go_wp2
  go_ret
  exact ax3


/-! ### impl_isLimit: function 29 -/
def impl_isLimit.f (a0 : Int) : Option (Bool) := (impl_inside.f a0 1 4).bind fun t499 => (some t499)
set_option maxHeartbeats 8000000 in
set_option maxRecDepth 100000 in
theorem impl_isLimit.calls (a0 : Int) (r : Bool) (w : World) (h : impl_isLimit.f a0 = some r) :
  Calls Tryd.prog 29 #[.int .i64 a0] w fun e w' => e = .returned (.bool r) ∧ Drawn0 w w' := by
 have H : ((impl_inside.f a0 1 4).bind fun t499 => (some t499)) = some r := h
 clear h
 replace H := Option.bind_eq_some_iff.mp H
 obtain ⟨t499, A20, H⟩ := H
 try dsimp only at H
 have A2 := Aside0.mk A20
 clear A20
 obtain rfl := Option.some.inj H
 go_enter Tryd.func29, Tryd.ntmps29
 go_wp2_with (first | ((with_reducible refine gate_callee (f := 64) rfl ?_); refine goesL_ (some 4) rfl rfl Tryd.func64 (by kernel_rfl) rfl #[.int .i64 a0, .int .i64 1, .int .i64 4] rfl au37 ?_; (with_reducible refine (impl_inside.calls a0 1 4 t499 _ A2.out).mono ?_); rintro e w' ⟨rfl, ⟨nd, rfl⟩⟩; refine ⟨_, rfl, ?_⟩))
 go_ret
 exact ax1


/-! ### strings_Join: function 66 -/
def strings_Join.f (l0 : List ByteArray) (a1 : ByteArray) : Option ByteArray :=
 if l0.length ≤ 140737488355328 ∧ (Lib.join (l0.map (·.data.toList)) a1.data.toList).length ≤ 140737488355328 then some ⟨(Lib.join (l0.map (·.data.toList)) a1.data.toList).toArray⟩ else none
theorem strings_Join.calls (A0 : Option Addr) (c0 : Nat) (l0 : List ByteArray) (a1 : ByteArray) (r : ByteArray) (w : World) (hr0 : Kd.C Kd.string w A0 l0.length l0) (hc0 : l0.length ≤ c0) (h : strings_Join.f l0 a1 = some r) :
  Calls Tryd.prog 66 #[.slice A0 l0.length c0, .string a1] w fun e w' => e = .returned (.string r) ∧ Below w.heap.size w w' := by
 unfold strings_Join.f at h
 by_cases hg : l0.length ≤ 140737488355328 ∧ (Lib.join (l0.map (·.data.toList)) a1.data.toList).length ≤ 140737488355328
 ·
  rw [if_pos hg] at h
  obtain rfl := Option.some.inj h
  cases l0 with
  | nil =>
   refine (Tryd.strings_Join_none A0 c0 a1 w).mono ?_
   rintro e w' ⟨rfl, rfl⟩
   exact ⟨rfl, Below.refl _ _⟩
  | cons x xs =>
   obtain ⟨b, o, rfl, hb, hcell⟩ := Go.Proofs.YtieieapacepabaaDoor.Ext.strs_read hr0 (by simp)
   refine (Tryd.strings_Join b o c0 (x :: xs) a1 w hcell hb hg.1 hc0 hg.2).mono ?_
   rintro e w' ⟨rfl, hb⟩
   exact ⟨rfl, hb⟩
 ·
  rw [if_neg hg] at h; cases h


/-! ### impl_spaced: function 75 -/
def impl_spaced.f (l0 : List ByteArray) : Option ByteArray := if 1 ≤ l0.length ∧ l0.length ≤ 1000 then strings_Join.f (l0.filter fun x => !decide (x.size = 0)) (⟨#[32]⟩ : ByteArray) else none
theorem impl_spaced.pred (x : ByteArray) (W : World) : FnGives Tryd.prog 91 #[] #[Value.string x] (.bool (decide (x.size = 0))) W := by
 show Calls Tryd.prog 91 #[.string x] W _
 have e : (x.toList == ([] : List UInt8)) = decide (x.size = 0) := by
  rw [Lib.toList_data, Lib.size_eq]
  cases x.data.toList <;> simp
 go_enter Tryd.func91, Tryd.ntmps91
 go_wp2
 all_goals (go_ret; exact ⟨by first | (rw [← e]; rfl) | simp_all, 0, rfl⟩)
set_option maxHeartbeats 8000000 in
set_option maxRecDepth 100000 in
theorem impl_spaced.calls (P0_ : Nat → Prop) (u0 : Value) (l0 : List ByteArray) (r : ByteArray) (w0 w : World) (hB : Below w0.heap.size w0 w) (ho0 : Kd.R Kd.string 9 w w0.heap.size P0_ u0 l0) (h : impl_spaced.f l0 = some r) :
  Calls Tryd.prog 75 #[u0] w fun e w' => e = .returned (.string r) ∧ Below w0.heap.size w0 w' ∧ Kept w w' (fun k_ => P0_ k_) := by
 unfold impl_spaced.f at h
 by_cases hg : 1 ≤ l0.length ∧ l0.length ≤ 1000
 ·
  rw [if_pos hg] at h
  have hok := ho0.1
  obtain ⟨_, hcase⟩ := Kd.own_of_R ho0
  rcases hcase with ⟨_, hz⟩ | ⟨g, cap, cur, rfl, hbase, hcur, hcap, _, hsz, htake⟩
  ·
   omega
  have hPg : P0_ g := hok g rfl
  have hlt : g < w.heap.size := blk_lt hcur
  have hget : ∀ (j : Nat) x, l0[j]? = some x → w.cell? ⟨g, j, none⟩ = some (.string x) := by
   intro j x hj
   obtain ⟨hjl, _⟩ := List.getElem?_eq_some_iff.1 hj
   have h1 := congrArg (fun z => z[j]?) htake
   simp only [List.getElem?_take, encs, List.getElem?_map, hj, Option.map_some] at h1
   rw [if_pos (by omega)] at h1
   rw [blk_cell hcur]
   simpa using h1
  have hH : Sort.Holds Value.string w g 0 l0.toArray := fun j hj => by
   have hj' : j < l0.length := by simpa using hj
   refine ⟨?_, by rw [Nat.zero_add]; exact blk_frozen hcur j⟩
   rw [Nat.zero_add, hget j l0[j] (List.getElem?_eq_getElem hj'), getElem!_pos l0.toArray j hj]
   simp
  have hdel := Tryd.slices_DeleteFunc Value.string (fun _ => rfl) (fun x => decide (x.size = 0)) 91 #[] (enters_of Tryd.func91 (by kernel_rfl) rfl) ByteArray.empty Tryd.zeroValue9 g 0 cap l0.toArray w
   (fun W x _ => impl_spaced.pred x W) (fun n os dk x _ => impl_spaced.pred x _) hH (by simp; omega) (by simpa using hcap)
  have e0 : l0.toArray.toList = l0 := by simp
  have e1 : l0.toArray.size = l0.length := by simp
  rw [e0, e1] at hdel
  obtain ⟨kp, hkp⟩ : ∃ kp, kp = l0.filter fun x => !decide (x.size = 0) := ⟨_, rfl⟩
  rw [← hkp] at hdel h
  have hkl : kp.length ≤ l0.length := by rw [hkp]; exact List.length_filter_le _ _
  obtain ⟨w2f, hw2⟩ : ∃ w2f : Nat → World, w2f = fun q => Sort.putRow Value.string (Sort.ahead w q) g 0 (kp ++ List.replicate (l0.length - kp.length) ByteArray.empty).toArray := ⟨_, rfl⟩
  have hread : ∀ q (j : Nat) x, kp[j]? = some x → (w2f q).cell? ⟨g, 0 + j, none⟩ = some (.string x) := by
   intro q j x hj
   obtain ⟨hjl, hx⟩ := List.getElem?_eq_some_iff.1 hj
   have hs : (kp ++ List.replicate (l0.length - kp.length) ByteArray.empty).toArray.size = l0.toArray.size := by simp; omega
   have := (Sort.holds_putRow Value.string (Sort.ahead w q) g 0 l0.toArray _ hH hs) j (by rw [hs]; simp; omega)
   rw [hw2, this.1, getElem!_pos _ j (by rw [hs]; simp; omega)]
   simp [List.getElem_append_left hjl, hx]
  have hsize : ∀ q, (w2f q).heap.size = w.heap.size := fun q => by rw [hw2]; simp [Sort.ahead]
  have hold : ∀ q k, k ≠ g → (w2f q).heap[k]? = w.heap[k]? := fun q k hk => by
   rw [hw2]; simp only [Sort.putRow, Sort.mapBlock, Sort.ahead, Array.getElem?_modify]; rw [if_neg (Ne.symm hk)]
  have hb2 : ∀ q, Below w0.heap.size w0 (w2f q) := fun q => hB.trans ⟨by rw [hw2]; rfl, by rw [hw2]; rfl, by rw [hw2]; rfl, Nat.le_of_eq (hsize q).symm, fun k hk => hold q k (by omega)⟩
  have hjoin : ∀ q, Calls Tryd.prog 66 #[.slice (some ⟨g, 0, none⟩) kp.length cap, .string (⟨#[32]⟩ : ByteArray)] (w2f q) fun e w' => e = .returned (.string r) ∧ Below (w2f q).heap.size (w2f q) w' := by
   intro q
   unfold strings_Join.f at h
   by_cases hj : kp.length ≤ 140737488355328 ∧ (Lib.join (kp.map (·.data.toList)) (⟨#[32]⟩ : ByteArray).data.toList).length ≤ 140737488355328
   ·
    rw [if_pos hj] at h
    obtain rfl := Option.some.inj h
    by_cases hn : kp = []
    ·
     subst hn
     refine (Tryd.strings_Join_none (some ⟨g, 0, none⟩) cap _ (w2f q)).mono ?_
     rintro e w' ⟨rfl, rfl⟩
     exact ⟨rfl, Below.refl _ _⟩
    ·
     refine (Tryd.strings_Join g 0 cap kp _ (w2f q) (hread q) (by rw [hsize]; exact hlt) hj.1 (by omega) hj.2).mono ?_
     rintro e w' ⟨rfl, hb⟩
     exact ⟨rfl, hb⟩
   ·
    rw [if_neg hj] at h; cases h
  have hdel2 : Calls Tryd.prog 90 #[.slice (some ⟨g, 0, none⟩) l0.length cap, .func (.func 91) #[] #[]] w fun e w' => e = .returned (.slice (some ⟨g, 0, none⟩) kp.length cap) ∧ ∃ q, w' = w2f q := by
   refine hdel.mono ?_
   rintro e w' ⟨he, q, hw⟩
   exact ⟨he, q, by rw [hw2]; exact hw⟩
  have fin : ∀ q w', Below (w2f q).heap.size (w2f q) w' → Below w0.heap.size w0 w' ∧ Kept w w' (fun k_ => P0_ k_) := by
   intro q w' hb
   refine ⟨below_step (hb2 q) hb, by have := hb.size; rw [hsize] at this; exact this, fun i hi hP => ?_⟩
   have hne : i ≠ g := fun e => hP (by rw [e]; exact hPg)
   rw [hb.block i (by rw [hsize]; exact hi), hold q i hne]
  clear hread hH hget htake hdel hold hb2 hsize hw2 hok
  go_enter Tryd.func75, Tryd.ntmps75
  clear hkp
  go_wp2_with (first | (go_at_call 66; refine (hjoin _).mono ?_; rintro e w' ⟨rfl, hb⟩) | (go_at_call 90; refine hdel2.mono ?_; rintro e w' ⟨rfl, q, rfl⟩))
  go_ret
  exact ⟨rfl, fin _ _ hb⟩
 ·
  rw [if_neg hg] at h; cases h


/-! ### impl_upperByte: function 92 -/
def impl_upperByte.f (a0 : Int) : Option (Int) := (impl_isLower.f a0).bind fun t500 => (if t500 = true then (some ((a0 - 32) % 256)) else (some a0))
set_option maxHeartbeats 8000000 in
set_option maxRecDepth 100000 in
theorem impl_upperByte.calls (a0 : Int) (r : Int) (w : World) (h : impl_upperByte.f a0 = some r) :
  Calls Tryd.prog 92 #[.int .u8 a0] w fun e w' => e = .returned (.int .u8 r) ∧ Drawn0 w w' := by
 have H : ((impl_isLower.f a0).bind fun t500 => (if t500 = true then (some ((a0 - 32) % 256)) else (some a0))) = some r := h
 clear h
 replace H := Option.bind_eq_some_iff.mp H
 obtain ⟨t500, A20, H⟩ := H
 try dsimp only at H
 have A2 := Aside0.mk A20
 clear A20
 by_cases c3 : t500 = true
 ·
  subst c3
  replace H := (if_pos rfl).symm.trans H
  obtain rfl := Option.some.inj H
  go_enter Tryd.func92, Tryd.ntmps92
  go_wp2_with (first | ((with_reducible refine gate_callee (f := 72) rfl ?_); refine goesL_ (some 4) rfl rfl Tryd.func72 (by kernel_rfl) rfl #[.int .u8 a0] rfl au37 ?_; (with_reducible refine (impl_isLower.calls a0 true _ A2.out).mono ?_); rintro e w' ⟨rfl, ⟨nd, rfl⟩⟩; refine ⟨_, rfl, ?_⟩))
  go_ret
  exact ax1
 ·
  replace c3 := Bool.eq_false_iff.mpr c3
  subst c3
  replace H := (if_neg (show ¬ (false = true) by decide)).symm.trans H
  obtain rfl := Option.some.inj H
  go_enter Tryd.func92, Tryd.ntmps92
  go_wp2_with (first | ((with_reducible refine gate_callee (f := 72) rfl ?_); refine goesL_ (some 4) rfl rfl Tryd.func72 (by kernel_rfl) rfl #[.int .u8 a0] rfl au37 ?_; (with_reducible refine (impl_isLower.calls a0 false _ A2.out).mono ?_); rintro e w' ⟨rfl, ⟨nd, rfl⟩⟩; refine ⟨_, rfl, ?_⟩))
  go_ret
  exact ax1


/-! ### impl_initialsOf: function 83 -/
mutual
def impl_initialsOf.l0 : Nat → List ByteArray → List ByteArray → Int → Int → Option (ByteArray)
 | 0, _, _, _, _ => none
 | k + 1, x3, x10, x11, x12 => if x12 < x11 then (if 0 ≤ x12 then (if x12 < (x10.length : Int) then (if 0 ≤ 1 then (if 1 ≤ ((rdOf ByteArray.empty x10 x12).size : Int) then (if ((rdOf ByteArray.empty x10 x12).extract 0 1).size + 1 ≤ 9223372036854775807 then (impl_initialsOf.l1 k x3 (rdOf ByteArray.empty x10 x12) (((rdOf ByteArray.empty x10 x12).extract 0 1) ++ (⟨#[46]⟩ : ByteArray)) 1 x10 x11 x12) else (none)) else (none)) else (none)) else (none)) else (none)) else ((strings_Join.f x3 (⟨#[32]⟩ : ByteArray)).bind fun t505 => (some t505))
def impl_initialsOf.l1 : Nat → List ByteArray → ByteArray → ByteArray → Int → List ByteArray → Int → Int → Option (ByteArray)
 | 0, _, _, _, _, _, _, _ => none
 | k + 1, x3, x5, x6, x7, x10, x11, x12 => if x7 < (x5.size : Int) then (if 0 ≤ x7 then (if (bt x5 x7) = 45 then (if 0 ≤ (wrap64 (x7 + 1)) then (if (wrap64 (x7 + 1)) < (x5.size : Int) then ((impl_upperByte.f (bt x5 (wrap64 (x7 + 1)))).bind fun t507 => (if 1 + (Utf8.encode (wrap32 (t507))).size ≤ 9223372036854775807 then (if ((⟨#[45]⟩ : ByteArray) ++ (Utf8.encode (wrap32 (t507)))).size + 1 ≤ 9223372036854775807 then (if x6.size + (((⟨#[45]⟩ : ByteArray) ++ (Utf8.encode (wrap32 (t507)))) ++ (⟨#[46]⟩ : ByteArray)).size ≤ 9223372036854775807 then (impl_initialsOf.l1 k x3 x5 (x6 ++ (((⟨#[45]⟩ : ByteArray) ++ (Utf8.encode (wrap32 (t507)))) ++ (⟨#[46]⟩ : ByteArray))) (wrap64 (x7 + 1)) x10 x11 x12) else (none)) else (none)) else (none))) else (none)) else (none)) else (impl_initialsOf.l1 k x3 x5 x6 (wrap64 (x7 + 1)) x10 x11 x12)) else (none)) else (if x3.length < 8796093022208 then (impl_initialsOf.l0 k (x3 ++ [x6]) x10 x11 (wrap64 (x12 + 1))) else (none))
end
def impl_initialsOf.f (k : Nat) (l0_0 : List ByteArray) (a0_1 : ByteArray) (a0_2 : ByteArray) (a0_3 : ByteArray) : Option (ByteArray) := impl_initialsOf.l0 k (([] : List ByteArray)) l0_0 (l0_0.length : Int) 0
theorem impl_initialsOf.mono_l : ∀ k, (∀ y0 y1 y2 y3, LeO (impl_initialsOf.l0 k y0 y1 y2 y3) (impl_initialsOf.l0 (k + 1) y0 y1 y2 y3)) ∧ (∀ y0 y1 y2 y3 y4 y5 y6, LeO (impl_initialsOf.l1 k y0 y1 y2 y3 y4 y5 y6) (impl_initialsOf.l1 (k + 1) y0 y1 y2 y3 y4 y5 y6))
 | 0 => ⟨fun _ _ _ _ r h => by simp [impl_initialsOf.l0] at h, fun _ _ _ _ _ _ _ r h => by simp [impl_initialsOf.l1] at h⟩
 | k + 1 => by
  obtain ⟨ih0, ih1⟩ := impl_initialsOf.mono_l k
  refine ⟨?_, ?_⟩
  ·
   intro y0 y1 y2 y3
   unfold impl_initialsOf.l0
   repeat' first
   | (with_reducible exact ih0 _ _ _ _)
   | (with_reducible exact ih1 _ _ _ _ _ _ _)
   | (with_reducible exact LeO.refl _)
   | (with_reducible exact LeO.none _)
   | (with_reducible refine LeO.ite ?_ ?_)
   | (with_reducible refine LeO.bind ?_ (fun _ => ?_))
   | exact ih0 _ _ _ _
   | exact ih1 _ _ _ _ _ _ _
   | exact LeO.none _
   | refine LeO.ite ?_ ?_
   | refine LeO.bind ?_ (fun _ => ?_)
  ·
   intro y0 y1 y2 y3 y4 y5 y6
   unfold impl_initialsOf.l1
   repeat' first
   | (with_reducible exact ih0 _ _ _ _)
   | (with_reducible exact ih1 _ _ _ _ _ _ _)
   | (with_reducible exact LeO.refl _)
   | (with_reducible exact LeO.none _)
   | (with_reducible refine LeO.ite ?_ ?_)
   | (with_reducible refine LeO.bind ?_ (fun _ => ?_))
   | exact ih0 _ _ _ _
   | exact ih1 _ _ _ _ _ _ _
   | exact LeO.none _
   | refine LeO.ite ?_ ?_
   | refine LeO.bind ?_ (fun _ => ?_)
theorem impl_initialsOf.mono : ∀ a0 a1 a2 a3 k, LeO (impl_initialsOf.f k a0 a1 a2 a3) (impl_initialsOf.f (k + 1) a0 a1 a2 a3) := by
 intro a0 a1 a2 a3 k
 obtain ⟨ih0, ih1⟩ := impl_initialsOf.mono_l k
 unfold impl_initialsOf.f
 repeat' first
   | (with_reducible exact ih0 _ _ _ _)
   | (with_reducible exact ih1 _ _ _ _ _ _ _)
   | (with_reducible exact LeO.refl _)
   | (with_reducible exact LeO.none _)
   | (with_reducible refine LeO.ite ?_ ?_)
   | (with_reducible refine LeO.bind ?_ (fun _ => ?_))
   | exact ih0 _ _ _ _
   | exact ih1 _ _ _ _ _ _ _
   | exact LeO.none _
   | refine LeO.ite ?_ ?_
   | refine LeO.bind ?_ (fun _ => ?_)
set_option maxRecDepth 100000 in
theorem impl_initialsOf.L0 {P : Prop} (h : P := by
  go_wp2_with (first | ((with_reducible refine gate_builtin (b := .append) (xs := #[.tmp 40, .tmp 42]) rfl ?_); at_builtin; refine Kd.R_append Kd.string (w0 := w) w.heap.size rfl (.tmp 40) (.tmp 42) 24 9 (.string ⟨#[]⟩) 16 rfl Tryd.underlying24 info9 rfl (by decide) (by omega) u3 x3_1 x6_2 [.string x6_2] (fun _ => True) (fun _ => False) rfl rfl ?aP (fun _ hk => hk.elim) ?aF ?aO ?aB ?aS ?aL ?_; (case aP => exact rfl); (case aB => exact au24); (case aF => exact (fun _ _ => trivial)); (case aO => exact au70); (case aS => exact (below_size au24)); (case aL => have := LMc24.out; omega); intro v509 w25 ho hb hg hat; rw [← Ny508.out] at ho; have n0_ := Aside0.mk (blk_grown (g := gb501) (o := .cells #[.slice (some ad506) l0_0.length c0_0, .string a0_1, .string a0_2, .string a0_3] 26 (0, 0)) au44 hg (Kd.R_ne HO_3.out BK501.out (by decide))); have n1_ := Aside0.mk (hb); have n2_ := Aside0.mk (ho); clear BK501; clear HB; clear HO_3; have BK501 := n0_; have HB := n1_; have HO510 := n2_; clear n0_ n1_ n2_; clear ho hb hg hat))
  go_roundg k2
  case measure => have := HK1.out; have := HK2.out; omega
  case rel => first | (exact ⟨(y508), (wrap64 (x12_1 + 1)), au74, H', ⟨by have := HK1.out; have := HK2.out; omega⟩, ⟨by (with_reducible repeat (first | apply Kd.R_alloc | apply Kd.R_drewN | apply Kd.R_drew)); exact HO510.out⟩, ⟨by (with_reducible repeat (first | refine blk_drewN ?_ _ | refine blk_drew ?_ | refine blk_alloc ?_ _)); exact BK501.out⟩, ⟨by repeat (first | (with_reducible first | exact HB.out | apply below_alloc | apply pw_below_drewN | apply below_drew1 | refine below_set ?_ GE501.out) | exact HB.out)⟩⟩) | (exact ⟨(x6_2), (wrap64 (x7_2 + 1)), au74, au74, H', ⟨by have := HK1.out; have := HK2.out; omega⟩, ⟨by (with_reducible repeat (first | apply Kd.R_alloc | apply Kd.R_drewN | apply Kd.R_drew)); exact HO_3.out⟩, ⟨by (with_reducible repeat (first | refine blk_drewN ?_ _ | refine blk_drew ?_ | refine blk_alloc ?_ _)); exact BK501.out⟩, ⟨by repeat (first | (with_reducible first | exact HB.out | apply below_alloc | apply pw_below_drewN | apply below_drew1 | refine below_set ?_ GE501.out) | exact HB.out)⟩⟩)) : P := h
set_option maxHeartbeats 8000000 in
set_option maxRecDepth 100000 in
theorem impl_initialsOf.calls (k : Nat) (A0_0 : Option Addr) (c0_0 : Nat) (l0_0 : List ByteArray) (a0_1 : ByteArray) (a0_2 : ByteArray) (a0_3 : ByteArray) (r : ByteArray) (w : World) (hr0_0 : Kd.C Kd.string w A0_0 l0_0.length l0_0) (hc0_0 : l0_0.length ≤ c0_0) (h : impl_initialsOf.f k l0_0 a0_1 a0_2 a0_3 = some r) :
  Calls Tryd.prog 83 #[.agg #[.slice A0_0 l0_0.length c0_0, .string a0_1, .string a0_2, .string a0_3]] w fun e w' => e = .returned (.string r) ∧ Below w.heap.size w w' := by
 have hu26 := Tryd.underlying26
 have HR0_0 := Aside0.mk hr0_0
 have HC0_0 := Aside0.mk hc0_0
 clear hr0_0 hc0_0
 have HB := Aside0.mk (Below.refl w.heap.size w)
 have H : (impl_initialsOf.l0 k (([] : List ByteArray)) l0_0 (l0_0.length : Int) 0) = some r := h
 clear h
 obtain ⟨y502, hy502⟩ : ∃ y_ : List ByteArray, y_ = (([] : List ByteArray)) := ⟨_, rfl⟩
 replace H : (impl_initialsOf.l0 k y502 l0_0 (l0_0.length : Int) 0) = some r := by first | (rw [hy502]; with_reducible exact H) | (have H2_ := (Option.bind_some _ _).symm.trans H; rw [hy502]; with_reducible exact H2_) | (have H2_ := (Option.bind_some _ _).symm.trans H; with_reducible exact H2_) | with_reducible exact H | (rw [hy502]; exact H) | exact H
 have Ny502 := Aside0.mk hy502
 clear hy502
 have H' := Aside0.mk H
 clear H
 go_enter Tryd.func83, Tryd.ntmps83
 go_wp2_with (first | ((with_reducible refine gate_dst (N := 1) rfl ?_); refine box_event ?hg (N := 1) ?hd (cs := #[.slice A0_0 l0_0.length c0_0, .string a0_1, .string a0_2, .string a0_3]) (t := 26) ?hr ?_; (case hd => rfl); (case hg => rfl); (case hr => first | (go_simp; done) | (go_simp; rfl)); intro gb501 hg w2 hbox hb; have n0_ := Aside0.mk (below_step au38 hb); have n1_ := Aside0.mk (hbox); have n2_ := Aside0.mk ((by rw [hg]; exact (below_size au38) : w.heap.size ≤ gb501)); have n3_ := Aside0.mk ((by rw [hg]; exact (below_size au38) : w.heap.size ≤ gb501)); clear HB; have HB := n0_; have BK501 := n1_; have GW501 := n2_; have GE501 := n3_; clear n0_ n1_ n2_ n3_; clear hb hbox hg) | ((with_reducible refine gate_dst (N := 8) rfl ?_); refine Kd.R_lit Kd.string _ 9 ?hg (N := 8) ?hd (xs := ([] : List ByteArray)) (inner := []) (ok := fun _ => True) (okp := fun _ => True) ?hr ?hp (fun _ hk => hk) trivial (Below.refl _ _) (Nat.le_refl _) (by simp) ?_; (case hd => rfl); (case hg => rfl); (case hr => first | (go_simp; done) | (go_simp; rfl)); (case hp => exact (Reps.none _ _)); intro v503 w3 ho4 hb hg_ hnew_; clear hg_ hnew_; (first | rw [← Ny502.out] at ho4 | (simp only [Int.reduceToNat] at ho4; rw [← Ny502.out] at ho4)); have n0_ := Aside0.mk (Kd.R_lower ho4 (below_size au24)); have n1_ := Aside0.mk (blk_below (g := gb501) (o := .cells #[.slice A0_0 l0_0.length c0_0, .string a0_1, .string a0_2, .string a0_3] 26 (0, 0)) au44 hb); have n2_ := Aside0.mk (below_step au24 hb); clear BK501; clear HB; have HO504 := n0_; have BK501 := n1_; have HB := n2_; clear n0_ n1_ n2_; clear hb ho4; have hcz5_0 : w3.cell? ⟨gb501, 0, none⟩ = some (.slice A0_0 l0_0.length c0_0) := (blk_cell BK501.out 0).trans rfl; have hcz5_1 : w3.cell? ⟨gb501, 1, none⟩ = some (.string a0_1) := (blk_cell BK501.out 1).trans rfl; have hcz5_2 : w3.cell? ⟨gb501, 2, none⟩ = some (.string a0_2) := (blk_cell BK501.out 2).trans rfl; have hcz5_3 : w3.cell? ⟨gb501, 3, none⟩ = some (.string a0_3) := (blk_cell BK501.out 3).trans rfl; have hfz5_0 := blk_frozen BK501.out 0; have hfz5_1 := blk_frozen BK501.out 1; have hfz5_2 := blk_frozen BK501.out 2; have hfz5_3 := blk_frozen BK501.out 3))
 go_loopg [3, 12] k (fun kq v3 v12 w' => ∃ (x3_1 : List ByteArray) (x12_1 : Int), v12 = .int .i64 x12_1 ∧ Aside0 (impl_initialsOf.l0 kq x3_1 l0_0 (l0_0.length : Int) x12_1 = some r) ∧ Aside0 (kq ≤ k) ∧ Aside0 (Kd.R Kd.string 9 w' w.heap.size (fun _ => True) v3 x3_1) ∧ Aside0 (w'.heap[gb501]? = some (.cells #[(.slice A0_0 l0_0.length c0_0), .string a0_1, .string a0_2, .string a0_3] 26 (0, 0))) ∧ Aside0 (Below w.heap.size w w'))
 case atStart => exact ⟨(y502), (0), au74, H', ⟨Nat.le_refl _⟩, ⟨by (with_reducible repeat (first | apply Kd.R_alloc | apply Kd.R_drewN | apply Kd.R_drew)); exact HO504.out⟩, ⟨by (with_reducible repeat (first | refine blk_drewN ?_ _ | refine blk_drew ?_ | refine blk_alloc ?_ _)); exact BK501.out⟩, ⟨by repeat (first | (with_reducible first | exact HB.out | apply below_alloc | apply pw_below_drewN | apply below_drew1 | refine below_set ?_ GE501.out) | exact HB.out)⟩⟩
 case round =>
  clear H'
  try clear p2
  try clear hcz5_0
  try clear hcz5_1
  try clear hcz5_2
  try clear hcz5_3
  try clear hfz5_0
  try clear hfz5_1
  try clear hfz5_2
  try clear hfz5_3
  obtain ⟨x3_1, x12_1, rfl, HA, HK1, HO_3, BK501, HB⟩ := hrel
  cases gk with
  | zero => exact absurd HA.out (by simp [impl_initialsOf.l0])
  | succ k1 =>
   have H := HA.out
   clear HA
   simp only [impl_initialsOf.l0] at H
   by_cases c6 : x12_1 < (l0_0.length : Int)
   ·
    rw [if_pos c6] at H
    have c6b0 : decide (x12_1 < (l0_0.length : Int)) = true := decide_eq_true c6
    clear c6
    by_cases c7 : 0 ≤ x12_1
    ·
     rw [if_pos c7] at H
     have c7b0 : decide (0 ≤ x12_1) = true := decide_eq_true c7
     clear c7
     by_cases c8 : x12_1 < (l0_0.length : Int)
     ·
      rw [if_pos c8] at H
      have c8b0 : decide (x12_1 < (l0_0.length : Int)) = true := decide_eq_true c8
      clear c8
      by_cases c9 : 0 ≤ 1
      ·
       rw [if_pos c9] at H
       have c9b0 := eq_true c9
       have c9b1 : decide (0 ≤ 1) = true := decide_eq_true c9
       clear c9
       by_cases c10 : 1 ≤ ((rdOf ByteArray.empty l0_0 x12_1).size : Int)
       ·
        rw [if_pos c10] at H
        have c10b0 := eq_true c10
        have c10b1 : decide (1 ≤ ((rdOf ByteArray.empty l0_0 x12_1).size : Int)) = true := decide_eq_true c10
        clear c10
        by_cases c11 : ((rdOf ByteArray.empty l0_0 x12_1).extract 0 1).size + 1 ≤ 9223372036854775807
        ·
         rw [if_pos c11] at H
         have c11b0 := eq_true c11
         have c11b1 : decide (((rdOf ByteArray.empty l0_0 x12_1).extract 0 1).size + 1 ≤ 9223372036854775807) = true := decide_eq_true c11
         try have c11b2 : (9223372036854775807 < ((rdOf ByteArray.empty l0_0 x12_1).extract 0 1).size + 1) = False := eq_false (Nat.not_lt.2 c11)
         have H' := Aside0.mk H
         clear H
         have p506 : 0 ≤ (x12_1 : Int) := of_decide_eq_true au73
         have q506 : x12_1 < (l0_0.length : Int) := of_decide_eq_true au73
         obtain ⟨ad506, e506, hx506_0⟩ := Kd.at_string HR0_0.out x12_1 p506 q506
         cases e506
         replace hx506_0 := (HB.out.cell (World.block_lt_of_cell? w _ hx506_0)).trans hx506_0
         replace p506 := eq_true p506
         replace q506 := eq_true q506
         go_wp2
         go_loopg [6, 7] k1 (fun kq v6 v7 w' => ∃ (x6_2 : ByteArray) (x7_2 : Int), v6 = .string x6_2 ∧ v7 = .int .i64 x7_2 ∧ Aside0 (impl_initialsOf.l1 kq x3_1 (rdOf ByteArray.empty l0_0 x12_1) x6_2 x7_2 l0_0 (l0_0.length : Int) x12_1 = some r) ∧ Aside0 (kq ≤ k1) ∧ Aside0 (Kd.R Kd.string 9 w' w.heap.size (fun _ => True) u3 x3_1) ∧ Aside0 (w'.heap[gb501]? = some (.cells #[(.slice (some ad506) l0_0.length c0_0), .string a0_1, .string a0_2, .string a0_3] 26 (0, 0))) ∧ Aside0 (Below w.heap.size w w'))
         case atStart => exact ⟨(((rdOf ByteArray.empty l0_0 x12_1).extract 0 1) ++ (⟨#[46]⟩ : ByteArray)), (1), au74, au74, H', ⟨Nat.le_refl _⟩, ⟨by (with_reducible repeat (first | apply Kd.R_alloc | apply Kd.R_drewN | apply Kd.R_drew)); exact HO_3.out⟩, ⟨by (with_reducible repeat (first | refine blk_drewN ?_ _ | refine blk_drew ?_ | refine blk_alloc ?_ _)); exact BK501.out⟩, ⟨by repeat (first | (with_reducible first | exact HB.out | apply below_alloc | apply pw_below_drewN | apply below_drew1 | refine below_set ?_ GE501.out) | exact HB.out)⟩⟩
         case round =>
          clear H'
          try clear c1
          try clear p2
          try clear p5
          try clear q5
          try clear hx5
          try clear c6
          try clear c6b0
          try clear c7
          try clear c7b0
          try clear c8
          try clear c8b0
          try clear c9
          try clear c9b0
          try clear c9b1
          try clear c10
          try clear c10b0
          try clear c10b1
          try clear c11
          try clear c11b0
          try clear c11b1
          try clear c11b2
          try clear hcz5_0
          try clear hcz5_1
          try clear hcz5_2
          try clear hcz5_3
          try clear hfz5_0
          try clear hfz5_1
          try clear hfz5_2
          try clear hfz5_3
          try clear hx506_0
          try clear p2
          try clear p506
          try clear q506
          obtain ⟨x6_2, x7_2, rfl, rfl, HA, HK2, HO_3, BK501, HB⟩ := hrel
          cases gk with
          | zero => exact absurd HA.out (by simp [impl_initialsOf.l1])
          | succ k2 =>
           have H := HA.out
           clear HA
           simp only [impl_initialsOf.l1] at H
           by_cases c12 : x7_2 < ((rdOf ByteArray.empty l0_0 x12_1).size : Int)
           ·
            rw [if_pos c12] at H
            have c12b0 : decide (x7_2 < ((rdOf ByteArray.empty l0_0 x12_1).size : Int)) = true := decide_eq_true c12
            clear c12
            by_cases c13 : 0 ≤ x7_2
            ·
             rw [if_pos c13] at H
             have c13b0 : decide (0 ≤ x7_2) = true := decide_eq_true c13
             clear c13
             by_cases c15 : (bt (rdOf ByteArray.empty l0_0 x12_1) x7_2) = 45
             ·
              rw [if_pos c15] at H
              have c15b0 : ((bt (rdOf ByteArray.empty l0_0 x12_1) x7_2) == 45) = true := beq_iff_eq.mpr c15
              have c15b1 : ((bt (rdOf ByteArray.empty l0_0 x12_1) x7_2) != 45) = false := bne_eq_false_iff_eq.mpr c15
              clear c15
              obtain ⟨ji16, hji16⟩ : ∃ j_ : Int, (wrap64 (x7_2 + 1)) = j_ := ⟨_, rfl⟩
              replace H : (if 0 ≤ (ji16) then (if (ji16) < ((rdOf ByteArray.empty l0_0 x12_1).size : Int) then ((impl_upperByte.f (bt (rdOf ByteArray.empty l0_0 x12_1) (ji16))).bind fun t507 => (if 1 + (Utf8.encode (wrap32 (t507))).size ≤ 9223372036854775807 then (if ((⟨#[45]⟩ : ByteArray) ++ (Utf8.encode (wrap32 (t507)))).size + 1 ≤ 9223372036854775807 then (if x6_2.size + (((⟨#[45]⟩ : ByteArray) ++ (Utf8.encode (wrap32 (t507)))) ++ (⟨#[46]⟩ : ByteArray)).size ≤ 9223372036854775807 then (impl_initialsOf.l1 k2 x3_1 (rdOf ByteArray.empty l0_0 x12_1) (x6_2 ++ (((⟨#[45]⟩ : ByteArray) ++ (Utf8.encode (wrap32 (t507)))) ++ (⟨#[46]⟩ : ByteArray))) ji16 l0_0 (l0_0.length : Int) x12_1) else (none)) else (none)) else (none))) else (none)) else (none)) = some r := by first | (rw [hji16] at H; exact H) | (simp only [hji16] at H ⊢; exact H)
              have hji16w : (IntKind.i64.wrap (x7_2 + 1)) = ji16 := (i64_w _).trans hji16
              by_cases c17 : 0 ≤ (ji16)
              ·
               rw [if_pos c17] at H
               have c17b0 : decide (0 ≤ (ji16)) = true := decide_eq_true c17
               clear c17
               by_cases c18 : (ji16) < ((rdOf ByteArray.empty l0_0 x12_1).size : Int)
               ·
                rw [if_pos c18] at H
                have c18b0 : decide ((ji16) < ((rdOf ByteArray.empty l0_0 x12_1).size : Int)) = true := decide_eq_true c18
                clear c18
                replace H := Option.bind_eq_some_iff.mp H
                obtain ⟨t507, A200, H⟩ := H
                try dsimp only at H
                have A20 := Aside0.mk A200
                clear A200
                by_cases c21 : 1 + (Utf8.encode (wrap32 (t507))).size ≤ 9223372036854775807
                ·
                 rw [if_pos c21] at H
                 have c21b0 := eq_true c21
                 have c21b1 : decide (1 + (Utf8.encode (wrap32 (t507))).size ≤ 9223372036854775807) = true := decide_eq_true c21
                 try have c21b2 : (9223372036854775807 < 1 + (Utf8.encode (wrap32 (t507))).size) = False := eq_false (Nat.not_lt.2 c21)
                 by_cases c22 : ((⟨#[45]⟩ : ByteArray) ++ (Utf8.encode (wrap32 (t507)))).size + 1 ≤ 9223372036854775807
                 ·
                  rw [if_pos c22] at H
                  have c22b0 := eq_true c22
                  have c22b1 : decide (((⟨#[45]⟩ : ByteArray) ++ (Utf8.encode (wrap32 (t507)))).size + 1 ≤ 9223372036854775807) = true := decide_eq_true c22
                  try have c22b2 : (9223372036854775807 < ((⟨#[45]⟩ : ByteArray) ++ (Utf8.encode (wrap32 (t507)))).size + 1) = False := eq_false (Nat.not_lt.2 c22)
                  try have c22x : (9223372036854775807 < 1 + (Utf8.encode (wrap32 (t507))).size + 1) = False := eq_false (by have z_ := c22; simp only [ByteArray.size_append] at z_; have hl0_ : (⟨#[45]⟩ : ByteArray).size = 1 := rfl; omega)
                  by_cases c23 : x6_2.size + (((⟨#[45]⟩ : ByteArray) ++ (Utf8.encode (wrap32 (t507)))) ++ (⟨#[46]⟩ : ByteArray)).size ≤ 9223372036854775807
                  ·
                   rw [if_pos c23] at H
                   have c23b0 := eq_true c23
                   have c23b1 : decide (x6_2.size + (((⟨#[45]⟩ : ByteArray) ++ (Utf8.encode (wrap32 (t507)))) ++ (⟨#[46]⟩ : ByteArray)).size ≤ 9223372036854775807) = true := decide_eq_true c23
                   try have c23b2 : (9223372036854775807 < x6_2.size + (((⟨#[45]⟩ : ByteArray) ++ (Utf8.encode (wrap32 (t507)))) ++ (⟨#[46]⟩ : ByteArray)).size) = False := eq_false (Nat.not_lt.2 c23)
                   try have c23x : (9223372036854775807 < x6_2.size + (1 + (Utf8.encode (wrap32 (t507))).size + 1)) = False := eq_false (by have z_ := c23; simp only [ByteArray.size_append] at z_; have hl0_ : (⟨#[45]⟩ : ByteArray).size = 1 := rfl; have hl1_ : (⟨#[46]⟩ : ByteArray).size = 1 := rfl; omega)
                   have H' := Aside0.mk H
                   clear H
                   have p14 : 0 ≤ (x7_2 : Int) := of_decide_eq_true au73
                   have q14 : x7_2 < ((rdOf ByteArray.empty l0_0 x12_1).size : Int) := of_decide_eq_true au73
                   have hx14 := bt_at (rdOf ByteArray.empty l0_0 x12_1) x7_2
                   replace p14 := eq_true p14
                   replace q14 := eq_true q14
                   have p19 : 0 ≤ ((ji16) : Int) := of_decide_eq_true au73
                   have q19 : (ji16) < ((rdOf ByteArray.empty l0_0 x12_1).size : Int) := of_decide_eq_true au73
                   have hx19 := bt_at (rdOf ByteArray.empty l0_0 x12_1) (ji16)
                   replace p19 := eq_true p19
                   replace q19 := eq_true q19
                   go_wp2_with (first | ((with_reducible refine gate_callee (f := 92) rfl ?_); refine goesL_ (some 34) rfl rfl Tryd.func92 (by kernel_rfl) rfl #[.int .u8 (bt (rdOf ByteArray.empty l0_0 x12_1) (ji16))] rfl (by (try simp only [List.map_toArray, List.map_cons, List.map_nil]); first | done | (simp only [hji16]; rfl) | rfl | (simp only [List.length_drop, List.length_take]; rfl)) ?_; (with_reducible refine (impl_upperByte.calls (bt (rdOf ByteArray.empty l0_0 x12_1) (ji16)) t507 _ A20.out).mono ?_); rintro e w' ⟨rfl, ⟨nd, rfl⟩⟩; refine ⟨_, rfl, ?_⟩))
                   go_roundg k2
                   case measure => have := HK1.out; have := HK2.out; omega
                   case rel => exact ⟨(x6_2 ++ (((⟨#[45]⟩ : ByteArray) ++ (Utf8.encode (wrap32 (t507)))) ++ (⟨#[46]⟩ : ByteArray))), (ji16), au74, (by first | rfl | (simp; done) | (simp only [← hji16] <;> (first | rfl | simp)) | (simp [*]; done)), H', ⟨by have := HK1.out; have := HK2.out; omega⟩, ⟨by (with_reducible repeat (first | apply Kd.R_alloc | apply Kd.R_drewN | apply Kd.R_drew)); exact HO_3.out⟩, ⟨by (with_reducible repeat (first | refine blk_drewN ?_ _ | refine blk_drew ?_ | refine blk_alloc ?_ _)); exact BK501.out⟩, ⟨by repeat (first | (with_reducible first | exact HB.out | apply below_alloc | apply pw_below_drewN | apply below_drew1 | refine below_set ?_ GE501.out) | exact HB.out)⟩⟩
                  ·
                   rw [if_neg c23] at H
                   exact absurd H (by simp)
                 ·
                  rw [if_neg c22] at H
                  exact absurd H (by simp)
                ·
                 rw [if_neg c21] at H
                 exact absurd H (by simp)
               ·
                rw [if_neg c18] at H
                exact absurd H (by simp)
              ·
               rw [if_neg c17] at H
               exact absurd H (by simp)
             ·
              rw [if_neg c15] at H
              have c15b0 : ((bt (rdOf ByteArray.empty l0_0 x12_1) x7_2) == 45) = false := beq_eq_false_iff_ne.mpr c15
              have c15b1 : ((bt (rdOf ByteArray.empty l0_0 x12_1) x7_2) != 45) = true := bne_iff_ne.mpr c15
              have H' := Aside0.mk H
              clear H
              have p14 : 0 ≤ (x7_2 : Int) := of_decide_eq_true au73
              have q14 : x7_2 < ((rdOf ByteArray.empty l0_0 x12_1).size : Int) := of_decide_eq_true au73
              have hx14 := bt_at (rdOf ByteArray.empty l0_0 x12_1) x7_2
              replace p14 := eq_true p14
              replace q14 := eq_true q14
              exact impl_initialsOf.L0
            ·
             rw [if_neg c13] at H
             exact absurd H (by simp)
           ·
            rw [if_neg c12] at H
            have c12b0 : decide (x7_2 < ((rdOf ByteArray.empty l0_0 x12_1).size : Int)) = false := decide_eq_false c12
            clear c12
            by_cases c24 : x3_1.length < 8796093022208
            ·
             rw [if_pos c24] at H
             have LMc24 := Aside0.mk c24
             clear c24
             obtain ⟨y508, hy508⟩ : ∃ y_ : List ByteArray, y_ = (x3_1 ++ [x6_2]) := ⟨_, rfl⟩
             replace H : (impl_initialsOf.l0 k2 y508 l0_0 (l0_0.length : Int) (wrap64 (x12_1 + 1))) = some r := by first | (rw [hy508]; with_reducible exact H) | (have H2_ := (Option.bind_some _ _).symm.trans H; rw [hy508]; with_reducible exact H2_) | (have H2_ := (Option.bind_some _ _).symm.trans H; with_reducible exact H2_) | with_reducible exact H | (rw [hy508]; exact H) | exact H
             have Ny508 := Aside0.mk hy508
             clear hy508
             have H' := Aside0.mk H
             clear H
             exact impl_initialsOf.L0
            ·
             rw [if_neg c24] at H
             exact absurd H (by simp)
        ·
         rw [if_neg c11] at H
         exact absurd H (by simp)
       ·
        rw [if_neg c10] at H
        exact absurd H (by simp)
      ·
       rw [if_neg c9] at H
       exact absurd H (by simp)
     ·
      rw [if_neg c8] at H
      exact absurd H (by simp)
    ·
     rw [if_neg c7] at H
     exact absurd H (by simp)
   ·
    rw [if_neg c6] at H
    have c6b0 : decide (x12_1 < (l0_0.length : Int)) = false := decide_eq_false c6
    clear c6
    replace H := Option.bind_eq_some_iff.mp H
    obtain ⟨t505, A260, H⟩ := H
    try dsimp only at H
    have A26 := Aside0.mk A260
    clear A260
    obtain rfl := Option.some.inj H
    obtain ⟨Ao27, co27, eo27⟩ := Kd.R_slice HO_3.out
    subst eo27
    go_wp2_with (first | ((with_reducible refine gate_callee (f := 66) rfl ?_); refine goesL_ (some 46) rfl rfl Tryd.func66 (by kernel_rfl) rfl #[.slice Ao27 x3_1.length co27, .string (⟨#[32]⟩ : ByteArray)] rfl au37 ?_; (with_reducible refine (strings_Join.calls _ _ x3_1 (⟨#[32]⟩ : ByteArray) t505 _ ?side1 ?side2 A26.out).mono ?_); (case side1 => repeat (first | exact (Kd.R_reads' HO_3.out).2.2 | (with_reducible refine Kd.C_alloc ?_ _) | (with_reducible refine Kd.C_drewN ?_ _) | (with_reducible refine Kd.C_drew ?_))); (case side2 => exact (Kd.R_reads' HO_3.out).2.1); rintro e w28 ⟨rfl, hb⟩; refine ⟨_, rfl, ?_⟩; have n0_ := Aside0.mk (Kd.R_below au70 hb); have n1_ := Aside0.mk (blk_below (g := gb501) (o := .cells #[.slice A0_0 l0_0.length c0_0, .string a0_1, .string a0_2, .string a0_3] 26 (0, 0)) au44 hb); have n2_ := Aside0.mk (below_step au24 hb); clear HO_3; clear BK501; clear HB; have HO_3 := n0_; have BK501 := n1_; have HB := n2_; clear n0_ n1_ n2_; (try clear hb); (try clear hb2); (try clear hk); (try clear hi)))
    go_ret
    exact ⟨by first | rfl | (simp [errW_none, errW_some] <;> rfl) | (simp [*, errW_none, errW_some] <;> rfl), by repeat (first | (with_reducible first | exact HB.out | apply below_alloc | apply pw_below_drewN | apply below_drew1 | refine below_set ?_ GE501.out) | exact HB.out)⟩


/-! ### impl_shortForm: function 65 -/
def impl_shortForm.f (k : Nat) (l0_0 : List ByteArray) (a0_1 : ByteArray) (a0_2 : ByteArray) (a0_3 : ByteArray) : Option (ByteArray) := (impl_initialsOf.f k l0_0 a0_1 a0_2 a0_3).bind fun t512 => ((impl_spaced.f (([t512, a0_1, a0_2] : List ByteArray))).bind fun t516 => (some t516))
theorem impl_shortForm.mono : ∀ a0 a1 a2 a3 k, LeO (impl_shortForm.f k a0 a1 a2 a3) (impl_shortForm.f (k + 1) a0 a1 a2 a3) := by
 intro a0 a1 a2 a3 k
 unfold impl_shortForm.f
 repeat' first
   | (with_reducible exact impl_initialsOf.mono _ _ _ _ _)
   | (with_reducible exact LeO.refl _)
   | (with_reducible exact LeO.none _)
   | (with_reducible refine LeO.ite ?_ ?_)
   | (with_reducible refine LeO.bind ?_ (fun _ => ?_))
   | exact impl_initialsOf.mono _ _ _ _ _
   | exact LeO.none _
   | refine LeO.ite ?_ ?_
   | refine LeO.bind ?_ (fun _ => ?_)
def impl_shortForm.T1 : Bool × List (List Nat × List Nat) := (true, [([], []), ([0], [0]), ([], []), ([2], [2]), ([], []), ([4], [4]), ([1, 3, 5], [1, 3, 5]), ([6, 1], [6]), ([7, 7, 0, 1, 2, 3, 4, 5, 6, 7], [7])])
def impl_shortForm.B1 : List Nat := [0, 1, 0, 4, 0, 16, 63, 127, 255]
theorem impl_shortForm.tab1 : rtab .any (opsOf Tryd.f65 1) = impl_shortForm.T1 := by kernel_rfl
theorem impl_shortForm.bits1 : waitsOk impl_shortForm.T1.2 impl_shortForm.B1 = true := by kernel_rfl
set_option maxHeartbeats 8000000 in
set_option maxRecDepth 100000 in
theorem impl_shortForm.calls (k : Nat) (A0_0 : Option Addr) (c0_0 : Nat) (l0_0 : List ByteArray) (a0_1 : ByteArray) (a0_2 : ByteArray) (a0_3 : ByteArray) (r : ByteArray) (w : World) (hr0_0 : Kd.C Kd.string w A0_0 l0_0.length l0_0) (hc0_0 : l0_0.length ≤ c0_0) (h : impl_shortForm.f k l0_0 a0_1 a0_2 a0_3 = some r) :
  Calls Tryd.prog 65 #[.agg #[.slice A0_0 l0_0.length c0_0, .string a0_1, .string a0_2, .string a0_3]] w fun e w' => e = .returned (.string r) ∧ Below w.heap.size w w' := by
 have hu26 := Tryd.underlying26
 have HR0_0 := Aside0.mk hr0_0
 have HC0_0 := Aside0.mk hc0_0
 clear hr0_0 hc0_0
 have HB := Aside0.mk (Below.refl w.heap.size w)
 have H : ((impl_initialsOf.f k l0_0 a0_1 a0_2 a0_3).bind fun t512 => ((impl_spaced.f (([t512, a0_1, a0_2] : List ByteArray))).bind fun t516 => (some t516))) = some r := h
 clear h
 replace H := Option.bind_eq_some_iff.mp H
 obtain ⟨t512, A20, H⟩ := H
 try dsimp only at H
 have A2 := Aside0.mk A20
 clear A20
 obtain ⟨y513, hy513⟩ : ∃ y_ : List ByteArray, y_ = (([t512, a0_1, a0_2] : List ByteArray)) := ⟨_, rfl⟩
 replace H : ((impl_spaced.f y513).bind fun t516 => (some t516)) = some r := by first | (rw [hy513]; with_reducible exact H) | (have H2_ := (Option.bind_some _ _).symm.trans H; rw [hy513]; with_reducible exact H2_) | (have H2_ := (Option.bind_some _ _).symm.trans H; with_reducible exact H2_) | with_reducible exact H | (rw [hy513]; exact H) | exact H
 have Ny513 := Aside0.mk hy513
 clear hy513
 replace H := Option.bind_eq_some_iff.mp H
 obtain ⟨t516, A30, H⟩ := H
 try dsimp only at H
 have A3 := Aside0.mk A30
 clear A30
 obtain rfl := Option.some.inj H
 go_enter Tryd.func65, Tryd.ntmps65
 try go_wp2_with (first | ((with_reducible refine gate_dst (N := 1) rfl ?_); refine box_event ?hg (N := 1) ?hd (cs := #[.slice A0_0 l0_0.length c0_0, .string a0_1, .string a0_2, .string a0_3]) (t := 26) ?hr ?_; (case hd => rfl); (case hg => rfl); (case hr => first | (go_simp; done) | (go_simp; rfl)); intro gb511 hg w4 hbox hb; have n0_ := Aside0.mk (below_step au38 hb); have n1_ := Aside0.mk (hbox); have n2_ := Aside0.mk ((by rw [hg]; exact (below_size au38) : w.heap.size ≤ gb511)); have n3_ := Aside0.mk ((by rw [hg]; exact (below_size au38) : w.heap.size ≤ gb511)); clear HB; have HB := n0_; have BK511 := n1_; have GW511 := n2_; have GE511 := n3_; clear n0_ n1_ n2_ n3_; clear hb hbox hg))
 have n0_ := Aside0.mk (blk_drew BK511.out)
 have n1_ := Aside0.mk (below_drew1 HB.out)
 clear BK511
 clear HB
 have BK511 := n0_
 have HB := n1_
 clear n0_ n1_
 refine start_ (n := 9) (S := fun w' => w'.cell? ⟨gb511, 0, none⟩ = some (.slice A0_0 l0_0.length c0_0) ∧ w'.cell? ⟨gb511, 1, none⟩ = some (.string a0_1) ∧ w'.cell? ⟨gb511, 2, none⟩ = some (.string a0_2) ∧ w'.cell? ⟨gb511, 3, none⟩ = some (.string a0_3)) (ds := []) #[false, false, false, false, false, false, false, false, false] (by kernel_rfl) rfl rfl ⟨(blk_cell BK511.out 0).trans rfl, (blk_cell BK511.out 1).trans rfl, (blk_cell BK511.out 2).trans rfl, (blk_cell BK511.out 3).trans rfl⟩ (fun hHeld => ?_); refine with_tabW impl_shortForm.tab1 impl_shortForm.bits1 (fun HT_ HW_ => ?_)
 generalize w4.drew = w5 at BK511 HB hHeld ⊢
 refine pure_ (i := 2) (N := some 5) (v := ?_) (a' := ?_) #[false, false, true, false, false, false, false, false, false] rfl rfl (any_of HT_.out (by kernel_rfl)) (fun _ _ _ h => h) (Or.inl ⟨by rfl, ?_⟩) ?_ ?_
 rotate_left
 ·
  intro w'
  go_simp
  with_reducible rfl
 rotate_left
 ·
  simp only [Act.put, List.setIfInBounds_toArray, List.set_cons_zero, List.set_cons_succ, i64_w, i32_w]
  rfl
 refine pure_ (i := 4) (N := some 7) (v := ?_) (a' := ?_) #[false, false, true, false, true, false, false, false, false] rfl rfl (any_of HT_.out (by kernel_rfl)) (fun _ _ _ h => h) (Or.inl ⟨by rfl, ?_⟩) ?_ ?_
 rotate_left
 ·
  intro w'
  go_simp
  with_reducible rfl
 rotate_left
 ·
  simp only [Act.put, List.setIfInBounds_toArray, List.set_cons_zero, List.set_cons_succ, i64_w, i32_w]
  rfl
 refine take_ (i := 0) (N := some 3) (v := ?_) (a' := ?_) #[true, false, true, false, true, false, false, false, false] rfl rfl (take_ofW HT_.out HW_.out (by kernel_rfl)) (fun _ _ _ h => h) (Or.inl ⟨by rfl, ?_⟩) hHeld ?_ ?_
 rotate_left
 ·
  rintro w' ⟨s0, s1, s2, s3⟩
  go_simp
  with_reducible rfl
 rotate_left
 ·
  simp only [Act.put, List.setIfInBounds_toArray, List.set_cons_zero, List.set_cons_succ, i64_w, i32_w]
  rfl
 refine take_ (i := 3) (N := some 6) (v := ?_) (a' := ?_) #[true, false, true, true, true, false, false, false, false] rfl rfl (take_ofW HT_.out HW_.out (by kernel_rfl)) (fun _ _ _ h => h) (Or.inl ⟨by rfl, ?_⟩) hHeld ?_ ?_
 rotate_left
 ·
  rintro w' ⟨s0, s1, s2, s3⟩
  go_simp
  with_reducible rfl
 rotate_left
 ·
  simp only [Act.put, List.setIfInBounds_toArray, List.set_cons_zero, List.set_cons_succ, i64_w, i32_w]
  rfl
 refine take_ (i := 5) (N := some 8) (v := ?_) (a' := ?_) #[true, false, true, true, true, true, false, false, false] rfl rfl (take_ofW HT_.out HW_.out (by kernel_rfl)) (fun _ _ _ h => h) (Or.inl ⟨by rfl, ?_⟩) hHeld ?_ ?_
 rotate_left
 ·
  rintro w' ⟨s0, s1, s2, s3⟩
  go_simp
  with_reducible rfl
 rotate_left
 ·
  simp only [Act.put, List.setIfInBounds_toArray, List.set_cons_zero, List.set_cons_succ, i64_w, i32_w]
  rfl
 refine one_ (i := 1) (N := some 4) #[true, true, true, true, true, true, false, false, false] rfl rfl (one_of HT_.out (by kernel_rfl)) (by decide) (fun K hK => ?_)
 refine goes_ Tryd.func83 (by kernel_rfl) rfl #[.agg #[.slice A0_0 l0_0.length c0_0, .string a0_1, .string a0_2, .string a0_3]] (by rfl) rfl rfl au37 ?_
 with_reducible refine (impl_initialsOf.calls k _ _ l0_0 a0_1 a0_2 a0_3 t512 _ ?side1 ?side2 A2.out).mono ?_
 (case side1 => repeat (first | exact (Kd.C_below HR0_0.out HB.out) | (with_reducible refine Kd.C_alloc ?_ _) | (with_reducible refine Kd.C_drewN ?_ _) | (with_reducible refine Kd.C_drew ?_)))
 (case side2 => exact HC0_0.out)
 rintro e w6 ⟨rfl, hb⟩
 refine ⟨_, rfl, ?_⟩
 have n0_ := Aside0.mk (blk_below (g := gb511) (o := .cells #[.slice A0_0 l0_0.length c0_0, .string a0_1, .string a0_2, .string a0_3] 26 (0, 0)) au45 hb)
 have n1_ := Aside0.mk (below_step au25 hb)
 clear BK511
 clear HB
 have BK511 := n0_
 have HB := n1_
 clear n0_ n1_
 (try clear hb)
 (try clear hb2)
 (try clear hk)
 (try clear hi)
 refine hK.out _ _ ⟨(blk_cell BK511.out 0).trans rfl, (blk_cell BK511.out 1).trans rfl, (blk_cell BK511.out 2).trans rfl, (blk_cell BK511.out 3).trans rfl⟩ (fun hHeld => ?_)
 clear hK K
 refine norm_ (a' := ?_) ?_ ?_
 rotate_left
 ·
  show Act.put _ (some 4) _ = _
  simp only [Act.put, List.setIfInBounds_toArray, List.set_cons_zero, List.set_cons_succ, i64_w, i32_w]
  rfl
 refine one_ (i := 6) (N := some 9) #[true, true, true, true, true, true, true, false, false] rfl rfl (one_of HT_.out (by kernel_rfl)) (by decide) (fun K hK => ?_)
 refine Kd.R_lit_step Kd.string _ 9 ?hg (N := 9) ?hd (xs := ([t512, a0_1, a0_2] : List ByteArray)) (inner := [.string t512, .string a0_1, .string a0_2]) (ok := fun _ => True) (okp := fun _ => True) ?hr ?hp (fun _ hk => hk) trivial (Below.refl _ _) (Nat.le_refl _) (by simp) ?_; (case hd => rfl); (case hg => rfl); (case hr => first | (go_simp; done) | (go_simp; rfl)); (case hp => exact (Reps.one (show Kd.M Kd.string _ _ _ t512 [.string t512] from rfl) (Reps.one (show Kd.M Kd.string _ _ _ a0_1 [.string a0_1] from rfl) (Reps.one (show Kd.M Kd.string _ _ _ a0_2 [.string a0_2] from rfl) (Reps.none _ _)))))
 intro v514 w7 ho8 hb hg_ hnew_
 clear hg_ hnew_
 (first | rw [← Ny513.out] at ho8 | (simp only [Int.reduceToNat] at ho8; rw [← Ny513.out] at ho8))
 have n0_ := Aside0.mk (Kd.R_lower ho8 (below_size au25))
 have n1_ := Aside0.mk (blk_below (g := gb511) (o := .cells #[.slice A0_0 l0_0.length c0_0, .string a0_1, .string a0_2, .string a0_3] 26 (0, 0)) au45 hb)
 have n2_ := Aside0.mk (below_step au25 hb)
 clear BK511
 clear HB
 have HO515 := n0_
 have BK511 := n1_
 have HB := n2_
 clear n0_ n1_ n2_
 clear hb ho8
 obtain ⟨Ao9, co9, eo9⟩ := Kd.R_slice HO515.out
 (first | subst eo9 | (injection eo9 with f1_ f2_ f3_; have f4_ := f1_.symm; have f5_ := f3_.symm; clear f1_ f2_ f3_; subst f4_; subst f5_))
 refine hK.out _ _ ⟨(blk_cell BK511.out 0).trans rfl, (blk_cell BK511.out 1).trans rfl, (blk_cell BK511.out 2).trans rfl, (blk_cell BK511.out 3).trans rfl⟩ (fun hHeld => ?_)
 clear hK K
 refine norm_ (a' := ?_) ?_ ?_
 rotate_left
 ·
  show Act.put _ (some 9) _ = _
  simp only [Act.put, List.setIfInBounds_toArray, List.set_cons_zero, List.set_cons_succ, i64_w, i32_w]
  rfl
 refine one_ (i := 7) (N := some 10) #[true, true, true, true, true, true, true, true, false] rfl rfl (one_of HT_.out (by kernel_rfl)) (by decide) (fun K hK => ?_)
 refine goes_ Tryd.func75 (by kernel_rfl) rfl #[.slice Ao9 y513.length co9] (by rfl) rfl rfl au37 ?_
 with_reducible refine (impl_spaced.calls (fun k_ => some k_ = (.slice Ao9 y513.length co9 : Value).ownBlock) (.slice Ao9 y513.length co9) y513 t516 w _ ?side1 ?side2 A3.out).mono ?_
 (case side1 => repeat (first | (with_reducible first | exact HB.out | apply below_alloc | apply pw_below_drewN | apply below_drew1 | refine below_set ?_ GE511.out) | exact HB.out))
 (case side2 => exact Kd.R_tight rfl HO515.out)
 rintro e w10 ⟨rfl, hb, hkp⟩
 refine ⟨_, rfl, ?_⟩
 have n0_ := Aside0.mk (blk_kept au45 hkp (fun hs_ => (fun e_ => (Kd.R_ne HO515.out BK511.out (by decide)) e_) hs_))
 have n1_ := Aside0.mk (hb)
 clear BK511
 clear HB
 clear HO515
 have BK511 := n0_
 have HB := n1_
 clear n0_ n1_
 (try clear hb)
 (try clear hkp)
 refine hK.out _ _ ⟨(blk_cell BK511.out 0).trans rfl, (blk_cell BK511.out 1).trans rfl, (blk_cell BK511.out 2).trans rfl, (blk_cell BK511.out 3).trans rfl⟩ (fun hHeld => ?_)
 clear hK K
 refine norm_ (a' := ?_) ?_ ?_
 rotate_left
 ·
  show Act.put _ (some 10) _ = _
  simp only [Act.put, List.setIfInBounds_toArray, List.set_cons_zero, List.set_cons_succ, i64_w, i32_w]
  rfl
 refine pure_ (i := 8) (N := some 2) (v := ?_) (a' := ?_) #[true, true, true, true, true, true, true, true, true] rfl rfl (any_of HT_.out (by kernel_rfl)) (fun _ _ _ h => h) (Or.inl ⟨by rfl, ?_⟩) ?_ ?_
 rotate_left
 ·
  intro w'
  go_simp
  with_reducible rfl
 rotate_left
 ·
  simp only [Act.put, List.setIfInBounds_toArray, List.set_cons_zero, List.set_cons_succ, i64_w, i32_w]
  rfl
 refine done_ (done_of HT_.out (by kernel_rfl)) ?_
 try go_wp2
 go_ret
 exact ⟨by first | rfl | (simp [errW_none, errW_some] <;> rfl) | (simp [*, errW_none, errW_some] <;> rfl), by repeat (first | (with_reducible first | exact HB.out | apply below_alloc | apply pw_below_drewN | apply below_drew1 | refine below_set ?_ GE511.out) | exact HB.out)⟩


/-! ### impl_joinNames: function 30 -/
def impl_joinNames.l0 : Nat → Int → List ByteArray → List (S26) → Int → Int → Option (ByteArray)
 | 0, _, _, _, _, _ => none
 | k + 1, x1, x5, x10, x11, x12 => if x12 < x11 then (if 0 ≤ x12 then (if x12 < (x10.length : Int) then ((impl_shortForm.f k ((rd_T26 x10 x12).f0) ((rd_T26 x10 x12).f1) ((rd_T26 x10 x12).f2) ((rd_T26 x10 x12).f3)).bind fun t522 => (if x5.length < 8796093022208 then (impl_joinNames.l0 k x1 (x5 ++ [t522]) x10 x11 (wrap64 (x12 + 1))) else (none))) else (none)) else (none)) else (if (x5.length : Int) = 0 then (some (⟨#[]⟩ : ByteArray)) else (if (x5.length : Int) > x1 then (if 0 < (x5.length : Int) then (if (rdOf ByteArray.empty x5 0).size + 7 ≤ 9223372036854775807 then (some ((rdOf ByteArray.empty x5 0) ++ (⟨#[32, 101, 116, 32, 97, 108, 46]⟩ : ByteArray))) else (none)) else (none)) else (if (x5.length : Int) = 1 then (if 0 < (x5.length : Int) then (some (rdOf ByteArray.empty x5 0)) else (none)) else (if 0 ≤ (wrap64 ((x5.length : Int) - 1)) then (if (wrap64 ((x5.length : Int) - 1)) ≤ (x5.length : Int) then ((strings_Join.f (x5.take ((wrap64 ((x5.length : Int) - 1)) : Int).toNat) (⟨#[44, 32]⟩ : ByteArray)).bind fun t532 => (if t532.size + 5 ≤ 9223372036854775807 then (if (wrap64 ((x5.length : Int) - 1)) < (x5.length : Int) then (if (t532 ++ (⟨#[32, 97, 110, 100, 32]⟩ : ByteArray)).size + (rdOf ByteArray.empty x5 (wrap64 ((x5.length : Int) - 1))).size ≤ 9223372036854775807 then (some ((t532 ++ (⟨#[32, 97, 110, 100, 32]⟩ : ByteArray)) ++ (rdOf ByteArray.empty x5 (wrap64 ((x5.length : Int) - 1))))) else (none)) else (none)) else (none))) else (none)) else (none)))))
def impl_joinNames.f (k : Nat) (l0 : List (S26)) (a1 : Int) : Option (ByteArray) := impl_joinNames.l0 k a1 (([] : List ByteArray)) l0 (l0.length : Int) 0
theorem impl_joinNames.mono_l : ∀ k, (∀ y0 y1 y2 y3 y4, LeO (impl_joinNames.l0 k y0 y1 y2 y3 y4) (impl_joinNames.l0 (k + 1) y0 y1 y2 y3 y4))
 | 0 => fun _ _ _ _ _ r h => by simp [impl_joinNames.l0] at h
 | k + 1 => by
  have ih0 := impl_joinNames.mono_l k
  ·
   intro y0 y1 y2 y3 y4
   unfold impl_joinNames.l0
   repeat' first
   | (with_reducible exact ih0 _ _ _ _ _)
   | (with_reducible exact impl_shortForm.mono _ _ _ _ _)
   | (with_reducible exact LeO.refl _)
   | (with_reducible exact LeO.none _)
   | (with_reducible refine LeO.ite ?_ ?_)
   | (with_reducible refine LeO.bind ?_ (fun _ => ?_))
   | exact ih0 _ _ _ _ _
   | exact impl_shortForm.mono _ _ _ _ _
   | exact LeO.none _
   | refine LeO.ite ?_ ?_
   | refine LeO.bind ?_ (fun _ => ?_)
theorem impl_joinNames.mono : ∀ a0 a1 k, LeO (impl_joinNames.f k a0 a1) (impl_joinNames.f (k + 1) a0 a1) := by
 intro a0 a1 k
 have ih0 := impl_joinNames.mono_l k
 unfold impl_joinNames.f
 repeat' first
   | (with_reducible exact ih0 _ _ _ _ _)
   | (with_reducible exact impl_shortForm.mono _ _ _ _ _)
   | (with_reducible exact LeO.refl _)
   | (with_reducible exact LeO.none _)
   | (with_reducible refine LeO.ite ?_ ?_)
   | (with_reducible refine LeO.bind ?_ (fun _ => ?_))
   | exact ih0 _ _ _ _ _
   | exact impl_shortForm.mono _ _ _ _ _
   | exact LeO.none _
   | refine LeO.ite ?_ ?_
   | refine LeO.bind ?_ (fun _ => ?_)
def impl_joinNames.T14 : Bool × List (List Nat × List Nat) := (true, [([], []), ([], []), ([0, 1], [0, 1]), ([2], [2]), ([3], [3]), ([], []), ([], []), ([5, 6], [5, 6]), ([7], [7]), ([4, 8], [4, 8]), ([9, 3, 0, 1, 2, 3, 4, 5, 6, 7, 8, 9], [9])])
def impl_joinNames.B14 : List Nat := [0, 0, 3, 7, 15, 0, 0, 96, 224, 511, 1023]
theorem impl_joinNames.tab14 : rtab .any (opsOf Tryd.f30 14) = impl_joinNames.T14 := by kernel_rfl
theorem impl_joinNames.bits14 : waitsOk impl_joinNames.T14.2 impl_joinNames.B14 = true := by kernel_rfl
set_option maxHeartbeats 8000000 in
set_option maxRecDepth 100000 in
theorem impl_joinNames.calls (k : Nat) (A0 : Option Addr) (c0 : Nat) (l0 : List (S26)) (a1 : Int) (r : ByteArray) (w : World) (hr0 : Kd.C k26 w A0 l0.length l0) (hc0 : l0.length ≤ c0) (h : impl_joinNames.f k l0 a1 = some r) :
  Calls Tryd.prog 30 #[.slice A0 l0.length c0, .int .i64 a1] w fun e w' => e = .returned (.string r) ∧ Below w.heap.size w w' := by
 have hu26 := Tryd.underlying26
 have HR0 := Aside0.mk hr0
 have HC0 := Aside0.mk hc0
 clear hr0 hc0
 have HB := Aside0.mk (Below.refl w.heap.size w)
 have H : (impl_joinNames.l0 k a1 (([] : List ByteArray)) l0 (l0.length : Int) 0) = some r := h
 clear h
 obtain ⟨y517, hy517⟩ : ∃ y_ : List ByteArray, y_ = (([] : List ByteArray)) := ⟨_, rfl⟩
 replace H : (impl_joinNames.l0 k a1 y517 l0 (l0.length : Int) 0) = some r := by first | (rw [hy517]; with_reducible exact H) | (have H2_ := (Option.bind_some _ _).symm.trans H; rw [hy517]; with_reducible exact H2_) | (have H2_ := (Option.bind_some _ _).symm.trans H; with_reducible exact H2_) | with_reducible exact H | (rw [hy517]; exact H) | exact H
 have Ny517 := Aside0.mk hy517
 clear hy517
 have H' := Aside0.mk H
 clear H
 go_enter Tryd.func30, Tryd.ntmps30
 go_wp2_with (first | ((with_reducible refine gate_dst (N := 9) rfl ?_); refine Kd.R_lit Kd.string _ 9 ?hg (N := 9) ?hd (xs := ([] : List ByteArray)) (inner := []) (ok := fun _ => True) (okp := fun _ => True) ?hr ?hp (fun _ hk => hk) trivial (Below.refl _ _) (Nat.le_refl _) (by simp) ?_; (case hd => rfl); (case hg => rfl); (case hr => first | (go_simp; done) | (go_simp; rfl)); (case hp => exact (Reps.none _ _)); intro v518 w3 ho4 hb hg_ hnew_; clear hg_ hnew_; (first | rw [← Ny517.out] at ho4 | (simp only [Int.reduceToNat] at ho4; rw [← Ny517.out] at ho4)); have n0_ := Aside0.mk (Kd.R_lower ho4 (below_size au38)); have n1_ := Aside0.mk (below_step au38 hb); clear HB; have HO519 := n0_; have HB := n1_; clear n0_ n1_; clear hb ho4))
 go_loopg [5, 12] k (fun kq v5 v12 w' => ∃ (x5_1 : List ByteArray) (x12_1 : Int), v12 = .int .i64 x12_1 ∧ Aside0 (impl_joinNames.l0 kq a1 x5_1 l0 (l0.length : Int) x12_1 = some r) ∧ Aside0 (kq ≤ k) ∧ Aside0 (Kd.R Kd.string 9 w' w.heap.size (fun _ => True) v5 x5_1) ∧ Aside0 (Below w.heap.size w w'))
 case atStart => exact ⟨(y517), (0), au74, H', ⟨Nat.le_refl _⟩, ⟨by (with_reducible repeat (first | apply Kd.R_alloc | apply Kd.R_drewN | apply Kd.R_drew)); exact HO519.out⟩, ⟨by repeat (first | (with_reducible first | exact HB.out | apply below_alloc | apply pw_below_drewN | apply below_drew1) | exact HB.out)⟩⟩
 case round =>
  clear H'
  try clear p2
  try clear c3
  obtain ⟨x5_1, x12_1, rfl, HA, HK1, HO_5, HB⟩ := hrel
  cases gk with
  | zero => exact absurd HA.out (by simp [impl_joinNames.l0])
  | succ k1 =>
   have H := HA.out
   clear HA
   simp only [impl_joinNames.l0] at H
   by_cases c5 : x12_1 < (l0.length : Int)
   ·
    rw [if_pos c5] at H
    have c5b0 : decide (x12_1 < (l0.length : Int)) = true := decide_eq_true c5
    clear c5
    by_cases c6 : 0 ≤ x12_1
    ·
     rw [if_pos c6] at H
     have c6b0 : decide (0 ≤ x12_1) = true := decide_eq_true c6
     clear c6
     by_cases c7 : x12_1 < (l0.length : Int)
     ·
      rw [if_pos c7] at H
      have c7b0 : decide (x12_1 < (l0.length : Int)) = true := decide_eq_true c7
      clear c7
      replace H := Option.bind_eq_some_iff.mp H
      obtain ⟨t522, A80, H⟩ := H
      try dsimp only at H
      have A8 := Aside0.mk A80
      clear A80
      by_cases c9 : x5_1.length < 8796093022208
      ·
       rw [if_pos c9] at H
       have LMc9 := Aside0.mk c9
       clear c9
       obtain ⟨y523, hy523⟩ : ∃ y_ : List ByteArray, y_ = (x5_1 ++ [t522]) := ⟨_, rfl⟩
       replace H : (impl_joinNames.l0 k1 a1 y523 l0 (l0.length : Int) (wrap64 (x12_1 + 1))) = some r := by first | (rw [hy523]; with_reducible exact H) | (have H2_ := (Option.bind_some _ _).symm.trans H; rw [hy523]; with_reducible exact H2_) | (have H2_ := (Option.bind_some _ _).symm.trans H; with_reducible exact H2_) | with_reducible exact H | (rw [hy523]; exact H) | exact H
       have Ny523 := Aside0.mk hy523
       clear hy523
       have H' := Aside0.mk H
       clear H
       have p520 : 0 ≤ (x12_1 : Int) := of_decide_eq_true au73
       have q520 : x12_1 < (l0.length : Int) := of_decide_eq_true au73
       obtain ⟨ad520, A520_0, c520_0, e520, hx520_0, hx520_1, hx520_2, hx520_3, hl520_0, hi520_0⟩ := at_T26 HR0.out x12_1 p520 q520
       cases e520
       replace hx520_0 := (HB.out.cell (World.block_lt_of_cell? w _ hx520_0)).trans hx520_0
       replace hx520_1 := (HB.out.cell (World.block_lt_of_cell? w _ hx520_1)).trans hx520_1
       replace hx520_2 := (HB.out.cell (World.block_lt_of_cell? w _ hx520_2)).trans hx520_2
       replace hx520_3 := (HB.out.cell (World.block_lt_of_cell? w _ hx520_3)).trans hx520_3
       have HR520_0 := Aside0.mk hi520_0
       have HC520_0 := Aside0.mk hl520_0
       clear hi520_0 hl520_0
       replace p520 := eq_true p520
       replace q520 := eq_true q520
       go_wp2_with (first | ((with_reducible refine gate_dst (N := 7) rfl ?_); refine box_event ?hg (N := 7) ?hd (cs := #[.slice none 0 0, .string (⟨#[]⟩ : ByteArray), .string (⟨#[]⟩ : ByteArray), .string (⟨#[]⟩ : ByteArray)]) (t := 26) ?hr ?_; (case hd => rfl); (case hg => rfl); (case hr => first | (go_simp; done) | (go_simp; rfl)); intro gb521 hg w10 hbox hb; have n0_ := Aside0.mk (Kd.R_below au71 hb); have n1_ := Aside0.mk (below_step au38 hb); have n2_ := Aside0.mk (hbox); have n3_ := Aside0.mk ((by rw [hg]; exact (below_size au38) : w.heap.size ≤ gb521)); have n4_ := Aside0.mk ((by rw [hg]; exact (below_size au38) : w.heap.size ≤ gb521)); clear HO_5; clear HB; have HO_5 := n0_; have HB := n1_; have BK521 := n2_; have GW521 := n3_; have GE521 := n4_; clear n0_ n1_ n2_ n3_ n4_; clear hb hbox hg; have hcz11_0 : w10.cell? ⟨gb521, 0, none⟩ = some (.slice none 0 0) := (blk_cell BK521.out 0).trans rfl; have hcz11_1 : w10.cell? ⟨gb521, 1, none⟩ = some (.string (⟨#[]⟩ : ByteArray)) := (blk_cell BK521.out 1).trans rfl; have hcz11_2 : w10.cell? ⟨gb521, 2, none⟩ = some (.string (⟨#[]⟩ : ByteArray)) := (blk_cell BK521.out 2).trans rfl; have hcz11_3 : w10.cell? ⟨gb521, 3, none⟩ = some (.string (⟨#[]⟩ : ByteArray)) := (blk_cell BK521.out 3).trans rfl; have hfz11_0 := blk_frozen BK521.out 0; have hfz11_1 := blk_frozen BK521.out 1; have hfz11_2 := blk_frozen BK521.out 2; have hfz11_3 := blk_frozen BK521.out 3) | ((with_reducible refine gate_callee (f := 65) rfl ?_); refine goesL_ (some 18) rfl rfl Tryd.func65 (by kernel_rfl) rfl #[.agg #[.slice A520_0 ((rd_T26 l0 x12_1).f0).length c520_0, .string ((rd_T26 l0 x12_1).f1), .string ((rd_T26 l0 x12_1).f2), .string ((rd_T26 l0 x12_1).f3)]] rfl au37 ?_; (with_reducible refine (impl_shortForm.calls k1 _ _ ((rd_T26 l0 x12_1).f0) ((rd_T26 l0 x12_1).f1) ((rd_T26 l0 x12_1).f2) ((rd_T26 l0 x12_1).f3) t522 _ ?side1 ?side2 A8.out).mono ?_); (case side1 => exact Kd.C_below HR520_0.out au26); (case side2 => exact HC520_0.out); rintro e w12 ⟨rfl, hb⟩; refine ⟨_, rfl, ?_⟩; have n0_ := Aside0.mk (Kd.R_below (by (with_reducible repeat (first | apply Kd.R_alloc | apply Kd.R_drewN | apply Kd.R_drew)); exact (Kd.R_mono (Kd.R_far (p := ⟨gb521, 3, none⟩) (Kd.R_far (p := ⟨gb521, 2, none⟩) (Kd.R_far (p := ⟨gb521, 1, none⟩) (Kd.R_far (p := ⟨gb521, 0, none⟩) (Kd.R_types HO_5.out BK521.out (by decide)) (fun _ hk => hk.2) (.slice A520_0 ((rd_T26 l0 x12_1).f0).length c520_0)) (fun _ hk => hk.2) (.string ((rd_T26 l0 x12_1).f1))) (fun _ hk => hk.2) (.string ((rd_T26 l0 x12_1).f2))) (fun _ hk => hk.2) (.string ((rd_T26 l0 x12_1).f3))) (fun _ h_ => h_.1))) hb); have n1_ := Aside0.mk (blk_below (g := gb521) (o := .cells #[.slice A520_0 ((rd_T26 l0 x12_1).f0).length c520_0, .string ((rd_T26 l0 x12_1).f1), .string ((rd_T26 l0 x12_1).f2), .string ((rd_T26 l0 x12_1).f3)] 26 (0, 0)) (by (with_reducible repeat (first | refine blk_drewN ?_ _ | refine blk_drew ?_ | refine blk_alloc ?_ _)); refine blk_put (cs := #[.slice A520_0 ((rd_T26 l0 x12_1).f0).length c520_0, .string ((rd_T26 l0 x12_1).f1), .string ((rd_T26 l0 x12_1).f2), .string (⟨#[]⟩ : ByteArray)]) ?_ 3 _ rfl; (with_reducible repeat (first | refine blk_drewN ?_ _ | refine blk_drew ?_ | refine blk_alloc ?_ _)); refine blk_put (cs := #[.slice A520_0 ((rd_T26 l0 x12_1).f0).length c520_0, .string ((rd_T26 l0 x12_1).f1), .string (⟨#[]⟩ : ByteArray), .string (⟨#[]⟩ : ByteArray)]) ?_ 2 _ rfl; (with_reducible repeat (first | refine blk_drewN ?_ _ | refine blk_drew ?_ | refine blk_alloc ?_ _)); refine blk_put (cs := #[.slice A520_0 ((rd_T26 l0 x12_1).f0).length c520_0, .string (⟨#[]⟩ : ByteArray), .string (⟨#[]⟩ : ByteArray), .string (⟨#[]⟩ : ByteArray)]) ?_ 1 _ rfl; (with_reducible repeat (first | refine blk_drewN ?_ _ | refine blk_drew ?_ | refine blk_alloc ?_ _)); refine blk_put (cs := #[.slice none 0 0, .string (⟨#[]⟩ : ByteArray), .string (⟨#[]⟩ : ByteArray), .string (⟨#[]⟩ : ByteArray)]) ?_ 0 _ rfl; (with_reducible repeat (first | refine blk_drewN ?_ _ | refine blk_drew ?_ | refine blk_alloc ?_ _)); exact BK521.out) hb); have n2_ := Aside0.mk (below_step au26 hb); clear HO_5; clear BK521; clear HB; have HO_5 := n0_; have BK521 := n1_; have HB := n2_; clear n0_ n1_ n2_; (try clear hb); (try clear hb2); (try clear hk); (try clear hi)) | ((with_reducible refine gate_builtin (b := .append) (xs := #[.tmp 16, .tmp 19]) rfl ?_); at_builtin; refine Kd.R_append Kd.string (w0 := w) w.heap.size rfl (.tmp 16) (.tmp 19) 24 9 (.string ⟨#[]⟩) 16 rfl Tryd.underlying24 info9 rfl (by decide) (by omega) u5 x5_1 t522 [.string t522] (fun _ => True) (fun _ => False) rfl rfl ?aP (fun _ hk => hk.elim) ?aF ?aO ?aB ?aS ?aL ?_; (case aP => exact rfl); (case aB => exact au26); (case aF => exact (fun _ _ => trivial)); (case aO => exact au71); (case aS => exact (below_size au26)); (case aL => have := LMc9.out; omega); intro v524 w13 ho hb hg hat; rw [← Ny523.out] at ho; have n0_ := Aside0.mk (blk_grown (g := gb521) (o := .cells #[.slice A520_0 ((rd_T26 l0 x12_1).f0).length c520_0, .string ((rd_T26 l0 x12_1).f1), .string ((rd_T26 l0 x12_1).f2), .string ((rd_T26 l0 x12_1).f3)] 26 (0, 0)) (by (with_reducible repeat (first | refine blk_drewN ?_ _ | refine blk_drew ?_ | refine blk_alloc ?_ _)); exact BK521.out) hg (Kd.R_ne HO_5.out BK521.out (by decide))); have n1_ := Aside0.mk (hb); have n2_ := Aside0.mk (ho); clear BK521; clear HB; clear HO_5; have BK521 := n0_; have HB := n1_; have HO525 := n2_; clear n0_ n1_ n2_; clear ho hb hg hat))
       go_roundg k1
       case measure => have := HK1.out; omega
       case rel => exact ⟨(y523), (wrap64 (x12_1 + 1)), au74, H', ⟨by have := HK1.out; omega⟩, ⟨by (with_reducible repeat (first | apply Kd.R_alloc | apply Kd.R_drewN | apply Kd.R_drew)); exact HO525.out⟩, ⟨by repeat (first | (with_reducible first | exact HB.out | apply below_alloc | apply pw_below_drewN | apply below_drew1 | refine below_set ?_ GE521.out) | exact HB.out)⟩⟩
      ·
       rw [if_neg c9] at H
       exact absurd H (by simp)
     ·
      rw [if_neg c7] at H
      exact absurd H (by simp)
    ·
     rw [if_neg c6] at H
     exact absurd H (by simp)
   ·
    rw [if_neg c5] at H
    have c5b0 : decide (x12_1 < (l0.length : Int)) = false := decide_eq_false c5
    clear c5
    by_cases c14 : (x5_1.length : Int) = 0
    ·
     rw [if_pos c14] at H
     have c14b0 : ((x5_1.length : Int) == 0) = true := beq_iff_eq.mpr c14
     have c14b1 : ((x5_1.length : Int) != 0) = false := bne_eq_false_iff_eq.mpr c14
     clear c14
     obtain rfl := Option.some.inj H
     obtain ⟨Ao15, co15, eo15⟩ := Kd.R_slice HO_5.out
     subst eo15
     go_wp2
     go_ret
     exact ax3
    ·
     rw [if_neg c14] at H
     have c14b0 : ((x5_1.length : Int) == 0) = false := beq_eq_false_iff_ne.mpr c14
     have c14b1 : ((x5_1.length : Int) != 0) = true := bne_iff_ne.mpr c14
     have c14b2 : ¬ (x5_1 = []) := fun h_ => c14 (by rw [h_]; rfl)
     by_cases c16 : (x5_1.length : Int) > a1
     ·
      rw [if_pos c16] at H
      have c16b0 : decide (a1 < (x5_1.length : Int)) = true := decide_eq_true c16
      clear c16
      by_cases c17 : 0 < (x5_1.length : Int)
      ·
       rw [if_pos c17] at H
       have c17b0 : decide (0 < (x5_1.length : Int)) = true := decide_eq_true c17
       have c17b1 : decide (0 < x5_1.length) = true := decide_eq_true (by omega)
       clear c17
       by_cases c18 : (rdOf ByteArray.empty x5_1 0).size + 7 ≤ 9223372036854775807
       ·
        rw [if_pos c18] at H
        have c18b0 := eq_true c18
        have c18b1 : decide ((rdOf ByteArray.empty x5_1 0).size + 7 ≤ 9223372036854775807) = true := decide_eq_true c18
        try have c18b2 : (9223372036854775807 < (rdOf ByteArray.empty x5_1 0).size + 7) = False := eq_false (Nat.not_lt.2 c18)
        obtain rfl := Option.some.inj H
        obtain ⟨Ao19, co19, eo19⟩ := Kd.R_slice HO_5.out
        subst eo19
        have p526 : 0 ≤ (0 : Int) := (by omega)
        have q526 : 0 < (x5_1.length : Int) := of_decide_eq_true au73
        obtain ⟨ad526, e526, hx526_0⟩ := Kd.at_string (Kd.R_reads' HO_5.out).2.2 0 p526 q526
        cases e526
        have qi526 : (0 < x5_1.length) = True := eq_true (by omega)
        (try rw [show ((0 : Int)).toNat = 0 from rfl] at hx526_0)
        (try rw [Addr.add_zero'] at hx526_0)
        replace p526 := eq_true p526
        replace q526 := eq_true q526
        go_wp2
        go_ret
        exact ax3
       ·
        rw [if_neg c18] at H
        exact absurd H (by simp)
      ·
       rw [if_neg c17] at H
       exact absurd H (by simp)
     ·
      rw [if_neg c16] at H
      have c16b0 : decide (a1 < (x5_1.length : Int)) = false := decide_eq_false c16
      clear c16
      by_cases c20 : (x5_1.length : Int) = 1
      ·
       rw [if_pos c20] at H
       have c20b0 : ((x5_1.length : Int) == 1) = true := beq_iff_eq.mpr c20
       have c20b1 : ((x5_1.length : Int) != 1) = false := bne_eq_false_iff_eq.mpr c20
       clear c20
       by_cases c21 : 0 < (x5_1.length : Int)
       ·
        rw [if_pos c21] at H
        have c21b0 : decide (0 < (x5_1.length : Int)) = true := decide_eq_true c21
        have c21b1 : decide (0 < x5_1.length) = true := decide_eq_true (by omega)
        clear c21
        obtain rfl := Option.some.inj H
        obtain ⟨Ao22, co22, eo22⟩ := Kd.R_slice HO_5.out
        subst eo22
        have p527 : 0 ≤ (0 : Int) := (by omega)
        have q527 : 0 < (x5_1.length : Int) := of_decide_eq_true au73
        obtain ⟨ad527, e527, hx527_0⟩ := Kd.at_string (Kd.R_reads' HO_5.out).2.2 0 p527 q527
        cases e527
        have qi527 : (0 < x5_1.length) = True := eq_true (by omega)
        (try rw [show ((0 : Int)).toNat = 0 from rfl] at hx527_0)
        (try rw [Addr.add_zero'] at hx527_0)
        replace p527 := eq_true p527
        replace q527 := eq_true q527
        go_wp2
        go_ret
        exact ax3
       ·
        rw [if_neg c21] at H
        exact absurd H (by simp)
      ·
       rw [if_neg c20] at H
       have c20b0 : ((x5_1.length : Int) == 1) = false := beq_eq_false_iff_ne.mpr c20
       have c20b1 : ((x5_1.length : Int) != 1) = true := bne_iff_ne.mpr c20
       obtain ⟨ji23, hji23⟩ : ∃ j_ : Int, (wrap64 ((x5_1.length : Int) - 1)) = j_ := ⟨_, rfl⟩
       replace H : (if 0 ≤ (ji23) then (if (ji23) ≤ (x5_1.length : Int) then ((strings_Join.f (x5_1.take ((ji23) : Int).toNat) (⟨#[44, 32]⟩ : ByteArray)).bind fun t532 => (if t532.size + 5 ≤ 9223372036854775807 then (if (ji23) < (x5_1.length : Int) then (if (t532 ++ (⟨#[32, 97, 110, 100, 32]⟩ : ByteArray)).size + (rdOf ByteArray.empty x5_1 (ji23)).size ≤ 9223372036854775807 then (some ((t532 ++ (⟨#[32, 97, 110, 100, 32]⟩ : ByteArray)) ++ (rdOf ByteArray.empty x5_1 (ji23)))) else (none)) else (none)) else (none))) else (none)) else (none)) = some r := by first | (rw [hji23] at H; exact H) | (simp only [hji23] at H ⊢; exact H)
       have hji23w : (IntKind.i64.wrap ((x5_1.length : Int) - 1)) = ji23 := (i64_w _).trans hji23
       by_cases c24 : 0 ≤ (ji23)
       ·
        rw [if_pos c24] at H
        have c24b0 := eq_true c24
        have c24b1 : decide (0 ≤ (ji23)) = true := decide_eq_true c24
        clear c24
        by_cases c25 : (ji23) ≤ (x5_1.length : Int)
        ·
         rw [if_pos c25] at H
         have c25b0 := eq_true c25
         have c25b1 : decide ((ji23) ≤ (x5_1.length : Int)) = true := decide_eq_true c25
         clear c25
         obtain ⟨y528, hy528⟩ : ∃ y_ : List ByteArray, y_ = (x5_1.take ((ji23) : Int).toNat) := ⟨_, rfl⟩
         replace H : ((strings_Join.f y528 (⟨#[44, 32]⟩ : ByteArray)).bind fun t532 => (if t532.size + 5 ≤ 9223372036854775807 then (if (ji23) < (x5_1.length : Int) then (if (t532 ++ (⟨#[32, 97, 110, 100, 32]⟩ : ByteArray)).size + (rdOf ByteArray.empty x5_1 (ji23)).size ≤ 9223372036854775807 then (some ((t532 ++ (⟨#[32, 97, 110, 100, 32]⟩ : ByteArray)) ++ (rdOf ByteArray.empty x5_1 (ji23)))) else (none)) else (none)) else (none))) = some r := by first | (rw [hy528]; with_reducible exact H) | (have H2_ := (Option.bind_some _ _).symm.trans H; rw [hy528]; with_reducible exact H2_) | (have H2_ := (Option.bind_some _ _).symm.trans H; with_reducible exact H2_) | with_reducible exact H | (rw [hy528]; exact H) | exact H
         have Ny528 := Aside0.mk hy528
         clear hy528
         replace H := Option.bind_eq_some_iff.mp H
         obtain ⟨t532, A260, H⟩ := H
         try dsimp only at H
         have A26 := Aside0.mk A260
         clear A260
         by_cases c27 : t532.size + 5 ≤ 9223372036854775807
         ·
          rw [if_pos c27] at H
          have c27b0 := eq_true c27
          have c27b1 : decide (t532.size + 5 ≤ 9223372036854775807) = true := decide_eq_true c27
          try have c27b2 : (9223372036854775807 < t532.size + 5) = False := eq_false (Nat.not_lt.2 c27)
          by_cases c28 : (ji23) < (x5_1.length : Int)
          ·
           rw [if_pos c28] at H
           have c28b0 : decide ((ji23) < (x5_1.length : Int)) = true := decide_eq_true c28
           clear c28
           by_cases c29 : (t532 ++ (⟨#[32, 97, 110, 100, 32]⟩ : ByteArray)).size + (rdOf ByteArray.empty x5_1 (ji23)).size ≤ 9223372036854775807
           ·
            rw [if_pos c29] at H
            have c29b0 := eq_true c29
            have c29b1 : decide ((t532 ++ (⟨#[32, 97, 110, 100, 32]⟩ : ByteArray)).size + (rdOf ByteArray.empty x5_1 (ji23)).size ≤ 9223372036854775807) = true := decide_eq_true c29
            try have c29b2 : (9223372036854775807 < (t532 ++ (⟨#[32, 97, 110, 100, 32]⟩ : ByteArray)).size + (rdOf ByteArray.empty x5_1 (ji23)).size) = False := eq_false (Nat.not_lt.2 c29)
            try have c29x : (9223372036854775807 < t532.size + 5 + (rdOf ByteArray.empty x5_1 (ji23)).size) = False := eq_false (by have z_ := c29; simp only [ByteArray.size_append] at z_; have hl0_ : (⟨#[32, 97, 110, 100, 32]⟩ : ByteArray).size = 5 := rfl; omega)
            obtain rfl := Option.some.inj H
            obtain ⟨Ao30, co30, eo30⟩ := Kd.R_slice HO_5.out
            subst eo30
            try go_wp2
            have n0_ := Aside0.mk (Kd.R_drew HO_5.out)
            have n1_ := Aside0.mk (below_drew1 HB.out)
            clear HO_5
            clear HB
            have HO_5 := n0_
            have HB := n1_
            clear n0_ n1_
            have q32 : ((ji23) : Int) ≤ ((x5_1.length : Int) : Int) := of_decide_eq_true au73
            obtain ⟨i032, hi032, _, hsz32, _⟩ := info_parts info9
            have hroom32 : x5_1.length ≤ co30 := (Kd.R_reads' HO_5.out).2.1
            have hC32 : Kd.C Kd.string _ Ao30 x5_1.length x5_1 := (Kd.R_reads' HO_5.out).2.2
            have hcut32 := cut_to (P := Tryd.prog) 24 9 .i64 Tryd.underlying24 hi032 Ao30 x5_1.length co30 (ji23) (of_decide_eq_true au73) q32 hroom32
            have hr32 := Kd.C_take (m := ((ji23) : Int).toNat) hC32 (by omega)
            have hy32 : y528.length = ((ji23) : Int).toNat := (by rw [Ny528.out, List.length_take]; omega)
            rw [← Ny528.out] at hr32
            rw [← hy32] at hcut32
            have HR531 := Aside0.mk hr32
            have HC531 := Aside0.mk (show y528.length ≤ co30 from by omega)
            clear hr32 hC32 hroom32 hi032 hsz32
            have KY32 := Aside0.mk hy32
            clear hy32
            have KL32 := Aside0.mk (show ((ji23) : Int).toNat ≤ x5_1.length from by omega)
            replace q32 := eq_true q32
            have p533 : 0 ≤ ((ji23) : Int) := of_decide_eq_true au73
            have q533 : (ji23) < (x5_1.length : Int) := of_decide_eq_true au73
            obtain ⟨ad533, e533, hx533_0⟩ := Kd.at_string (Kd.R_reads' HO_5.out).2.2 (ji23) p533 q533
            cases e533
            replace p533 := eq_true p533
            replace q533 := eq_true q533
            refine start_ (n := 11) (S := fun w' => w'.cell? (ad533.add ((ji23)).toNat) = some (.string (rdOf ByteArray.empty x5_1 (ji23)))) (ds := []) #[false, false, false, false, false, false, false, false, false, false, false] (by kernel_rfl) rfl rfl (hx533_0) (fun hHeld => ?_); refine with_tabW impl_joinNames.tab14 impl_joinNames.bits14 (fun HT_ HW_ => ?_)
            generalize wr.drew = w31 at HO_5 HB HR531 hx533_0 hHeld ⊢
            refine pure_ (i := 0) (N := some 45) (v := ?_) (a' := ?_) #[true, false, false, false, false, false, false, false, false, false, false] rfl rfl (any_of HT_.out (by kernel_rfl)) (fun _ _ _ h => h) (Or.inl ⟨by rfl, ?_⟩) ?_ ?_
            rotate_left
            ·
             intro w'
             go_simp
             with_reducible rfl
            rotate_left
            ·
             simp only [Act.put, List.setIfInBounds_toArray, List.set_cons_zero, List.set_cons_succ, i64_w, i32_w]
             rfl
            refine pure_ (i := 1) (N := some 46) (v := ?_) (a' := ?_) #[true, true, false, false, false, false, false, false, false, false, false] rfl rfl (any_of HT_.out (by kernel_rfl)) (fun _ _ _ h => h) (Or.inl ⟨by rfl, ?_⟩) ?_ ?_
            rotate_left
            ·
             intro w'
             go_simp
             with_reducible rfl
            rotate_left
            ·
             simp only [Act.put, List.setIfInBounds_toArray, List.set_cons_zero, List.set_cons_succ, i64_w, i32_w]
             rfl
            refine pure_ (i := 2) (N := some 47) (v := ?_) (a' := ?_) #[true, true, true, false, false, false, false, false, false, false, false] rfl rfl (any_of HT_.out (by kernel_rfl)) (fun _ _ _ h => h) (Or.inl ⟨by rfl, ?_⟩) ?_ ?_
            rotate_left
            ·
             intro w'
             go_simp
             with_reducible rfl
            rotate_left
            ·
             simp only [Act.put, List.setIfInBounds_toArray, List.set_cons_zero, List.set_cons_succ, i64_w, i32_w]
             rfl
            refine pure_ (i := 5) (N := some 50) (v := ?_) (a' := ?_) #[true, true, true, false, false, true, false, false, false, false, false] rfl rfl (any_of HT_.out (by kernel_rfl)) (fun _ _ _ h => h) (Or.inl ⟨by rfl, ?_⟩) ?_ ?_
            rotate_left
            ·
             intro w'
             go_simp
             with_reducible rfl
            rotate_left
            ·
             simp only [Act.put, List.setIfInBounds_toArray, List.set_cons_zero, List.set_cons_succ, i64_w, i32_w]
             rfl
            refine pure_ (i := 6) (N := some 51) (v := ?_) (a' := ?_) #[true, true, true, false, false, true, true, false, false, false, false] rfl rfl (any_of HT_.out (by kernel_rfl)) (fun _ _ _ h => h) (Or.inl ⟨by rfl, ?_⟩) ?_ ?_
            rotate_left
            ·
             intro w'
             go_simp
             with_reducible rfl
            rotate_left
            ·
             simp only [Act.put, List.setIfInBounds_toArray, List.set_cons_zero, List.set_cons_succ, i64_w, i32_w]
             rfl
            refine pure_ (i := 7) (N := some 52) (v := ?_) (a' := ?_) #[true, true, true, false, false, true, true, true, false, false, false] rfl rfl (any_of HT_.out (by kernel_rfl)) (fun _ _ _ h => h) (Or.inl ⟨by rfl, ?_⟩) ?_ ?_
            rotate_left
            ·
             intro w'
             go_simp
             with_reducible rfl
            rotate_left
            ·
             simp only [Act.put, List.setIfInBounds_toArray, List.set_cons_zero, List.set_cons_succ, i64_w, i32_w]
             rfl
            refine take_ (i := 8) (N := some 53) (v := ?_) (a' := ?_) #[true, true, true, false, false, true, true, true, true, false, false] rfl rfl (take_ofW HT_.out HW_.out (by kernel_rfl)) (fun _ _ _ h => h) (Or.inl ⟨by rfl, ?_⟩) hHeld ?_ ?_
            rotate_left
            ·
             intro w' s0
             go_simp
             with_reducible rfl
            rotate_left
            ·
             simp only [Act.put, List.setIfInBounds_toArray, List.set_cons_zero, List.set_cons_succ, i64_w, i32_w]
             rfl
            refine one_ (i := 3) (N := some 48) #[true, true, true, true, false, true, true, true, true, false, false] rfl rfl (one_of HT_.out (by kernel_rfl)) (by decide) (fun K hK => ?_)
            refine goes_ Tryd.func66 (by kernel_rfl) rfl #[.slice (some ad533) y528.length co30, .string (⟨#[44, 32]⟩ : ByteArray)] (by rfl) rfl rfl au37 ?_
            with_reducible refine (strings_Join.calls _ _ y528 (⟨#[44, 32]⟩ : ByteArray) t532 _ ?side1 ?side2 A26.out).mono ?_
            (case side1 => repeat (first | exact au15 | (with_reducible refine Kd.C_alloc ?_ _) | (with_reducible refine Kd.C_drewN ?_ _) | (with_reducible refine Kd.C_drew ?_)))
            (case side2 => exact HC531.out)
            rintro e w33 ⟨rfl, hb⟩
            have HS0_ := (hb.cell (World.block_lt_of_cell? _ _ (hHeld))).trans (hHeld)
            refine ⟨_, rfl, ?_⟩
            have n0_ := Aside0.mk (Kd.R_below au71 hb)
            have n1_ := Aside0.mk (Kd.C_below au15 hb)
            have n2_ := Aside0.mk (below_step au38 hb)
            clear HO_5
            clear HR531
            clear HB
            have HO_5 := n0_
            have HR531 := n1_
            have HB := n2_
            clear n0_ n1_ n2_
            (try clear hb)
            (try clear hb2)
            (try clear hk)
            (try clear hi)
            refine hK.out _ _ (HS0_) (fun hHeld => ?_)
            clear hK K
            refine norm_ (a' := ?_) ?_ ?_
            rotate_left
            ·
             show Act.put _ (some 48) _ = _
             simp only [Act.put, List.setIfInBounds_toArray, List.set_cons_zero, List.set_cons_succ, i64_w, i32_w]
             rfl
            refine pure_ (i := 4) (N := some 49) (v := ?_) (a' := ?_) #[true, true, true, true, true, true, true, true, true, false, false] rfl rfl (any_of HT_.out (by kernel_rfl)) (fun _ _ _ h => h) (Or.inl ⟨by rfl, ?_⟩) ?_ ?_
            rotate_left
            ·
             intro w'
             go_simp
             with_reducible rfl
            rotate_left
            ·
             simp only [Act.put, List.setIfInBounds_toArray, List.set_cons_zero, List.set_cons_succ, i64_w, i32_w]
             rfl
            refine pure_ (i := 9) (N := some 54) (v := ?_) (a' := ?_) #[true, true, true, true, true, true, true, true, true, true, false] rfl rfl (any_of HT_.out (by kernel_rfl)) (fun _ _ _ h => h) (Or.inl ⟨by rfl, ?_⟩) ?_ ?_
            rotate_left
            ·
             intro w'
             go_simp
             with_reducible rfl
            rotate_left
            ·
             simp only [Act.put, List.setIfInBounds_toArray, List.set_cons_zero, List.set_cons_succ, i64_w, i32_w]
             rfl
            refine pure_ (i := 10) (N := some 4) (v := ?_) (a' := ?_) #[true, true, true, true, true, true, true, true, true, true, true] rfl rfl (any_of HT_.out (by kernel_rfl)) (fun _ _ _ h => h) (Or.inl ⟨by rfl, ?_⟩) ?_ ?_
            rotate_left
            ·
             intro w'
             go_simp
             with_reducible rfl
            rotate_left
            ·
             simp only [Act.put, List.setIfInBounds_toArray, List.set_cons_zero, List.set_cons_succ, i64_w, i32_w]
             rfl
            refine done_ (done_of HT_.out (by kernel_rfl)) ?_
            try go_wp2
            go_ret
            exact ⟨by first | rfl | (simp [errW_none, errW_some] <;> rfl) | (simp only [← hji23]; first | rfl | (simp [errW_none, errW_some] <;> rfl)) | (simp [*, errW_none, errW_some] <;> rfl), by repeat (first | (with_reducible first | exact HB.out | apply below_alloc | apply pw_below_drewN | apply below_drew1) | exact HB.out)⟩
           ·
            rw [if_neg c29] at H
            exact absurd H (by simp)
          ·
           rw [if_neg c28] at H
           exact absurd H (by simp)
         ·
          rw [if_neg c27] at H
          exact absurd H (by simp)
        ·
         rw [if_neg c25] at H
         exact absurd H (by simp)
       ·
        rw [if_neg c24] at H
        exact absurd H (by simp)


/-! ### impl_JoinNames: function 13 -/
def impl_JoinNames.f (k : Nat) (l0 : List (S26)) (a1 : Int) : Option (ByteArray × Bool) := (impl_areNames.f k l0).bind fun t534 => (if t534 = true then ((impl_isLimit.f a1).bind fun t535 => (if t535 = true then ((impl_joinNames.f k l0 a1).bind fun t536 => (some (t536, true))) else (some ((⟨#[]⟩ : ByteArray), false)))) else (some ((⟨#[]⟩ : ByteArray), false)))
theorem impl_JoinNames.mono : ∀ a0 a1 k, LeO (impl_JoinNames.f k a0 a1) (impl_JoinNames.f (k + 1) a0 a1) := by
 intro a0 a1 k
 unfold impl_JoinNames.f
 repeat' first
   | (with_reducible exact impl_areNames.mono _ _)
   | (with_reducible exact impl_joinNames.mono _ _ _)
   | (with_reducible exact LeO.refl _)
   | (with_reducible exact LeO.none _)
   | (with_reducible refine LeO.ite ?_ ?_)
   | (with_reducible refine LeO.bind ?_ (fun _ => ?_))
   | exact impl_areNames.mono _ _
   | exact impl_joinNames.mono _ _ _
   | exact LeO.none _
   | refine LeO.ite ?_ ?_
   | refine LeO.bind ?_ (fun _ => ?_)
set_option maxHeartbeats 8000000 in
set_option maxRecDepth 100000 in
theorem impl_JoinNames.calls (k : Nat) (A0 : Option Addr) (c0 : Nat) (l0 : List (S26)) (a1 : Int) (r1 : ByteArray) (r2 : Bool) (w : World) {gF1 gF2 gF3 : Bool} (hG : GL gF1 gF2 gF3 w) (hr0 : Kd.C k26 w A0 l0.length l0) (hc0 : l0.length ≤ c0) (h : impl_JoinNames.f k l0 a1 = some (r1, r2)) :
  Calls Tryd.prog 13 #[.slice A0 l0.length c0, .int .i64 a1] w fun e w' => e = .returned (.tuple #[.string r1, .bool r2]) ∧ Below w.heap.size w w' := by
 have HG := Aside0.mk hG
 clear hG
 have HR0 := Aside0.mk hr0
 have HC0 := Aside0.mk hc0
 clear hr0 hc0
 have HB := Aside0.mk (Below.refl w.heap.size w)
 have H : ((impl_areNames.f k l0).bind fun t534 => (if t534 = true then ((impl_isLimit.f a1).bind fun t535 => (if t535 = true then ((impl_joinNames.f k l0 a1).bind fun t536 => (some (t536, true))) else (some ((⟨#[]⟩ : ByteArray), false)))) else (some ((⟨#[]⟩ : ByteArray), false)))) = some (r1, r2) := h
 clear h
 replace H := Option.bind_eq_some_iff.mp H
 obtain ⟨t534, A30, H⟩ := H
 try dsimp only at H
 have A3 := Aside0.mk A30
 clear A30
 by_cases c4 : t534 = true
 ·
  subst c4
  replace H := (if_pos rfl).symm.trans H
  replace H := Option.bind_eq_some_iff.mp H
  obtain ⟨t535, A50, H⟩ := H
  try dsimp only at H
  have A5 := Aside0.mk A50
  clear A50
  by_cases c6 : t535 = true
  ·
   subst c6
   replace H := (if_pos rfl).symm.trans H
   replace H := Option.bind_eq_some_iff.mp H
   obtain ⟨t536, A70, H⟩ := H
   try dsimp only at H
   have A7 := Aside0.mk A70
   clear A70
   simp only [Option.some.injEq, Prod.mk.injEq] at H
   obtain ⟨rfl, rfl⟩ := H
   go_enter Tryd.func13, Tryd.ntmps13
   go_wp2_with (first | ((with_reducible refine gate_callee (f := 28) rfl ?_); refine goesL_ (some 7) rfl rfl Tryd.func28 (by kernel_rfl) rfl #[.slice A0 l0.length c0] rfl au37 ?_; (with_reducible refine (impl_areNames.calls (hG := au2) k _ _ l0 true _ ?side1 ?side2 A3.out).mono ?_); (case side1 => repeat (first | exact HR0.out | (with_reducible refine Kd.C_alloc ?_ _) | (with_reducible refine Kd.C_drewN ?_ _) | (with_reducible refine Kd.C_drew ?_))); (case side2 => exact HC0.out); rintro e w8 ⟨rfl, hb⟩; refine ⟨_, rfl, ?_⟩; have n0_ := Aside0.mk (below_step au38 hb); clear HB; have HB := n0_; clear n0_; (try clear hb); (try clear hb2); (try clear hk); (try clear hi)) | (go_at_call 29; (with_reducible refine (impl_isLimit.calls a1 true _ A5.out).mono ?_); rintro e w' ⟨rfl, ⟨nd, rfl⟩⟩) | ((with_reducible refine gate_callee (f := 30) rfl ?_); refine goesL_ (some 16) rfl rfl Tryd.func30 (by kernel_rfl) rfl #[.slice A0 l0.length c0, .int .i64 a1] rfl au37 ?_; (with_reducible refine (impl_joinNames.calls k _ _ l0 a1 t536 _ ?side1 ?side2 A7.out).mono ?_); (case side1 => repeat (first | exact (Kd.C_below HR0.out au38) | (with_reducible refine Kd.C_alloc ?_ _) | (with_reducible refine Kd.C_drewN ?_ _) | (with_reducible refine Kd.C_drew ?_))); (case side2 => exact HC0.out); rintro e w9 ⟨rfl, hb⟩; refine ⟨_, rfl, ?_⟩; have n0_ := Aside0.mk (below_step au38 hb); clear HB; have HB := n0_; clear n0_; (try clear hb); (try clear hb2); (try clear hk); (try clear hi)))
   go_ret2
   exact ax3
  ·
   replace c6 := Bool.eq_false_iff.mpr c6
   subst c6
   replace H := (if_neg (show ¬ (false = true) by decide)).symm.trans H
   simp only [Option.some.injEq, Prod.mk.injEq] at H
   obtain ⟨rfl, rfl⟩ := H
   go_enter Tryd.func13, Tryd.ntmps13
   go_wp2_with (first | ((with_reducible refine gate_callee (f := 28) rfl ?_); refine goesL_ (some 7) rfl rfl Tryd.func28 (by kernel_rfl) rfl #[.slice A0 l0.length c0] rfl au37 ?_; (with_reducible refine (impl_areNames.calls (hG := au2) k _ _ l0 true _ ?side1 ?side2 A3.out).mono ?_); (case side1 => repeat (first | exact HR0.out | (with_reducible refine Kd.C_alloc ?_ _) | (with_reducible refine Kd.C_drewN ?_ _) | (with_reducible refine Kd.C_drew ?_))); (case side2 => exact HC0.out); rintro e w10 ⟨rfl, hb⟩; refine ⟨_, rfl, ?_⟩; have n0_ := Aside0.mk (below_step au38 hb); clear HB; have HB := n0_; clear n0_; (try clear hb); (try clear hb2); (try clear hk); (try clear hi)) | (go_at_call 29; (with_reducible refine (impl_isLimit.calls a1 false _ A5.out).mono ?_); rintro e w' ⟨rfl, ⟨nd, rfl⟩⟩))
   go_ret2
   exact ax3
 ·
  replace c4 := Bool.eq_false_iff.mpr c4
  subst c4
  replace H := (if_neg (show ¬ (false = true) by decide)).symm.trans H
  simp only [Option.some.injEq, Prod.mk.injEq] at H
  obtain ⟨rfl, rfl⟩ := H
  go_enter Tryd.func13, Tryd.ntmps13
  go_wp2_with (first | ((with_reducible refine gate_callee (f := 28) rfl ?_); refine goesL_ (some 7) rfl rfl Tryd.func28 (by kernel_rfl) rfl #[.slice A0 l0.length c0] rfl au37 ?_; (with_reducible refine (impl_areNames.calls (hG := au2) k _ _ l0 false _ ?side1 ?side2 A3.out).mono ?_); (case side1 => repeat (first | exact HR0.out | (with_reducible refine Kd.C_alloc ?_ _) | (with_reducible refine Kd.C_drewN ?_ _) | (with_reducible refine Kd.C_drew ?_))); (case side2 => exact HC0.out); rintro e w11 ⟨rfl, hb⟩; refine ⟨_, rfl, ?_⟩; have n0_ := Aside0.mk (below_step au38 hb); clear HB; have HB := n0_; clear n0_; (try clear hb); (try clear hb2); (try clear hk); (try clear hi)))
  go_ret2
  exact ax3


/-! ### spec_l1In: function 32 -/
def spec_l1In.f (a0 : Int) (a1 : Int) (a2 : Int) : Option (Bool) := if a0 ≥ a1 then (some (decide (a0 ≤ a2))) else (some false)
set_option maxHeartbeats 8000000 in
set_option maxRecDepth 100000 in
theorem spec_l1In.calls (a0 : Int) (a1 : Int) (a2 : Int) (r : Bool) (w : World) (h : spec_l1In.f a0 a1 a2 = some r) :
  Calls Tryd.prog 32 #[.int .i64 a0, .int .i64 a1, .int .i64 a2] w fun e w' => e = .returned (.bool r) ∧ Drawn0 w w' := by
 have H : (if a0 ≥ a1 then (some (decide (a0 ≤ a2))) else (some false)) = some r := h
 clear h
 by_cases c4 : a0 ≥ a1
 ·
  rw [if_pos c4] at H
  have c4b0 : decide (a1 ≤ a0) = true := decide_eq_true c4
  clear c4
  obtain rfl := Option.some.inj H
  go_enter Tryd.func32, Tryd.ntmps32
  go_wp2
  go_ret
  exact ax1
 ·
  rw [if_neg c4] at H
  have c4b0 : decide (a1 ≤ a0) = false := decide_eq_false c4
  clear c4
  obtain rfl := Option.some.inj H
  go_enter Tryd.func32, Tryd.ntmps32
  go_wp2
  go_ret
  exact ax1


/-! ### spec_l2Upper: function 52 -/
def spec_l2Upper.f (a0 : Int) : Option (Bool) := if a0 ≥ 65 then (some (decide (a0 ≤ 90))) else (some false)
set_option maxHeartbeats 8000000 in
set_option maxRecDepth 100000 in
theorem spec_l2Upper.calls (a0 : Int) (r : Bool) (w : World) (h : spec_l2Upper.f a0 = some r) :
  Calls Tryd.prog 52 #[.int .u8 a0] w fun e w' => e = .returned (.bool r) ∧ Drawn0 w w' := by
 have H : (if a0 ≥ 65 then (some (decide (a0 ≤ 90))) else (some false)) = some r := h
 clear h
 by_cases c2 : a0 ≥ 65
 ·
  rw [if_pos c2] at H
  have c2b0 : decide (65 ≤ a0) = true := decide_eq_true c2
  clear c2
  obtain rfl := Option.some.inj H
  go_enter Tryd.func52, Tryd.ntmps52
  go_wp2
  go_ret
  exact ax1
 ·
  rw [if_neg c2] at H
  have c2b0 : decide (65 ≤ a0) = false := decide_eq_false c2
  clear c2
  obtain rfl := Option.some.inj H
  go_enter Tryd.func52, Tryd.ntmps52
  go_wp2
  go_ret
  exact ax1


/-! ### spec_l2Lower: function 78 -/
def spec_l2Lower.f (a0 : Int) : Option (Bool) := if a0 ≥ 97 then (some (decide (a0 ≤ 122))) else (some false)
set_option maxHeartbeats 8000000 in
set_option maxRecDepth 100000 in
theorem spec_l2Lower.calls (a0 : Int) (r : Bool) (w : World) (h : spec_l2Lower.f a0 = some r) :
  Calls Tryd.prog 78 #[.int .u8 a0] w fun e w' => e = .returned (.bool r) ∧ Drawn0 w w' := by
 have H : (if a0 ≥ 97 then (some (decide (a0 ≤ 122))) else (some false)) = some r := h
 clear h
 by_cases c2 : a0 ≥ 97
 ·
  rw [if_pos c2] at H
  have c2b0 : decide (97 ≤ a0) = true := decide_eq_true c2
  clear c2
  obtain rfl := Option.some.inj H
  go_enter Tryd.func78, Tryd.ntmps78
  go_wp2
  go_ret
  exact ax1
 ·
  rw [if_neg c2] at H
  have c2b0 : decide (97 ≤ a0) = false := decide_eq_false c2
  clear c2
  obtain rfl := Option.some.inj H
  go_enter Tryd.func78, Tryd.ntmps78
  go_wp2
  go_ret
  exact ax1


/-! ### spec_l2Letter: function 76 -/
def spec_l2Letter.f (a0 : Int) : Option (Bool) := (spec_l2Upper.f a0).bind fun t302 => (if t302 = true then (some true) else ((spec_l2Lower.f a0).bind fun t303 => (some t303)))
set_option maxHeartbeats 8000000 in
set_option maxRecDepth 100000 in
theorem spec_l2Letter.calls (a0 : Int) (r : Bool) (w : World) (h : spec_l2Letter.f a0 = some r) :
  Calls Tryd.prog 76 #[.int .u8 a0] w fun e w' => e = .returned (.bool r) ∧ Drawn0 w w' := by
 have H : ((spec_l2Upper.f a0).bind fun t302 => (if t302 = true then (some true) else ((spec_l2Lower.f a0).bind fun t303 => (some t303)))) = some r := h
 clear h
 replace H := Option.bind_eq_some_iff.mp H
 obtain ⟨t302, A20, H⟩ := H
 try dsimp only at H
 have A2 := Aside0.mk A20
 clear A20
 by_cases c3 : t302 = true
 ·
  subst c3
  replace H := (if_pos rfl).symm.trans H
  obtain rfl := Option.some.inj H
  go_enter Tryd.func76, Tryd.ntmps76
  go_wp2_with (first | ((with_reducible refine gate_callee (f := 52) rfl ?_); refine goesL_ (some 4) rfl rfl Tryd.func52 (by kernel_rfl) rfl #[.int .u8 a0] rfl au37 ?_; (with_reducible refine (spec_l2Upper.calls a0 true _ A2.out).mono ?_); rintro e w' ⟨rfl, ⟨nd, rfl⟩⟩; refine ⟨_, rfl, ?_⟩))
  go_ret
  exact ax1
 ·
  replace c3 := Bool.eq_false_iff.mpr c3
  subst c3
  replace H := (if_neg (show ¬ (false = true) by decide)).symm.trans H
  replace H := Option.bind_eq_some_iff.mp H
  obtain ⟨t303, A40, H⟩ := H
  try dsimp only at H
  have A4 := Aside0.mk A40
  clear A40
  obtain rfl := Option.some.inj H
  go_enter Tryd.func76, Tryd.ntmps76
  go_wp2_with (first | ((with_reducible refine gate_callee (f := 52) rfl ?_); refine goesL_ (some 4) rfl rfl Tryd.func52 (by kernel_rfl) rfl #[.int .u8 a0] rfl au37 ?_; (with_reducible refine (spec_l2Upper.calls a0 false _ A2.out).mono ?_); rintro e w' ⟨rfl, ⟨nd, rfl⟩⟩; refine ⟨_, rfl, ?_⟩) | (go_at_call 78; (with_reducible refine (spec_l2Lower.calls a0 t303 _ A4.out).mono ?_); rintro e w' ⟨rfl, ⟨nd, rfl⟩⟩))
  go_ret
  exact ax1

end Go.Proofs.YtieieapacepabaaDoor.G
