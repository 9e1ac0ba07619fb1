/- Texts of this session for the law FnExactCompareNames, put together by a program (merge.py): each ends with its namespace; conditions stand with each theorem. -/
import Derived.Test.YtcckamdpncbkoaaDoorKFnExactCompareNames2
import Derived.Test.YtcckamdpncbkoaaDoorKFnExactCompareNames3
import Derived.Test.YtcckamdpncbkoaaDoorKFnExactCompareNames4
import Derived.Test.YtcckamdpncbkoaaDoorKFnExactCompareNames1
import Derived.Deep.Slices
import Derived.Lib.SplitLaws
import Derived.Lib.IndexBytes
import Derived.Lib.IndexLaws
namespace Go.Proofs.YtcckamdpncbkoaaDoor.G
open Go.RowKit Go.Proofs.YtcckamdpncbkoaaDoorW.PrintWords Go.Proofs.YtcckamdpncbkoaaDoorW.PrintLast Go.Proofs.YtcckamdpncbkoaaDoorW.PrintMore
open Go.Proofs.YtcckamdpncbkoaaDoor.Gl Go.Proofs.YtcckamdpncbkoaaDoor.Ext
attribute [local go_sem] max2_int min2_int max_two min_two max_three min_three max_four min_four   -- for this text's walks alone
set_option linter.unusedVariables false
set_option linter.unusedSimpArgs false

/-! ### laws_FnExactCompareNames: function 11 -/
def laws_FnExactCompareNames.j0 : Nat → Bool → List ByteArray → ByteArray → ByteArray → ByteArray → List ByteArray → ByteArray → ByteArray → ByteArray → List ByteArray → ByteArray → ByteArray → ByteArray → List ByteArray → ByteArray → ByteArray → ByteArray → Option (Bool)
  | 0, _, _, _, _, _, _, _, _, _, _, _, _, _, _, _, _, _ => none
  | k + 1, x47, x661000, x661001, x661002, x661003, x662000, x662001, x662002, x662003, x685000, x685001, x685002, x685003, x692000, x692001, x692002, x692003 => if x47 = true then (some false) else ((laws_toName.f k x661000 x661001 x661002 x661003).bind fun bt694 => ((laws_eqName.f k x685000 x685001 x685002 x685003 bt694.1 bt694.2.1 bt694.2.2.1 bt694.2.2.2).bind fun t700 => (if t700 = true then ((laws_toName.f k x662000 x662001 x662002 x662003).bind fun bt701 => ((laws_eqName.f k x692000 x692001 x692002 x692003 bt701.1 bt701.2.1 bt701.2.2.1 bt701.2.2.2).bind fun t707 => (if t707 = true then (some true) else (some false)))) else (some false))))
def laws_FnExactCompareNames.f (k : Nat) (l0_0 : List ByteArray) (a0_1 : ByteArray) (a0_2 : ByteArray) (a0_3 : ByteArray) (l1_0 : List ByteArray) (a1_1 : ByteArray) (a1_2 : ByteArray) (a1_3 : ByteArray) : Option (Bool) := (laws_szName.f k l0_0 a0_1 a0_2 a0_3 1048576).bind fun t662 => (if t662 < 0 then (some true) else ((laws_szName.f k l1_0 a1_1 a1_2 a1_3 t662).bind fun t663 => (if t663 < 0 then (some true) else ((laws_toName.f k l0_0 a0_1 a0_2 a0_3).bind fun bt664 => ((laws_toName.f k l1_0 a1_1 a1_2 a1_3).bind fun bt670 => ((spec_CompareNames.f k bt664.1 bt664.2.1 bt664.2.2.1 bt664.2.2.2 bt670.1 bt670.2.1 bt670.2.2.1 bt670.2.2.2).bind fun bt676 => ((laws_toName.f k l0_0 a0_1 a0_2 a0_3).bind fun bt678 => ((laws_toName.f k l1_0 a1_1 a1_2 a1_3).bind fun bt685 => ((impl_CompareNames.f k bt678.1 bt678.2.1 bt678.2.2.1 bt678.2.2.2 bt685.1 bt685.2.1 bt685.2.2.1 bt685.2.2.2).bind fun bt692 => (if bt692.1 = bt676.1 then (laws_FnExactCompareNames.j0 k (bt692.2 != bt676.2) l0_0 a0_1 a0_2 a0_3 l1_0 a1_1 a1_2 a1_3 bt678.1 bt678.2.1 bt678.2.2.1 bt678.2.2.2 bt685.1 bt685.2.1 bt685.2.2.1 bt685.2.2.2) else (laws_FnExactCompareNames.j0 k true l0_0 a0_1 a0_2 a0_3 l1_0 a1_1 a1_2 a1_3 bt678.1 bt678.2.1 bt678.2.2.1 bt678.2.2.2 bt685.1 bt685.2.1 bt685.2.2.1 bt685.2.2.2)))))))))))
theorem laws_FnExactCompareNames.mono_l : ∀ k, (∀ y0 y1 y2 y3 y4 y5 y6 y7 y8 y9 y10 y11 y12 y13 y14 y15 y16, LeO (laws_FnExactCompareNames.j0 k y0 y1 y2 y3 y4 y5 y6 y7 y8 y9 y10 y11 y12 y13 y14 y15 y16) (laws_FnExactCompareNames.j0 (k + 1) y0 y1 y2 y3 y4 y5 y6 y7 y8 y9 y10 y11 y12 y13 y14 y15 y16))
  | 0 => fun _ _ _ _ _ _ _ _ _ _ _ _ _ _ _ _ _ r h => by simp [laws_FnExactCompareNames.j0] at h
  | k + 1 => by
    have ih0 := laws_FnExactCompareNames.mono_l k
    · intro y0 y1 y2 y3 y4 y5 y6 y7 y8 y9 y10 y11 y12 y13 y14 y15 y16
      unfold laws_FnExactCompareNames.j0
      repeat' first
      | (with_reducible exact ih0 _ _ _ _ _ _ _ _ _ _ _ _ _ _ _ _ _)
      | (with_reducible exact impl_CompareNames.mono _ _ _ _ _ _ _ _ _)
      | (with_reducible exact laws_eqName.mono _ _ _ _ _ _ _ _ _)
      | (with_reducible exact laws_szName.mono _ _ _ _ _ _)
      | (with_reducible exact laws_toName.mono _ _ _ _ _)
      | (with_reducible exact spec_CompareNames.mono _ _ _ _ _ _ _ _ _)
      | (with_reducible exact LeO.refl _)
      | (with_reducible exact LeO.none _)
      | (with_reducible refine LeO.ite ?_ ?_)
      | (with_reducible refine LeO.bind ?_ (fun _ => ?_))
      | exact ih0 _ _ _ _ _ _ _ _ _ _ _ _ _ _ _ _ _
      | exact impl_CompareNames.mono _ _ _ _ _ _ _ _ _
      | exact laws_eqName.mono _ _ _ _ _ _ _ _ _
      | exact laws_szName.mono _ _ _ _ _ _
      | exact laws_toName.mono _ _ _ _ _
      | exact spec_CompareNames.mono _ _ _ _ _ _ _ _ _
      | exact LeO.none _
      | refine LeO.ite ?_ ?_
      | refine LeO.bind ?_ (fun _ => ?_)
theorem laws_FnExactCompareNames.mono : ∀ a0 a1 a2 a3 a4 a5 a6 a7 k, LeO (laws_FnExactCompareNames.f k a0 a1 a2 a3 a4 a5 a6 a7) (laws_FnExactCompareNames.f (k + 1) a0 a1 a2 a3 a4 a5 a6 a7) := by
  intro a0 a1 a2 a3 a4 a5 a6 a7 k
  have ih0 := laws_FnExactCompareNames.mono_l k
  unfold laws_FnExactCompareNames.f
  repeat' first
      | (with_reducible exact ih0 _ _ _ _ _ _ _ _ _ _ _ _ _ _ _ _ _)
      | (with_reducible exact impl_CompareNames.mono _ _ _ _ _ _ _ _ _)
      | (with_reducible exact laws_eqName.mono _ _ _ _ _ _ _ _ _)
      | (with_reducible exact laws_szName.mono _ _ _ _ _ _)
      | (with_reducible exact laws_toName.mono _ _ _ _ _)
      | (with_reducible exact spec_CompareNames.mono _ _ _ _ _ _ _ _ _)
      | (with_reducible exact LeO.refl _)
      | (with_reducible exact LeO.none _)
      | (with_reducible refine LeO.ite ?_ ?_)
      | (with_reducible refine LeO.bind ?_ (fun _ => ?_))
      | exact ih0 _ _ _ _ _ _ _ _ _ _ _ _ _ _ _ _ _
      | exact impl_CompareNames.mono _ _ _ _ _ _ _ _ _
      | exact laws_eqName.mono _ _ _ _ _ _ _ _ _
      | exact laws_szName.mono _ _ _ _ _ _
      | exact laws_toName.mono _ _ _ _ _
      | exact spec_CompareNames.mono _ _ _ _ _ _ _ _ _
      | exact LeO.none _
      | refine LeO.ite ?_ ?_
      | refine LeO.bind ?_ (fun _ => ?_)
def laws_FnExactCompareNames.T8 : Bool × List (List Nat × List Nat) := (true, [([], []), ([0], [0]), ([], []), ([2, 1], [2]), ([1, 3, 3], [1, 3]), ([4], [4]), ([5], [5]), ([5], [5]), ([6, 4, 0, 1, 2, 3, 4, 5, 6], [6]), ([7, 8, 0, 1, 2, 3, 4, 5, 6, 7, 8], [7])])
def laws_FnExactCompareNames.B8 : List Nat := [0, 1, 0, 7, 15, 31, 63, 63, 127, 511]
theorem laws_FnExactCompareNames.tab8 : rtab .any (opsOf Tryd.f11 8) = laws_FnExactCompareNames.T8 := by kernel_rfl
theorem laws_FnExactCompareNames.bits8 : waitsOk laws_FnExactCompareNames.T8.2 laws_FnExactCompareNames.B8 = true := by kernel_rfl
set_option maxHeartbeats 8000000 in
set_option maxRecDepth 100000 in
theorem laws_FnExactCompareNames.calls (k : Nat) (A0_0 : Option Addr) (c0_0 : Nat) (l0_0 : List ByteArray) (a0_1 : ByteArray) (a0_2 : ByteArray) (a0_3 : ByteArray) (A1_0 : Option Addr) (c1_0 : Nat) (l1_0 : List ByteArray) (a1_1 : ByteArray) (a1_2 : ByteArray) (a1_3 : ByteArray) (r : Bool) (w : World) {gF1 gF2 gF3 : Bool} (hG : GL gF1 gF2 gF3 w) (hr0_0 : Kd.C Kd.string w A0_0 l0_0.length l0_0) (hc0_0 : l0_0.length ≤ c0_0) (hr1_0 : Kd.C Kd.string w A1_0 l1_0.length l1_0) (hc1_0 : l1_0.length ≤ c1_0) (h : laws_FnExactCompareNames.f k l0_0 a0_1 a0_2 a0_3 l1_0 a1_1 a1_2 a1_3 = some r) :
    Calls Tryd.prog 11 #[.agg #[.slice A0_0 l0_0.length c0_0, .string a0_1, .string a0_2, .string a0_3], .agg #[.slice A1_0 l1_0.length c1_0, .string a1_1, .string a1_2, .string a1_3]] w fun e w' => e = .returned (.bool r) ∧ Below w.heap.size w w' := by
  have HG := Aside0.mk hG
  clear hG
  have hu24 := Tryd.underlying24
  have hu27 := Tryd.underlying27
  have HR0_0 := Aside0.mk hr0_0
  have HC0_0 := Aside0.mk hc0_0
  clear hr0_0 hc0_0
  have HR1_0 := Aside0.mk hr1_0
  have HC1_0 := Aside0.mk hc1_0
  clear hr1_0 hc1_0
  have HB := Aside0.mk (Below.refl w.heap.size w)
  have H : ((laws_szName.f k l0_0 a0_1 a0_2 a0_3 1048576).bind fun t662 => (if t662 < 0 then (some true) else ((laws_szName.f k l1_0 a1_1 a1_2 a1_3 t662).bind fun t663 => (if t663 < 0 then (some true) else ((laws_toName.f k l0_0 a0_1 a0_2 a0_3).bind fun bt664 => ((laws_toName.f k l1_0 a1_1 a1_2 a1_3).bind fun bt670 => ((spec_CompareNames.f k bt664.1 bt664.2.1 bt664.2.2.1 bt664.2.2.2 bt670.1 bt670.2.1 bt670.2.2.1 bt670.2.2.2).bind fun bt676 => ((laws_toName.f k l0_0 a0_1 a0_2 a0_3).bind fun bt678 => ((laws_toName.f k l1_0 a1_1 a1_2 a1_3).bind fun bt685 => ((impl_CompareNames.f k bt678.1 bt678.2.1 bt678.2.2.1 bt678.2.2.2 bt685.1 bt685.2.1 bt685.2.2.1 bt685.2.2.2).bind fun bt692 => (if bt692.1 = bt676.1 then (laws_FnExactCompareNames.j0 k (bt692.2 != bt676.2) l0_0 a0_1 a0_2 a0_3 l1_0 a1_1 a1_2 a1_3 bt678.1 bt678.2.1 bt678.2.2.1 bt678.2.2.2 bt685.1 bt685.2.1 bt685.2.2.1 bt685.2.2.2) else (laws_FnExactCompareNames.j0 k true l0_0 a0_1 a0_2 a0_3 l1_0 a1_1 a1_2 a1_3 bt678.1 bt678.2.1 bt678.2.2.1 bt678.2.2.2 bt685.1 bt685.2.1 bt685.2.2.1 bt685.2.2.2)))))))))))) = some r := h
  clear h
  replace H := Option.bind_eq_some_iff.mp H
  obtain ⟨t662, A30, H⟩ := H
  replace H : (if t662 < 0 then (some true) else ((laws_szName.f k l1_0 a1_1 a1_2 a1_3 t662).bind fun t663 => (if t663 < 0 then (some true) else ((laws_toName.f k l0_0 a0_1 a0_2 a0_3).bind fun bt664 => ((laws_toName.f k l1_0 a1_1 a1_2 a1_3).bind fun bt670 => ((spec_CompareNames.f k bt664.1 bt664.2.1 bt664.2.2.1 bt664.2.2.2 bt670.1 bt670.2.1 bt670.2.2.1 bt670.2.2.2).bind fun bt676 => ((laws_toName.f k l0_0 a0_1 a0_2 a0_3).bind fun bt678 => ((laws_toName.f k l1_0 a1_1 a1_2 a1_3).bind fun bt685 => ((impl_CompareNames.f k bt678.1 bt678.2.1 bt678.2.2.1 bt678.2.2.2 bt685.1 bt685.2.1 bt685.2.2.1 bt685.2.2.2).bind fun bt692 => (if bt692.1 = bt676.1 then (laws_FnExactCompareNames.j0 k (bt692.2 != bt676.2) l0_0 a0_1 a0_2 a0_3 l1_0 a1_1 a1_2 a1_3 bt678.1 bt678.2.1 bt678.2.2.1 bt678.2.2.2 bt685.1 bt685.2.1 bt685.2.2.1 bt685.2.2.2) else (laws_FnExactCompareNames.j0 k true l0_0 a0_1 a0_2 a0_3 l1_0 a1_1 a1_2 a1_3 bt678.1 bt678.2.1 bt678.2.2.1 bt678.2.2.2 bt685.1 bt685.2.1 bt685.2.2.1 bt685.2.2.2))))))))))) = some r := H
  have A3 := Aside0.mk A30
  clear A30
  by_cases c4 : t662 < 0
  · rw [if_pos c4] at H
    have c4b0 : decide (t662 < 0) = true := decide_eq_true c4
    clear c4
    obtain rfl := Option.some.inj H
    go_enter Tryd.func11, Tryd.ntmps11
    go_wp2_with (first | ((with_reducible refine gate_dst (N := 2) rfl ?_); refine box_event ?hg (N := 2) ?hd (cs := #[.slice A0_0 l0_0.length c0_0, .string a0_1, .string a0_2, .string a0_3]) (t := 24) ?hr ?_; (case hd => rfl); (case hg => rfl); (case hr => first | (go_simp; done) | (go_simp; rfl)); intro gb660 hg w5 hbox hb; have n0_ := Aside0.mk (below_step (by repeat (first | (with_reducible first | exact HB.out | apply below_alloc | apply pw_below_drewN | apply below_drew1) | exact HB.out)) hb); have n1_ := Aside0.mk (hbox); have n2_ := Aside0.mk ((by rw [hg]; exact (below_size (by repeat (first | (with_reducible first | exact HB.out | apply below_alloc | apply pw_below_drewN | apply below_drew1) | exact HB.out))) : w.heap.size ≤ gb660)); have n3_ := Aside0.mk ((by rw [hg]; exact (below_size (by repeat (first | (with_reducible first | exact HB.out | apply below_alloc | apply pw_below_drewN | apply below_drew1) | exact HB.out))) : w.heap.size ≤ gb660)); clear HB; have HB := n0_; have BK660 := n1_; have GW660 := n2_; have GE660 := n3_; clear n0_ n1_ n2_ n3_; clear hb hbox hg) | ((with_reducible refine gate_dst (N := 3) rfl ?_); refine box_event ?hg (N := 3) ?hd (cs := #[.slice A1_0 l1_0.length c1_0, .string a1_1, .string a1_2, .string a1_3]) (t := 24) ?hr ?_; (case hd => rfl); (case hg => rfl); (case hr => first | (go_simp; done) | (go_simp; rfl)); intro gb661 hg w6 hbox hb; have n0_ := Aside0.mk (blk_below (g := gb660) (o := .cells #[.slice A0_0 l0_0.length c0_0, .string a0_1, .string a0_2, .string a0_3] 24 (0, 0)) (by (with_reducible repeat (first | refine blk_drewN ?_ _ | refine blk_drew ?_ | refine blk_alloc ?_ _)); exact BK660.out) hb); have n1_ := Aside0.mk (below_step (by repeat (first | (with_reducible first | exact HB.out | apply below_alloc | apply pw_below_drewN | apply below_drew1 | refine below_set ?_ GE660.out) | exact HB.out)) hb); have n2_ := Aside0.mk (hbox); have n3_ := Aside0.mk ((by rw [hg]; exact (below_size (by repeat (first | (with_reducible first | exact HB.out | apply below_alloc | apply pw_below_drewN | apply below_drew1 | refine below_set ?_ GE660.out) | exact HB.out))) : w.heap.size ≤ gb661)); have n4_ := Aside0.mk ((by rw [hg]; exact (below_size (by repeat (first | (with_reducible first | exact HB.out | apply below_alloc | apply pw_below_drewN | apply below_drew1 | refine below_set ?_ GE660.out) | exact HB.out))) : w.heap.size ≤ gb661)); have n5_ := Aside0.mk ((by rw [hg]; exact Nat.ne_of_lt (blk_lt (g := gb660) (o := .cells #[.slice A0_0 l0_0.length c0_0, .string a0_1, .string a0_2, .string a0_3] 24 (0, 0)) (by (with_reducible repeat (first | refine blk_drewN ?_ _ | refine blk_drew ?_ | refine blk_alloc ?_ _)); exact BK660.out)) : gb660 ≠ gb661)); have n6_ := Aside0.mk ((by rw [hg]; exact Nat.ne_of_gt (blk_lt (g := gb660) (o := .cells #[.slice A0_0 l0_0.length c0_0, .string a0_1, .string a0_2, .string a0_3] 24 (0, 0)) (by (with_reducible repeat (first | refine blk_drewN ?_ _ | refine blk_drew ?_ | refine blk_alloc ?_ _)); exact BK660.out)) : gb661 ≠ gb660)); clear BK660; clear HB; have BK660 := n0_; have HB := n1_; have BK661 := n2_; have GW661 := n3_; have GE661 := n4_; have NB660_661 := n5_; have NB661_660 := n6_; clear n0_ n1_ n2_ n3_ n4_ n5_ n6_; clear hb hbox hg; have hnb7 := NB660_661.out; have hnc7 := NB661_660.out; have hcz8_0 : w6.cell? ⟨gb660, 0, none⟩ = some (.slice A0_0 l0_0.length c0_0) := (blk_cell BK660.out 0).trans rfl; have hcz8_1 : w6.cell? ⟨gb660, 1, none⟩ = some (.string a0_1) := (blk_cell BK660.out 1).trans rfl; have hcz8_2 : w6.cell? ⟨gb660, 2, none⟩ = some (.string a0_2) := (blk_cell BK660.out 2).trans rfl; have hcz8_3 : w6.cell? ⟨gb660, 3, none⟩ = some (.string a0_3) := (blk_cell BK660.out 3).trans rfl; have hfz8_0 := blk_frozen BK660.out 0; have hfz8_1 := blk_frozen BK660.out 1; have hfz8_2 := blk_frozen BK660.out 2; have hfz8_3 := blk_frozen BK660.out 3) | ((with_reducible refine gate_callee (f := 12) rfl ?_); refine goesL_ (some 14) rfl rfl Tryd.func12 (by kernel_rfl) rfl #[.agg #[.slice A0_0 l0_0.length c0_0, .string a0_1, .string a0_2, .string a0_3], .int .i64 1048576] rfl (by (try simp only [List.map_toArray, List.map_cons, List.map_nil]); first | done | rfl | (simp only [List.length_drop, List.length_take]; rfl)) ?_; (with_reducible refine (laws_szName.calls k _ _ l0_0 a0_1 a0_2 a0_3 1048576 t662 _ ?side1 ?side2 A3.out).mono ?_); (case side1 => repeat (first | exact (Kd.C_below HR0_0.out HB.out) | (with_reducible refine Kd.C_alloc ?_ _) | (with_reducible refine Kd.C_drewN ?_ _) | (with_reducible refine Kd.C_drew ?_))); (case side2 => exact HC0_0.out); rintro e w9 ⟨rfl, hb⟩; refine ⟨_, rfl, ?_⟩; have n0_ := Aside0.mk (blk_below (g := gb660) (o := .cells #[.slice A0_0 l0_0.length c0_0, .string a0_1, .string a0_2, .string a0_3] 24 (0, 0)) (by (with_reducible repeat (first | refine blk_drewN ?_ _ | refine blk_drew ?_ | refine blk_alloc ?_ _)); exact BK660.out) hb); have n1_ := Aside0.mk (blk_below (g := gb661) (o := .cells #[.slice A1_0 l1_0.length c1_0, .string a1_1, .string a1_2, .string a1_3] 24 (0, 0)) (by (with_reducible repeat (first | refine blk_drewN ?_ _ | refine blk_drew ?_ | refine blk_alloc ?_ _)); exact BK661.out) hb); have n2_ := Aside0.mk (below_step (by repeat (first | (with_reducible first | exact HB.out | apply below_alloc | apply pw_below_drewN | apply below_drew1 | refine below_set ?_ GE660.out | refine below_set ?_ GE661.out) | exact HB.out)) hb); clear BK660; clear BK661; clear HB; have BK660 := n0_; have BK661 := n1_; have HB := n2_; clear n0_ n1_ n2_; (try clear hb); (try clear hb2); (try clear hk); (try clear hi)))
    go_ret
    exact ⟨by first | rfl | (simp [errW_none, errW_some] <;> rfl) | (simp [*, errW_none, errW_some] <;> rfl), by repeat (first | (with_reducible first | exact HB.out | apply below_alloc | apply pw_below_drewN | apply below_drew1 | refine below_set ?_ GE660.out | refine below_set ?_ GE661.out) | exact HB.out)⟩
  · rw [if_neg c4] at H
    have c4b0 : decide (t662 < 0) = false := decide_eq_false c4
    clear c4
    replace H := Option.bind_eq_some_iff.mp H
    obtain ⟨t663, A100, H⟩ := H
    replace H : (if t663 < 0 then (some true) else ((laws_toName.f k l0_0 a0_1 a0_2 a0_3).bind fun bt664 => ((laws_toName.f k l1_0 a1_1 a1_2 a1_3).bind fun bt670 => ((spec_CompareNames.f k bt664.1 bt664.2.1 bt664.2.2.1 bt664.2.2.2 bt670.1 bt670.2.1 bt670.2.2.1 bt670.2.2.2).bind fun bt676 => ((laws_toName.f k l0_0 a0_1 a0_2 a0_3).bind fun bt678 => ((laws_toName.f k l1_0 a1_1 a1_2 a1_3).bind fun bt685 => ((impl_CompareNames.f k bt678.1 bt678.2.1 bt678.2.2.1 bt678.2.2.2 bt685.1 bt685.2.1 bt685.2.2.1 bt685.2.2.2).bind fun bt692 => (if bt692.1 = bt676.1 then (laws_FnExactCompareNames.j0 k (bt692.2 != bt676.2) l0_0 a0_1 a0_2 a0_3 l1_0 a1_1 a1_2 a1_3 bt678.1 bt678.2.1 bt678.2.2.1 bt678.2.2.2 bt685.1 bt685.2.1 bt685.2.2.1 bt685.2.2.2) else (laws_FnExactCompareNames.j0 k true l0_0 a0_1 a0_2 a0_3 l1_0 a1_1 a1_2 a1_3 bt678.1 bt678.2.1 bt678.2.2.1 bt678.2.2.2 bt685.1 bt685.2.1 bt685.2.2.1 bt685.2.2.2))))))))) = some r := H
    have A10 := Aside0.mk A100
    clear A100
    by_cases c11 : t663 < 0
    · rw [if_pos c11] at H
      have c11b0 : decide (t663 < 0) = true := decide_eq_true c11
      clear c11
      obtain rfl := Option.some.inj H
      go_enter Tryd.func11, Tryd.ntmps11
      go_wp2_with (first | ((with_reducible refine gate_dst (N := 2) rfl ?_); refine box_event ?hg (N := 2) ?hd (cs := #[.slice A0_0 l0_0.length c0_0, .string a0_1, .string a0_2, .string a0_3]) (t := 24) ?hr ?_; (case hd => rfl); (case hg => rfl); (case hr => first | (go_simp; done) | (go_simp; rfl)); intro gb660 hg w12 hbox hb; have n0_ := Aside0.mk (below_step (by repeat (first | (with_reducible first | exact HB.out | apply below_alloc | apply pw_below_drewN | apply below_drew1) | exact HB.out)) hb); have n1_ := Aside0.mk (hbox); have n2_ := Aside0.mk ((by rw [hg]; exact (below_size (by repeat (first | (with_reducible first | exact HB.out | apply below_alloc | apply pw_below_drewN | apply below_drew1) | exact HB.out))) : w.heap.size ≤ gb660)); have n3_ := Aside0.mk ((by rw [hg]; exact (below_size (by repeat (first | (with_reducible first | exact HB.out | apply below_alloc | apply pw_below_drewN | apply below_drew1) | exact HB.out))) : w.heap.size ≤ gb660)); clear HB; have HB := n0_; have BK660 := n1_; have GW660 := n2_; have GE660 := n3_; clear n0_ n1_ n2_ n3_; clear hb hbox hg) | ((with_reducible refine gate_dst (N := 3) rfl ?_); refine box_event ?hg (N := 3) ?hd (cs := #[.slice A1_0 l1_0.length c1_0, .string a1_1, .string a1_2, .string a1_3]) (t := 24) ?hr ?_; (case hd => rfl); (case hg => rfl); (case hr => first | (go_simp; done) | (go_simp; rfl)); intro gb661 hg w13 hbox hb; have n0_ := Aside0.mk (blk_below (g := gb660) (o := .cells #[.slice A0_0 l0_0.length c0_0, .string a0_1, .string a0_2, .string a0_3] 24 (0, 0)) (by (with_reducible repeat (first | refine blk_drewN ?_ _ | refine blk_drew ?_ | refine blk_alloc ?_ _)); exact BK660.out) hb); have n1_ := Aside0.mk (below_step (by repeat (first | (with_reducible first | exact HB.out | apply below_alloc | apply pw_below_drewN | apply below_drew1 | refine below_set ?_ GE660.out) | exact HB.out)) hb); have n2_ := Aside0.mk (hbox); have n3_ := Aside0.mk ((by rw [hg]; exact (below_size (by repeat (first | (with_reducible first | exact HB.out | apply below_alloc | apply pw_below_drewN | apply below_drew1 | refine below_set ?_ GE660.out) | exact HB.out))) : w.heap.size ≤ gb661)); have n4_ := Aside0.mk ((by rw [hg]; exact (below_size (by repeat (first | (with_reducible first | exact HB.out | apply below_alloc | apply pw_below_drewN | apply below_drew1 | refine below_set ?_ GE660.out) | exact HB.out))) : w.heap.size ≤ gb661)); have n5_ := Aside0.mk ((by rw [hg]; exact Nat.ne_of_lt (blk_lt (g := gb660) (o := .cells #[.slice A0_0 l0_0.length c0_0, .string a0_1, .string a0_2, .string a0_3] 24 (0, 0)) (by (with_reducible repeat (first | refine blk_drewN ?_ _ | refine blk_drew ?_ | refine blk_alloc ?_ _)); exact BK660.out)) : gb660 ≠ gb661)); have n6_ := Aside0.mk ((by rw [hg]; exact Nat.ne_of_gt (blk_lt (g := gb660) (o := .cells #[.slice A0_0 l0_0.length c0_0, .string a0_1, .string a0_2, .string a0_3] 24 (0, 0)) (by (with_reducible repeat (first | refine blk_drewN ?_ _ | refine blk_drew ?_ | refine blk_alloc ?_ _)); exact BK660.out)) : gb661 ≠ gb660)); clear BK660; clear HB; have BK660 := n0_; have HB := n1_; have BK661 := n2_; have GW661 := n3_; have GE661 := n4_; have NB660_661 := n5_; have NB661_660 := n6_; clear n0_ n1_ n2_ n3_ n4_ n5_ n6_; clear hb hbox hg; have hnb14 := NB660_661.out; have hnc14 := NB661_660.out; have hcz15_0 : w13.cell? ⟨gb660, 0, none⟩ = some (.slice A0_0 l0_0.length c0_0) := (blk_cell BK660.out 0).trans rfl; have hcz15_1 : w13.cell? ⟨gb660, 1, none⟩ = some (.string a0_1) := (blk_cell BK660.out 1).trans rfl; have hcz15_2 : w13.cell? ⟨gb660, 2, none⟩ = some (.string a0_2) := (blk_cell BK660.out 2).trans rfl; have hcz15_3 : w13.cell? ⟨gb660, 3, none⟩ = some (.string a0_3) := (blk_cell BK660.out 3).trans rfl; have hfz15_0 := blk_frozen BK660.out 0; have hfz15_1 := blk_frozen BK660.out 1; have hfz15_2 := blk_frozen BK660.out 2; have hfz15_3 := blk_frozen BK660.out 3) | ((with_reducible refine gate_callee (f := 12) rfl ?_); refine goesL_ (some 14) rfl rfl Tryd.func12 (by kernel_rfl) rfl #[.agg #[.slice A0_0 l0_0.length c0_0, .string a0_1, .string a0_2, .string a0_3], .int .i64 1048576] rfl (by (try simp only [List.map_toArray, List.map_cons, List.map_nil]); first | done | rfl | (simp only [List.length_drop, List.length_take]; rfl)) ?_; (with_reducible refine (laws_szName.calls k _ _ l0_0 a0_1 a0_2 a0_3 1048576 t662 _ ?side1 ?side2 A3.out).mono ?_); (case side1 => repeat (first | exact (Kd.C_below HR0_0.out HB.out) | (with_reducible refine Kd.C_alloc ?_ _) | (with_reducible refine Kd.C_drewN ?_ _) | (with_reducible refine Kd.C_drew ?_))); (case side2 => exact HC0_0.out); rintro e w16 ⟨rfl, hb⟩; refine ⟨_, rfl, ?_⟩; have n0_ := Aside0.mk (blk_below (g := gb660) (o := .cells #[.slice A0_0 l0_0.length c0_0, .string a0_1, .string a0_2, .string a0_3] 24 (0, 0)) (by (with_reducible repeat (first | refine blk_drewN ?_ _ | refine blk_drew ?_ | refine blk_alloc ?_ _)); exact BK660.out) hb); have n1_ := Aside0.mk (blk_below (g := gb661) (o := .cells #[.slice A1_0 l1_0.length c1_0, .string a1_1, .string a1_2, .string a1_3] 24 (0, 0)) (by (with_reducible repeat (first | refine blk_drewN ?_ _ | refine blk_drew ?_ | refine blk_alloc ?_ _)); exact BK661.out) hb); have n2_ := Aside0.mk (below_step (by repeat (first | (with_reducible first | exact HB.out | apply below_alloc | apply pw_below_drewN | apply below_drew1 | refine below_set ?_ GE660.out | refine below_set ?_ GE661.out) | exact HB.out)) hb); clear BK660; clear BK661; clear HB; have BK660 := n0_; have BK661 := n1_; have HB := n2_; clear n0_ n1_ n2_; (try clear hb); (try clear hb2); (try clear hk); (try clear hi); have hcz17_0 : w16.cell? ⟨gb661, 0, none⟩ = some (.slice A1_0 l1_0.length c1_0) := (blk_cell BK661.out 0).trans rfl; have hcz17_1 : w16.cell? ⟨gb661, 1, none⟩ = some (.string a1_1) := (blk_cell BK661.out 1).trans rfl; have hcz17_2 : w16.cell? ⟨gb661, 2, none⟩ = some (.string a1_2) := (blk_cell BK661.out 2).trans rfl; have hcz17_3 : w16.cell? ⟨gb661, 3, none⟩ = some (.string a1_3) := (blk_cell BK661.out 3).trans rfl; have hfz17_0 := blk_frozen BK661.out 0; have hfz17_1 := blk_frozen BK661.out 1; have hfz17_2 := blk_frozen BK661.out 2; have hfz17_3 := blk_frozen BK661.out 3) | ((with_reducible refine gate_callee (f := 12) rfl ?_); refine goesL_ (some 19) rfl rfl Tryd.func12 (by kernel_rfl) rfl #[.agg #[.slice A1_0 l1_0.length c1_0, .string a1_1, .string a1_2, .string a1_3], .int .i64 t662] rfl (by (try simp only [List.map_toArray, List.map_cons, List.map_nil]); first | done | rfl | (simp only [List.length_drop, List.length_take]; rfl)) ?_; (with_reducible refine (laws_szName.calls k _ _ l1_0 a1_1 a1_2 a1_3 t662 t663 _ ?side1 ?side2 A10.out).mono ?_); (case side1 => repeat (first | exact (Kd.C_below HR1_0.out HB.out) | (with_reducible refine Kd.C_alloc ?_ _) | (with_reducible refine Kd.C_drewN ?_ _) | (with_reducible refine Kd.C_drew ?_))); (case side2 => exact HC1_0.out); rintro e w18 ⟨rfl, hb⟩; refine ⟨_, rfl, ?_⟩; have n0_ := Aside0.mk (blk_below (g := gb660) (o := .cells #[.slice A0_0 l0_0.length c0_0, .string a0_1, .string a0_2, .string a0_3] 24 (0, 0)) (by (with_reducible repeat (first | refine blk_drewN ?_ _ | refine blk_drew ?_ | refine blk_alloc ?_ _)); exact BK660.out) hb); have n1_ := Aside0.mk (blk_below (g := gb661) (o := .cells #[.slice A1_0 l1_0.length c1_0, .string a1_1, .string a1_2, .string a1_3] 24 (0, 0)) (by (with_reducible repeat (first | refine blk_drewN ?_ _ | refine blk_drew ?_ | refine blk_alloc ?_ _)); exact BK661.out) hb); have n2_ := Aside0.mk (below_step (by repeat (first | (with_reducible first | exact HB.out | apply below_alloc | apply pw_below_drewN | apply below_drew1 | refine below_set ?_ GE660.out | refine below_set ?_ GE661.out) | exact HB.out)) hb); clear BK660; clear BK661; clear HB; have BK660 := n0_; have BK661 := n1_; have HB := n2_; clear n0_ n1_ n2_; (try clear hb); (try clear hb2); (try clear hk); (try clear hi)))
      go_ret
      exact ⟨by first | rfl | (simp [errW_none, errW_some] <;> rfl) | (simp [*, errW_none, errW_some] <;> rfl), by repeat (first | (with_reducible first | exact HB.out | apply below_alloc | apply pw_below_drewN | apply below_drew1 | refine below_set ?_ GE660.out | refine below_set ?_ GE661.out) | exact HB.out)⟩
    · rw [if_neg c11] at H
      have c11b0 : decide (t663 < 0) = false := decide_eq_false c11
      clear c11
      replace H := Option.bind_eq_some_iff.mp H
      obtain ⟨⟨t664, t667, t668, t669⟩, A190, H⟩ := H
      replace H : ((laws_toName.f k l1_0 a1_1 a1_2 a1_3).bind fun bt670 => ((spec_CompareNames.f k t664 t667 t668 t669 bt670.1 bt670.2.1 bt670.2.2.1 bt670.2.2.2).bind fun bt676 => ((laws_toName.f k l0_0 a0_1 a0_2 a0_3).bind fun bt678 => ((laws_toName.f k l1_0 a1_1 a1_2 a1_3).bind fun bt685 => ((impl_CompareNames.f k bt678.1 bt678.2.1 bt678.2.2.1 bt678.2.2.2 bt685.1 bt685.2.1 bt685.2.2.1 bt685.2.2.2).bind fun bt692 => (if bt692.1 = bt676.1 then (laws_FnExactCompareNames.j0 k (bt692.2 != bt676.2) l0_0 a0_1 a0_2 a0_3 l1_0 a1_1 a1_2 a1_3 bt678.1 bt678.2.1 bt678.2.2.1 bt678.2.2.2 bt685.1 bt685.2.1 bt685.2.2.1 bt685.2.2.2) else (laws_FnExactCompareNames.j0 k true l0_0 a0_1 a0_2 a0_3 l1_0 a1_1 a1_2 a1_3 bt678.1 bt678.2.1 bt678.2.2.1 bt678.2.2.2 bt685.1 bt685.2.1 bt685.2.2.1 bt685.2.2.2))))))) = some r := H
      have A19 := Aside0.mk A190
      clear A190
      replace H := Option.bind_eq_some_iff.mp H
      obtain ⟨⟨t670, t673, t674, t675⟩, A200, H⟩ := H
      replace H : ((spec_CompareNames.f k t664 t667 t668 t669 t670 t673 t674 t675).bind fun bt676 => ((laws_toName.f k l0_0 a0_1 a0_2 a0_3).bind fun bt678 => ((laws_toName.f k l1_0 a1_1 a1_2 a1_3).bind fun bt685 => ((impl_CompareNames.f k bt678.1 bt678.2.1 bt678.2.2.1 bt678.2.2.2 bt685.1 bt685.2.1 bt685.2.2.1 bt685.2.2.2).bind fun bt692 => (if bt692.1 = bt676.1 then (laws_FnExactCompareNames.j0 k (bt692.2 != bt676.2) l0_0 a0_1 a0_2 a0_3 l1_0 a1_1 a1_2 a1_3 bt678.1 bt678.2.1 bt678.2.2.1 bt678.2.2.2 bt685.1 bt685.2.1 bt685.2.2.1 bt685.2.2.2) else (laws_FnExactCompareNames.j0 k true l0_0 a0_1 a0_2 a0_3 l1_0 a1_1 a1_2 a1_3 bt678.1 bt678.2.1 bt678.2.2.1 bt678.2.2.2 bt685.1 bt685.2.1 bt685.2.2.1 bt685.2.2.2)))))) = some r := H
      have A20 := Aside0.mk A200
      clear A200
      replace H := Option.bind_eq_some_iff.mp H
      obtain ⟨⟨t676, t677⟩, A210, H⟩ := H
      replace H : ((laws_toName.f k l0_0 a0_1 a0_2 a0_3).bind fun bt678 => ((laws_toName.f k l1_0 a1_1 a1_2 a1_3).bind fun bt685 => ((impl_CompareNames.f k bt678.1 bt678.2.1 bt678.2.2.1 bt678.2.2.2 bt685.1 bt685.2.1 bt685.2.2.1 bt685.2.2.2).bind fun bt692 => (if bt692.1 = t676 then (laws_FnExactCompareNames.j0 k (bt692.2 != t677) l0_0 a0_1 a0_2 a0_3 l1_0 a1_1 a1_2 a1_3 bt678.1 bt678.2.1 bt678.2.2.1 bt678.2.2.2 bt685.1 bt685.2.1 bt685.2.2.1 bt685.2.2.2) else (laws_FnExactCompareNames.j0 k true l0_0 a0_1 a0_2 a0_3 l1_0 a1_1 a1_2 a1_3 bt678.1 bt678.2.1 bt678.2.2.1 bt678.2.2.2 bt685.1 bt685.2.1 bt685.2.2.1 bt685.2.2.2))))) = some r := H
      have A21 := Aside0.mk A210
      clear A210
      replace H := Option.bind_eq_some_iff.mp H
      obtain ⟨⟨t678, t681, t682, t683⟩, A220, H⟩ := H
      replace H : ((laws_toName.f k l1_0 a1_1 a1_2 a1_3).bind fun bt685 => ((impl_CompareNames.f k t678 t681 t682 t683 bt685.1 bt685.2.1 bt685.2.2.1 bt685.2.2.2).bind fun bt692 => (if bt692.1 = t676 then (laws_FnExactCompareNames.j0 k (bt692.2 != t677) l0_0 a0_1 a0_2 a0_3 l1_0 a1_1 a1_2 a1_3 t678 t681 t682 t683 bt685.1 bt685.2.1 bt685.2.2.1 bt685.2.2.2) else (laws_FnExactCompareNames.j0 k true l0_0 a0_1 a0_2 a0_3 l1_0 a1_1 a1_2 a1_3 t678 t681 t682 t683 bt685.1 bt685.2.1 bt685.2.2.1 bt685.2.2.2)))) = some r := H
      have A22 := Aside0.mk A220
      clear A220
      replace H := Option.bind_eq_some_iff.mp H
      obtain ⟨⟨t685, t688, t689, t690⟩, A230, H⟩ := H
      replace H : ((impl_CompareNames.f k t678 t681 t682 t683 t685 t688 t689 t690).bind fun bt692 => (if bt692.1 = t676 then (laws_FnExactCompareNames.j0 k (bt692.2 != t677) l0_0 a0_1 a0_2 a0_3 l1_0 a1_1 a1_2 a1_3 t678 t681 t682 t683 t685 t688 t689 t690) else (laws_FnExactCompareNames.j0 k true l0_0 a0_1 a0_2 a0_3 l1_0 a1_1 a1_2 a1_3 t678 t681 t682 t683 t685 t688 t689 t690))) = some r := H
      have A23 := Aside0.mk A230
      clear A230
      replace H := Option.bind_eq_some_iff.mp H
      obtain ⟨⟨t692, t693⟩, A240, H⟩ := H
      replace H : (if t692 = t676 then (laws_FnExactCompareNames.j0 k (t693 != t677) l0_0 a0_1 a0_2 a0_3 l1_0 a1_1 a1_2 a1_3 t678 t681 t682 t683 t685 t688 t689 t690) else (laws_FnExactCompareNames.j0 k true l0_0 a0_1 a0_2 a0_3 l1_0 a1_1 a1_2 a1_3 t678 t681 t682 t683 t685 t688 t689 t690)) = some r := H
      have A24 := Aside0.mk A240
      clear A240
      have HC25 := Aside0.mk H
      clear H
      go_enter Tryd.func11, Tryd.ntmps11
      try go_wp2_with (first | ((with_reducible refine gate_dst (N := 2) rfl ?_); refine box_event ?hg (N := 2) ?hd (cs := #[.slice A0_0 l0_0.length c0_0, .string a0_1, .string a0_2, .string a0_3]) (t := 24) ?hr ?_; (case hd => rfl); (case hg => rfl); (case hr => first | (go_simp; done) | (go_simp; rfl)); intro gb660 hg w26 hbox hb; have n0_ := Aside0.mk (below_step (by repeat (first | (with_reducible first | exact HB.out | apply below_alloc | apply pw_below_drewN | apply below_drew1) | exact HB.out)) hb); have n1_ := Aside0.mk (hbox); have n2_ := Aside0.mk ((by rw [hg]; exact (below_size (by repeat (first | (with_reducible first | exact HB.out | apply below_alloc | apply pw_below_drewN | apply below_drew1) | exact HB.out))) : w.heap.size ≤ gb660)); have n3_ := Aside0.mk ((by rw [hg]; exact (below_size (by repeat (first | (with_reducible first | exact HB.out | apply below_alloc | apply pw_below_drewN | apply below_drew1) | exact HB.out))) : w.heap.size ≤ gb660)); clear HB; have HB := n0_; have BK660 := n1_; have GW660 := n2_; have GE660 := n3_; clear n0_ n1_ n2_ n3_; clear hb hbox hg) | ((with_reducible refine gate_dst (N := 3) rfl ?_); refine box_event ?hg (N := 3) ?hd (cs := #[.slice A1_0 l1_0.length c1_0, .string a1_1, .string a1_2, .string a1_3]) (t := 24) ?hr ?_; (case hd => rfl); (case hg => rfl); (case hr => first | (go_simp; done) | (go_simp; rfl)); intro gb661 hg w27 hbox hb; have n0_ := Aside0.mk (blk_below (g := gb660) (o := .cells #[.slice A0_0 l0_0.length c0_0, .string a0_1, .string a0_2, .string a0_3] 24 (0, 0)) (by (with_reducible repeat (first | refine blk_drewN ?_ _ | refine blk_drew ?_ | refine blk_alloc ?_ _)); exact BK660.out) hb); have n1_ := Aside0.mk (below_step (by repeat (first | (with_reducible first | exact HB.out | apply below_alloc | apply pw_below_drewN | apply below_drew1 | refine below_set ?_ GE660.out) | exact HB.out)) hb); have n2_ := Aside0.mk (hbox); have n3_ := Aside0.mk ((by rw [hg]; exact (below_size (by repeat (first | (with_reducible first | exact HB.out | apply below_alloc | apply pw_below_drewN | apply below_drew1 | refine below_set ?_ GE660.out) | exact HB.out))) : w.heap.size ≤ gb661)); have n4_ := Aside0.mk ((by rw [hg]; exact (below_size (by repeat (first | (with_reducible first | exact HB.out | apply below_alloc | apply pw_below_drewN | apply below_drew1 | refine below_set ?_ GE660.out) | exact HB.out))) : w.heap.size ≤ gb661)); have n5_ := Aside0.mk ((by rw [hg]; exact Nat.ne_of_lt (blk_lt (g := gb660) (o := .cells #[.slice A0_0 l0_0.length c0_0, .string a0_1, .string a0_2, .string a0_3] 24 (0, 0)) (by (with_reducible repeat (first | refine blk_drewN ?_ _ | refine blk_drew ?_ | refine blk_alloc ?_ _)); exact BK660.out)) : gb660 ≠ gb661)); have n6_ := Aside0.mk ((by rw [hg]; exact Nat.ne_of_gt (blk_lt (g := gb660) (o := .cells #[.slice A0_0 l0_0.length c0_0, .string a0_1, .string a0_2, .string a0_3] 24 (0, 0)) (by (with_reducible repeat (first | refine blk_drewN ?_ _ | refine blk_drew ?_ | refine blk_alloc ?_ _)); exact BK660.out)) : gb661 ≠ gb660)); clear BK660; clear HB; have BK660 := n0_; have HB := n1_; have BK661 := n2_; have GW661 := n3_; have GE661 := n4_; have NB660_661 := n5_; have NB661_660 := n6_; clear n0_ n1_ n2_ n3_ n4_ n5_ n6_; clear hb hbox hg; have hnb28 := NB660_661.out; have hnc28 := NB661_660.out; have hcz29_0 : w27.cell? ⟨gb660, 0, none⟩ = some (.slice A0_0 l0_0.length c0_0) := (blk_cell BK660.out 0).trans rfl; have hcz29_1 : w27.cell? ⟨gb660, 1, none⟩ = some (.string a0_1) := (blk_cell BK660.out 1).trans rfl; have hcz29_2 : w27.cell? ⟨gb660, 2, none⟩ = some (.string a0_2) := (blk_cell BK660.out 2).trans rfl; have hcz29_3 : w27.cell? ⟨gb660, 3, none⟩ = some (.string a0_3) := (blk_cell BK660.out 3).trans rfl; have hfz29_0 := blk_frozen BK660.out 0; have hfz29_1 := blk_frozen BK660.out 1; have hfz29_2 := blk_frozen BK660.out 2; have hfz29_3 := blk_frozen BK660.out 3) | ((with_reducible refine gate_callee (f := 12) rfl ?_); refine goesL_ (some 14) rfl rfl Tryd.func12 (by kernel_rfl) rfl #[.agg #[.slice A0_0 l0_0.length c0_0, .string a0_1, .string a0_2, .string a0_3], .int .i64 1048576] rfl (by (try simp only [List.map_toArray, List.map_cons, List.map_nil]); first | done | rfl | (simp only [List.length_drop, List.length_take]; rfl)) ?_; (with_reducible refine (laws_szName.calls k _ _ l0_0 a0_1 a0_2 a0_3 1048576 t662 _ ?side1 ?side2 A3.out).mono ?_); (case side1 => repeat (first | exact (Kd.C_below HR0_0.out HB.out) | (with_reducible refine Kd.C_alloc ?_ _) | (with_reducible refine Kd.C_drewN ?_ _) | (with_reducible refine Kd.C_drew ?_))); (case side2 => exact HC0_0.out); rintro e w30 ⟨rfl, hb⟩; refine ⟨_, rfl, ?_⟩; have n0_ := Aside0.mk (blk_below (g := gb660) (o := .cells #[.slice A0_0 l0_0.length c0_0, .string a0_1, .string a0_2, .string a0_3] 24 (0, 0)) (by (with_reducible repeat (first | refine blk_drewN ?_ _ | refine blk_drew ?_ | refine blk_alloc ?_ _)); exact BK660.out) hb); have n1_ := Aside0.mk (blk_below (g := gb661) (o := .cells #[.slice A1_0 l1_0.length c1_0, .string a1_1, .string a1_2, .string a1_3] 24 (0, 0)) (by (with_reducible repeat (first | refine blk_drewN ?_ _ | refine blk_drew ?_ | refine blk_alloc ?_ _)); exact BK661.out) hb); have n2_ := Aside0.mk (below_step (by repeat (first | (with_reducible first | exact HB.out | apply below_alloc | apply pw_below_drewN | apply below_drew1 | refine below_set ?_ GE660.out | refine below_set ?_ GE661.out) | exact HB.out)) hb); clear BK660; clear BK661; clear HB; have BK660 := n0_; have BK661 := n1_; have HB := n2_; clear n0_ n1_ n2_; (try clear hb); (try clear hb2); (try clear hk); (try clear hi); have hcz31_0 : w30.cell? ⟨gb661, 0, none⟩ = some (.slice A1_0 l1_0.length c1_0) := (blk_cell BK661.out 0).trans rfl; have hcz31_1 : w30.cell? ⟨gb661, 1, none⟩ = some (.string a1_1) := (blk_cell BK661.out 1).trans rfl; have hcz31_2 : w30.cell? ⟨gb661, 2, none⟩ = some (.string a1_2) := (blk_cell BK661.out 2).trans rfl; have hcz31_3 : w30.cell? ⟨gb661, 3, none⟩ = some (.string a1_3) := (blk_cell BK661.out 3).trans rfl; have hfz31_0 := blk_frozen BK661.out 0; have hfz31_1 := blk_frozen BK661.out 1; have hfz31_2 := blk_frozen BK661.out 2; have hfz31_3 := blk_frozen BK661.out 3) | ((with_reducible refine gate_callee (f := 12) rfl ?_); refine goesL_ (some 19) rfl rfl Tryd.func12 (by kernel_rfl) rfl #[.agg #[.slice A1_0 l1_0.length c1_0, .string a1_1, .string a1_2, .string a1_3], .int .i64 t662] rfl (by (try simp only [List.map_toArray, List.map_cons, List.map_nil]); first | done | rfl | (simp only [List.length_drop, List.length_take]; rfl)) ?_; (with_reducible refine (laws_szName.calls k _ _ l1_0 a1_1 a1_2 a1_3 t662 t663 _ ?side1 ?side2 A10.out).mono ?_); (case side1 => repeat (first | exact (Kd.C_below HR1_0.out HB.out) | (with_reducible refine Kd.C_alloc ?_ _) | (with_reducible refine Kd.C_drewN ?_ _) | (with_reducible refine Kd.C_drew ?_))); (case side2 => exact HC1_0.out); rintro e w32 ⟨rfl, hb⟩; refine ⟨_, rfl, ?_⟩; have n0_ := Aside0.mk (blk_below (g := gb660) (o := .cells #[.slice A0_0 l0_0.length c0_0, .string a0_1, .string a0_2, .string a0_3] 24 (0, 0)) (by (with_reducible repeat (first | refine blk_drewN ?_ _ | refine blk_drew ?_ | refine blk_alloc ?_ _)); exact BK660.out) hb); have n1_ := Aside0.mk (blk_below (g := gb661) (o := .cells #[.slice A1_0 l1_0.length c1_0, .string a1_1, .string a1_2, .string a1_3] 24 (0, 0)) (by (with_reducible repeat (first | refine blk_drewN ?_ _ | refine blk_drew ?_ | refine blk_alloc ?_ _)); exact BK661.out) hb); have n2_ := Aside0.mk (below_step (by repeat (first | (with_reducible first | exact HB.out | apply below_alloc | apply pw_below_drewN | apply below_drew1 | refine below_set ?_ GE660.out | refine below_set ?_ GE661.out) | exact HB.out)) hb); clear BK660; clear BK661; clear HB; have BK660 := n0_; have BK661 := n1_; have HB := n2_; clear n0_ n1_ n2_; (try clear hb); (try clear hb2); (try clear hk); (try clear hi)))
      have n0_ := Aside0.mk (blk_drew BK660.out)
      have n1_ := Aside0.mk (blk_drew BK661.out)
      have n2_ := Aside0.mk (below_drew1 HB.out)
      clear BK660
      clear BK661
      clear HB
      have BK660 := n0_
      have BK661 := n1_
      have HB := n2_
      clear n0_ n1_ n2_
      refine start_ (n := 10) (S := fun w' => w'.cell? ⟨gb660, 0, none⟩ = some (.slice A0_0 l0_0.length c0_0) ∧ w'.cell? ⟨gb660, 1, none⟩ = some (.string a0_1) ∧ w'.cell? ⟨gb660, 2, none⟩ = some (.string a0_2) ∧ w'.cell? ⟨gb660, 3, none⟩ = some (.string a0_3) ∧ w'.cell? ⟨gb661, 0, none⟩ = some (.slice A1_0 l1_0.length c1_0) ∧ w'.cell? ⟨gb661, 1, none⟩ = some (.string a1_1) ∧ w'.cell? ⟨gb661, 2, none⟩ = some (.string a1_2) ∧ w'.cell? ⟨gb661, 3, none⟩ = some (.string a1_3)) (ds := []) #[false, false, false, false, false, false, false, false, false, false] (by kernel_rfl) rfl rfl ⟨(blk_cell BK660.out 0).trans rfl, (blk_cell BK660.out 1).trans rfl, (blk_cell BK660.out 2).trans rfl, (blk_cell BK660.out 3).trans rfl, (blk_cell BK661.out 0).trans rfl, (blk_cell BK661.out 1).trans rfl, (blk_cell BK661.out 2).trans rfl, (blk_cell BK661.out 3).trans rfl⟩ (fun hHeld => ?_); refine with_tabW laws_FnExactCompareNames.tab8 laws_FnExactCompareNames.bits8 (fun HT_ HW_ => ?_)
      generalize w32.drew = w33 at BK660 BK661 HB hHeld ⊢
      refine take_ (i := 0) (N := some 23) (v := ?_) (a' := ?_) #[true, false, false, false, false, false, false, false, false, false] rfl rfl (take_ofW HT_.out HW_.out (by kernel_rfl)) (fun _ _ _ h => h) (Or.inl ⟨by rfl, ?_⟩) hHeld ?_ ?_
      rotate_left
      · rintro w' ⟨s0, s1, s2, s3, s4, s5, s6, s7⟩
        go_simp
        with_reducible rfl
      rotate_left
      · simp only [Act.put, List.setIfInBounds_toArray, List.set_cons_zero, List.set_cons_succ, i64_w, i32_w]
        rfl
      refine take_ (i := 2) (N := some 25) (v := ?_) (a' := ?_) #[true, false, true, false, false, false, false, false, false, false] rfl rfl (take_ofW HT_.out HW_.out (by kernel_rfl)) (fun _ _ _ h => h) (Or.inl ⟨by rfl, ?_⟩) hHeld ?_ ?_
      rotate_left
      · rintro w' ⟨s0, s1, s2, s3, s4, s5, s6, s7⟩
        go_simp
        with_reducible rfl
      rotate_left
      · simp only [Act.put, List.setIfInBounds_toArray, List.set_cons_zero, List.set_cons_succ, i64_w, i32_w]
        rfl
      refine one_ (i := 1) (N := some 24) #[true, true, true, false, false, false, false, false, false, false] rfl rfl (one_of HT_.out (by kernel_rfl)) (by decide) (fun K hK => ?_)
      refine goes_ Tryd.func14 (by kernel_rfl) rfl #[.agg #[.slice A0_0 l0_0.length c0_0, .string a0_1, .string a0_2, .string a0_3]] (by rfl) rfl rfl (by (try simp only [List.map_toArray, List.map_cons, List.map_nil]); first | done | rfl | (simp only [List.length_drop, List.length_take]; rfl)) ?_
      with_reducible refine (laws_toName.calls k _ _ l0_0 a0_1 a0_2 a0_3 t664 t667 t668 t669 _ ?side1 ?side2 A19.out).mono ?_
      (case side1 => repeat (first | exact (Kd.C_below HR0_0.out HB.out) | (with_reducible refine Kd.C_alloc ?_ _) | (with_reducible refine Kd.C_drewN ?_ _) | (with_reducible refine Kd.C_drew ?_)))
      (case side2 => exact HC0_0.out)
      rintro e w34 ⟨v665, rfl, ho0, hb⟩
      refine ⟨_, rfl, ?_⟩
      have n0_ := Aside0.mk (Kd.R_lower ho0 (below_size (by repeat (first | (with_reducible first | exact HB.out | apply below_alloc | apply pw_below_drewN | apply below_drew1 | refine below_set ?_ GE660.out | refine below_set ?_ GE661.out) | exact HB.out))))
      have n1_ := Aside0.mk (blk_below (g := gb660) (o := .cells #[.slice A0_0 l0_0.length c0_0, .string a0_1, .string a0_2, .string a0_3] 24 (0, 0)) (by (with_reducible repeat (first | refine blk_drewN ?_ _ | refine blk_drew ?_ | refine blk_alloc ?_ _)); exact BK660.out) hb)
      have n2_ := Aside0.mk (blk_below (g := gb661) (o := .cells #[.slice A1_0 l1_0.length c1_0, .string a1_1, .string a1_2, .string a1_3] 24 (0, 0)) (by (with_reducible repeat (first | refine blk_drewN ?_ _ | refine blk_drew ?_ | refine blk_alloc ?_ _)); exact BK661.out) hb)
      have n3_ := Aside0.mk (below_step (by repeat (first | (with_reducible first | exact HB.out | apply below_alloc | apply pw_below_drewN | apply below_drew1 | refine below_set ?_ GE660.out | refine below_set ?_ GE661.out) | exact HB.out)) hb)
      clear BK660
      clear BK661
      clear HB
      have HO666 := n0_
      have BK660 := n1_
      have BK661 := n2_
      have HB := n3_
      clear n0_ n1_ n2_ n3_
      (try clear hb)
      (try clear hb2)
      (try clear hk)
      (try clear hi)
      (try clear ho0)
      refine hK.out _ _ ⟨(blk_cell BK660.out 0).trans rfl, (blk_cell BK660.out 1).trans rfl, (blk_cell BK660.out 2).trans rfl, (blk_cell BK660.out 3).trans rfl, (blk_cell BK661.out 0).trans rfl, (blk_cell BK661.out 1).trans rfl, (blk_cell BK661.out 2).trans rfl, (blk_cell BK661.out 3).trans rfl⟩ (fun hHeld => ?_)
      clear hK K
      refine norm_ (a' := ?_) ?_ ?_
      rotate_left
      · show Act.put _ (some 24) _ = _
        simp only [Act.put, List.setIfInBounds_toArray, List.set_cons_zero, List.set_cons_succ, i64_w, i32_w]
        rfl
      refine one_ (i := 3) (N := some 26) #[true, true, true, true, false, false, false, false, false, false] rfl rfl (one_of HT_.out (by kernel_rfl)) (by decide) (fun K hK => ?_)
      refine goes_ Tryd.func14 (by kernel_rfl) rfl #[.agg #[.slice A1_0 l1_0.length c1_0, .string a1_1, .string a1_2, .string a1_3]] (by rfl) rfl rfl (by (try simp only [List.map_toArray, List.map_cons, List.map_nil]); first | done | rfl | (simp only [List.length_drop, List.length_take]; rfl)) ?_
      with_reducible refine (laws_toName.calls k _ _ l1_0 a1_1 a1_2 a1_3 t670 t673 t674 t675 _ ?side1 ?side2 A20.out).mono ?_
      (case side1 => repeat (first | exact (Kd.C_below HR1_0.out HB.out) | (with_reducible refine Kd.C_alloc ?_ _) | (with_reducible refine Kd.C_drewN ?_ _) | (with_reducible refine Kd.C_drew ?_)))
      (case side2 => exact HC1_0.out)
      rintro e w35 ⟨v671, rfl, ho0, hb⟩
      refine ⟨_, rfl, ?_⟩
      have n0_ := Aside0.mk (Kd.R_elder' (by (with_reducible repeat (first | apply Kd.R_alloc | apply Kd.R_drewN | apply Kd.R_drew)); exact HO666.out) (Kd.R_base ho0) hb)
      have n1_ := Aside0.mk (Kd.R_lower (Kd.R_new' ho0 (Kd.R_lt (by (with_reducible repeat (first | apply Kd.R_alloc | apply Kd.R_drewN | apply Kd.R_drew)); exact HO666.out))) (below_size (by repeat (first | (with_reducible first | exact HB.out | apply below_alloc | apply pw_below_drewN | apply below_drew1 | refine below_set ?_ GE660.out | refine below_set ?_ GE661.out) | exact HB.out))))
      have n2_ := Aside0.mk (blk_below (g := gb660) (o := .cells #[.slice A0_0 l0_0.length c0_0, .string a0_1, .string a0_2, .string a0_3] 24 (0, 0)) (by (with_reducible repeat (first | refine blk_drewN ?_ _ | refine blk_drew ?_ | refine blk_alloc ?_ _)); exact BK660.out) hb)
      have n3_ := Aside0.mk (blk_below (g := gb661) (o := .cells #[.slice A1_0 l1_0.length c1_0, .string a1_1, .string a1_2, .string a1_3] 24 (0, 0)) (by (with_reducible repeat (first | refine blk_drewN ?_ _ | refine blk_drew ?_ | refine blk_alloc ?_ _)); exact BK661.out) hb)
      have n4_ := Aside0.mk (below_step (by repeat (first | (with_reducible first | exact HB.out | apply below_alloc | apply pw_below_drewN | apply below_drew1 | refine below_set ?_ GE660.out | refine below_set ?_ GE661.out) | exact HB.out)) hb)
      clear HO666
      clear BK660
      clear BK661
      clear HB
      have HO666 := n0_
      have HO672 := n1_
      have BK660 := n2_
      have BK661 := n3_
      have HB := n4_
      clear n0_ n1_ n2_ n3_ n4_
      (try clear hb)
      (try clear hb2)
      (try clear hk)
      (try clear hi)
      (try clear ho0)
      obtain ⟨Ao36, co36, eo36⟩ := Kd.R_slice HO666.out
      (first | subst eo36 | (injection eo36 with f1_ f2_ f3_; have f4_ := f1_.symm; have f5_ := f3_.symm; clear f1_ f2_ f3_; subst f4_; subst f5_))
      obtain ⟨Ao37, co37, eo37⟩ := Kd.R_slice HO672.out
      (first | subst eo37 | (injection eo37 with f1_ f2_ f3_; have f4_ := f1_.symm; have f5_ := f3_.symm; clear f1_ f2_ f3_; subst f4_; subst f5_))
      refine hK.out _ _ ⟨(blk_cell BK660.out 0).trans rfl, (blk_cell BK660.out 1).trans rfl, (blk_cell BK660.out 2).trans rfl, (blk_cell BK660.out 3).trans rfl, (blk_cell BK661.out 0).trans rfl, (blk_cell BK661.out 1).trans rfl, (blk_cell BK661.out 2).trans rfl, (blk_cell BK661.out 3).trans rfl⟩ (fun hHeld => ?_)
      clear hK K
      refine norm_ (a' := ?_) ?_ ?_
      rotate_left
      · show Act.put _ (some 26) _ = _
        simp only [Act.put, List.setIfInBounds_toArray, List.set_cons_zero, List.set_cons_succ, i64_w, i32_w]
        rfl
      refine one_ (i := 4) (N := some 27) #[true, true, true, true, true, false, false, false, false, false] rfl rfl (one_of HT_.out (by kernel_rfl)) (by decide) (fun K hK => ?_)
      refine goes_ Tryd.func36 (by kernel_rfl) rfl #[.agg #[.slice Ao36 t664.length co36, .string t667, .string t668, .string t669], .agg #[.slice Ao37 t670.length co37, .string t673, .string t674, .string t675]] (by rfl) rfl rfl (by (try simp only [List.map_toArray, List.map_cons, List.map_nil]); first | done | rfl | (simp only [List.length_drop, List.length_take]; rfl)) ?_
      with_reducible refine (spec_CompareNames.calls k _ _ t664 t667 t668 t669 _ _ t670 t673 t674 t675 t676 t677 _ ?side1 ?side2 ?side3 ?side4 A21.out).mono ?_
      (case side1 => repeat (first | exact (Kd.R_reads' HO666.out).2.2 | (with_reducible refine Kd.C_alloc ?_ _) | (with_reducible refine Kd.C_drewN ?_ _) | (with_reducible refine Kd.C_drew ?_)))
      (case side2 => exact (Kd.R_reads' HO666.out).2.1)
      (case side3 => repeat (first | exact (Kd.R_reads' HO672.out).2.2 | (with_reducible refine Kd.C_alloc ?_ _) | (with_reducible refine Kd.C_drewN ?_ _) | (with_reducible refine Kd.C_drew ?_)))
      (case side4 => exact (Kd.R_reads' HO672.out).2.1)
      rintro e w38 ⟨rfl, hb⟩
      refine ⟨_, rfl, ?_⟩
      have n0_ := Aside0.mk (Kd.R_below (by (with_reducible repeat (first | apply Kd.R_alloc | apply Kd.R_drewN | apply Kd.R_drew)); exact HO666.out) hb)
      have n1_ := Aside0.mk (Kd.R_below (by (with_reducible repeat (first | apply Kd.R_alloc | apply Kd.R_drewN | apply Kd.R_drew)); exact HO672.out) hb)
      have n2_ := Aside0.mk (blk_below (g := gb660) (o := .cells #[.slice A0_0 l0_0.length c0_0, .string a0_1, .string a0_2, .string a0_3] 24 (0, 0)) (by (with_reducible repeat (first | refine blk_drewN ?_ _ | refine blk_drew ?_ | refine blk_alloc ?_ _)); exact BK660.out) hb)
      have n3_ := Aside0.mk (blk_below (g := gb661) (o := .cells #[.slice A1_0 l1_0.length c1_0, .string a1_1, .string a1_2, .string a1_3] 24 (0, 0)) (by (with_reducible repeat (first | refine blk_drewN ?_ _ | refine blk_drew ?_ | refine blk_alloc ?_ _)); exact BK661.out) hb)
      have n4_ := Aside0.mk (below_step (by repeat (first | (with_reducible first | exact HB.out | apply below_alloc | apply pw_below_drewN | apply below_drew1 | refine below_set ?_ GE660.out | refine below_set ?_ GE661.out) | exact HB.out)) hb)
      clear HO666
      clear HO672
      clear BK660
      clear BK661
      clear HB
      have HO666 := n0_
      have HO672 := n1_
      have BK660 := n2_
      have BK661 := n3_
      have HB := n4_
      clear n0_ n1_ n2_ n3_ n4_
      (try clear hb)
      (try clear hb2)
      (try clear hk)
      (try clear hi)
      refine hK.out _ _ ⟨(blk_cell BK660.out 0).trans rfl, (blk_cell BK660.out 1).trans rfl, (blk_cell BK660.out 2).trans rfl, (blk_cell BK660.out 3).trans rfl, (blk_cell BK661.out 0).trans rfl, (blk_cell BK661.out 1).trans rfl, (blk_cell BK661.out 2).trans rfl, (blk_cell BK661.out 3).trans rfl⟩ (fun hHeld => ?_)
      clear hK K
      refine norm_ (a' := ?_) ?_ ?_
      rotate_left
      · show Act.put _ (some 27) _ = _
        simp only [Act.put, List.setIfInBounds_toArray, List.set_cons_zero, List.set_cons_succ, i64_w, i32_w]
        rfl
      refine pure_ (i := 5) (N := some 22) (v := ?_) (a' := ?_) #[true, true, true, true, true, true, false, false, false, false] rfl rfl (any_of HT_.out (by kernel_rfl)) (fun _ _ _ h => h) (Or.inl ⟨by rfl, ?_⟩) ?_ ?_
      rotate_left
      · intro w'
        go_simp
        with_reducible rfl
      rotate_left
      · simp only [Act.put, List.setIfInBounds_toArray, List.set_cons_zero, List.set_cons_succ, i64_w, i32_w]
        rfl
      refine pure_ (i := 6) (N := some 28) (v := ?_) (a' := ?_) #[true, true, true, true, true, true, true, false, false, false] rfl rfl (any_of HT_.out (by kernel_rfl)) (fun _ _ _ h => h) (Or.inl ⟨by rfl, ?_⟩) ?_ ?_
      rotate_left
      · intro w'
        go_simp
        with_reducible rfl
      rotate_left
      · simp only [Act.put, List.setIfInBounds_toArray, List.set_cons_zero, List.set_cons_succ, i64_w, i32_w]
        rfl
      refine pure_ (i := 7) (N := some 29) (v := ?_) (a' := ?_) #[true, true, true, true, true, true, true, true, false, false] rfl rfl (any_of HT_.out (by kernel_rfl)) (fun _ _ _ h => h) (Or.inl ⟨by rfl, ?_⟩) ?_ ?_
      rotate_left
      · intro w'
        go_simp
        with_reducible rfl
      rotate_left
      · simp only [Act.put, List.setIfInBounds_toArray, List.set_cons_zero, List.set_cons_succ, i64_w, i32_w]
        rfl
      refine pure_ (i := 8) (N := some 6) (v := ?_) (a' := ?_) #[true, true, true, true, true, true, true, true, true, false] rfl rfl (any_of HT_.out (by kernel_rfl)) (fun _ _ _ h => h) (Or.inl ⟨by rfl, ?_⟩) ?_ ?_
      rotate_left
      · intro w'
        go_simp
        with_reducible rfl
      rotate_left
      · simp only [Act.put, List.setIfInBounds_toArray, List.set_cons_zero, List.set_cons_succ, i64_w, i32_w]
        rfl
      refine pure_ (i := 9) (N := some 7) (v := ?_) (a' := ?_) #[true, true, true, true, true, true, true, true, true, true] rfl rfl (any_of HT_.out (by kernel_rfl)) (fun _ _ _ h => h) (Or.inl ⟨by rfl, ?_⟩) ?_ ?_
      rotate_left
      · intro w'
        go_simp
        with_reducible rfl
      rotate_left
      · simp only [Act.put, List.setIfInBounds_toArray, List.set_cons_zero, List.set_cons_succ, i64_w, i32_w]
        rfl
      refine done_ (done_of HT_.out (by kernel_rfl)) ?_
      have hcz39_0 : w38.cell? ⟨gb660, 0, none⟩ = some (.slice A0_0 l0_0.length c0_0) := (blk_cell BK660.out 0).trans rfl
      have hcz39_1 : w38.cell? ⟨gb660, 1, none⟩ = some (.string a0_1) := (blk_cell BK660.out 1).trans rfl
      have hcz39_2 : w38.cell? ⟨gb660, 2, none⟩ = some (.string a0_2) := (blk_cell BK660.out 2).trans rfl
      have hcz39_3 : w38.cell? ⟨gb660, 3, none⟩ = some (.string a0_3) := (blk_cell BK660.out 3).trans rfl
      have hfz39_0 := blk_frozen BK660.out 0
      have hfz39_1 := blk_frozen BK660.out 1
      have hfz39_2 := blk_frozen BK660.out 2
      have hfz39_3 := blk_frozen BK660.out 3
      go_upto_region 12 with (first | ((with_reducible refine gate_callee (f := 14) rfl ?_); refine goesL_ (some 31) rfl rfl Tryd.func14 (by kernel_rfl) rfl #[.agg #[.slice A0_0 l0_0.length c0_0, .string a0_1, .string a0_2, .string a0_3]] rfl (by (try simp only [List.map_toArray, List.map_cons, List.map_nil]); first | done | rfl | (simp only [List.length_drop, List.length_take]; rfl)) ?_; (with_reducible refine (laws_toName.calls k _ _ l0_0 a0_1 a0_2 a0_3 t678 t681 t682 t683 _ ?side1 ?side2 A22.out).mono ?_); (case side1 => repeat (first | exact (Kd.C_below HR0_0.out HB.out) | (with_reducible refine Kd.C_alloc ?_ _) | (with_reducible refine Kd.C_drewN ?_ _) | (with_reducible refine Kd.C_drew ?_))); (case side2 => exact HC0_0.out); rintro e w40 ⟨v679, rfl, ho0, hb⟩; refine ⟨_, rfl, ?_⟩; have n0_ := Aside0.mk (Kd.R_elder' (by (with_reducible repeat (first | apply Kd.R_alloc | apply Kd.R_drewN | apply Kd.R_drew)); exact HO666.out) (Kd.R_base ho0) hb); have n1_ := Aside0.mk (Kd.R_elder' (by (with_reducible repeat (first | apply Kd.R_alloc | apply Kd.R_drewN | apply Kd.R_drew)); exact HO672.out) (Kd.R_base ho0) hb); have n2_ := Aside0.mk (Kd.R_lower (Kd.R_new' (Kd.R_new' ho0 (Kd.R_lt (by (with_reducible repeat (first | apply Kd.R_alloc | apply Kd.R_drewN | apply Kd.R_drew)); exact HO666.out))) (Kd.R_lt (by (with_reducible repeat (first | apply Kd.R_alloc | apply Kd.R_drewN | apply Kd.R_drew)); exact HO672.out))) (below_size (by repeat (first | (with_reducible first | exact HB.out | apply below_alloc | apply pw_below_drewN | apply below_drew1 | refine below_set ?_ GE660.out | refine below_set ?_ GE661.out) | exact HB.out)))); have n3_ := Aside0.mk (blk_below (g := gb660) (o := .cells #[.slice A0_0 l0_0.length c0_0, .string a0_1, .string a0_2, .string a0_3] 24 (0, 0)) (by (with_reducible repeat (first | refine blk_drewN ?_ _ | refine blk_drew ?_ | refine blk_alloc ?_ _)); exact BK660.out) hb); have n4_ := Aside0.mk (blk_below (g := gb661) (o := .cells #[.slice A1_0 l1_0.length c1_0, .string a1_1, .string a1_2, .string a1_3] 24 (0, 0)) (by (with_reducible repeat (first | refine blk_drewN ?_ _ | refine blk_drew ?_ | refine blk_alloc ?_ _)); exact BK661.out) hb); have n5_ := Aside0.mk (below_step (by repeat (first | (with_reducible first | exact HB.out | apply below_alloc | apply pw_below_drewN | apply below_drew1 | refine below_set ?_ GE660.out | refine below_set ?_ GE661.out) | exact HB.out)) hb); clear HO666; clear HO672; clear BK660; clear BK661; clear HB; have HO666 := n0_; have HO672 := n1_; have HO680 := n2_; have BK660 := n3_; have BK661 := n4_; have HB := n5_; clear n0_ n1_ n2_ n3_ n4_ n5_; (try clear hb); (try clear hb2); (try clear hk); (try clear hi); (try clear ho0)) | ((with_reducible refine gate_dst (N := 8) rfl ?_); refine box_event ?hg (N := 8) ?hd (cs := #[.slice none 0 0, .string (⟨#[]⟩ : ByteArray), .string (⟨#[]⟩ : ByteArray), .string (⟨#[]⟩ : ByteArray)]) (t := 27) ?hr ?_; (case hd => rfl); (case hg => rfl); (case hr => first | (go_simp; done) | (go_simp; rfl)); intro gb684 hg w41 hbox hb; have n0_ := Aside0.mk (Kd.R_below (by (with_reducible repeat (first | apply Kd.R_alloc | apply Kd.R_drewN | apply Kd.R_drew)); exact HO666.out) hb); have n1_ := Aside0.mk (Kd.R_below (by (with_reducible repeat (first | apply Kd.R_alloc | apply Kd.R_drewN | apply Kd.R_drew)); exact HO672.out) hb); have n2_ := Aside0.mk (Kd.R_below (by (with_reducible repeat (first | apply Kd.R_alloc | apply Kd.R_drewN | apply Kd.R_drew)); exact HO680.out) hb); have n3_ := Aside0.mk (blk_below (g := gb660) (o := .cells #[.slice A0_0 l0_0.length c0_0, .string a0_1, .string a0_2, .string a0_3] 24 (0, 0)) (by (with_reducible repeat (first | refine blk_drewN ?_ _ | refine blk_drew ?_ | refine blk_alloc ?_ _)); exact BK660.out) hb); have n4_ := Aside0.mk (blk_below (g := gb661) (o := .cells #[.slice A1_0 l1_0.length c1_0, .string a1_1, .string a1_2, .string a1_3] 24 (0, 0)) (by (with_reducible repeat (first | refine blk_drewN ?_ _ | refine blk_drew ?_ | refine blk_alloc ?_ _)); exact BK661.out) hb); have n5_ := Aside0.mk (below_step (by repeat (first | (with_reducible first | exact HB.out | apply below_alloc | apply pw_below_drewN | apply below_drew1 | refine below_set ?_ GE660.out | refine below_set ?_ GE661.out) | exact HB.out)) hb); have n6_ := Aside0.mk (hbox); have n7_ := Aside0.mk ((by rw [hg]; exact (below_size (by repeat (first | (with_reducible first | exact HB.out | apply below_alloc | apply pw_below_drewN | apply below_drew1 | refine below_set ?_ GE660.out | refine below_set ?_ GE661.out) | exact HB.out))) : w.heap.size ≤ gb684)); have n8_ := Aside0.mk ((by rw [hg]; exact (below_size (by repeat (first | (with_reducible first | exact HB.out | apply below_alloc | apply pw_below_drewN | apply below_drew1 | refine below_set ?_ GE660.out | refine below_set ?_ GE661.out) | exact HB.out))) : w.heap.size ≤ gb684)); have n9_ := Aside0.mk ((by rw [hg]; exact Nat.ne_of_lt (blk_lt (g := gb660) (o := .cells #[.slice A0_0 l0_0.length c0_0, .string a0_1, .string a0_2, .string a0_3] 24 (0, 0)) (by (with_reducible repeat (first | refine blk_drewN ?_ _ | refine blk_drew ?_ | refine blk_alloc ?_ _)); exact BK660.out)) : gb660 ≠ gb684)); have n10_ := Aside0.mk ((by rw [hg]; exact Nat.ne_of_gt (blk_lt (g := gb660) (o := .cells #[.slice A0_0 l0_0.length c0_0, .string a0_1, .string a0_2, .string a0_3] 24 (0, 0)) (by (with_reducible repeat (first | refine blk_drewN ?_ _ | refine blk_drew ?_ | refine blk_alloc ?_ _)); exact BK660.out)) : gb684 ≠ gb660)); have n11_ := Aside0.mk ((by rw [hg]; exact Nat.ne_of_lt (blk_lt (g := gb661) (o := .cells #[.slice A1_0 l1_0.length c1_0, .string a1_1, .string a1_2, .string a1_3] 24 (0, 0)) (by (with_reducible repeat (first | refine blk_drewN ?_ _ | refine blk_drew ?_ | refine blk_alloc ?_ _)); exact BK661.out)) : gb661 ≠ gb684)); have n12_ := Aside0.mk ((by rw [hg]; exact Nat.ne_of_gt (blk_lt (g := gb661) (o := .cells #[.slice A1_0 l1_0.length c1_0, .string a1_1, .string a1_2, .string a1_3] 24 (0, 0)) (by (with_reducible repeat (first | refine blk_drewN ?_ _ | refine blk_drew ?_ | refine blk_alloc ?_ _)); exact BK661.out)) : gb684 ≠ gb661)); clear HO666; clear HO672; clear HO680; clear BK660; clear BK661; clear HB; have HO666 := n0_; have HO672 := n1_; have HO680 := n2_; have BK660 := n3_; have BK661 := n4_; have HB := n5_; have BK684 := n6_; have GW684 := n7_; have GE684 := n8_; have NB660_684 := n9_; have NB684_660 := n10_; have NB661_684 := n11_; have NB684_661 := n12_; clear n0_ n1_ n2_ n3_ n4_ n5_ n6_ n7_ n8_ n9_ n10_ n11_ n12_; clear hb hbox hg; obtain ⟨Ao42, co42, eo42⟩ := Kd.R_slice HO680.out; subst eo42; have hnb43 := NB684_660.out; have hnc43 := NB660_684.out; have hnb44 := NB684_661.out; have hnc44 := NB661_684.out; have hcz45_0 : w41.cell? ⟨gb684, 0, none⟩ = some (.slice none 0 0) := (blk_cell BK684.out 0).trans rfl; have hcz45_1 : w41.cell? ⟨gb684, 1, none⟩ = some (.string (⟨#[]⟩ : ByteArray)) := (blk_cell BK684.out 1).trans rfl; have hcz45_2 : w41.cell? ⟨gb684, 2, none⟩ = some (.string (⟨#[]⟩ : ByteArray)) := (blk_cell BK684.out 2).trans rfl; have hcz45_3 : w41.cell? ⟨gb684, 3, none⟩ = some (.string (⟨#[]⟩ : ByteArray)) := (blk_cell BK684.out 3).trans rfl; have hfz45_0 := blk_frozen BK684.out 0; have hfz45_1 := blk_frozen BK684.out 1; have hfz45_2 := blk_frozen BK684.out 2; have hfz45_3 := blk_frozen BK684.out 3; have hcz46_0 : w41.cell? ⟨gb661, 0, none⟩ = some (.slice A1_0 l1_0.length c1_0) := (blk_cell BK661.out 0).trans rfl; have hcz46_1 : w41.cell? ⟨gb661, 1, none⟩ = some (.string a1_1) := (blk_cell BK661.out 1).trans rfl; have hcz46_2 : w41.cell? ⟨gb661, 2, none⟩ = some (.string a1_2) := (blk_cell BK661.out 2).trans rfl; have hcz46_3 : w41.cell? ⟨gb661, 3, none⟩ = some (.string a1_3) := (blk_cell BK661.out 3).trans rfl; have hfz46_0 := blk_frozen BK661.out 0; have hfz46_1 := blk_frozen BK661.out 1; have hfz46_2 := blk_frozen BK661.out 2; have hfz46_3 := blk_frozen BK661.out 3) | ((with_reducible refine gate_callee (f := 14) rfl ?_); refine goesL_ (some 33) rfl rfl Tryd.func14 (by kernel_rfl) rfl #[.agg #[.slice A1_0 l1_0.length c1_0, .string a1_1, .string a1_2, .string a1_3]] rfl (by (try simp only [List.map_toArray, List.map_cons, List.map_nil]); first | done | rfl | (simp only [List.length_drop, List.length_take]; rfl)) ?_; (with_reducible refine (laws_toName.calls k _ _ l1_0 a1_1 a1_2 a1_3 t685 t688 t689 t690 _ ?side1 ?side2 A23.out).mono ?_); (case side1 => exact Kd.C_below HR1_0.out (by repeat (first | (with_reducible first | exact HB.out | apply below_alloc | apply pw_below_drewN | apply below_drew1 | refine below_set ?_ GE660.out | refine below_set ?_ GE661.out | refine below_set ?_ GE684.out) | exact HB.out))); (case side2 => exact HC1_0.out); rintro e w47 ⟨v686, rfl, ho0, hb⟩; refine ⟨_, rfl, ?_⟩; have n0_ := Aside0.mk (Kd.R_elder' (by (with_reducible repeat (first | apply Kd.R_alloc | apply Kd.R_drewN | apply Kd.R_drew)); exact (Kd.R_mono (Kd.R_far (p := ⟨gb684, 3, none⟩) (Kd.R_far (p := ⟨gb684, 2, none⟩) (Kd.R_far (p := ⟨gb684, 1, none⟩) (Kd.R_far (p := ⟨gb684, 0, none⟩) (Kd.R_types HO666.out BK684.out (by decide)) (fun _ hk => hk.2) (.slice Ao42 t678.length co42)) (fun _ hk => hk.2) (.string t681)) (fun _ hk => hk.2) (.string t682)) (fun _ hk => hk.2) (.string t683)) (fun _ h_ => h_.1))) (Kd.R_base ho0) hb); have n1_ := Aside0.mk (Kd.R_elder' (by (with_reducible repeat (first | apply Kd.R_alloc | apply Kd.R_drewN | apply Kd.R_drew)); exact (Kd.R_mono (Kd.R_far (p := ⟨gb684, 3, none⟩) (Kd.R_far (p := ⟨gb684, 2, none⟩) (Kd.R_far (p := ⟨gb684, 1, none⟩) (Kd.R_far (p := ⟨gb684, 0, none⟩) (Kd.R_types HO672.out BK684.out (by decide)) (fun _ hk => hk.2) (.slice Ao42 t678.length co42)) (fun _ hk => hk.2) (.string t681)) (fun _ hk => hk.2) (.string t682)) (fun _ hk => hk.2) (.string t683)) (fun _ h_ => h_.1))) (Kd.R_base ho0) hb); have n2_ := Aside0.mk (Kd.R_elder' (by (with_reducible repeat (first | apply Kd.R_alloc | apply Kd.R_drewN | apply Kd.R_drew)); exact (Kd.R_mono (Kd.R_far (p := ⟨gb684, 3, none⟩) (Kd.R_far (p := ⟨gb684, 2, none⟩) (Kd.R_far (p := ⟨gb684, 1, none⟩) (Kd.R_far (p := ⟨gb684, 0, none⟩) (Kd.R_types HO680.out BK684.out (by decide)) (fun _ hk => hk.2) (.slice Ao42 t678.length co42)) (fun _ hk => hk.2) (.string t681)) (fun _ hk => hk.2) (.string t682)) (fun _ hk => hk.2) (.string t683)) (fun _ h_ => h_.1))) (Kd.R_base ho0) hb); have n3_ := Aside0.mk (Kd.R_lower (Kd.R_new' (Kd.R_new' (Kd.R_new' ho0 (Kd.R_lt (by (with_reducible repeat (first | apply Kd.R_alloc | apply Kd.R_drewN | apply Kd.R_drew)); exact (Kd.R_mono (Kd.R_far (p := ⟨gb684, 3, none⟩) (Kd.R_far (p := ⟨gb684, 2, none⟩) (Kd.R_far (p := ⟨gb684, 1, none⟩) (Kd.R_far (p := ⟨gb684, 0, none⟩) (Kd.R_types HO666.out BK684.out (by decide)) (fun _ hk => hk.2) (.slice Ao42 t678.length co42)) (fun _ hk => hk.2) (.string t681)) (fun _ hk => hk.2) (.string t682)) (fun _ hk => hk.2) (.string t683)) (fun _ h_ => h_.1))))) (Kd.R_lt (by (with_reducible repeat (first | apply Kd.R_alloc | apply Kd.R_drewN | apply Kd.R_drew)); exact (Kd.R_mono (Kd.R_far (p := ⟨gb684, 3, none⟩) (Kd.R_far (p := ⟨gb684, 2, none⟩) (Kd.R_far (p := ⟨gb684, 1, none⟩) (Kd.R_far (p := ⟨gb684, 0, none⟩) (Kd.R_types HO672.out BK684.out (by decide)) (fun _ hk => hk.2) (.slice Ao42 t678.length co42)) (fun _ hk => hk.2) (.string t681)) (fun _ hk => hk.2) (.string t682)) (fun _ hk => hk.2) (.string t683)) (fun _ h_ => h_.1))))) (Kd.R_lt (by (with_reducible repeat (first | apply Kd.R_alloc | apply Kd.R_drewN | apply Kd.R_drew)); exact (Kd.R_mono (Kd.R_far (p := ⟨gb684, 3, none⟩) (Kd.R_far (p := ⟨gb684, 2, none⟩) (Kd.R_far (p := ⟨gb684, 1, none⟩) (Kd.R_far (p := ⟨gb684, 0, none⟩) (Kd.R_types HO680.out BK684.out (by decide)) (fun _ hk => hk.2) (.slice Ao42 t678.length co42)) (fun _ hk => hk.2) (.string t681)) (fun _ hk => hk.2) (.string t682)) (fun _ hk => hk.2) (.string t683)) (fun _ h_ => h_.1))))) (below_size (by repeat (first | (with_reducible first | exact HB.out | apply below_alloc | apply pw_below_drewN | apply below_drew1 | refine below_set ?_ GE660.out | refine below_set ?_ GE661.out | refine below_set ?_ GE684.out) | exact HB.out)))); have n4_ := Aside0.mk (blk_below (g := gb660) (o := .cells #[.slice A0_0 l0_0.length c0_0, .string a0_1, .string a0_2, .string a0_3] 24 (0, 0)) (by (with_reducible repeat (first | refine blk_drewN ?_ _ | refine blk_drew ?_ | refine blk_alloc ?_ _)); refine blk_far ?_ NB660_684.out _; (with_reducible repeat (first | refine blk_drewN ?_ _ | refine blk_drew ?_ | refine blk_alloc ?_ _)); refine blk_far ?_ NB660_684.out _; (with_reducible repeat (first | refine blk_drewN ?_ _ | refine blk_drew ?_ | refine blk_alloc ?_ _)); refine blk_far ?_ NB660_684.out _; (with_reducible repeat (first | refine blk_drewN ?_ _ | refine blk_drew ?_ | refine blk_alloc ?_ _)); refine blk_far ?_ NB660_684.out _; (with_reducible repeat (first | refine blk_drewN ?_ _ | refine blk_drew ?_ | refine blk_alloc ?_ _)); exact BK660.out) hb); have n5_ := Aside0.mk (blk_below (g := gb661) (o := .cells #[.slice A1_0 l1_0.length c1_0, .string a1_1, .string a1_2, .string a1_3] 24 (0, 0)) (by (with_reducible repeat (first | refine blk_drewN ?_ _ | refine blk_drew ?_ | refine blk_alloc ?_ _)); refine blk_far ?_ NB661_684.out _; (with_reducible repeat (first | refine blk_drewN ?_ _ | refine blk_drew ?_ | refine blk_alloc ?_ _)); refine blk_far ?_ NB661_684.out _; (with_reducible repeat (first | refine blk_drewN ?_ _ | refine blk_drew ?_ | refine blk_alloc ?_ _)); refine blk_far ?_ NB661_684.out _; (with_reducible repeat (first | refine blk_drewN ?_ _ | refine blk_drew ?_ | refine blk_alloc ?_ _)); refine blk_far ?_ NB661_684.out _; (with_reducible repeat (first | refine blk_drewN ?_ _ | refine blk_drew ?_ | refine blk_alloc ?_ _)); exact BK661.out) hb); have n6_ := Aside0.mk (blk_below (g := gb684) (o := .cells #[.slice Ao42 t678.length co42, .string t681, .string t682, .string t683] 27 (0, 0)) (by (with_reducible repeat (first | refine blk_drewN ?_ _ | refine blk_drew ?_ | refine blk_alloc ?_ _)); refine blk_put (cs := #[.slice Ao42 t678.length co42, .string t681, .string t682, .string (⟨#[]⟩ : ByteArray)]) ?_ 3 _ rfl; (with_reducible repeat (first | refine blk_drewN ?_ _ | refine blk_drew ?_ | refine blk_alloc ?_ _)); refine blk_put (cs := #[.slice Ao42 t678.length co42, .string t681, .string (⟨#[]⟩ : ByteArray), .string (⟨#[]⟩ : ByteArray)]) ?_ 2 _ rfl; (with_reducible repeat (first | refine blk_drewN ?_ _ | refine blk_drew ?_ | refine blk_alloc ?_ _)); refine blk_put (cs := #[.slice Ao42 t678.length co42, .string (⟨#[]⟩ : ByteArray), .string (⟨#[]⟩ : ByteArray), .string (⟨#[]⟩ : ByteArray)]) ?_ 1 _ rfl; (with_reducible repeat (first | refine blk_drewN ?_ _ | refine blk_drew ?_ | refine blk_alloc ?_ _)); refine blk_put (cs := #[.slice none 0 0, .string (⟨#[]⟩ : ByteArray), .string (⟨#[]⟩ : ByteArray), .string (⟨#[]⟩ : ByteArray)]) ?_ 0 _ rfl; (with_reducible repeat (first | refine blk_drewN ?_ _ | refine blk_drew ?_ | refine blk_alloc ?_ _)); exact BK684.out) hb); have n7_ := Aside0.mk (below_step (by repeat (first | (with_reducible first | exact HB.out | apply below_alloc | apply pw_below_drewN | apply below_drew1 | refine below_set ?_ GE660.out | refine below_set ?_ GE661.out | refine below_set ?_ GE684.out) | exact HB.out)) hb); clear HO666; clear HO672; clear HO680; clear BK660; clear BK661; clear BK684; clear HB; have HO666 := n0_; have HO672 := n1_; have HO680 := n2_; have HO687 := n3_; have BK660 := n4_; have BK661 := n5_; have BK684 := n6_; have HB := n7_; clear n0_ n1_ n2_ n3_ n4_ n5_ n6_ n7_; (try clear hb); (try clear hb2); (try clear hk); (try clear hi); (try clear ho0)) | ((with_reducible refine gate_dst (N := 9) rfl ?_); refine box_event ?hg (N := 9) ?hd (cs := #[.slice none 0 0, .string (⟨#[]⟩ : ByteArray), .string (⟨#[]⟩ : ByteArray), .string (⟨#[]⟩ : ByteArray)]) (t := 27) ?hr ?_; (case hd => rfl); (case hg => rfl); (case hr => first | (go_simp; done) | (go_simp; rfl)); intro gb691 hg w48 hbox hb; have n0_ := Aside0.mk (Kd.R_below (by (with_reducible repeat (first | apply Kd.R_alloc | apply Kd.R_drewN | apply Kd.R_drew)); exact HO666.out) hb); have n1_ := Aside0.mk (Kd.R_below (by (with_reducible repeat (first | apply Kd.R_alloc | apply Kd.R_drewN | apply Kd.R_drew)); exact HO672.out) hb); have n2_ := Aside0.mk (Kd.R_below (by (with_reducible repeat (first | apply Kd.R_alloc | apply Kd.R_drewN | apply Kd.R_drew)); exact HO680.out) hb); have n3_ := Aside0.mk (Kd.R_below (by (with_reducible repeat (first | apply Kd.R_alloc | apply Kd.R_drewN | apply Kd.R_drew)); exact HO687.out) hb); have n4_ := Aside0.mk (blk_below (g := gb660) (o := .cells #[.slice A0_0 l0_0.length c0_0, .string a0_1, .string a0_2, .string a0_3] 24 (0, 0)) (by (with_reducible repeat (first | refine blk_drewN ?_ _ | refine blk_drew ?_ | refine blk_alloc ?_ _)); exact BK660.out) hb); have n5_ := Aside0.mk (blk_below (g := gb661) (o := .cells #[.slice A1_0 l1_0.length c1_0, .string a1_1, .string a1_2, .string a1_3] 24 (0, 0)) (by (with_reducible repeat (first | refine blk_drewN ?_ _ | refine blk_drew ?_ | refine blk_alloc ?_ _)); exact BK661.out) hb); have n6_ := Aside0.mk (blk_below (g := gb684) (o := .cells #[.slice Ao42 t678.length co42, .string t681, .string t682, .string t683] 27 (0, 0)) (by (with_reducible repeat (first | refine blk_drewN ?_ _ | refine blk_drew ?_ | refine blk_alloc ?_ _)); exact BK684.out) hb); have n7_ := Aside0.mk (below_step (by repeat (first | (with_reducible first | exact HB.out | apply below_alloc | apply pw_below_drewN | apply below_drew1 | refine below_set ?_ GE660.out | refine below_set ?_ GE661.out | refine below_set ?_ GE684.out) | exact HB.out)) hb); have n8_ := Aside0.mk (hbox); have n9_ := Aside0.mk ((by rw [hg]; exact (below_size (by repeat (first | (with_reducible first | exact HB.out | apply below_alloc | apply pw_below_drewN | apply below_drew1 | refine below_set ?_ GE660.out | refine below_set ?_ GE661.out | refine below_set ?_ GE684.out) | exact HB.out))) : w.heap.size ≤ gb691)); have n10_ := Aside0.mk ((by rw [hg]; exact (below_size (by repeat (first | (with_reducible first | exact HB.out | apply below_alloc | apply pw_below_drewN | apply below_drew1 | refine below_set ?_ GE660.out | refine below_set ?_ GE661.out | refine below_set ?_ GE684.out) | exact HB.out))) : w.heap.size ≤ gb691)); have n11_ := Aside0.mk ((by rw [hg]; exact Nat.ne_of_lt (blk_lt (g := gb660) (o := .cells #[.slice A0_0 l0_0.length c0_0, .string a0_1, .string a0_2, .string a0_3] 24 (0, 0)) (by (with_reducible repeat (first | refine blk_drewN ?_ _ | refine blk_drew ?_ | refine blk_alloc ?_ _)); exact BK660.out)) : gb660 ≠ gb691)); have n12_ := Aside0.mk ((by rw [hg]; exact Nat.ne_of_gt (blk_lt (g := gb660) (o := .cells #[.slice A0_0 l0_0.length c0_0, .string a0_1, .string a0_2, .string a0_3] 24 (0, 0)) (by (with_reducible repeat (first | refine blk_drewN ?_ _ | refine blk_drew ?_ | refine blk_alloc ?_ _)); exact BK660.out)) : gb691 ≠ gb660)); have n13_ := Aside0.mk ((by rw [hg]; exact Nat.ne_of_lt (blk_lt (g := gb661) (o := .cells #[.slice A1_0 l1_0.length c1_0, .string a1_1, .string a1_2, .string a1_3] 24 (0, 0)) (by (with_reducible repeat (first | refine blk_drewN ?_ _ | refine blk_drew ?_ | refine blk_alloc ?_ _)); exact BK661.out)) : gb661 ≠ gb691)); have n14_ := Aside0.mk ((by rw [hg]; exact Nat.ne_of_gt (blk_lt (g := gb661) (o := .cells #[.slice A1_0 l1_0.length c1_0, .string a1_1, .string a1_2, .string a1_3] 24 (0, 0)) (by (with_reducible repeat (first | refine blk_drewN ?_ _ | refine blk_drew ?_ | refine blk_alloc ?_ _)); exact BK661.out)) : gb691 ≠ gb661)); have n15_ := Aside0.mk ((by rw [hg]; exact Nat.ne_of_lt (blk_lt (g := gb684) (o := .cells #[.slice Ao42 t678.length co42, .string t681, .string t682, .string t683] 27 (0, 0)) (by (with_reducible repeat (first | refine blk_drewN ?_ _ | refine blk_drew ?_ | refine blk_alloc ?_ _)); exact BK684.out)) : gb684 ≠ gb691)); have n16_ := Aside0.mk ((by rw [hg]; exact Nat.ne_of_gt (blk_lt (g := gb684) (o := .cells #[.slice Ao42 t678.length co42, .string t681, .string t682, .string t683] 27 (0, 0)) (by (with_reducible repeat (first | refine blk_drewN ?_ _ | refine blk_drew ?_ | refine blk_alloc ?_ _)); exact BK684.out)) : gb691 ≠ gb684)); clear HO666; clear HO672; clear HO680; clear HO687; clear BK660; clear BK661; clear BK684; clear HB; have HO666 := n0_; have HO672 := n1_; have HO680 := n2_; have HO687 := n3_; have BK660 := n4_; have BK661 := n5_; have BK684 := n6_; have HB := n7_; have BK691 := n8_; have GW691 := n9_; have GE691 := n10_; have NB660_691 := n11_; have NB691_660 := n12_; have NB661_691 := n13_; have NB691_661 := n14_; have NB684_691 := n15_; have NB691_684 := n16_; clear n0_ n1_ n2_ n3_ n4_ n5_ n6_ n7_ n8_ n9_ n10_ n11_ n12_ n13_ n14_ n15_ n16_; clear hb hbox hg; obtain ⟨Ao49, co49, eo49⟩ := Kd.R_slice HO687.out; subst eo49; have hnb50 := NB691_660.out; have hnc50 := NB660_691.out; have hnb51 := NB691_661.out; have hnc51 := NB661_691.out; have hnb52 := NB691_684.out; have hnc52 := NB684_691.out; have hcz53_0 : w48.cell? ⟨gb691, 0, none⟩ = some (.slice none 0 0) := (blk_cell BK691.out 0).trans rfl; have hcz53_1 : w48.cell? ⟨gb691, 1, none⟩ = some (.string (⟨#[]⟩ : ByteArray)) := (blk_cell BK691.out 1).trans rfl; have hcz53_2 : w48.cell? ⟨gb691, 2, none⟩ = some (.string (⟨#[]⟩ : ByteArray)) := (blk_cell BK691.out 2).trans rfl; have hcz53_3 : w48.cell? ⟨gb691, 3, none⟩ = some (.string (⟨#[]⟩ : ByteArray)) := (blk_cell BK691.out 3).trans rfl; have hfz53_0 := blk_frozen BK691.out 0; have hfz53_1 := blk_frozen BK691.out 1; have hfz53_2 := blk_frozen BK691.out 2; have hfz53_3 := blk_frozen BK691.out 3; have hcz54_0 : w48.cell? ⟨gb684, 0, none⟩ = some (.slice Ao42 t678.length co42) := (blk_cell BK684.out 0).trans rfl; have hcz54_1 : w48.cell? ⟨gb684, 1, none⟩ = some (.string t681) := (blk_cell BK684.out 1).trans rfl; have hcz54_2 : w48.cell? ⟨gb684, 2, none⟩ = some (.string t682) := (blk_cell BK684.out 2).trans rfl; have hcz54_3 : w48.cell? ⟨gb684, 3, none⟩ = some (.string t683) := (blk_cell BK684.out 3).trans rfl; have hfz54_0 := blk_frozen BK684.out 0; have hfz54_1 := blk_frozen BK684.out 1; have hfz54_2 := blk_frozen BK684.out 2; have hfz54_3 := blk_frozen BK684.out 3) | ((with_reducible refine gate_callee (f := 37) rfl ?_); refine goesL_ (some 37) rfl rfl Tryd.func37 (by kernel_rfl) rfl #[.agg #[.slice Ao42 t678.length co42, .string t681, .string t682, .string t683], .agg #[.slice Ao49 t685.length co49, .string t688, .string t689, .string t690]] rfl (by (try simp only [List.map_toArray, List.map_cons, List.map_nil]); first | done | rfl | (simp only [List.length_drop, List.length_take]; rfl)) ?_; (with_reducible refine (impl_CompareNames.calls (hG := (by first | exact HG.out | (refine HG.out.drawn ?_; (repeat (first | exact Drawn0.refl _ | apply Drawn0.step)); done) | (refine HG.out.below ?_; (repeat (first | (with_reducible first | exact HB.out | apply below_alloc | apply pw_below_drewN | apply below_drew1 | refine below_set ?_ (by first | assumption | exact Aside0.out (by assumption))) | exact HB.out)); done))) k _ _ t678 t681 t682 t683 _ _ t685 t688 t689 t690 t692 t693 _ ?side1 ?side2 ?side3 ?side4 A24.out).mono ?_); (case side1 => refine (Kd.R_reads' (e := 9) (base := w.heap.size) (ok := fun k_ => (((True ∧ some k_ ≠ (.slice Ao36 t664.length co36 : Value).ownBlock) ∧ some k_ ≠ (.slice Ao37 t670.length co37 : Value).ownBlock) ∧ some k_ ≠ (.slice Ao49 t685.length co49 : Value).ownBlock)) (n := t678.length) (c := co42) ?_).2.2; exact (by (with_reducible repeat (first | apply Kd.R_alloc | apply Kd.R_drewN | apply Kd.R_drew)); exact (Kd.R_mono (Kd.R_far (p := ⟨gb691, 3, none⟩) (Kd.R_far (p := ⟨gb691, 2, none⟩) (Kd.R_far (p := ⟨gb691, 1, none⟩) (Kd.R_far (p := ⟨gb691, 0, none⟩) (Kd.R_types HO680.out BK691.out (by decide)) (fun _ hk => hk.2) (.slice Ao49 t685.length co49)) (fun _ hk => hk.2) (.string t688)) (fun _ hk => hk.2) (.string t689)) (fun _ hk => hk.2) (.string t690)) (fun _ h_ => h_.1)))); (case side2 => exact (Kd.R_reads' HO680.out).2.1); (case side3 => refine (Kd.R_reads' (e := 9) (base := w.heap.size) (ok := fun k_ => (((True ∧ some k_ ≠ (.slice Ao36 t664.length co36 : Value).ownBlock) ∧ some k_ ≠ (.slice Ao37 t670.length co37 : Value).ownBlock) ∧ some k_ ≠ (.slice Ao42 t678.length co42 : Value).ownBlock)) (n := t685.length) (c := co49) ?_).2.2; exact (by (with_reducible repeat (first | apply Kd.R_alloc | apply Kd.R_drewN | apply Kd.R_drew)); exact (Kd.R_mono (Kd.R_far (p := ⟨gb691, 3, none⟩) (Kd.R_far (p := ⟨gb691, 2, none⟩) (Kd.R_far (p := ⟨gb691, 1, none⟩) (Kd.R_far (p := ⟨gb691, 0, none⟩) (Kd.R_types HO687.out BK691.out (by decide)) (fun _ hk => hk.2) (.slice Ao49 t685.length co49)) (fun _ hk => hk.2) (.string t688)) (fun _ hk => hk.2) (.string t689)) (fun _ hk => hk.2) (.string t690)) (fun _ h_ => h_.1)))); (case side4 => exact (Kd.R_reads' HO687.out).2.1); rintro e w55 ⟨rfl, hb⟩; refine ⟨_, rfl, ?_⟩; have n0_ := Aside0.mk (Kd.R_below (by (with_reducible repeat (first | apply Kd.R_alloc | apply Kd.R_drewN | apply Kd.R_drew)); exact (Kd.R_mono (Kd.R_far (p := ⟨gb691, 3, none⟩) (Kd.R_far (p := ⟨gb691, 2, none⟩) (Kd.R_far (p := ⟨gb691, 1, none⟩) (Kd.R_far (p := ⟨gb691, 0, none⟩) (Kd.R_types HO666.out BK691.out (by decide)) (fun _ hk => hk.2) (.slice Ao49 t685.length co49)) (fun _ hk => hk.2) (.string t688)) (fun _ hk => hk.2) (.string t689)) (fun _ hk => hk.2) (.string t690)) (fun _ h_ => h_.1))) hb); have n1_ := Aside0.mk (Kd.R_below (by (with_reducible repeat (first | apply Kd.R_alloc | apply Kd.R_drewN | apply Kd.R_drew)); exact (Kd.R_mono (Kd.R_far (p := ⟨gb691, 3, none⟩) (Kd.R_far (p := ⟨gb691, 2, none⟩) (Kd.R_far (p := ⟨gb691, 1, none⟩) (Kd.R_far (p := ⟨gb691, 0, none⟩) (Kd.R_types HO672.out BK691.out (by decide)) (fun _ hk => hk.2) (.slice Ao49 t685.length co49)) (fun _ hk => hk.2) (.string t688)) (fun _ hk => hk.2) (.string t689)) (fun _ hk => hk.2) (.string t690)) (fun _ h_ => h_.1))) hb); have n2_ := Aside0.mk (Kd.R_below (by (with_reducible repeat (first | apply Kd.R_alloc | apply Kd.R_drewN | apply Kd.R_drew)); exact (Kd.R_mono (Kd.R_far (p := ⟨gb691, 3, none⟩) (Kd.R_far (p := ⟨gb691, 2, none⟩) (Kd.R_far (p := ⟨gb691, 1, none⟩) (Kd.R_far (p := ⟨gb691, 0, none⟩) (Kd.R_types HO680.out BK691.out (by decide)) (fun _ hk => hk.2) (.slice Ao49 t685.length co49)) (fun _ hk => hk.2) (.string t688)) (fun _ hk => hk.2) (.string t689)) (fun _ hk => hk.2) (.string t690)) (fun _ h_ => h_.1))) hb); have n3_ := Aside0.mk (Kd.R_below (by (with_reducible repeat (first | apply Kd.R_alloc | apply Kd.R_drewN | apply Kd.R_drew)); exact (Kd.R_mono (Kd.R_far (p := ⟨gb691, 3, none⟩) (Kd.R_far (p := ⟨gb691, 2, none⟩) (Kd.R_far (p := ⟨gb691, 1, none⟩) (Kd.R_far (p := ⟨gb691, 0, none⟩) (Kd.R_types HO687.out BK691.out (by decide)) (fun _ hk => hk.2) (.slice Ao49 t685.length co49)) (fun _ hk => hk.2) (.string t688)) (fun _ hk => hk.2) (.string t689)) (fun _ hk => hk.2) (.string t690)) (fun _ h_ => h_.1))) hb); have n4_ := Aside0.mk (blk_below (g := gb660) (o := .cells #[.slice A0_0 l0_0.length c0_0, .string a0_1, .string a0_2, .string a0_3] 24 (0, 0)) (by (with_reducible repeat (first | refine blk_drewN ?_ _ | refine blk_drew ?_ | refine blk_alloc ?_ _)); refine blk_far ?_ NB660_691.out _; (with_reducible repeat (first | refine blk_drewN ?_ _ | refine blk_drew ?_ | refine blk_alloc ?_ _)); refine blk_far ?_ NB660_691.out _; (with_reducible repeat (first | refine blk_drewN ?_ _ | refine blk_drew ?_ | refine blk_alloc ?_ _)); refine blk_far ?_ NB660_691.out _; (with_reducible repeat (first | refine blk_drewN ?_ _ | refine blk_drew ?_ | refine blk_alloc ?_ _)); refine blk_far ?_ NB660_691.out _; (with_reducible repeat (first | refine blk_drewN ?_ _ | refine blk_drew ?_ | refine blk_alloc ?_ _)); exact BK660.out) hb); have n5_ := Aside0.mk (blk_below (g := gb661) (o := .cells #[.slice A1_0 l1_0.length c1_0, .string a1_1, .string a1_2, .string a1_3] 24 (0, 0)) (by (with_reducible repeat (first | refine blk_drewN ?_ _ | refine blk_drew ?_ | refine blk_alloc ?_ _)); refine blk_far ?_ NB661_691.out _; (with_reducible repeat (first | refine blk_drewN ?_ _ | refine blk_drew ?_ | refine blk_alloc ?_ _)); refine blk_far ?_ NB661_691.out _; (with_reducible repeat (first | refine blk_drewN ?_ _ | refine blk_drew ?_ | refine blk_alloc ?_ _)); refine blk_far ?_ NB661_691.out _; (with_reducible repeat (first | refine blk_drewN ?_ _ | refine blk_drew ?_ | refine blk_alloc ?_ _)); refine blk_far ?_ NB661_691.out _; (with_reducible repeat (first | refine blk_drewN ?_ _ | refine blk_drew ?_ | refine blk_alloc ?_ _)); exact BK661.out) hb); have n6_ := Aside0.mk (blk_below (g := gb684) (o := .cells #[.slice Ao42 t678.length co42, .string t681, .string t682, .string t683] 27 (0, 0)) (by (with_reducible repeat (first | refine blk_drewN ?_ _ | refine blk_drew ?_ | refine blk_alloc ?_ _)); refine blk_far ?_ NB684_691.out _; (with_reducible repeat (first | refine blk_drewN ?_ _ | refine blk_drew ?_ | refine blk_alloc ?_ _)); refine blk_far ?_ NB684_691.out _; (with_reducible repeat (first | refine blk_drewN ?_ _ | refine blk_drew ?_ | refine blk_alloc ?_ _)); refine blk_far ?_ NB684_691.out _; (with_reducible repeat (first | refine blk_drewN ?_ _ | refine blk_drew ?_ | refine blk_alloc ?_ _)); refine blk_far ?_ NB684_691.out _; (with_reducible repeat (first | refine blk_drewN ?_ _ | refine blk_drew ?_ | refine blk_alloc ?_ _)); exact BK684.out) hb); have n7_ := Aside0.mk (blk_below (g := gb691) (o := .cells #[.slice Ao49 t685.length co49, .string t688, .string t689, .string t690] 27 (0, 0)) (by (with_reducible repeat (first | refine blk_drewN ?_ _ | refine blk_drew ?_ | refine blk_alloc ?_ _)); refine blk_put (cs := #[.slice Ao49 t685.length co49, .string t688, .string t689, .string (⟨#[]⟩ : ByteArray)]) ?_ 3 _ rfl; (with_reducible repeat (first | refine blk_drewN ?_ _ | refine blk_drew ?_ | refine blk_alloc ?_ _)); refine blk_put (cs := #[.slice Ao49 t685.length co49, .string t688, .string (⟨#[]⟩ : ByteArray), .string (⟨#[]⟩ : ByteArray)]) ?_ 2 _ rfl; (with_reducible repeat (first | refine blk_drewN ?_ _ | refine blk_drew ?_ | refine blk_alloc ?_ _)); refine blk_put (cs := #[.slice Ao49 t685.length co49, .string (⟨#[]⟩ : ByteArray), .string (⟨#[]⟩ : ByteArray), .string (⟨#[]⟩ : ByteArray)]) ?_ 1 _ rfl; (with_reducible repeat (first | refine blk_drewN ?_ _ | refine blk_drew ?_ | refine blk_alloc ?_ _)); refine blk_put (cs := #[.slice none 0 0, .string (⟨#[]⟩ : ByteArray), .string (⟨#[]⟩ : ByteArray), .string (⟨#[]⟩ : ByteArray)]) ?_ 0 _ rfl; (with_reducible repeat (first | refine blk_drewN ?_ _ | refine blk_drew ?_ | refine blk_alloc ?_ _)); exact BK691.out) hb); have n8_ := Aside0.mk (below_step (by repeat (first | (with_reducible first | exact HB.out | apply below_alloc | apply pw_below_drewN | apply below_drew1 | refine below_set ?_ GE660.out | refine below_set ?_ GE661.out | refine below_set ?_ GE684.out | refine below_set ?_ GE691.out) | exact HB.out)) hb); clear HO666; clear HO672; clear HO680; clear HO687; clear BK660; clear BK661; clear BK684; clear BK691; clear HB; have HO666 := n0_; have HO672 := n1_; have HO680 := n2_; have HO687 := n3_; have BK660 := n4_; have BK661 := n5_; have BK684 := n6_; have BK691 := n7_; have HB := n8_; clear n0_ n1_ n2_ n3_ n4_ n5_ n6_ n7_ n8_; (try clear hb); (try clear hb2); (try clear hk); (try clear hi)))
      (try simp only [Act.put, List.setIfInBounds_toArray, List.set_cons_zero, List.set_cons_succ])
      go_cut [47] (fun v47 wc => ∃ (kq : Nat) (x47_24 : Bool), v47 = .bool x47_24 ∧ Aside0 (laws_FnExactCompareNames.j0 kq x47_24 l0_0 a0_1 a0_2 a0_3 l1_0 a1_1 a1_2 a1_3 t678 t681 t682 t683 t685 t688 t689 t690 = some r) ∧ Aside0 (kq ≤ k) ∧ Aside0 (Kd.R Kd.string 9 wc w.heap.size (fun k_ => some k_ ≠ ((.slice Ao49 t685.length co49) : Value).ownBlock) (.slice Ao42 t678.length co42) t678) ∧ Aside0 (Kd.R Kd.string 9 wc w.heap.size (fun k_ => some k_ ≠ ((.slice Ao42 t678.length co42) : Value).ownBlock) (.slice Ao49 t685.length co49) t685) ∧ Aside0 (wc.heap[gb660]? = some (.cells #[(.slice A0_0 l0_0.length c0_0), .string a0_1, .string a0_2, .string a0_3] 24 (0, 0))) ∧ Aside0 (wc.heap[gb661]? = some (.cells #[(.slice A1_0 l1_0.length c1_0), .string a1_1, .string a1_2, .string a1_3] 24 (0, 0))) ∧ Aside0 (wc.heap[gb684]? = some (.cells #[(.slice Ao42 t678.length co42), .string t681, .string t682, .string t683] 27 (0, 0))) ∧ Aside0 (wc.heap[gb691]? = some (.cells #[(.slice Ao49 t685.length co49), .string t688, .string t689, .string t690] 27 (0, 0))) ∧ Aside0 (Below w.heap.size w wc))
      case first =>
        have H := HC25.out
        clear HC25
        by_cases c56 : t692 = t676
        · rw [if_pos c56] at H
          have c56b0 : (t692 == t676) = true := beq_iff_eq.mpr c56
          have c56b1 : (t692 != t676) = false := bne_eq_false_iff_eq.mpr c56
          clear c56
          (first | rw [c56b0] | (simp only [i64_w, i32_w]; rw [c56b0]) | skip)
          have H' := Aside0.mk H
          clear H
          go_wp2
          go_meet
          case rel => exact ⟨_, ((t693 != t677)), (by first | rfl | (simp; done) | (simp [*]; done)), H', ⟨by first | omega | exact Nat.le_refl _⟩, ⟨by (with_reducible repeat (first | apply Kd.R_alloc | apply Kd.R_drewN | apply Kd.R_drew)); exact Kd.R_mono HO680.out (fun _ hk => hk.2)⟩, ⟨by (with_reducible repeat (first | apply Kd.R_alloc | apply Kd.R_drewN | apply Kd.R_drew)); exact Kd.R_mono HO687.out (fun _ hk => hk.2)⟩, ⟨by (with_reducible repeat (first | refine blk_drewN ?_ _ | refine blk_drew ?_ | refine blk_alloc ?_ _)); exact BK660.out⟩, ⟨by (with_reducible repeat (first | refine blk_drewN ?_ _ | refine blk_drew ?_ | refine blk_alloc ?_ _)); exact BK661.out⟩, ⟨by (with_reducible repeat (first | refine blk_drewN ?_ _ | refine blk_drew ?_ | refine blk_alloc ?_ _)); exact BK684.out⟩, ⟨by (with_reducible repeat (first | refine blk_drewN ?_ _ | refine blk_drew ?_ | refine blk_alloc ?_ _)); exact BK691.out⟩, ⟨by repeat (first | (with_reducible first | exact HB.out | apply below_alloc | apply pw_below_drewN | apply below_drew1 | refine below_set ?_ GE660.out | refine below_set ?_ GE661.out | refine below_set ?_ GE684.out | refine below_set ?_ GE691.out) | exact HB.out)⟩⟩
        · rw [if_neg c56] at H
          have c56b0 : (t692 == t676) = false := beq_eq_false_iff_ne.mpr c56
          have c56b1 : (t692 != t676) = true := bne_iff_ne.mpr c56
          (first | rw [c56b0] | (simp only [i64_w, i32_w]; rw [c56b0]) | skip)
          have H' := Aside0.mk H
          clear H
          go_wp2
          go_meet
          case rel => exact ⟨_, (true), (by first | rfl | (simp; done) | (simp [*]; done)), H', ⟨by first | omega | exact Nat.le_refl _⟩, ⟨by (with_reducible repeat (first | apply Kd.R_alloc | apply Kd.R_drewN | apply Kd.R_drew)); exact Kd.R_mono HO680.out (fun _ hk => hk.2)⟩, ⟨by (with_reducible repeat (first | apply Kd.R_alloc | apply Kd.R_drewN | apply Kd.R_drew)); exact Kd.R_mono HO687.out (fun _ hk => hk.2)⟩, ⟨by (with_reducible repeat (first | refine blk_drewN ?_ _ | refine blk_drew ?_ | refine blk_alloc ?_ _)); exact BK660.out⟩, ⟨by (with_reducible repeat (first | refine blk_drewN ?_ _ | refine blk_drew ?_ | refine blk_alloc ?_ _)); exact BK661.out⟩, ⟨by (with_reducible repeat (first | refine blk_drewN ?_ _ | refine blk_drew ?_ | refine blk_alloc ?_ _)); exact BK684.out⟩, ⟨by (with_reducible repeat (first | refine blk_drewN ?_ _ | refine blk_drew ?_ | refine blk_alloc ?_ _)); exact BK691.out⟩, ⟨by repeat (first | (with_reducible first | exact HB.out | apply below_alloc | apply pw_below_drewN | apply below_drew1 | refine below_set ?_ GE660.out | refine below_set ?_ GE661.out | refine below_set ?_ GE684.out | refine below_set ?_ GE691.out) | exact HB.out)⟩⟩
      case rest =>
        clear HC25
        try clear c1
        try clear c2
        try clear p2
        try clear c3
        try clear c4
        try clear c4b0
        try clear c5
        try clear c7
        try clear c11
        try clear c11b0
        try clear c12
        try clear c14
        try clear c28
        try clear c36
        try clear c37
        try clear c43
        try clear c44
        try clear c50
        try clear c51
        try clear c52
        try clear c56
        try clear c56b0
        try clear c56b1
        try clear hcz15_0
        try clear hcz15_1
        try clear hcz15_2
        try clear hcz15_3
        try clear hcz17_0
        try clear hcz17_1
        try clear hcz17_2
        try clear hcz17_3
        try clear hcz29_0
        try clear hcz29_1
        try clear hcz29_2
        try clear hcz29_3
        try clear hcz31_0
        try clear hcz31_1
        try clear hcz31_2
        try clear hcz31_3
        try clear hcz39_0
        try clear hcz39_1
        try clear hcz39_2
        try clear hcz39_3
        try clear hcz45_0
        try clear hcz45_1
        try clear hcz45_2
        try clear hcz45_3
        try clear hcz46_0
        try clear hcz46_1
        try clear hcz46_2
        try clear hcz46_3
        try clear hcz53_0
        try clear hcz53_1
        try clear hcz53_2
        try clear hcz53_3
        try clear hcz54_0
        try clear hcz54_1
        try clear hcz54_2
        try clear hcz54_3
        try clear hcz8_0
        try clear hcz8_1
        try clear hcz8_2
        try clear hcz8_3
        try clear hfz15_0
        try clear hfz15_1
        try clear hfz15_2
        try clear hfz15_3
        try clear hfz17_0
        try clear hfz17_1
        try clear hfz17_2
        try clear hfz17_3
        try clear hfz29_0
        try clear hfz29_1
        try clear hfz29_2
        try clear hfz29_3
        try clear hfz31_0
        try clear hfz31_1
        try clear hfz31_2
        try clear hfz31_3
        try clear hfz39_0
        try clear hfz39_1
        try clear hfz39_2
        try clear hfz39_3
        try clear hfz45_0
        try clear hfz45_1
        try clear hfz45_2
        try clear hfz45_3
        try clear hfz46_0
        try clear hfz46_1
        try clear hfz46_2
        try clear hfz46_3
        try clear hfz53_0
        try clear hfz53_1
        try clear hfz53_2
        try clear hfz53_3
        try clear hfz54_0
        try clear hfz54_1
        try clear hfz54_2
        try clear hfz54_3
        try clear hfz8_0
        try clear hfz8_1
        try clear hfz8_2
        try clear hfz8_3
        obtain ⟨kq, x47_24, rfl, HA, HJ24, HO_685000, HO_692000, BK660, BK661, BK684, BK691, HB⟩ := hcut
        cases kq with
        | zero => exact absurd HA.out (by simp [laws_FnExactCompareNames.j0])
        | succ kj24 =>
          have H := HA.out
          clear HA
          simp only [laws_FnExactCompareNames.j0] at H
          by_cases c57 : x47_24 = true
          · subst c57
            have H1 : (some false) = some r := by rw [if_pos rfl] at H; exact H
            clear H
            have H := H1
            clear H1
            obtain rfl := Option.some.inj H
            go_wp2
            go_ret
            exact ⟨by first | rfl | (simp [errW_none, errW_some] <;> rfl) | (simp [*, errW_none, errW_some] <;> rfl), by repeat (first | (with_reducible first | exact HB.out | apply below_alloc | apply pw_below_drewN | apply below_drew1 | refine below_set ?_ GE660.out | refine below_set ?_ GE661.out | refine below_set ?_ GE684.out | refine below_set ?_ GE691.out) | exact HB.out)⟩
          · replace c57 := Bool.eq_false_iff.mpr c57
            subst c57
            have H1 : ((laws_toName.f kj24 l0_0 a0_1 a0_2 a0_3).bind fun bt694 => ((laws_eqName.f kj24 t678 t681 t682 t683 bt694.1 bt694.2.1 bt694.2.2.1 bt694.2.2.2).bind fun t700 => (if t700 = true then ((laws_toName.f kj24 l1_0 a1_1 a1_2 a1_3).bind fun bt701 => ((laws_eqName.f kj24 t685 t688 t689 t690 bt701.1 bt701.2.1 bt701.2.2.1 bt701.2.2.2).bind fun t707 => (if t707 = true then (some true) else (some false)))) else (some false)))) = some r := by rw [if_neg (show ¬ (false = true) by decide)] at H; exact H
            clear H
            have H := H1
            clear H1
            replace H := Option.bind_eq_some_iff.mp H
            obtain ⟨⟨t694, t697, t698, t699⟩, A580, H⟩ := H
            replace H : ((laws_eqName.f kj24 t678 t681 t682 t683 t694 t697 t698 t699).bind fun t700 => (if t700 = true then ((laws_toName.f kj24 l1_0 a1_1 a1_2 a1_3).bind fun bt701 => ((laws_eqName.f kj24 t685 t688 t689 t690 bt701.1 bt701.2.1 bt701.2.2.1 bt701.2.2.2).bind fun t707 => (if t707 = true then (some true) else (some false)))) else (some false))) = some r := H
            have A58 := Aside0.mk A580
            clear A580
            replace H := Option.bind_eq_some_iff.mp H
            obtain ⟨t700, A590, H⟩ := H
            replace H : (if t700 = true then ((laws_toName.f kj24 l1_0 a1_1 a1_2 a1_3).bind fun bt701 => ((laws_eqName.f kj24 t685 t688 t689 t690 bt701.1 bt701.2.1 bt701.2.2.1 bt701.2.2.2).bind fun t707 => (if t707 = true then (some true) else (some false)))) else (some false)) = some r := H
            have A59 := Aside0.mk A590
            clear A590
            by_cases c60 : t700 = true
            · subst c60
              have H1 : ((laws_toName.f kj24 l1_0 a1_1 a1_2 a1_3).bind fun bt701 => ((laws_eqName.f kj24 t685 t688 t689 t690 bt701.1 bt701.2.1 bt701.2.2.1 bt701.2.2.2).bind fun t707 => (if t707 = true then (some true) else (some false)))) = some r := by rw [if_pos rfl] at H; exact H
              clear H
              have H := H1
              clear H1
              replace H := Option.bind_eq_some_iff.mp H
              obtain ⟨⟨t701, t704, t705, t706⟩, A610, H⟩ := H
              replace H : ((laws_eqName.f kj24 t685 t688 t689 t690 t701 t704 t705 t706).bind fun t707 => (if t707 = true then (some true) else (some false))) = some r := H
              have A61 := Aside0.mk A610
              clear A610
              replace H := Option.bind_eq_some_iff.mp H
              obtain ⟨t707, A620, H⟩ := H
              replace H : (if t707 = true then (some true) else (some false)) = some r := H
              have A62 := Aside0.mk A620
              clear A620
              by_cases c63 : t707 = true
              · subst c63
                have H1 : (some true) = some r := by rw [if_pos rfl] at H; exact H
                clear H
                have H := H1
                clear H1
                obtain rfl := Option.some.inj H
                try go_wp2
                have n0_ := Aside0.mk (Kd.R_drew HO_685000.out)
                have n1_ := Aside0.mk (Kd.R_drew HO_692000.out)
                have n2_ := Aside0.mk (blk_drew BK660.out)
                have n3_ := Aside0.mk (blk_drew BK661.out)
                have n4_ := Aside0.mk (blk_drew BK684.out)
                have n5_ := Aside0.mk (blk_drew BK691.out)
                have n6_ := Aside0.mk (below_drew1 HB.out)
                clear HO_685000
                clear HO_692000
                clear BK660
                clear BK661
                clear BK684
                clear BK691
                clear HB
                have HO_685000 := n0_
                have HO_692000 := n1_
                have BK660 := n2_
                have BK661 := n3_
                have BK684 := n4_
                have BK691 := n5_
                have HB := n6_
                clear n0_ n1_ n2_ n3_ n4_ n5_ n6_
                refine start_ (n := 5) (S := fun w' => w'.cell? ⟨gb684, 0, none⟩ = some (.slice Ao42 t678.length co42) ∧ w'.cell? ⟨gb684, 1, none⟩ = some (.string t681) ∧ w'.cell? ⟨gb684, 2, none⟩ = some (.string t682) ∧ w'.cell? ⟨gb684, 3, none⟩ = some (.string t683) ∧ w'.cell? ⟨gb660, 0, none⟩ = some (.slice A0_0 l0_0.length c0_0) ∧ w'.cell? ⟨gb660, 1, none⟩ = some (.string a0_1) ∧ w'.cell? ⟨gb660, 2, none⟩ = some (.string a0_2) ∧ w'.cell? ⟨gb660, 3, none⟩ = some (.string a0_3)) (ds := []) #[false, false, false, false, false] (by kernel_rfl) rfl rfl ⟨(blk_cell BK684.out 0).trans rfl, (blk_cell BK684.out 1).trans rfl, (blk_cell BK684.out 2).trans rfl, (blk_cell BK684.out 3).trans rfl, (blk_cell BK660.out 0).trans rfl, (blk_cell BK660.out 1).trans rfl, (blk_cell BK660.out 2).trans rfl, (blk_cell BK660.out 3).trans rfl⟩ (fun hHeld => ?_)
                generalize wc.drew = w64 at HO_685000 HO_692000 BK660 BK661 BK684 BK691 HB hHeld ⊢
                refine take_ (i := 0) (N := some 48) (v := ?_) (a' := ?_) #[true, false, false, false, false] rfl rfl (by kernel_rfl) (fun _ _ _ h => h) (Or.inl ⟨by rfl, ?_⟩) hHeld ?_ ?_
                rotate_left
                · rintro w' ⟨s0, s1, s2, s3, s4, s5, s6, s7⟩
                  go_simp
                  with_reducible rfl
                rotate_left
                · simp only [Act.put, List.setIfInBounds_toArray, List.set_cons_zero, List.set_cons_succ, i64_w, i32_w]
                  rfl
                refine take_ (i := 1) (N := some 49) (v := ?_) (a' := ?_) #[true, true, false, false, false] rfl rfl (by kernel_rfl) (fun _ _ _ h => h) (Or.inl ⟨by rfl, ?_⟩) hHeld ?_ ?_
                rotate_left
                · rintro w' ⟨s0, s1, s2, s3, s4, s5, s6, s7⟩
                  go_simp
                  with_reducible rfl
                rotate_left
                · simp only [Act.put, List.setIfInBounds_toArray, List.set_cons_zero, List.set_cons_succ, i64_w, i32_w]
                  rfl
                refine one_ (i := 2) (N := some 50) #[true, true, true, false, false] rfl rfl (by kernel_rfl) (by decide) (fun K hK => ?_)
                refine goes_ Tryd.func14 (by kernel_rfl) rfl #[.agg #[.slice A0_0 l0_0.length c0_0, .string a0_1, .string a0_2, .string a0_3]] (by rfl) rfl rfl (by (try simp only [List.map_toArray, List.map_cons, List.map_nil]); first | done | rfl | (simp only [List.length_drop, List.length_take]; rfl)) ?_
                with_reducible refine (laws_toName.calls kj24 _ _ l0_0 a0_1 a0_2 a0_3 t694 t697 t698 t699 _ ?side1 ?side2 A58.out).mono ?_
                (case side1 => repeat (first | exact (Kd.C_below HR0_0.out HB.out) | (with_reducible refine Kd.C_alloc ?_ _) | (with_reducible refine Kd.C_drewN ?_ _) | (with_reducible refine Kd.C_drew ?_)))
                (case side2 => exact HC0_0.out)
                rintro e w65 ⟨v695, rfl, ho0, hb⟩
                refine ⟨_, rfl, ?_⟩
                have n0_ := Aside0.mk (Kd.R_elder' (by (with_reducible repeat (first | apply Kd.R_alloc | apply Kd.R_drewN | apply Kd.R_drew)); exact HO_685000.out) (Kd.R_base ho0) hb)
                have n1_ := Aside0.mk (Kd.R_elder' (by (with_reducible repeat (first | apply Kd.R_alloc | apply Kd.R_drewN | apply Kd.R_drew)); exact HO_692000.out) (Kd.R_base ho0) hb)
                have n2_ := Aside0.mk (Kd.R_lower (Kd.R_new' (Kd.R_new' ho0 (Kd.R_lt (by (with_reducible repeat (first | apply Kd.R_alloc | apply Kd.R_drewN | apply Kd.R_drew)); exact HO_685000.out))) (Kd.R_lt (by (with_reducible repeat (first | apply Kd.R_alloc | apply Kd.R_drewN | apply Kd.R_drew)); exact HO_692000.out))) (below_size (by repeat (first | (with_reducible first | exact HB.out | apply below_alloc | apply pw_below_drewN | apply below_drew1 | refine below_set ?_ GE660.out | refine below_set ?_ GE661.out | refine below_set ?_ GE684.out | refine below_set ?_ GE691.out) | exact HB.out))))
                have n3_ := Aside0.mk (blk_below (g := gb660) (o := .cells #[.slice A0_0 l0_0.length c0_0, .string a0_1, .string a0_2, .string a0_3] 24 (0, 0)) (by (with_reducible repeat (first | refine blk_drewN ?_ _ | refine blk_drew ?_ | refine blk_alloc ?_ _)); exact BK660.out) hb)
                have n4_ := Aside0.mk (blk_below (g := gb661) (o := .cells #[.slice A1_0 l1_0.length c1_0, .string a1_1, .string a1_2, .string a1_3] 24 (0, 0)) (by (with_reducible repeat (first | refine blk_drewN ?_ _ | refine blk_drew ?_ | refine blk_alloc ?_ _)); exact BK661.out) hb)
                have n5_ := Aside0.mk (blk_below (g := gb684) (o := .cells #[.slice Ao42 t678.length co42, .string t681, .string t682, .string t683] 27 (0, 0)) (by (with_reducible repeat (first | refine blk_drewN ?_ _ | refine blk_drew ?_ | refine blk_alloc ?_ _)); exact BK684.out) hb)
                have n6_ := Aside0.mk (blk_below (g := gb691) (o := .cells #[.slice Ao49 t685.length co49, .string t688, .string t689, .string t690] 27 (0, 0)) (by (with_reducible repeat (first | refine blk_drewN ?_ _ | refine blk_drew ?_ | refine blk_alloc ?_ _)); exact BK691.out) hb)
                have n7_ := Aside0.mk (below_step (by repeat (first | (with_reducible first | exact HB.out | apply below_alloc | apply pw_below_drewN | apply below_drew1 | refine below_set ?_ GE660.out | refine below_set ?_ GE661.out | refine below_set ?_ GE684.out | refine below_set ?_ GE691.out) | exact HB.out)) hb)
                clear HO_685000
                clear HO_692000
                clear BK660
                clear BK661
                clear BK684
                clear BK691
                clear HB
                have HO_685000 := n0_
                have HO_692000 := n1_
                have HO696 := n2_
                have BK660 := n3_
                have BK661 := n4_
                have BK684 := n5_
                have BK691 := n6_
                have HB := n7_
                clear n0_ n1_ n2_ n3_ n4_ n5_ n6_ n7_
                (try clear hb)
                (try clear hb2)
                (try clear hk)
                (try clear hi)
                (try clear ho0)
                obtain ⟨Ao66, co66, eo66⟩ := Kd.R_slice HO696.out
                (first | subst eo66 | (injection eo66 with f1_ f2_ f3_; have f4_ := f1_.symm; have f5_ := f3_.symm; clear f1_ f2_ f3_; subst f4_; subst f5_))
                refine hK.out _ _ ⟨(blk_cell BK684.out 0).trans rfl, (blk_cell BK684.out 1).trans rfl, (blk_cell BK684.out 2).trans rfl, (blk_cell BK684.out 3).trans rfl, (blk_cell BK660.out 0).trans rfl, (blk_cell BK660.out 1).trans rfl, (blk_cell BK660.out 2).trans rfl, (blk_cell BK660.out 3).trans rfl⟩ (fun hHeld => ?_)
                clear hK K
                refine norm_ (a' := ?_) ?_ ?_
                rotate_left
                · show Act.put _ (some 50) _ = _
                  simp only [Act.put, List.setIfInBounds_toArray, List.set_cons_zero, List.set_cons_succ, i64_w, i32_w]
                  rfl
                refine one_ (i := 3) (N := some 51) #[true, true, true, true, false] rfl rfl (by kernel_rfl) (by decide) (fun K hK => ?_)
                refine goes_ Tryd.func16 (by kernel_rfl) rfl #[.agg #[.slice Ao42 t678.length co42, .string t681, .string t682, .string t683], .agg #[.slice Ao66 t694.length co66, .string t697, .string t698, .string t699]] (by rfl) rfl rfl (by (try simp only [List.map_toArray, List.map_cons, List.map_nil]); first | done | rfl | (simp only [List.length_drop, List.length_take]; rfl)) ?_
                with_reducible refine (laws_eqName.calls kj24 _ _ t678 t681 t682 t683 _ _ t694 t697 t698 t699 true _ ?side1 ?side2 ?side3 ?side4 A59.out).mono ?_
                (case side1 => repeat (first | exact (Kd.R_reads' HO_685000.out).2.2 | (with_reducible refine Kd.C_alloc ?_ _) | (with_reducible refine Kd.C_drewN ?_ _) | (with_reducible refine Kd.C_drew ?_)))
                (case side2 => exact (Kd.R_reads' HO_685000.out).2.1)
                (case side3 => repeat (first | exact (Kd.R_reads' HO696.out).2.2 | (with_reducible refine Kd.C_alloc ?_ _) | (with_reducible refine Kd.C_drewN ?_ _) | (with_reducible refine Kd.C_drew ?_)))
                (case side4 => exact (Kd.R_reads' HO696.out).2.1)
                rintro e w67 ⟨rfl, hb⟩
                refine ⟨_, rfl, ?_⟩
                have n0_ := Aside0.mk (Kd.R_below (by (with_reducible repeat (first | apply Kd.R_alloc | apply Kd.R_drewN | apply Kd.R_drew)); exact HO_685000.out) hb)
                have n1_ := Aside0.mk (Kd.R_below (by (with_reducible repeat (first | apply Kd.R_alloc | apply Kd.R_drewN | apply Kd.R_drew)); exact HO_692000.out) hb)
                have n2_ := Aside0.mk (Kd.R_below (by (with_reducible repeat (first | apply Kd.R_alloc | apply Kd.R_drewN | apply Kd.R_drew)); exact HO696.out) hb)
                have n3_ := Aside0.mk (blk_below (g := gb660) (o := .cells #[.slice A0_0 l0_0.length c0_0, .string a0_1, .string a0_2, .string a0_3] 24 (0, 0)) (by (with_reducible repeat (first | refine blk_drewN ?_ _ | refine blk_drew ?_ | refine blk_alloc ?_ _)); exact BK660.out) hb)
                have n4_ := Aside0.mk (blk_below (g := gb661) (o := .cells #[.slice A1_0 l1_0.length c1_0, .string a1_1, .string a1_2, .string a1_3] 24 (0, 0)) (by (with_reducible repeat (first | refine blk_drewN ?_ _ | refine blk_drew ?_ | refine blk_alloc ?_ _)); exact BK661.out) hb)
                have n5_ := Aside0.mk (blk_below (g := gb684) (o := .cells #[.slice Ao42 t678.length co42, .string t681, .string t682, .string t683] 27 (0, 0)) (by (with_reducible repeat (first | refine blk_drewN ?_ _ | refine blk_drew ?_ | refine blk_alloc ?_ _)); exact BK684.out) hb)
                have n6_ := Aside0.mk (blk_below (g := gb691) (o := .cells #[.slice Ao49 t685.length co49, .string t688, .string t689, .string t690] 27 (0, 0)) (by (with_reducible repeat (first | refine blk_drewN ?_ _ | refine blk_drew ?_ | refine blk_alloc ?_ _)); exact BK691.out) hb)
                have n7_ := Aside0.mk (below_step (by repeat (first | (with_reducible first | exact HB.out | apply below_alloc | apply pw_below_drewN | apply below_drew1 | refine below_set ?_ GE660.out | refine below_set ?_ GE661.out | refine below_set ?_ GE684.out | refine below_set ?_ GE691.out) | exact HB.out)) hb)
                clear HO_685000
                clear HO_692000
                clear HO696
                clear BK660
                clear BK661
                clear BK684
                clear BK691
                clear HB
                have HO_685000 := n0_
                have HO_692000 := n1_
                have HO696 := n2_
                have BK660 := n3_
                have BK661 := n4_
                have BK684 := n5_
                have BK691 := n6_
                have HB := n7_
                clear n0_ n1_ n2_ n3_ n4_ n5_ n6_ n7_
                (try clear hb)
                (try clear hb2)
                (try clear hk)
                (try clear hi)
                refine hK.out _ _ ⟨(blk_cell BK684.out 0).trans rfl, (blk_cell BK684.out 1).trans rfl, (blk_cell BK684.out 2).trans rfl, (blk_cell BK684.out 3).trans rfl, (blk_cell BK660.out 0).trans rfl, (blk_cell BK660.out 1).trans rfl, (blk_cell BK660.out 2).trans rfl, (blk_cell BK660.out 3).trans rfl⟩ (fun hHeld => ?_)
                clear hK K
                refine norm_ (a' := ?_) ?_ ?_
                rotate_left
                · show Act.put _ (some 51) _ = _
                  simp only [Act.put, List.setIfInBounds_toArray, List.set_cons_zero, List.set_cons_succ, i64_w, i32_w]
                  rfl
                refine pure_ (i := 4) (N := some 52) (v := ?_) (a' := ?_) #[true, true, true, true, true] rfl rfl (by kernel_rfl) (fun _ _ _ h => h) (Or.inl ⟨by rfl, ?_⟩) ?_ ?_
                rotate_left
                · intro w'
                  go_simp
                  with_reducible rfl
                rotate_left
                · simp only [Act.put, List.setIfInBounds_toArray, List.set_cons_zero, List.set_cons_succ, i64_w, i32_w]
                  rfl
                refine done_ (by kernel_rfl) ?_
                try go_wp2
                have n0_ := Aside0.mk (Kd.R_drew HO_685000.out)
                have n1_ := Aside0.mk (Kd.R_drew HO_692000.out)
                have n2_ := Aside0.mk (Kd.R_drew HO696.out)
                have n3_ := Aside0.mk (blk_drew BK660.out)
                have n4_ := Aside0.mk (blk_drew BK661.out)
                have n5_ := Aside0.mk (blk_drew BK684.out)
                have n6_ := Aside0.mk (blk_drew BK691.out)
                have n7_ := Aside0.mk (below_drew1 HB.out)
                clear HO_685000
                clear HO_692000
                clear HO696
                clear BK660
                clear BK661
                clear BK684
                clear BK691
                clear HB
                have HO_685000 := n0_
                have HO_692000 := n1_
                have HO696 := n2_
                have BK660 := n3_
                have BK661 := n4_
                have BK684 := n5_
                have BK691 := n6_
                have HB := n7_
                clear n0_ n1_ n2_ n3_ n4_ n5_ n6_ n7_
                refine start_ (n := 5) (S := fun w' => w'.cell? ⟨gb691, 0, none⟩ = some (.slice Ao49 t685.length co49) ∧ w'.cell? ⟨gb691, 1, none⟩ = some (.string t688) ∧ w'.cell? ⟨gb691, 2, none⟩ = some (.string t689) ∧ w'.cell? ⟨gb691, 3, none⟩ = some (.string t690) ∧ w'.cell? ⟨gb661, 0, none⟩ = some (.slice A1_0 l1_0.length c1_0) ∧ w'.cell? ⟨gb661, 1, none⟩ = some (.string a1_1) ∧ w'.cell? ⟨gb661, 2, none⟩ = some (.string a1_2) ∧ w'.cell? ⟨gb661, 3, none⟩ = some (.string a1_3)) (ds := []) #[false, false, false, false, false] (by kernel_rfl) rfl rfl ⟨(blk_cell BK691.out 0).trans rfl, (blk_cell BK691.out 1).trans rfl, (blk_cell BK691.out 2).trans rfl, (blk_cell BK691.out 3).trans rfl, (blk_cell BK661.out 0).trans rfl, (blk_cell BK661.out 1).trans rfl, (blk_cell BK661.out 2).trans rfl, (blk_cell BK661.out 3).trans rfl⟩ (fun hHeld => ?_)
                generalize w67.drew = w68 at HO_685000 HO_692000 HO696 BK660 BK661 BK684 BK691 HB hHeld ⊢
                refine take_ (i := 0) (N := some 53) (v := ?_) (a' := ?_) #[true, false, false, false, false] rfl rfl (by kernel_rfl) (fun _ _ _ h => h) (Or.inl ⟨by rfl, ?_⟩) hHeld ?_ ?_
                rotate_left
                · rintro w' ⟨s0, s1, s2, s3, s4, s5, s6, s7⟩
                  go_simp
                  with_reducible rfl
                rotate_left
                · simp only [Act.put, List.setIfInBounds_toArray, List.set_cons_zero, List.set_cons_succ, i64_w, i32_w]
                  rfl
                refine take_ (i := 1) (N := some 54) (v := ?_) (a' := ?_) #[true, true, false, false, false] rfl rfl (by kernel_rfl) (fun _ _ _ h => h) (Or.inl ⟨by rfl, ?_⟩) hHeld ?_ ?_
                rotate_left
                · rintro w' ⟨s0, s1, s2, s3, s4, s5, s6, s7⟩
                  go_simp
                  with_reducible rfl
                rotate_left
                · simp only [Act.put, List.setIfInBounds_toArray, List.set_cons_zero, List.set_cons_succ, i64_w, i32_w]
                  rfl
                refine one_ (i := 2) (N := some 55) #[true, true, true, false, false] rfl rfl (by kernel_rfl) (by decide) (fun K hK => ?_)
                refine goes_ Tryd.func14 (by kernel_rfl) rfl #[.agg #[.slice A1_0 l1_0.length c1_0, .string a1_1, .string a1_2, .string a1_3]] (by rfl) rfl rfl (by (try simp only [List.map_toArray, List.map_cons, List.map_nil]); first | done | rfl | (simp only [List.length_drop, List.length_take]; rfl)) ?_
                with_reducible refine (laws_toName.calls kj24 _ _ l1_0 a1_1 a1_2 a1_3 t701 t704 t705 t706 _ ?side1 ?side2 A61.out).mono ?_
                (case side1 => repeat (first | exact (Kd.C_below HR1_0.out HB.out) | (with_reducible refine Kd.C_alloc ?_ _) | (with_reducible refine Kd.C_drewN ?_ _) | (with_reducible refine Kd.C_drew ?_)))
                (case side2 => exact HC1_0.out)
                rintro e w69 ⟨v702, rfl, ho0, hb⟩
                refine ⟨_, rfl, ?_⟩
                have n0_ := Aside0.mk (Kd.R_elder' (by (with_reducible repeat (first | apply Kd.R_alloc | apply Kd.R_drewN | apply Kd.R_drew)); exact HO_685000.out) (Kd.R_base ho0) hb)
                have n1_ := Aside0.mk (Kd.R_elder' (by (with_reducible repeat (first | apply Kd.R_alloc | apply Kd.R_drewN | apply Kd.R_drew)); exact HO_692000.out) (Kd.R_base ho0) hb)
                have n2_ := Aside0.mk (Kd.R_elder' (by (with_reducible repeat (first | apply Kd.R_alloc | apply Kd.R_drewN | apply Kd.R_drew)); exact HO696.out) (Kd.R_base ho0) hb)
                have n3_ := Aside0.mk (Kd.R_lower (Kd.R_new' (Kd.R_new' (Kd.R_new' ho0 (Kd.R_lt (by (with_reducible repeat (first | apply Kd.R_alloc | apply Kd.R_drewN | apply Kd.R_drew)); exact HO_685000.out))) (Kd.R_lt (by (with_reducible repeat (first | apply Kd.R_alloc | apply Kd.R_drewN | apply Kd.R_drew)); exact HO_692000.out))) (Kd.R_lt (by (with_reducible repeat (first | apply Kd.R_alloc | apply Kd.R_drewN | apply Kd.R_drew)); exact HO696.out))) (below_size (by repeat (first | (with_reducible first | exact HB.out | apply below_alloc | apply pw_below_drewN | apply below_drew1 | refine below_set ?_ GE660.out | refine below_set ?_ GE661.out | refine below_set ?_ GE684.out | refine below_set ?_ GE691.out) | exact HB.out))))
                have n4_ := Aside0.mk (blk_below (g := gb660) (o := .cells #[.slice A0_0 l0_0.length c0_0, .string a0_1, .string a0_2, .string a0_3] 24 (0, 0)) (by (with_reducible repeat (first | refine blk_drewN ?_ _ | refine blk_drew ?_ | refine blk_alloc ?_ _)); exact BK660.out) hb)
                have n5_ := Aside0.mk (blk_below (g := gb661) (o := .cells #[.slice A1_0 l1_0.length c1_0, .string a1_1, .string a1_2, .string a1_3] 24 (0, 0)) (by (with_reducible repeat (first | refine blk_drewN ?_ _ | refine blk_drew ?_ | refine blk_alloc ?_ _)); exact BK661.out) hb)
                have n6_ := Aside0.mk (blk_below (g := gb684) (o := .cells #[.slice Ao42 t678.length co42, .string t681, .string t682, .string t683] 27 (0, 0)) (by (with_reducible repeat (first | refine blk_drewN ?_ _ | refine blk_drew ?_ | refine blk_alloc ?_ _)); exact BK684.out) hb)
                have n7_ := Aside0.mk (blk_below (g := gb691) (o := .cells #[.slice Ao49 t685.length co49, .string t688, .string t689, .string t690] 27 (0, 0)) (by (with_reducible repeat (first | refine blk_drewN ?_ _ | refine blk_drew ?_ | refine blk_alloc ?_ _)); exact BK691.out) hb)
                have n8_ := Aside0.mk (below_step (by repeat (first | (with_reducible first | exact HB.out | apply below_alloc | apply pw_below_drewN | apply below_drew1 | refine below_set ?_ GE660.out | refine below_set ?_ GE661.out | refine below_set ?_ GE684.out | refine below_set ?_ GE691.out) | exact HB.out)) hb)
                clear HO_685000
                clear HO_692000
                clear HO696
                clear BK660
                clear BK661
                clear BK684
                clear BK691
                clear HB
                have HO_685000 := n0_
                have HO_692000 := n1_
                have HO696 := n2_
                have HO703 := n3_
                have BK660 := n4_
                have BK661 := n5_
                have BK684 := n6_
                have BK691 := n7_
                have HB := n8_
                clear n0_ n1_ n2_ n3_ n4_ n5_ n6_ n7_ n8_
                (try clear hb)
                (try clear hb2)
                (try clear hk)
                (try clear hi)
                (try clear ho0)
                obtain ⟨Ao70, co70, eo70⟩ := Kd.R_slice HO703.out
                (first | subst eo70 | (injection eo70 with f1_ f2_ f3_; have f4_ := f1_.symm; have f5_ := f3_.symm; clear f1_ f2_ f3_; subst f4_; subst f5_))
                refine hK.out _ _ ⟨(blk_cell BK691.out 0).trans rfl, (blk_cell BK691.out 1).trans rfl, (blk_cell BK691.out 2).trans rfl, (blk_cell BK691.out 3).trans rfl, (blk_cell BK661.out 0).trans rfl, (blk_cell BK661.out 1).trans rfl, (blk_cell BK661.out 2).trans rfl, (blk_cell BK661.out 3).trans rfl⟩ (fun hHeld => ?_)
                clear hK K
                refine norm_ (a' := ?_) ?_ ?_
                rotate_left
                · show Act.put _ (some 55) _ = _
                  simp only [Act.put, List.setIfInBounds_toArray, List.set_cons_zero, List.set_cons_succ, i64_w, i32_w]
                  rfl
                refine one_ (i := 3) (N := some 56) #[true, true, true, true, false] rfl rfl (by kernel_rfl) (by decide) (fun K hK => ?_)
                refine goes_ Tryd.func16 (by kernel_rfl) rfl #[.agg #[.slice Ao49 t685.length co49, .string t688, .string t689, .string t690], .agg #[.slice Ao70 t701.length co70, .string t704, .string t705, .string t706]] (by rfl) rfl rfl (by (try simp only [List.map_toArray, List.map_cons, List.map_nil]); first | done | rfl | (simp only [List.length_drop, List.length_take]; rfl)) ?_
                with_reducible refine (laws_eqName.calls kj24 _ _ t685 t688 t689 t690 _ _ t701 t704 t705 t706 true _ ?side1 ?side2 ?side3 ?side4 A62.out).mono ?_
                (case side1 => repeat (first | exact (Kd.R_reads' HO_692000.out).2.2 | (with_reducible refine Kd.C_alloc ?_ _) | (with_reducible refine Kd.C_drewN ?_ _) | (with_reducible refine Kd.C_drew ?_)))
                (case side2 => exact (Kd.R_reads' HO_692000.out).2.1)
                (case side3 => repeat (first | exact (Kd.R_reads' HO703.out).2.2 | (with_reducible refine Kd.C_alloc ?_ _) | (with_reducible refine Kd.C_drewN ?_ _) | (with_reducible refine Kd.C_drew ?_)))
                (case side4 => exact (Kd.R_reads' HO703.out).2.1)
                rintro e w71 ⟨rfl, hb⟩
                refine ⟨_, rfl, ?_⟩
                have n0_ := Aside0.mk (Kd.R_below (by (with_reducible repeat (first | apply Kd.R_alloc | apply Kd.R_drewN | apply Kd.R_drew)); exact HO_685000.out) hb)
                have n1_ := Aside0.mk (Kd.R_below (by (with_reducible repeat (first | apply Kd.R_alloc | apply Kd.R_drewN | apply Kd.R_drew)); exact HO_692000.out) hb)
                have n2_ := Aside0.mk (Kd.R_below (by (with_reducible repeat (first | apply Kd.R_alloc | apply Kd.R_drewN | apply Kd.R_drew)); exact HO696.out) hb)
                have n3_ := Aside0.mk (Kd.R_below (by (with_reducible repeat (first | apply Kd.R_alloc | apply Kd.R_drewN | apply Kd.R_drew)); exact HO703.out) hb)
                have n4_ := Aside0.mk (blk_below (g := gb660) (o := .cells #[.slice A0_0 l0_0.length c0_0, .string a0_1, .string a0_2, .string a0_3] 24 (0, 0)) (by (with_reducible repeat (first | refine blk_drewN ?_ _ | refine blk_drew ?_ | refine blk_alloc ?_ _)); exact BK660.out) hb)
                have n5_ := Aside0.mk (blk_below (g := gb661) (o := .cells #[.slice A1_0 l1_0.length c1_0, .string a1_1, .string a1_2, .string a1_3] 24 (0, 0)) (by (with_reducible repeat (first | refine blk_drewN ?_ _ | refine blk_drew ?_ | refine blk_alloc ?_ _)); exact BK661.out) hb)
                have n6_ := Aside0.mk (blk_below (g := gb684) (o := .cells #[.slice Ao42 t678.length co42, .string t681, .string t682, .string t683] 27 (0, 0)) (by (with_reducible repeat (first | refine blk_drewN ?_ _ | refine blk_drew ?_ | refine blk_alloc ?_ _)); exact BK684.out) hb)
                have n7_ := Aside0.mk (blk_below (g := gb691) (o := .cells #[.slice Ao49 t685.length co49, .string t688, .string t689, .string t690] 27 (0, 0)) (by (with_reducible repeat (first | refine blk_drewN ?_ _ | refine blk_drew ?_ | refine blk_alloc ?_ _)); exact BK691.out) hb)
                have n8_ := Aside0.mk (below_step (by repeat (first | (with_reducible first | exact HB.out | apply below_alloc | apply pw_below_drewN | apply below_drew1 | refine below_set ?_ GE660.out | refine below_set ?_ GE661.out | refine below_set ?_ GE684.out | refine below_set ?_ GE691.out) | exact HB.out)) hb)
                clear HO_685000
                clear HO_692000
                clear HO696
                clear HO703
                clear BK660
                clear BK661
                clear BK684
                clear BK691
                clear HB
                have HO_685000 := n0_
                have HO_692000 := n1_
                have HO696 := n2_
                have HO703 := n3_
                have BK660 := n4_
                have BK661 := n5_
                have BK684 := n6_
                have BK691 := n7_
                have HB := n8_
                clear n0_ n1_ n2_ n3_ n4_ n5_ n6_ n7_ n8_
                (try clear hb)
                (try clear hb2)
                (try clear hk)
                (try clear hi)
                refine hK.out _ _ ⟨(blk_cell BK691.out 0).trans rfl, (blk_cell BK691.out 1).trans rfl, (blk_cell BK691.out 2).trans rfl, (blk_cell BK691.out 3).trans rfl, (blk_cell BK661.out 0).trans rfl, (blk_cell BK661.out 1).trans rfl, (blk_cell BK661.out 2).trans rfl, (blk_cell BK661.out 3).trans rfl⟩ (fun hHeld => ?_)
                clear hK K
                refine norm_ (a' := ?_) ?_ ?_
                rotate_left
                · show Act.put _ (some 56) _ = _
                  simp only [Act.put, List.setIfInBounds_toArray, List.set_cons_zero, List.set_cons_succ, i64_w, i32_w]
                  rfl
                refine pure_ (i := 4) (N := some 57) (v := ?_) (a' := ?_) #[true, true, true, true, true] rfl rfl (by kernel_rfl) (fun _ _ _ h => h) (Or.inl ⟨by rfl, ?_⟩) ?_ ?_
                rotate_left
                · intro w'
                  go_simp
                  with_reducible rfl
                rotate_left
                · simp only [Act.put, List.setIfInBounds_toArray, List.set_cons_zero, List.set_cons_succ, i64_w, i32_w]
                  rfl
                refine done_ (by kernel_rfl) ?_
                try go_wp2
                go_ret
                exact ⟨by first | rfl | (simp [errW_none, errW_some] <;> rfl) | (simp [*, errW_none, errW_some] <;> rfl), by repeat (first | (with_reducible first | exact HB.out | apply below_alloc | apply pw_below_drewN | apply below_drew1 | refine below_set ?_ GE660.out | refine below_set ?_ GE661.out | refine below_set ?_ GE684.out | refine below_set ?_ GE691.out) | exact HB.out)⟩
              · replace c63 := Bool.eq_false_iff.mpr c63
                subst c63
                have H1 : (some false) = some r := by rw [if_neg (show ¬ (false = true) by decide)] at H; exact H
                clear H
                have H := H1
                clear H1
                obtain rfl := Option.some.inj H
                try go_wp2
                have n0_ := Aside0.mk (Kd.R_drew HO_685000.out)
                have n1_ := Aside0.mk (Kd.R_drew HO_692000.out)
                have n2_ := Aside0.mk (blk_drew BK660.out)
                have n3_ := Aside0.mk (blk_drew BK661.out)
                have n4_ := Aside0.mk (blk_drew BK684.out)
                have n5_ := Aside0.mk (blk_drew BK691.out)
                have n6_ := Aside0.mk (below_drew1 HB.out)
                clear HO_685000
                clear HO_692000
                clear BK660
                clear BK661
                clear BK684
                clear BK691
                clear HB
                have HO_685000 := n0_
                have HO_692000 := n1_
                have BK660 := n2_
                have BK661 := n3_
                have BK684 := n4_
                have BK691 := n5_
                have HB := n6_
                clear n0_ n1_ n2_ n3_ n4_ n5_ n6_
                refine start_ (n := 5) (S := fun w' => w'.cell? ⟨gb684, 0, none⟩ = some (.slice Ao42 t678.length co42) ∧ w'.cell? ⟨gb684, 1, none⟩ = some (.string t681) ∧ w'.cell? ⟨gb684, 2, none⟩ = some (.string t682) ∧ w'.cell? ⟨gb684, 3, none⟩ = some (.string t683) ∧ w'.cell? ⟨gb660, 0, none⟩ = some (.slice A0_0 l0_0.length c0_0) ∧ w'.cell? ⟨gb660, 1, none⟩ = some (.string a0_1) ∧ w'.cell? ⟨gb660, 2, none⟩ = some (.string a0_2) ∧ w'.cell? ⟨gb660, 3, none⟩ = some (.string a0_3)) (ds := []) #[false, false, false, false, false] (by kernel_rfl) rfl rfl ⟨(blk_cell BK684.out 0).trans rfl, (blk_cell BK684.out 1).trans rfl, (blk_cell BK684.out 2).trans rfl, (blk_cell BK684.out 3).trans rfl, (blk_cell BK660.out 0).trans rfl, (blk_cell BK660.out 1).trans rfl, (blk_cell BK660.out 2).trans rfl, (blk_cell BK660.out 3).trans rfl⟩ (fun hHeld => ?_)
                generalize wc.drew = w72 at HO_685000 HO_692000 BK660 BK661 BK684 BK691 HB hHeld ⊢
                refine take_ (i := 0) (N := some 48) (v := ?_) (a' := ?_) #[true, false, false, false, false] rfl rfl (by kernel_rfl) (fun _ _ _ h => h) (Or.inl ⟨by rfl, ?_⟩) hHeld ?_ ?_
                rotate_left
                · rintro w' ⟨s0, s1, s2, s3, s4, s5, s6, s7⟩
                  go_simp
                  with_reducible rfl
                rotate_left
                · simp only [Act.put, List.setIfInBounds_toArray, List.set_cons_zero, List.set_cons_succ, i64_w, i32_w]
                  rfl
                refine take_ (i := 1) (N := some 49) (v := ?_) (a' := ?_) #[true, true, false, false, false] rfl rfl (by kernel_rfl) (fun _ _ _ h => h) (Or.inl ⟨by rfl, ?_⟩) hHeld ?_ ?_
                rotate_left
                · rintro w' ⟨s0, s1, s2, s3, s4, s5, s6, s7⟩
                  go_simp
                  with_reducible rfl
                rotate_left
                · simp only [Act.put, List.setIfInBounds_toArray, List.set_cons_zero, List.set_cons_succ, i64_w, i32_w]
                  rfl
                refine one_ (i := 2) (N := some 50) #[true, true, true, false, false] rfl rfl (by kernel_rfl) (by decide) (fun K hK => ?_)
                refine goes_ Tryd.func14 (by kernel_rfl) rfl #[.agg #[.slice A0_0 l0_0.length c0_0, .string a0_1, .string a0_2, .string a0_3]] (by rfl) rfl rfl (by (try simp only [List.map_toArray, List.map_cons, List.map_nil]); first | done | rfl | (simp only [List.length_drop, List.length_take]; rfl)) ?_
                with_reducible refine (laws_toName.calls kj24 _ _ l0_0 a0_1 a0_2 a0_3 t694 t697 t698 t699 _ ?side1 ?side2 A58.out).mono ?_
                (case side1 => repeat (first | exact (Kd.C_below HR0_0.out HB.out) | (with_reducible refine Kd.C_alloc ?_ _) | (with_reducible refine Kd.C_drewN ?_ _) | (with_reducible refine Kd.C_drew ?_)))
                (case side2 => exact HC0_0.out)
                rintro e w73 ⟨v695, rfl, ho0, hb⟩
                refine ⟨_, rfl, ?_⟩
                have n0_ := Aside0.mk (Kd.R_elder' (by (with_reducible repeat (first | apply Kd.R_alloc | apply Kd.R_drewN | apply Kd.R_drew)); exact HO_685000.out) (Kd.R_base ho0) hb)
                have n1_ := Aside0.mk (Kd.R_elder' (by (with_reducible repeat (first | apply Kd.R_alloc | apply Kd.R_drewN | apply Kd.R_drew)); exact HO_692000.out) (Kd.R_base ho0) hb)
                have n2_ := Aside0.mk (Kd.R_lower (Kd.R_new' (Kd.R_new' ho0 (Kd.R_lt (by (with_reducible repeat (first | apply Kd.R_alloc | apply Kd.R_drewN | apply Kd.R_drew)); exact HO_685000.out))) (Kd.R_lt (by (with_reducible repeat (first | apply Kd.R_alloc | apply Kd.R_drewN | apply Kd.R_drew)); exact HO_692000.out))) (below_size (by repeat (first | (with_reducible first | exact HB.out | apply below_alloc | apply pw_below_drewN | apply below_drew1 | refine below_set ?_ GE660.out | refine below_set ?_ GE661.out | refine below_set ?_ GE684.out | refine below_set ?_ GE691.out) | exact HB.out))))
                have n3_ := Aside0.mk (blk_below (g := gb660) (o := .cells #[.slice A0_0 l0_0.length c0_0, .string a0_1, .string a0_2, .string a0_3] 24 (0, 0)) (by (with_reducible repeat (first | refine blk_drewN ?_ _ | refine blk_drew ?_ | refine blk_alloc ?_ _)); exact BK660.out) hb)
                have n4_ := Aside0.mk (blk_below (g := gb661) (o := .cells #[.slice A1_0 l1_0.length c1_0, .string a1_1, .string a1_2, .string a1_3] 24 (0, 0)) (by (with_reducible repeat (first | refine blk_drewN ?_ _ | refine blk_drew ?_ | refine blk_alloc ?_ _)); exact BK661.out) hb)
                have n5_ := Aside0.mk (blk_below (g := gb684) (o := .cells #[.slice Ao42 t678.length co42, .string t681, .string t682, .string t683] 27 (0, 0)) (by (with_reducible repeat (first | refine blk_drewN ?_ _ | refine blk_drew ?_ | refine blk_alloc ?_ _)); exact BK684.out) hb)
                have n6_ := Aside0.mk (blk_below (g := gb691) (o := .cells #[.slice Ao49 t685.length co49, .string t688, .string t689, .string t690] 27 (0, 0)) (by (with_reducible repeat (first | refine blk_drewN ?_ _ | refine blk_drew ?_ | refine blk_alloc ?_ _)); exact BK691.out) hb)
                have n7_ := Aside0.mk (below_step (by repeat (first | (with_reducible first | exact HB.out | apply below_alloc | apply pw_below_drewN | apply below_drew1 | refine below_set ?_ GE660.out | refine below_set ?_ GE661.out | refine below_set ?_ GE684.out | refine below_set ?_ GE691.out) | exact HB.out)) hb)
                clear HO_685000
                clear HO_692000
                clear BK660
                clear BK661
                clear BK684
                clear BK691
                clear HB
                have HO_685000 := n0_
                have HO_692000 := n1_
                have HO696 := n2_
                have BK660 := n3_
                have BK661 := n4_
                have BK684 := n5_
                have BK691 := n6_
                have HB := n7_
                clear n0_ n1_ n2_ n3_ n4_ n5_ n6_ n7_
                (try clear hb)
                (try clear hb2)
                (try clear hk)
                (try clear hi)
                (try clear ho0)
                obtain ⟨Ao74, co74, eo74⟩ := Kd.R_slice HO696.out
                (first | subst eo74 | (injection eo74 with f1_ f2_ f3_; have f4_ := f1_.symm; have f5_ := f3_.symm; clear f1_ f2_ f3_; subst f4_; subst f5_))
                refine hK.out _ _ ⟨(blk_cell BK684.out 0).trans rfl, (blk_cell BK684.out 1).trans rfl, (blk_cell BK684.out 2).trans rfl, (blk_cell BK684.out 3).trans rfl, (blk_cell BK660.out 0).trans rfl, (blk_cell BK660.out 1).trans rfl, (blk_cell BK660.out 2).trans rfl, (blk_cell BK660.out 3).trans rfl⟩ (fun hHeld => ?_)
                clear hK K
                refine norm_ (a' := ?_) ?_ ?_
                rotate_left
                · show Act.put _ (some 50) _ = _
                  simp only [Act.put, List.setIfInBounds_toArray, List.set_cons_zero, List.set_cons_succ, i64_w, i32_w]
                  rfl
                refine one_ (i := 3) (N := some 51) #[true, true, true, true, false] rfl rfl (by kernel_rfl) (by decide) (fun K hK => ?_)
                refine goes_ Tryd.func16 (by kernel_rfl) rfl #[.agg #[.slice Ao42 t678.length co42, .string t681, .string t682, .string t683], .agg #[.slice Ao74 t694.length co74, .string t697, .string t698, .string t699]] (by rfl) rfl rfl (by (try simp only [List.map_toArray, List.map_cons, List.map_nil]); first | done | rfl | (simp only [List.length_drop, List.length_take]; rfl)) ?_
                with_reducible refine (laws_eqName.calls kj24 _ _ t678 t681 t682 t683 _ _ t694 t697 t698 t699 true _ ?side1 ?side2 ?side3 ?side4 A59.out).mono ?_
                (case side1 => repeat (first | exact (Kd.R_reads' HO_685000.out).2.2 | (with_reducible refine Kd.C_alloc ?_ _) | (with_reducible refine Kd.C_drewN ?_ _) | (with_reducible refine Kd.C_drew ?_)))
                (case side2 => exact (Kd.R_reads' HO_685000.out).2.1)
                (case side3 => repeat (first | exact (Kd.R_reads' HO696.out).2.2 | (with_reducible refine Kd.C_alloc ?_ _) | (with_reducible refine Kd.C_drewN ?_ _) | (with_reducible refine Kd.C_drew ?_)))
                (case side4 => exact (Kd.R_reads' HO696.out).2.1)
                rintro e w75 ⟨rfl, hb⟩
                refine ⟨_, rfl, ?_⟩
                have n0_ := Aside0.mk (Kd.R_below (by (with_reducible repeat (first | apply Kd.R_alloc | apply Kd.R_drewN | apply Kd.R_drew)); exact HO_685000.out) hb)
                have n1_ := Aside0.mk (Kd.R_below (by (with_reducible repeat (first | apply Kd.R_alloc | apply Kd.R_drewN | apply Kd.R_drew)); exact HO_692000.out) hb)
                have n2_ := Aside0.mk (Kd.R_below (by (with_reducible repeat (first | apply Kd.R_alloc | apply Kd.R_drewN | apply Kd.R_drew)); exact HO696.out) hb)
                have n3_ := Aside0.mk (blk_below (g := gb660) (o := .cells #[.slice A0_0 l0_0.length c0_0, .string a0_1, .string a0_2, .string a0_3] 24 (0, 0)) (by (with_reducible repeat (first | refine blk_drewN ?_ _ | refine blk_drew ?_ | refine blk_alloc ?_ _)); exact BK660.out) hb)
                have n4_ := Aside0.mk (blk_below (g := gb661) (o := .cells #[.slice A1_0 l1_0.length c1_0, .string a1_1, .string a1_2, .string a1_3] 24 (0, 0)) (by (with_reducible repeat (first | refine blk_drewN ?_ _ | refine blk_drew ?_ | refine blk_alloc ?_ _)); exact BK661.out) hb)
                have n5_ := Aside0.mk (blk_below (g := gb684) (o := .cells #[.slice Ao42 t678.length co42, .string t681, .string t682, .string t683] 27 (0, 0)) (by (with_reducible repeat (first | refine blk_drewN ?_ _ | refine blk_drew ?_ | refine blk_alloc ?_ _)); exact BK684.out) hb)
                have n6_ := Aside0.mk (blk_below (g := gb691) (o := .cells #[.slice Ao49 t685.length co49, .string t688, .string t689, .string t690] 27 (0, 0)) (by (with_reducible repeat (first | refine blk_drewN ?_ _ | refine blk_drew ?_ | refine blk_alloc ?_ _)); exact BK691.out) hb)
                have n7_ := Aside0.mk (below_step (by repeat (first | (with_reducible first | exact HB.out | apply below_alloc | apply pw_below_drewN | apply below_drew1 | refine below_set ?_ GE660.out | refine below_set ?_ GE661.out | refine below_set ?_ GE684.out | refine below_set ?_ GE691.out) | exact HB.out)) hb)
                clear HO_685000
                clear HO_692000
                clear HO696
                clear BK660
                clear BK661
                clear BK684
                clear BK691
                clear HB
                have HO_685000 := n0_
                have HO_692000 := n1_
                have HO696 := n2_
                have BK660 := n3_
                have BK661 := n4_
                have BK684 := n5_
                have BK691 := n6_
                have HB := n7_
                clear n0_ n1_ n2_ n3_ n4_ n5_ n6_ n7_
                (try clear hb)
                (try clear hb2)
                (try clear hk)
                (try clear hi)
                refine hK.out _ _ ⟨(blk_cell BK684.out 0).trans rfl, (blk_cell BK684.out 1).trans rfl, (blk_cell BK684.out 2).trans rfl, (blk_cell BK684.out 3).trans rfl, (blk_cell BK660.out 0).trans rfl, (blk_cell BK660.out 1).trans rfl, (blk_cell BK660.out 2).trans rfl, (blk_cell BK660.out 3).trans rfl⟩ (fun hHeld => ?_)
                clear hK K
                refine norm_ (a' := ?_) ?_ ?_
                rotate_left
                · show Act.put _ (some 51) _ = _
                  simp only [Act.put, List.setIfInBounds_toArray, List.set_cons_zero, List.set_cons_succ, i64_w, i32_w]
                  rfl
                refine pure_ (i := 4) (N := some 52) (v := ?_) (a' := ?_) #[true, true, true, true, true] rfl rfl (by kernel_rfl) (fun _ _ _ h => h) (Or.inl ⟨by rfl, ?_⟩) ?_ ?_
                rotate_left
                · intro w'
                  go_simp
                  with_reducible rfl
                rotate_left
                · simp only [Act.put, List.setIfInBounds_toArray, List.set_cons_zero, List.set_cons_succ, i64_w, i32_w]
                  rfl
                refine done_ (by kernel_rfl) ?_
                try go_wp2
                have n0_ := Aside0.mk (Kd.R_drew HO_685000.out)
                have n1_ := Aside0.mk (Kd.R_drew HO_692000.out)
                have n2_ := Aside0.mk (Kd.R_drew HO696.out)
                have n3_ := Aside0.mk (blk_drew BK660.out)
                have n4_ := Aside0.mk (blk_drew BK661.out)
                have n5_ := Aside0.mk (blk_drew BK684.out)
                have n6_ := Aside0.mk (blk_drew BK691.out)
                have n7_ := Aside0.mk (below_drew1 HB.out)
                clear HO_685000
                clear HO_692000
                clear HO696
                clear BK660
                clear BK661
                clear BK684
                clear BK691
                clear HB
                have HO_685000 := n0_
                have HO_692000 := n1_
                have HO696 := n2_
                have BK660 := n3_
                have BK661 := n4_
                have BK684 := n5_
                have BK691 := n6_
                have HB := n7_
                clear n0_ n1_ n2_ n3_ n4_ n5_ n6_ n7_
                refine start_ (n := 5) (S := fun w' => w'.cell? ⟨gb691, 0, none⟩ = some (.slice Ao49 t685.length co49) ∧ w'.cell? ⟨gb691, 1, none⟩ = some (.string t688) ∧ w'.cell? ⟨gb691, 2, none⟩ = some (.string t689) ∧ w'.cell? ⟨gb691, 3, none⟩ = some (.string t690) ∧ w'.cell? ⟨gb661, 0, none⟩ = some (.slice A1_0 l1_0.length c1_0) ∧ w'.cell? ⟨gb661, 1, none⟩ = some (.string a1_1) ∧ w'.cell? ⟨gb661, 2, none⟩ = some (.string a1_2) ∧ w'.cell? ⟨gb661, 3, none⟩ = some (.string a1_3)) (ds := []) #[false, false, false, false, false] (by kernel_rfl) rfl rfl ⟨(blk_cell BK691.out 0).trans rfl, (blk_cell BK691.out 1).trans rfl, (blk_cell BK691.out 2).trans rfl, (blk_cell BK691.out 3).trans rfl, (blk_cell BK661.out 0).trans rfl, (blk_cell BK661.out 1).trans rfl, (blk_cell BK661.out 2).trans rfl, (blk_cell BK661.out 3).trans rfl⟩ (fun hHeld => ?_)
                generalize w75.drew = w76 at HO_685000 HO_692000 HO696 BK660 BK661 BK684 BK691 HB hHeld ⊢
                refine take_ (i := 0) (N := some 53) (v := ?_) (a' := ?_) #[true, false, false, false, false] rfl rfl (by kernel_rfl) (fun _ _ _ h => h) (Or.inl ⟨by rfl, ?_⟩) hHeld ?_ ?_
                rotate_left
                · rintro w' ⟨s0, s1, s2, s3, s4, s5, s6, s7⟩
                  go_simp
                  with_reducible rfl
                rotate_left
                · simp only [Act.put, List.setIfInBounds_toArray, List.set_cons_zero, List.set_cons_succ, i64_w, i32_w]
                  rfl
                refine take_ (i := 1) (N := some 54) (v := ?_) (a' := ?_) #[true, true, false, false, false] rfl rfl (by kernel_rfl) (fun _ _ _ h => h) (Or.inl ⟨by rfl, ?_⟩) hHeld ?_ ?_
                rotate_left
                · rintro w' ⟨s0, s1, s2, s3, s4, s5, s6, s7⟩
                  go_simp
                  with_reducible rfl
                rotate_left
                · simp only [Act.put, List.setIfInBounds_toArray, List.set_cons_zero, List.set_cons_succ, i64_w, i32_w]
                  rfl
                refine one_ (i := 2) (N := some 55) #[true, true, true, false, false] rfl rfl (by kernel_rfl) (by decide) (fun K hK => ?_)
                refine goes_ Tryd.func14 (by kernel_rfl) rfl #[.agg #[.slice A1_0 l1_0.length c1_0, .string a1_1, .string a1_2, .string a1_3]] (by rfl) rfl rfl (by (try simp only [List.map_toArray, List.map_cons, List.map_nil]); first | done | rfl | (simp only [List.length_drop, List.length_take]; rfl)) ?_
                with_reducible refine (laws_toName.calls kj24 _ _ l1_0 a1_1 a1_2 a1_3 t701 t704 t705 t706 _ ?side1 ?side2 A61.out).mono ?_
                (case side1 => repeat (first | exact (Kd.C_below HR1_0.out HB.out) | (with_reducible refine Kd.C_alloc ?_ _) | (with_reducible refine Kd.C_drewN ?_ _) | (with_reducible refine Kd.C_drew ?_)))
                (case side2 => exact HC1_0.out)
                rintro e w77 ⟨v702, rfl, ho0, hb⟩
                refine ⟨_, rfl, ?_⟩
                have n0_ := Aside0.mk (Kd.R_elder' (by (with_reducible repeat (first | apply Kd.R_alloc | apply Kd.R_drewN | apply Kd.R_drew)); exact HO_685000.out) (Kd.R_base ho0) hb)
                have n1_ := Aside0.mk (Kd.R_elder' (by (with_reducible repeat (first | apply Kd.R_alloc | apply Kd.R_drewN | apply Kd.R_drew)); exact HO_692000.out) (Kd.R_base ho0) hb)
                have n2_ := Aside0.mk (Kd.R_elder' (by (with_reducible repeat (first | apply Kd.R_alloc | apply Kd.R_drewN | apply Kd.R_drew)); exact HO696.out) (Kd.R_base ho0) hb)
                have n3_ := Aside0.mk (Kd.R_lower (Kd.R_new' (Kd.R_new' (Kd.R_new' ho0 (Kd.R_lt (by (with_reducible repeat (first | apply Kd.R_alloc | apply Kd.R_drewN | apply Kd.R_drew)); exact HO_685000.out))) (Kd.R_lt (by (with_reducible repeat (first | apply Kd.R_alloc | apply Kd.R_drewN | apply Kd.R_drew)); exact HO_692000.out))) (Kd.R_lt (by (with_reducible repeat (first | apply Kd.R_alloc | apply Kd.R_drewN | apply Kd.R_drew)); exact HO696.out))) (below_size (by repeat (first | (with_reducible first | exact HB.out | apply below_alloc | apply pw_below_drewN | apply below_drew1 | refine below_set ?_ GE660.out | refine below_set ?_ GE661.out | refine below_set ?_ GE684.out | refine below_set ?_ GE691.out) | exact HB.out))))
                have n4_ := Aside0.mk (blk_below (g := gb660) (o := .cells #[.slice A0_0 l0_0.length c0_0, .string a0_1, .string a0_2, .string a0_3] 24 (0, 0)) (by (with_reducible repeat (first | refine blk_drewN ?_ _ | refine blk_drew ?_ | refine blk_alloc ?_ _)); exact BK660.out) hb)
                have n5_ := Aside0.mk (blk_below (g := gb661) (o := .cells #[.slice A1_0 l1_0.length c1_0, .string a1_1, .string a1_2, .string a1_3] 24 (0, 0)) (by (with_reducible repeat (first | refine blk_drewN ?_ _ | refine blk_drew ?_ | refine blk_alloc ?_ _)); exact BK661.out) hb)
                have n6_ := Aside0.mk (blk_below (g := gb684) (o := .cells #[.slice Ao42 t678.length co42, .string t681, .string t682, .string t683] 27 (0, 0)) (by (with_reducible repeat (first | refine blk_drewN ?_ _ | refine blk_drew ?_ | refine blk_alloc ?_ _)); exact BK684.out) hb)
                have n7_ := Aside0.mk (blk_below (g := gb691) (o := .cells #[.slice Ao49 t685.length co49, .string t688, .string t689, .string t690] 27 (0, 0)) (by (with_reducible repeat (first | refine blk_drewN ?_ _ | refine blk_drew ?_ | refine blk_alloc ?_ _)); exact BK691.out) hb)
                have n8_ := Aside0.mk (below_step (by repeat (first | (with_reducible first | exact HB.out | apply below_alloc | apply pw_below_drewN | apply below_drew1 | refine below_set ?_ GE660.out | refine below_set ?_ GE661.out | refine below_set ?_ GE684.out | refine below_set ?_ GE691.out) | exact HB.out)) hb)
                clear HO_685000
                clear HO_692000
                clear HO696
                clear BK660
                clear BK661
                clear BK684
                clear BK691
                clear HB
                have HO_685000 := n0_
                have HO_692000 := n1_
                have HO696 := n2_
                have HO703 := n3_
                have BK660 := n4_
                have BK661 := n5_
                have BK684 := n6_
                have BK691 := n7_
                have HB := n8_
                clear n0_ n1_ n2_ n3_ n4_ n5_ n6_ n7_ n8_
                (try clear hb)
                (try clear hb2)
                (try clear hk)
                (try clear hi)
                (try clear ho0)
                obtain ⟨Ao78, co78, eo78⟩ := Kd.R_slice HO703.out
                (first | subst eo78 | (injection eo78 with f1_ f2_ f3_; have f4_ := f1_.symm; have f5_ := f3_.symm; clear f1_ f2_ f3_; subst f4_; subst f5_))
                refine hK.out _ _ ⟨(blk_cell BK691.out 0).trans rfl, (blk_cell BK691.out 1).trans rfl, (blk_cell BK691.out 2).trans rfl, (blk_cell BK691.out 3).trans rfl, (blk_cell BK661.out 0).trans rfl, (blk_cell BK661.out 1).trans rfl, (blk_cell BK661.out 2).trans rfl, (blk_cell BK661.out 3).trans rfl⟩ (fun hHeld => ?_)
                clear hK K
                refine norm_ (a' := ?_) ?_ ?_
                rotate_left
                · show Act.put _ (some 55) _ = _
                  simp only [Act.put, List.setIfInBounds_toArray, List.set_cons_zero, List.set_cons_succ, i64_w, i32_w]
                  rfl
                refine one_ (i := 3) (N := some 56) #[true, true, true, true, false] rfl rfl (by kernel_rfl) (by decide) (fun K hK => ?_)
                refine goes_ Tryd.func16 (by kernel_rfl) rfl #[.agg #[.slice Ao49 t685.length co49, .string t688, .string t689, .string t690], .agg #[.slice Ao78 t701.length co78, .string t704, .string t705, .string t706]] (by rfl) rfl rfl (by (try simp only [List.map_toArray, List.map_cons, List.map_nil]); first | done | rfl | (simp only [List.length_drop, List.length_take]; rfl)) ?_
                with_reducible refine (laws_eqName.calls kj24 _ _ t685 t688 t689 t690 _ _ t701 t704 t705 t706 false _ ?side1 ?side2 ?side3 ?side4 A62.out).mono ?_
                (case side1 => repeat (first | exact (Kd.R_reads' HO_692000.out).2.2 | (with_reducible refine Kd.C_alloc ?_ _) | (with_reducible refine Kd.C_drewN ?_ _) | (with_reducible refine Kd.C_drew ?_)))
                (case side2 => exact (Kd.R_reads' HO_692000.out).2.1)
                (case side3 => repeat (first | exact (Kd.R_reads' HO703.out).2.2 | (with_reducible refine Kd.C_alloc ?_ _) | (with_reducible refine Kd.C_drewN ?_ _) | (with_reducible refine Kd.C_drew ?_)))
                (case side4 => exact (Kd.R_reads' HO703.out).2.1)
                rintro e w79 ⟨rfl, hb⟩
                refine ⟨_, rfl, ?_⟩
                have n0_ := Aside0.mk (Kd.R_below (by (with_reducible repeat (first | apply Kd.R_alloc | apply Kd.R_drewN | apply Kd.R_drew)); exact HO_685000.out) hb)
                have n1_ := Aside0.mk (Kd.R_below (by (with_reducible repeat (first | apply Kd.R_alloc | apply Kd.R_drewN | apply Kd.R_drew)); exact HO_692000.out) hb)
                have n2_ := Aside0.mk (Kd.R_below (by (with_reducible repeat (first | apply Kd.R_alloc | apply Kd.R_drewN | apply Kd.R_drew)); exact HO696.out) hb)
                have n3_ := Aside0.mk (Kd.R_below (by (with_reducible repeat (first | apply Kd.R_alloc | apply Kd.R_drewN | apply Kd.R_drew)); exact HO703.out) hb)
                have n4_ := Aside0.mk (blk_below (g := gb660) (o := .cells #[.slice A0_0 l0_0.length c0_0, .string a0_1, .string a0_2, .string a0_3] 24 (0, 0)) (by (with_reducible repeat (first | refine blk_drewN ?_ _ | refine blk_drew ?_ | refine blk_alloc ?_ _)); exact BK660.out) hb)
                have n5_ := Aside0.mk (blk_below (g := gb661) (o := .cells #[.slice A1_0 l1_0.length c1_0, .string a1_1, .string a1_2, .string a1_3] 24 (0, 0)) (by (with_reducible repeat (first | refine blk_drewN ?_ _ | refine blk_drew ?_ | refine blk_alloc ?_ _)); exact BK661.out) hb)
                have n6_ := Aside0.mk (blk_below (g := gb684) (o := .cells #[.slice Ao42 t678.length co42, .string t681, .string t682, .string t683] 27 (0, 0)) (by (with_reducible repeat (first | refine blk_drewN ?_ _ | refine blk_drew ?_ | refine blk_alloc ?_ _)); exact BK684.out) hb)
                have n7_ := Aside0.mk (blk_below (g := gb691) (o := .cells #[.slice Ao49 t685.length co49, .string t688, .string t689, .string t690] 27 (0, 0)) (by (with_reducible repeat (first | refine blk_drewN ?_ _ | refine blk_drew ?_ | refine blk_alloc ?_ _)); exact BK691.out) hb)
                have n8_ := Aside0.mk (below_step (by repeat (first | (with_reducible first | exact HB.out | apply below_alloc | apply pw_below_drewN | apply below_drew1 | refine below_set ?_ GE660.out | refine below_set ?_ GE661.out | refine below_set ?_ GE684.out | refine below_set ?_ GE691.out) | exact HB.out)) hb)
                clear HO_685000
                clear HO_692000
                clear HO696
                clear HO703
                clear BK660
                clear BK661
                clear BK684
                clear BK691
                clear HB
                have HO_685000 := n0_
                have HO_692000 := n1_
                have HO696 := n2_
                have HO703 := n3_
                have BK660 := n4_
                have BK661 := n5_
                have BK684 := n6_
                have BK691 := n7_
                have HB := n8_
                clear n0_ n1_ n2_ n3_ n4_ n5_ n6_ n7_ n8_
                (try clear hb)
                (try clear hb2)
                (try clear hk)
                (try clear hi)
                refine hK.out _ _ ⟨(blk_cell BK691.out 0).trans rfl, (blk_cell BK691.out 1).trans rfl, (blk_cell BK691.out 2).trans rfl, (blk_cell BK691.out 3).trans rfl, (blk_cell BK661.out 0).trans rfl, (blk_cell BK661.out 1).trans rfl, (blk_cell BK661.out 2).trans rfl, (blk_cell BK661.out 3).trans rfl⟩ (fun hHeld => ?_)
                clear hK K
                refine norm_ (a' := ?_) ?_ ?_
                rotate_left
                · show Act.put _ (some 56) _ = _
                  simp only [Act.put, List.setIfInBounds_toArray, List.set_cons_zero, List.set_cons_succ, i64_w, i32_w]
                  rfl
                refine pure_ (i := 4) (N := some 57) (v := ?_) (a' := ?_) #[true, true, true, true, true] rfl rfl (by kernel_rfl) (fun _ _ _ h => h) (Or.inl ⟨by rfl, ?_⟩) ?_ ?_
                rotate_left
                · intro w'
                  go_simp
                  with_reducible rfl
                rotate_left
                · simp only [Act.put, List.setIfInBounds_toArray, List.set_cons_zero, List.set_cons_succ, i64_w, i32_w]
                  rfl
                refine done_ (by kernel_rfl) ?_
                try go_wp2
                go_ret
                exact ⟨by first | rfl | (simp [errW_none, errW_some] <;> rfl) | (simp [*, errW_none, errW_some] <;> rfl), by repeat (first | (with_reducible first | exact HB.out | apply below_alloc | apply pw_below_drewN | apply below_drew1 | refine below_set ?_ GE660.out | refine below_set ?_ GE661.out | refine below_set ?_ GE684.out | refine below_set ?_ GE691.out) | exact HB.out)⟩
            · replace c60 := Bool.eq_false_iff.mpr c60
              subst c60
              have H1 : (some false) = some r := by rw [if_neg (show ¬ (false = true) by decide)] at H; exact H
              clear H
              have H := H1
              clear H1
              obtain rfl := Option.some.inj H
              try go_wp2
              have n0_ := Aside0.mk (Kd.R_drew HO_685000.out)
              have n1_ := Aside0.mk (Kd.R_drew HO_692000.out)
              have n2_ := Aside0.mk (blk_drew BK660.out)
              have n3_ := Aside0.mk (blk_drew BK661.out)
              have n4_ := Aside0.mk (blk_drew BK684.out)
              have n5_ := Aside0.mk (blk_drew BK691.out)
              have n6_ := Aside0.mk (below_drew1 HB.out)
              clear HO_685000
              clear HO_692000
              clear BK660
              clear BK661
              clear BK684
              clear BK691
              clear HB
              have HO_685000 := n0_
              have HO_692000 := n1_
              have BK660 := n2_
              have BK661 := n3_
              have BK684 := n4_
              have BK691 := n5_
              have HB := n6_
              clear n0_ n1_ n2_ n3_ n4_ n5_ n6_
              refine start_ (n := 5) (S := fun w' => w'.cell? ⟨gb684, 0, none⟩ = some (.slice Ao42 t678.length co42) ∧ w'.cell? ⟨gb684, 1, none⟩ = some (.string t681) ∧ w'.cell? ⟨gb684, 2, none⟩ = some (.string t682) ∧ w'.cell? ⟨gb684, 3, none⟩ = some (.string t683) ∧ w'.cell? ⟨gb660, 0, none⟩ = some (.slice A0_0 l0_0.length c0_0) ∧ w'.cell? ⟨gb660, 1, none⟩ = some (.string a0_1) ∧ w'.cell? ⟨gb660, 2, none⟩ = some (.string a0_2) ∧ w'.cell? ⟨gb660, 3, none⟩ = some (.string a0_3)) (ds := []) #[false, false, false, false, false] (by kernel_rfl) rfl rfl ⟨(blk_cell BK684.out 0).trans rfl, (blk_cell BK684.out 1).trans rfl, (blk_cell BK684.out 2).trans rfl, (blk_cell BK684.out 3).trans rfl, (blk_cell BK660.out 0).trans rfl, (blk_cell BK660.out 1).trans rfl, (blk_cell BK660.out 2).trans rfl, (blk_cell BK660.out 3).trans rfl⟩ (fun hHeld => ?_)
              generalize wc.drew = w80 at HO_685000 HO_692000 BK660 BK661 BK684 BK691 HB hHeld ⊢
              refine take_ (i := 0) (N := some 48) (v := ?_) (a' := ?_) #[true, false, false, false, false] rfl rfl (by kernel_rfl) (fun _ _ _ h => h) (Or.inl ⟨by rfl, ?_⟩) hHeld ?_ ?_
              rotate_left
              · rintro w' ⟨s0, s1, s2, s3, s4, s5, s6, s7⟩
                go_simp
                with_reducible rfl
              rotate_left
              · simp only [Act.put, List.setIfInBounds_toArray, List.set_cons_zero, List.set_cons_succ, i64_w, i32_w]
                rfl
              refine take_ (i := 1) (N := some 49) (v := ?_) (a' := ?_) #[true, true, false, false, false] rfl rfl (by kernel_rfl) (fun _ _ _ h => h) (Or.inl ⟨by rfl, ?_⟩) hHeld ?_ ?_
              rotate_left
              · rintro w' ⟨s0, s1, s2, s3, s4, s5, s6, s7⟩
                go_simp
                with_reducible rfl
              rotate_left
              · simp only [Act.put, List.setIfInBounds_toArray, List.set_cons_zero, List.set_cons_succ, i64_w, i32_w]
                rfl
              refine one_ (i := 2) (N := some 50) #[true, true, true, false, false] rfl rfl (by kernel_rfl) (by decide) (fun K hK => ?_)
              refine goes_ Tryd.func14 (by kernel_rfl) rfl #[.agg #[.slice A0_0 l0_0.length c0_0, .string a0_1, .string a0_2, .string a0_3]] (by rfl) rfl rfl (by (try simp only [List.map_toArray, List.map_cons, List.map_nil]); first | done | rfl | (simp only [List.length_drop, List.length_take]; rfl)) ?_
              with_reducible refine (laws_toName.calls kj24 _ _ l0_0 a0_1 a0_2 a0_3 t694 t697 t698 t699 _ ?side1 ?side2 A58.out).mono ?_
              (case side1 => repeat (first | exact (Kd.C_below HR0_0.out HB.out) | (with_reducible refine Kd.C_alloc ?_ _) | (with_reducible refine Kd.C_drewN ?_ _) | (with_reducible refine Kd.C_drew ?_)))
              (case side2 => exact HC0_0.out)
              rintro e w81 ⟨v695, rfl, ho0, hb⟩
              refine ⟨_, rfl, ?_⟩
              have n0_ := Aside0.mk (Kd.R_elder' (by (with_reducible repeat (first | apply Kd.R_alloc | apply Kd.R_drewN | apply Kd.R_drew)); exact HO_685000.out) (Kd.R_base ho0) hb)
              have n1_ := Aside0.mk (Kd.R_elder' (by (with_reducible repeat (first | apply Kd.R_alloc | apply Kd.R_drewN | apply Kd.R_drew)); exact HO_692000.out) (Kd.R_base ho0) hb)
              have n2_ := Aside0.mk (Kd.R_lower (Kd.R_new' (Kd.R_new' ho0 (Kd.R_lt (by (with_reducible repeat (first | apply Kd.R_alloc | apply Kd.R_drewN | apply Kd.R_drew)); exact HO_685000.out))) (Kd.R_lt (by (with_reducible repeat (first | apply Kd.R_alloc | apply Kd.R_drewN | apply Kd.R_drew)); exact HO_692000.out))) (below_size (by repeat (first | (with_reducible first | exact HB.out | apply below_alloc | apply pw_below_drewN | apply below_drew1 | refine below_set ?_ GE660.out | refine below_set ?_ GE661.out | refine below_set ?_ GE684.out | refine below_set ?_ GE691.out) | exact HB.out))))
              have n3_ := Aside0.mk (blk_below (g := gb660) (o := .cells #[.slice A0_0 l0_0.length c0_0, .string a0_1, .string a0_2, .string a0_3] 24 (0, 0)) (by (with_reducible repeat (first | refine blk_drewN ?_ _ | refine blk_drew ?_ | refine blk_alloc ?_ _)); exact BK660.out) hb)
              have n4_ := Aside0.mk (blk_below (g := gb661) (o := .cells #[.slice A1_0 l1_0.length c1_0, .string a1_1, .string a1_2, .string a1_3] 24 (0, 0)) (by (with_reducible repeat (first | refine blk_drewN ?_ _ | refine blk_drew ?_ | refine blk_alloc ?_ _)); exact BK661.out) hb)
              have n5_ := Aside0.mk (blk_below (g := gb684) (o := .cells #[.slice Ao42 t678.length co42, .string t681, .string t682, .string t683] 27 (0, 0)) (by (with_reducible repeat (first | refine blk_drewN ?_ _ | refine blk_drew ?_ | refine blk_alloc ?_ _)); exact BK684.out) hb)
              have n6_ := Aside0.mk (blk_below (g := gb691) (o := .cells #[.slice Ao49 t685.length co49, .string t688, .string t689, .string t690] 27 (0, 0)) (by (with_reducible repeat (first | refine blk_drewN ?_ _ | refine blk_drew ?_ | refine blk_alloc ?_ _)); exact BK691.out) hb)
              have n7_ := Aside0.mk (below_step (by repeat (first | (with_reducible first | exact HB.out | apply below_alloc | apply pw_below_drewN | apply below_drew1 | refine below_set ?_ GE660.out | refine below_set ?_ GE661.out | refine below_set ?_ GE684.out | refine below_set ?_ GE691.out) | exact HB.out)) hb)
              clear HO_685000
              clear HO_692000
              clear BK660
              clear BK661
              clear BK684
              clear BK691
              clear HB
              have HO_685000 := n0_
              have HO_692000 := n1_
              have HO696 := n2_
              have BK660 := n3_
              have BK661 := n4_
              have BK684 := n5_
              have BK691 := n6_
              have HB := n7_
              clear n0_ n1_ n2_ n3_ n4_ n5_ n6_ n7_
              (try clear hb)
              (try clear hb2)
              (try clear hk)
              (try clear hi)
              (try clear ho0)
              obtain ⟨Ao82, co82, eo82⟩ := Kd.R_slice HO696.out
              (first | subst eo82 | (injection eo82 with f1_ f2_ f3_; have f4_ := f1_.symm; have f5_ := f3_.symm; clear f1_ f2_ f3_; subst f4_; subst f5_))
              refine hK.out _ _ ⟨(blk_cell BK684.out 0).trans rfl, (blk_cell BK684.out 1).trans rfl, (blk_cell BK684.out 2).trans rfl, (blk_cell BK684.out 3).trans rfl, (blk_cell BK660.out 0).trans rfl, (blk_cell BK660.out 1).trans rfl, (blk_cell BK660.out 2).trans rfl, (blk_cell BK660.out 3).trans rfl⟩ (fun hHeld => ?_)
              clear hK K
              refine norm_ (a' := ?_) ?_ ?_
              rotate_left
              · show Act.put _ (some 50) _ = _
                simp only [Act.put, List.setIfInBounds_toArray, List.set_cons_zero, List.set_cons_succ, i64_w, i32_w]
                rfl
              refine one_ (i := 3) (N := some 51) #[true, true, true, true, false] rfl rfl (by kernel_rfl) (by decide) (fun K hK => ?_)
              refine goes_ Tryd.func16 (by kernel_rfl) rfl #[.agg #[.slice Ao42 t678.length co42, .string t681, .string t682, .string t683], .agg #[.slice Ao82 t694.length co82, .string t697, .string t698, .string t699]] (by rfl) rfl rfl (by (try simp only [List.map_toArray, List.map_cons, List.map_nil]); first | done | rfl | (simp only [List.length_drop, List.length_take]; rfl)) ?_
              with_reducible refine (laws_eqName.calls kj24 _ _ t678 t681 t682 t683 _ _ t694 t697 t698 t699 false _ ?side1 ?side2 ?side3 ?side4 A59.out).mono ?_
              (case side1 => repeat (first | exact (Kd.R_reads' HO_685000.out).2.2 | (with_reducible refine Kd.C_alloc ?_ _) | (with_reducible refine Kd.C_drewN ?_ _) | (with_reducible refine Kd.C_drew ?_)))
              (case side2 => exact (Kd.R_reads' HO_685000.out).2.1)
              (case side3 => repeat (first | exact (Kd.R_reads' HO696.out).2.2 | (with_reducible refine Kd.C_alloc ?_ _) | (with_reducible refine Kd.C_drewN ?_ _) | (with_reducible refine Kd.C_drew ?_)))
              (case side4 => exact (Kd.R_reads' HO696.out).2.1)
              rintro e w83 ⟨rfl, hb⟩
              refine ⟨_, rfl, ?_⟩
              have n0_ := Aside0.mk (Kd.R_below (by (with_reducible repeat (first | apply Kd.R_alloc | apply Kd.R_drewN | apply Kd.R_drew)); exact HO_685000.out) hb)
              have n1_ := Aside0.mk (Kd.R_below (by (with_reducible repeat (first | apply Kd.R_alloc | apply Kd.R_drewN | apply Kd.R_drew)); exact HO_692000.out) hb)
              have n2_ := Aside0.mk (Kd.R_below (by (with_reducible repeat (first | apply Kd.R_alloc | apply Kd.R_drewN | apply Kd.R_drew)); exact HO696.out) hb)
              have n3_ := Aside0.mk (blk_below (g := gb660) (o := .cells #[.slice A0_0 l0_0.length c0_0, .string a0_1, .string a0_2, .string a0_3] 24 (0, 0)) (by (with_reducible repeat (first | refine blk_drewN ?_ _ | refine blk_drew ?_ | refine blk_alloc ?_ _)); exact BK660.out) hb)
              have n4_ := Aside0.mk (blk_below (g := gb661) (o := .cells #[.slice A1_0 l1_0.length c1_0, .string a1_1, .string a1_2, .string a1_3] 24 (0, 0)) (by (with_reducible repeat (first | refine blk_drewN ?_ _ | refine blk_drew ?_ | refine blk_alloc ?_ _)); exact BK661.out) hb)
              have n5_ := Aside0.mk (blk_below (g := gb684) (o := .cells #[.slice Ao42 t678.length co42, .string t681, .string t682, .string t683] 27 (0, 0)) (by (with_reducible repeat (first | refine blk_drewN ?_ _ | refine blk_drew ?_ | refine blk_alloc ?_ _)); exact BK684.out) hb)
              have n6_ := Aside0.mk (blk_below (g := gb691) (o := .cells #[.slice Ao49 t685.length co49, .string t688, .string t689, .string t690] 27 (0, 0)) (by (with_reducible repeat (first | refine blk_drewN ?_ _ | refine blk_drew ?_ | refine blk_alloc ?_ _)); exact BK691.out) hb)
              have n7_ := Aside0.mk (below_step (by repeat (first | (with_reducible first | exact HB.out | apply below_alloc | apply pw_below_drewN | apply below_drew1 | refine below_set ?_ GE660.out | refine below_set ?_ GE661.out | refine below_set ?_ GE684.out | refine below_set ?_ GE691.out) | exact HB.out)) hb)
              clear HO_685000
              clear HO_692000
              clear HO696
              clear BK660
              clear BK661
              clear BK684
              clear BK691
              clear HB
              have HO_685000 := n0_
              have HO_692000 := n1_
              have HO696 := n2_
              have BK660 := n3_
              have BK661 := n4_
              have BK684 := n5_
              have BK691 := n6_
              have HB := n7_
              clear n0_ n1_ n2_ n3_ n4_ n5_ n6_ n7_
              (try clear hb)
              (try clear hb2)
              (try clear hk)
              (try clear hi)
              refine hK.out _ _ ⟨(blk_cell BK684.out 0).trans rfl, (blk_cell BK684.out 1).trans rfl, (blk_cell BK684.out 2).trans rfl, (blk_cell BK684.out 3).trans rfl, (blk_cell BK660.out 0).trans rfl, (blk_cell BK660.out 1).trans rfl, (blk_cell BK660.out 2).trans rfl, (blk_cell BK660.out 3).trans rfl⟩ (fun hHeld => ?_)
              clear hK K
              refine norm_ (a' := ?_) ?_ ?_
              rotate_left
              · show Act.put _ (some 51) _ = _
                simp only [Act.put, List.setIfInBounds_toArray, List.set_cons_zero, List.set_cons_succ, i64_w, i32_w]
                rfl
              refine pure_ (i := 4) (N := some 52) (v := ?_) (a' := ?_) #[true, true, true, true, true] rfl rfl (by kernel_rfl) (fun _ _ _ h => h) (Or.inl ⟨by rfl, ?_⟩) ?_ ?_
              rotate_left
              · intro w'
                go_simp
                with_reducible rfl
              rotate_left
              · simp only [Act.put, List.setIfInBounds_toArray, List.set_cons_zero, List.set_cons_succ, i64_w, i32_w]
                rfl
              refine done_ (by kernel_rfl) ?_
              try go_wp2
              go_ret
              exact ⟨by first | rfl | (simp [errW_none, errW_some] <;> rfl) | (simp [*, errW_none, errW_some] <;> rfl), by repeat (first | (with_reducible first | exact HB.out | apply below_alloc | apply pw_below_drewN | apply below_drew1 | refine below_set ?_ GE660.out | refine below_set ?_ GE661.out | refine below_set ?_ GE684.out | refine below_set ?_ GE691.out) | exact HB.out)⟩

end Go.Proofs.YtcckamdpncbkoaaDoor.G

namespace Go.Proofs.YtcckamdpncbkoaaDoor.Opn
open Go.RowKit Go.Proofs.YtcckamdpncbkoaaDoorW.PrintWords
set_option linter.unusedVariables false
set_option linter.unusedSimpArgs false
variable {H : Type} {enc : TypeId × Value → H} {P : Program} {w : World} {base : Nat} {spare : Nat → Bool} {held : Bool}
def okStr (s : ByteArray) : Prop := s.size ≤ 9223372036854775807
def okList {α : Type} (p : α → Prop) (xs : List α) : Prop := xs.length ≤ 9223372036854775807 ∧ ∀ x ∈ xs, p x
theorem of_string {t : TypeId} {fuel : Nat} {cs : List Value} {x : DataW H × List MemPlace} (ht : P.underlying t = some .string) (h : DataW.trod enc P w base spare held fuel t cs = some x) :
    ∃ n, Kd.string.K w n cs ∧ okStr n := by
  cases fuel with
  | zero => simp [DataW.trod] at h
  | succ fuel =>
    match cs with
    | [] => simp [DataW.trod, ht] at h
    | [v] => cases v <;> simp [DataW.trod, ht] at h; exact ⟨_, rfl, h.1⟩
    | _ :: _ :: _ => simp [DataW.trod, ht] at h
theorem add_add (a : Addr) (k i : Nat) : (a.add k).add i = a.add (k + i) := by
  unfold Addr.add
  by_cases hk : k = 0 <;> by_cases hi : i = 0 <;> simp [hk, hi, Nat.add_assoc]
theorem of_slice {α : Type} {d : Kd α} {ok : α → Prop} {t e : TypeId} {fuel : Nat} {cs : List Value} {x : DataW H × List MemPlace} (ht : P.underlying t = some (.slice e)) (hc : P.cellsOf e = d.sz)
    (ih : ∀ n cs x, DataW.trod enc P w base spare held n e cs = some x → ∃ y, d.K w y cs ∧ ok y) (h : DataW.trod enc P w base spare held fuel t cs = some x) :
    ∃ ys, (Kd.slice e d).K w ys cs ∧ okList ok ys := by
  rcases Go.Deep.open_slice ht h with ⟨rfl, _⟩ | ⟨a, len, cap, m, n, D, Pl, rfl, hb, hl, hm, hmm, hxe, hel⟩
  · exact ⟨[], ⟨none, 0, rfl, by simp, rfl, by simp, fun h => absurd h (by simp)⟩, by simp, fun x hx => by simp at hx⟩
  · have hlm : len ≤ m := by rw [hmm]; split <;> omega
    have hm' : len ≤ 9223372036854775807 := by unfold maxLen at hm; omega
    have key : ∀ i, i < len → ∃ cs' y, w.cells? base (a.add (i * P.cellsOf e)) (P.cellsOf e) = some cs' ∧ d.K w y cs' ∧ ok y := by
      intro i hi
      obtain ⟨cs', h1, h2⟩ := hel i (by omega)
      obtain ⟨y, hy, ho⟩ := ih _ _ _ h2
      exact ⟨cs', y, h1, hy, ho⟩
    obtain ⟨ys, hlen, hys⟩ : ∃ ys : List α, ys.length = len ∧ ∀ i (hi : i < ys.length), ∃ cs', w.cells? base (a.add (i * P.cellsOf e)) (P.cellsOf e) = some cs' ∧ d.K w ys[i] cs' ∧ ok ys[i] := by
      clear h hxe hel hmm hlm hl hm hm'
      induction len with
      | zero => exact ⟨[], rfl, fun i hi => by simp at hi⟩
      | succ len ihl =>
        obtain ⟨ys, h1, h2⟩ := ihl (fun i hi => key i (by omega))
        obtain ⟨cs', y, h3, h4, h5⟩ := key len (by omega)
        refine ⟨ys ++ [y], by simp [h1], fun i hi => ?_⟩
        by_cases hi' : i < ys.length
        · rw [List.getElem_append_left hi']; exact h2 i hi'
        · have : i = len := by simp at hi; omega
          subst this
          refine ⟨cs', h3, ?_, ?_⟩ <;> rw [List.getElem_append_right (by omega)] <;> simpa [h1]
    refine ⟨ys, ⟨some a, cap, by rw [hlen], by omega, rfl, by omega, fun _ => ⟨a, rfl, fun j p hj => ?_⟩⟩, by omega, fun y hy => ?_⟩
    · obtain ⟨hj', rfl⟩ := List.getElem?_eq_some_iff.1 hj
      obtain ⟨cs', h1, h2, _⟩ := hys j hj'
      rw [hc] at h1
      refine ⟨cs', d.K_len h2, h2, fun i u hu => ?_⟩
      obtain ⟨_, hl', hcell⟩ := World.cells?_some h1
      have hi : i < d.sz := by have := (List.getElem?_eq_some_iff.1 hu).1; omega
      have := hcell i hi
      rw [hu, add_add] at this
      exact this
    · obtain ⟨i, hi, rfl⟩ := List.getElem_of_mem hy
      obtain ⟨_, _, _, h3⟩ := hys i hi
      exact h3
theorem mapM_all {α β : Type} {f : α → Option β} : ∀ {l : List α} {ys : List β}, l.mapM f = some ys → ∀ x ∈ l, ∃ y, f x = some y
  | [], _, _, x, hx => by simp at hx
  | a :: l, ys, h, x, hx => by
    rw [List.mapM_cons] at h
    simp only [Option.bind_eq_bind, Option.bind_eq_some_iff] at h
    obtain ⟨y, h1, ys', h2, _⟩ := h
    rcases List.mem_cons.1 hx with rfl | hx
    · exact ⟨y, h1⟩
    · exact mapM_all h2 x hx
theorem of_fields {t : TypeId} {fs : Array Field} {fuel : Nat} {cs : List Value} {x : DataW H × List MemPlace} (ht : P.underlying t = some (.struct fs)) (h : DataW.trod enc P w base spare held fuel t cs = some x) :
    cs.length = P.cellsOf t ∧ ∃ n, ∀ f ∈ fs.toList, ∃ y, DataW.trod enc P w base spare held n f.type ((cs.drop f.offset).take (P.cellsOf f.type)) = some y := by
  cases fuel with
  | zero => simp [DataW.trod] at h
  | succ fuel =>
    simp only [DataW.trod, ht] at h
    split at h
    · rename_i hl
      refine ⟨hl, fuel, ?_⟩
      simp only [Option.map_eq_some_iff] at h
      obtain ⟨ys, h1, _⟩ := h
      exact mapM_all h1
    · simp at h
theorem pair_K {α β : Type} {a : Kd α} {b : Kd β} {x : α} {y : β} {cs : List Value} {n : Nat} (off : Nat) (hn : a.sz = n) (h0 : a.K w x ((cs.drop off).take n)) (h1 : b.K w y (cs.drop (off + n))) : (Kd.pair a b).K w (x, y) (cs.drop off) :=
  ⟨_, _, by rw [← List.drop_drop]; exact (List.take_append_drop n (cs.drop off)).symm, h0, h1⟩
theorem last_K {α : Type} {a : Kd α} {x : α} {cs : List Value} {n : Nat} (off : Nat) (hl : cs.length = off + n) (h0 : a.K w x ((cs.drop off).take n)) : a.K w x (cs.drop off) := by
  rwa [List.take_of_length_le (by rw [List.length_drop]; omega)] at h0
end Go.Proofs.YtcckamdpncbkoaaDoor.Opn

namespace Go.Proofs.YtcckamdpncbkoaaDoor.G
open Go.Proofs.YtcckamdpncbkoaaDoor.Opn
open Go.RowKit Go.Proofs.YtcckamdpncbkoaaDoorW.PrintWords Go.Proofs.YtcckamdpncbkoaaDoorW.PrintLast Go.Proofs.YtcckamdpncbkoaaDoorW.PrintMore
open Go.Proofs.YtcckamdpncbkoaaDoor.Gl Go.Proofs.YtcckamdpncbkoaaDoor.Ext
attribute [local go_sem] max2_int min2_int max_two min_two max_three min_three max_four min_four   -- for this text's walks alone
set_option linter.unusedVariables false
set_option linter.unusedSimpArgs false

theorem cells9 : Tryd.prog.cellsOf 9 = 1 := by kernel_rfl
theorem cells22 : Tryd.prog.cellsOf 22 = 1 := by kernel_rfl
theorem cells24 : Tryd.prog.cellsOf 24 = 4 := by kernel_rfl
def ok24 (y : S24) : Prop := okList (okStr) y.f0 ∧ okStr y.f1 ∧ okStr y.f2 ∧ okStr y.f3
theorem of_T24 {H : Type} {enc : TypeId × Value → H} {w : World} {base : Nat} {spare : Nat → Bool} {held : Bool} {fuel : Nat} {cs : List Value} {x : DataW H × List MemPlace} (h : DataW.trod enc Tryd.prog w base spare held fuel 24 cs = some x) : ∃ y : S24, k24.K w y cs ∧ ok24 y := by
  obtain ⟨hl, n, hf⟩ := of_fields Tryd.underlying24 h
  rw [cells24] at hl
  simp only [List.mem_cons, List.not_mem_nil, or_false, forall_eq_or_imp, forall_eq] at hf
  obtain ⟨⟨y0, f0⟩, ⟨y1, f1⟩, ⟨y2, f2⟩, ⟨y3, f3⟩⟩ := hf
  rw [cells22] at f0
  obtain ⟨x0, g0, b0⟩ := of_slice (ok := okStr) Tryd.underlying22 cells9 (fun _ _ _ h_ => of_string Tryd.underlying9 h_) f0
  rw [cells9] at f1
  obtain ⟨x1, g1, b1⟩ := of_string Tryd.underlying9 f1
  rw [cells9] at f2
  obtain ⟨x2, g2, b2⟩ := of_string Tryd.underlying9 f2
  rw [cells9] at f3
  obtain ⟨x3, g3, b3⟩ := of_string Tryd.underlying9 f3
  exact ⟨⟨x0, x1, x2, x3⟩, (pair_K (n := 1) 0 rfl g0 (pair_K (n := 1) 1 rfl g1 (pair_K (n := 1) 2 rfl g2 (last_K (n := 1) 3 hl g3)))), ⟨b0, b1, b2, b3⟩⟩
end Go.Proofs.YtcckamdpncbkoaaDoor.G

namespace Go.Proofs.YtcckamdpncbkoaaDoor.G
open Go.Proofs.YtcckamdpncbkoaaDoor.Opn
open Go.RowKit Go.Proofs.YtcckamdpncbkoaaDoorW.PrintWords Go.Proofs.YtcckamdpncbkoaaDoorW.PrintLast Go.Proofs.YtcckamdpncbkoaaDoorW.PrintMore
open Go.Proofs.YtcckamdpncbkoaaDoor.Gl Go.Proofs.YtcckamdpncbkoaaDoor.Ext
attribute [local go_sem] max2_int min2_int max_two min_two max_three min_three max_four min_four   -- for this text's walks alone
set_option linter.unusedVariables false
set_option linter.unusedSimpArgs false

def laws_FnExactCompareNames.Pur : Prop := ∀ (l0_0 : List ByteArray) (a0_1 : ByteArray) (a0_2 : ByteArray) (a0_3 : ByteArray) (l1_0 : List ByteArray) (a1_1 : ByteArray) (a1_2 : ByteArray) (a1_3 : ByteArray), okList (okStr) l0_0 → okStr a0_1 → okStr a0_2 → okStr a0_3 → okList (okStr) l1_0 → okStr a1_1 → okStr a1_2 → okStr a1_3 → ∃ k, laws_FnExactCompareNames.f k l0_0 a0_1 a0_2 a0_3 l1_0 a1_1 a1_2 a1_3 = some true
theorem laws_FnExactCompareNames.wlk (P : laws_FnExactCompareNames.Pur) (A0_0 : Option Addr) (c0_0 : Nat) (l0_0 : List ByteArray) (a0_1 : ByteArray) (a0_2 : ByteArray) (a0_3 : ByteArray) (A1_0 : Option Addr) (c1_0 : Nat) (l1_0 : List ByteArray) (a1_1 : ByteArray) (a1_2 : ByteArray) (a1_3 : ByteArray) (w : World) (hr0_0 : Kd.C Kd.string w A0_0 l0_0.length l0_0) (hc0_0 : l0_0.length ≤ c0_0) (hr1_0 : Kd.C Kd.string w A1_0 l1_0.length l1_0) (hc1_0 : l1_0.length ≤ c1_0) {gF1 gF2 gF3 : Bool} (hG : GL gF1 gF2 gF3 w) (bl0_0 : okList (okStr) l0_0) (ba0_1 : okStr a0_1) (ba0_2 : okStr a0_2) (ba0_3 : okStr a0_3) (bl1_0 : okList (okStr) l1_0) (ba1_1 : okStr a1_1) (ba1_2 : okStr a1_2) (ba1_3 : okStr a1_3) :
    Calls Tryd.prog 11 #[.agg #[.slice A0_0 l0_0.length c0_0, .string a0_1, .string a0_2, .string a0_3], .agg #[.slice A1_0 l1_0.length c1_0, .string a1_1, .string a1_2, .string a1_3]] w fun e w' => e = .returned (.bool true) ∧ Below w.heap.size w w' := by
  obtain ⟨k, h⟩ := P l0_0 a0_1 a0_2 a0_3 l1_0 a1_1 a1_2 a1_3 bl0_0 ba0_1 ba0_2 ba0_3 bl1_0 ba1_1 ba1_2 ba1_3
  refine (laws_FnExactCompareNames.calls k A0_0 c0_0 l0_0 a0_1 a0_2 a0_3 A1_0 c1_0 l1_0 a1_1 a1_2 a1_3 true w hG hr0_0 hc0_0 hr1_0 hc1_0 h).mono ?_
  rintro e w' ⟨rfl, hd⟩
  exact ⟨rfl, hd⟩

end Go.Proofs.YtcckamdpncbkoaaDoor.G

namespace Go.Proofs.YtcckamdpncbkoaaDoor.B
open Go.RowKit Go.Proofs.YtcckamdpncbkoaaDoorW.PrintWords Go.Proofs.YtcckamdpncbkoaaDoorW.PrintLast
set_option linter.unusedVariables false
set_option linter.unusedSimpArgs false
def ahd (seg : List UInt8) : List (List UInt8) → List (List UInt8)
  | [] => [seg]
  | h :: t => (seg ++ h) :: t
def spl (b : UInt8) : List UInt8 → List (List UInt8)
  | [] => [[]]
  | c :: cs => if c = b then [] :: spl b cs else ahd [c] (spl b cs)
theorem spl_cons (b c : UInt8) (cs : List UInt8) : spl b (c :: cs) = if c = b then [] :: spl b cs else ahd [c] (spl b cs) := rfl
theorem spl_ne (b : UInt8) (l : List UInt8) : spl b l ≠ [] := by
  cases l with
  | nil => simp [spl]
  | cons c cs => unfold spl; split <;> simp; unfold ahd; split <;> simp
theorem ahd_nil (p : List (List UInt8)) (h : p ≠ []) : ahd [] p = p := by cases p <;> simp_all [ahd]
theorem ahd_ahd (a b : List UInt8) (p : List (List UInt8)) : ahd a (ahd b p) = ahd (a ++ b) p := by cases p <;> simp [ahd]
theorem spl_length (b : UInt8) (l : List UInt8) : (spl b l).length ≤ l.length + 1 := by
  induction l with
  | nil => simp [spl]
  | cons c cs ih =>
    unfold spl
    split
    · simp; omega
    · cases h : spl b cs with
      | nil => exact absurd h (spl_ne b cs)
      | cons p q => rw [h] at ih; simp [ahd] at ih ⊢; omega
theorem spl_step (b : UInt8) (l : List UInt8) (from_ i : Nat) (hi : i < l.length) (hf : from_ ≤ i) :
    ahd ((l.drop from_).take (i - from_)) (spl b (l.drop i)) =
      if l[i] = b then ((l.drop from_).take (i - from_)) :: spl b (l.drop (i + 1)) else ahd ((l.drop from_).take (i + 1 - from_)) (spl b (l.drop (i + 1))) := by
  rw [List.drop_eq_getElem_cons hi, spl_cons]
  by_cases h : l[i] = b
  · rw [if_pos h, if_pos h]
    simp [ahd]
  · rw [if_neg h, if_neg h]
    have e : (l.drop from_).take (i + 1 - from_) = (l.drop from_).take (i - from_) ++ [l[i]] := by
      rw [show i + 1 - from_ = (i - from_) + 1 by omega, List.take_succ_eq_append_getElem (by rw [List.length_drop]; omega)]
      congr 2
      rw [List.getElem_drop]
      congr 1
      omega
    rw [e]
    exact ahd_ahd _ _ _
end Go.Proofs.YtcckamdpncbkoaaDoor.B

namespace Go.Proofs.YtcckamdpncbkoaaDoor.B
open Go.RowKit Go.Proofs.YtcckamdpncbkoaaDoorW.PrintWords Go.Proofs.YtcckamdpncbkoaaDoorW.PrintLast
set_option linter.unusedVariables false
set_option linter.unusedSimpArgs false
theorem spl_none (c : UInt8) : ∀ l : List UInt8, (∀ k : Nat, l[k]? ≠ some c) → spl c l = [l]
  | [], _ => rfl
  | a :: l, h => by
    have h0 : a ≠ c := fun e => h 0 (by simp [e])
    rw [spl_cons, if_neg h0, spl_none c l (fun k => by simpa using h (k + 1))]; rfl
theorem spl_first (c : UInt8) : ∀ (i : Nat) (l : List UInt8), l[i]? = some c → (∀ k : Nat, k < i → l[k]? ≠ some c) → spl c l = l.take i :: spl c (l.drop (i + 1))
  | 0, [], h, _ => by simp at h
  | 0, a :: l, h, _ => by
    have h0 : a = c := by simpa using h
    rw [spl_cons, if_pos h0]; rfl
  | i + 1, [], h, _ => by simp at h
  | i + 1, a :: l, h, hk => by
    have h0 : a ≠ c := fun e => hk 0 (by omega) (by simp [e])
    rw [spl_cons, if_neg h0, spl_first c i l (by simpa using h) (fun k hk' => by simpa using hk (k + 1) (by omega))]
    rfl
theorem indexB_one (s : ByteArray) (c : UInt8) : Lib.indexB s (mkB [c]) = Lib.indexByte (L s) c := by
  unfold Lib.indexB
  have : (mkB [c]).data.toList = [c] := L_mk [c]
  rw [this]
  exact Lib.index_one _ _
theorem splitB_spl (c : UInt8) (n : Nat) : ∀ s : ByteArray, s.size ≤ n → (Lib.splitB (mkB [c]) 0 (Lib.countB s (mkB [c])) s).map L = spl c (L s) := by
  have h1 : (mkB [c]).size = 1 := by rw [size_mk]; rfl
  induction n with
  | zero =>
    intro s hs
    rcases Lib.indexB_cases s (mkB [c]) with hm | ⟨i, hi, hr⟩
    · rw [Lib.splitB_miss _ _ _ _ hm]
      have := Lib.indexByte_none (by rw [← indexB_one]; exact hm : Lib.indexByte (L s) c = -1)
      rw [spl_none c (L s) this]; rfl
    · omega
  | succ n ih =>
    intro s hs
    rcases Lib.indexB_cases s (mkB [c]) with hm | ⟨i, hi, hr⟩
    · rw [Lib.splitB_miss _ _ _ _ hm]
      have := Lib.indexByte_none (by rw [← indexB_one]; exact hm : Lib.indexByte (L s) c = -1)
      rw [spl_none c (L s) this]; rfl
    · rw [h1] at hr
      have hc := Lib.countB_hit s (mkB [c]) i (by omega) hi
      rw [h1] at hc
      rw [hc, Nat.add_comm 1, Lib.splitB_hit _ _ _ _ i hi, h1, List.map_cons, ih (s.extract (i + 1) s.size) (by rw [ByteArray.size_extract]; omega)]
      obtain ⟨a, b⟩ := Lib.indexByte_some (by rw [← indexB_one]; exact hi : Lib.indexByte (L s) c = i)
      rw [spl_first c i (L s) a b, L_extract, L_extract]
      congr 1
      congr 1
      rw [List.take_of_length_le (by rw [List.length_drop, L_len]; omega)]
theorem splitB_eq (c : UInt8) (s : ByteArray) : Lib.splitB (mkB [c]) 0 (Lib.countB s (mkB [c])) s = (spl c (L s)).map mkB := by
  rw [← splitB_spl c s.size s (Nat.le_refl _), List.map_map]
  have : (mkB ∘ L) = id := by funext x; exact mk_L x
  rw [this, List.map_id]
end Go.Proofs.YtcckamdpncbkoaaDoor.B

namespace Go.Proofs.YtcckamdpncbkoaaDoor.G
open Go.RowKit Go.Proofs.YtcckamdpncbkoaaDoorW.PrintWords Go.Proofs.YtcckamdpncbkoaaDoorW.PrintLast Go.Proofs.YtcckamdpncbkoaaDoor.B
set_option linter.unusedVariables false
set_option linter.unusedSimpArgs false
theorem split_loop (s : ByteArray) (b : UInt8) (hs : s.size ≤ 8796093022000) (d : Nat) : ∀ (out : List ByteArray) (f i : Nat), out.length ≤ i → f ≤ i → i ≤ s.size → s.size - i = d →
    Ev (fun k => spec_l1Split.l0 k s (b.toNat : Int) out f i) (out ++ (ahd (((L s).drop f).take (i - f)) (spl b ((L s).drop i))).map mkB) := by
  have hL : (L s).length = s.size := L_len s
  induction d with
  | zero =>
    intro out f i h0 h1 h2 hd
    have e : i = s.size := by omega
    refine Ev.step (f := fun _ => some (out ++ [s.extract f s.size])) (fun k => ?_) (ev_eq (Ev.now _) ?_)
    · simp only [spec_l1Split.l0]
      rw [if_neg (by omega), if_pos (by omega), if_pos (by omega), if_pos (by omega)]
      simp
    · rw [List.drop_of_length_le (l := L s) (i := i) (by omega)]
      simp [spl, ahd]
      apply L_inj
      rw [L_extract, L_mk, e]
  | succ d ih =>
    intro out f i h0 h1 h2 hd
    have hlt : i < s.size := by omega
    have hlt' : i < (L s).length := by omega
    rw [spl_step b (L s) f i hlt' h1]
    have hw : wrap64 ((i : Int) + 1) = ((i + 1 : Nat) : Int) := by rw [w64 (by omega) (by omega)]; rfl
    by_cases e : (L s)[i] = b
    · rw [if_pos e]
      refine Ev.step (f := fun k => spec_l1Split.l0 k s (b.toNat : Int) (out ++ [s.extract f i]) ((i + 1 : Nat) : Int) ((i + 1 : Nat) : Int)) (fun k => ?_) (ev_eq (ih (out ++ [s.extract f i]) (i + 1) (i + 1) (by simp; omega) (by omega) (by omega) (by omega)) ?_)
      · simp only [spec_l1Split.l0]
        rw [if_pos (by omega), if_pos (by omega), if_pos (by rw [bt_get s i hlt, e]), if_pos (by omega), if_pos (by omega), if_pos (by omega), if_pos (by omega), hw]
        simp
      · rw [Nat.sub_self, List.take_zero, ahd_nil _ (spl_ne b _), List.append_assoc]
        congr 1
        simp
        apply L_inj
        rw [L_extract, L_mk]
    · rw [if_neg e]
      refine Ev.step (f := fun k => spec_l1Split.l0 k s (b.toNat : Int) out f ((i + 1 : Nat) : Int)) (fun k => ?_) (ih out f (i + 1) (by omega) (by omega) (by omega) (by omega))
      simp only [spec_l1Split.l0]
      rw [if_pos (by omega), if_pos (by omega), if_neg (by rw [bt_get s i hlt]; exact fun h => e (u8_inj h)), hw]
theorem split_ev (s : ByteArray) (b : UInt8) (hs : s.size ≤ 8796093022000) : Ev (fun k => spec_l1Split.f k s (b.toNat : Int)) ((spl b (L s)).map mkB) := by
  have := split_loop s b hs s.size [] 0 0 (by simp) (by omega) (by omega) (by omega)
  unfold spec_l1Split.f
  simpa [ahd_nil _ (spl_ne b _)] using this
end Go.Proofs.YtcckamdpncbkoaaDoor.G

namespace Go.Proofs.YtcckamdpncbkoaaDoor.G
open Go.RowKit Go.Proofs.YtcckamdpncbkoaaDoorW.PrintWords Go.Proofs.YtcckamdpncbkoaaDoorW.PrintLast Go.Proofs.YtcckamdpncbkoaaDoor.B
set_option linter.unusedVariables false
set_option linter.unusedSimpArgs false
def upD (c : Int) : Bool := decide (65 ≤ c) && decide (c ≤ 90)
def loD (c : Int) : Bool := decide (97 ≤ c) && decide (c ≤ 122)
def leD (c : Int) : Bool := upD c || loD c
def inD (n : Nat) : Bool := decide (1 ≤ n) && decide (n ≤ 12)
theorem spec_up (c : Int) : spec_l2Upper.f c = some (upD c) := by unfold spec_l2Upper.f upD; by_cases h : 65 ≤ c <;> simp [h]
theorem spec_lo (c : Int) : spec_l2Lower.f c = some (loD c) := by unfold spec_l2Lower.f loD; by_cases h : 97 ≤ c <;> simp [h]
theorem impl_up (c : Int) : impl_isUpper.f c = some (upD c) := by unfold impl_isUpper.f upD; by_cases h : 65 ≤ c <;> simp [h]
theorem impl_lo (c : Int) : impl_isLower.f c = some (loD c) := by unfold impl_isLower.f loD; by_cases h : 97 ≤ c <;> simp [h]
theorem spec_le (c : Int) : spec_l2Letter.f c = some (leD c) := by unfold spec_l2Letter.f leD; rw [spec_up, spec_lo]; cases upD c <;> simp
theorem impl_le (c : Int) : impl_isLetter.f c = some (leD c) := by unfold impl_isLetter.f leD; rw [impl_up, impl_lo]; cases upD c <;> simp
theorem in12 (n : Nat) : (if (n : Int) ≥ 1 then some (decide ((n : Int) ≤ 12)) else some false) = some (inD n) := by
  unfold inD
  by_cases h : 1 ≤ n
  · rw [if_pos (by omega)]
    congr 1
    rw [decide_eq_true h, Bool.true_and, decide_eq_decide]; omega
  · rw [if_neg (by omega)]; simp [h]
theorem spec_in (s : ByteArray) : spec_l1In.f (s.size : Int) 1 12 = some (inD s.size) := in12 s.size
theorem impl_in (s : ByteArray) : impl_inside.f (s.size : Int) 1 12 = some (inD s.size) := in12 s.size
theorem inD_iff {n : Nat} : inD n = true ↔ 1 ≤ n ∧ n ≤ 12 := by simp [inD]
def okD (s : ByteArray) (i : Nat) : Bool := leD (bt s i) || ((decide (bt s i = 45) || decide (bt s i = 39)) && leD (bt s ((i : Int) - 1)))
def wlD (s : ByteArray) : Nat → Nat → Bool
  | 0, _ => true
  | d + 1, i => okD s i && wlD s d (i + 1)
def wordD (s : ByteArray) : Bool := inD s.size && ((leD (bt s 0) && leD (bt s ((s.size : Int) - 1))) && wlD s (s.size - 1) 1)
def greatD (s : ByteArray) : Bool := wordD s && upD (bt s 0)
theorem word_step (s : ByteArray) (i k : Nat) (h1 : 1 ≤ i) (h2 : i < s.size) (h3 : s.size ≤ 12) : spec_l2Word.l0 (k + 1) s (i : Int) = if okD s i = true then spec_l2Word.l0 k s ((i + 1 : Nat) : Int) else some false := by
  have hw : wrap64 ((i : Int) + 1) = ((i + 1 : Nat) : Int) := by rw [w64 (by omega) (by omega)]; rfl
  have hw' : wrap64 ((i : Int) - 1) = (i : Int) - 1 := w64 (by omega) (by omega)
  have a1 : (0 : Int) ≤ (i : Int) - 1 := by omega
  have a2 : (i : Int) - 1 < (s.size : Int) := by omega
  simp only [spec_l2Word.l0]
  rw [if_pos (show (i : Int) < (s.size : Int) by omega), if_pos (show (0 : Int) ≤ (i : Int) by omega), spec_le, hw, hw']
  simp only [Option.bind_some, if_pos a1, if_pos a2, spec_le]
  unfold okD
  generalize ((i + 1 : Nat) : Int) = j
  cases leD (bt s i) <;> cases leD (bt s ((i : Int) - 1)) <;> by_cases c : bt s i = 45 <;> by_cases d : bt s i = 39 <;> simp [c, d]
theorem word_loop (s : ByteArray) (hs : s.size ≤ 12) (d : Nat) : ∀ i : Nat, 1 ≤ i → i ≤ s.size → s.size - i = d → Ev (fun k => spec_l2Word.l0 k s (i : Int)) (wlD s d i) := by
  induction d with
  | zero =>
    intro i h1 h2 hd
    refine Ev.step (f := fun _ => some true) (fun k => ?_) (Ev.now _)
    simp only [spec_l2Word.l0]; rw [if_neg (by omega)]
  | succ d ih =>
    intro i h1 h2 hd
    refine Ev.step (f := fun k => if okD s i = true then spec_l2Word.l0 k s ((i + 1 : Nat) : Int) else some false) (fun k => word_step s i k h1 (by omega) hs) ?_
    unfold wlD
    cases h : okD s i with
    | true => exact ev_pos rfl (ev_eq (ih (i + 1) (by omega) (by omega) (by omega)) (by simp))
    | false => exact ev_neg (by simp) (ev_eq (Ev.now _) (by simp))
theorem loops_eq (s : ByteArray) (k : Nat) : ∀ i : Int, impl_isNameWord.l0 k s i = spec_l2Word.l0 k s i := by
  induction k with
  | zero => intro i; simp [impl_isNameWord.l0, spec_l2Word.l0]
  | succ k ih => intro i; simp only [impl_isNameWord.l0, spec_l2Word.l0, impl_le, spec_le, ih]
theorem spec_word (s : ByteArray) : Ev (fun k => spec_l2Word.f k s) (wordD s) := by
  unfold spec_l2Word.f wordD
  cases h : inD s.size with
  | false =>
    refine Ev.step (f := fun _ => some false) (fun k => ?_) (ev_eq (Ev.now _) (by simp))
    simp only [spec_in, h, Option.bind_some, spec_l2Word.j0]; simp
  | true =>
    obtain ⟨h1, h2⟩ := inD_iff.1 h
    have hw : wrap64 ((s.size : Int) - 1) = (s.size : Int) - 1 := w64 (by omega) (by omega)
    refine Ev.step (f := fun k => if (leD (bt s 0) && leD (bt s ((s.size : Int) - 1))) = true then spec_l2Word.l0 k s ((1 : Nat) : Int) else some false) (fun k => ?_) ?_
    · have a1 : (0 : Int) < (s.size : Int) := by omega
      have a2 : (0 : Int) ≤ (s.size : Int) - 1 := by omega
      have a3 : (s.size : Int) - 1 < (s.size : Int) := by omega
      simp only [spec_in, h, Option.bind_some, if_pos a1, if_pos a2, if_pos a3, hw, spec_le, spec_l2Word.j0]
      cases leD (bt s 0) <;> cases leD (bt s ((s.size : Int) - 1)) <;> simp
    · cases h3 : (leD (bt s 0) && leD (bt s ((s.size : Int) - 1))) with
      | true => exact ev_pos rfl (ev_eq (word_loop s h2 (s.size - 1) 1 (by omega) (by omega) rfl) (by simp))
      | false => exact ev_neg (by simp) (ev_eq (Ev.now _) (by simp))
theorem impl_word (s : ByteArray) : Ev (fun k => impl_isNameWord.f k s) (wordD s) := by
  unfold impl_isNameWord.f wordD
  cases h : inD s.size with
  | false =>
    refine Ev.step (f := fun _ => some false) (fun k => ?_) (ev_eq (Ev.now _) (by simp))
    simp only [impl_in, h, Option.bind_some, impl_isNameWord.j0]; simp
  | true =>
    obtain ⟨h1, h2⟩ := inD_iff.1 h
    have hw : wrap64 ((s.size : Int) - 1) = (s.size : Int) - 1 := w64 (by omega) (by omega)
    refine Ev.step (f := fun k => if (leD (bt s 0) && leD (bt s ((s.size : Int) - 1))) = true then spec_l2Word.l0 k s ((0 : Nat) : Int) else some false) (fun k => ?_) ?_
    · have a1 : (0 : Int) < (s.size : Int) := by omega
      have a2 : (0 : Int) ≤ (s.size : Int) - 1 := by omega
      have a3 : (s.size : Int) - 1 < (s.size : Int) := by omega
      simp only [impl_in, h, Option.bind_some, if_pos a1, if_pos a2, if_pos a3, hw, impl_le, impl_isNameWord.j0, loops_eq]
      cases leD (bt s 0) <;> cases leD (bt s ((s.size : Int) - 1)) <;> simp
    · cases h3 : (leD (bt s 0) && leD (bt s ((s.size : Int) - 1))) with
      | true =>
        refine ev_pos rfl (Ev.step (f := fun k => spec_l2Word.l0 k s ((1 : Nat) : Int)) (fun k => ?_) (ev_eq (word_loop s h2 (s.size - 1) 1 (by omega) (by omega) rfl) (by simp)))
        have h0 : leD (bt s 0) = true := by simp at h3; exact h3.1
        simp only [spec_l2Word.l0]
        rw [if_pos (by omega), if_pos (by omega), spec_le, show ((0 : Nat) : Int) = 0 from rfl, h0, w64 (by omega) (by omega)]
        simp
      | false => exact ev_neg (by simp) (ev_eq (Ev.now _) (by simp))
theorem word_in {s : ByteArray} (h : wordD s = true) : 1 ≤ s.size ∧ s.size ≤ 12 := by
  unfold wordD at h
  cases hi : inD s.size with
  | true => exact inD_iff.1 hi
  | false => rw [hi] at h; simp at h
theorem impl_great (s : ByteArray) : Ev (fun k => impl_isGreatWord.f k s) (greatD s) := by
  unfold impl_isGreatWord.f greatD
  refine Ev.bind (impl_word s) ?_
  cases h : wordD s with
  | true =>
    have := word_in h
    refine ev_pos rfl (ev_pos (by omega) (ev_eq (Ev.congr (f := fun _ => some (upD (bt s 0))) (fun k => by rw [impl_up]; rfl) (Ev.now _)) (by simp)))
  | false => exact ev_neg (by simp) (ev_eq (Ev.now _) (by simp))
def lowF (s : ByteArray) (j : Nat) : Bool := ((L s).drop j).all fun b => loD (b.toNat : Int)
def lowD (s : ByteArray) : Bool := lowF s 0
def wsD (l : List ByteArray) : Bool := l.all fun w => inD w.size && lowD w
theorem lowF_step (s : ByteArray) (j : Nat) (h : j < s.size) : lowF s j = (loD (bt s j) && lowF s (j + 1)) := by
  unfold lowF
  have hl : j < (L s).length := by rw [L_len]; exact h
  rw [List.drop_eq_getElem_cons hl, List.all_cons, bt_get s j h]
theorem lowF_end (s : ByteArray) (j : Nat) (h : s.size ≤ j) : lowF s j = true := by
  unfold lowF
  rw [List.drop_of_length_le (by rw [L_len]; exact h)]; rfl
theorem low_all (s : ByteArray) (h : lowD s = true) (j : Nat) (hj : j < s.size) : leD (bt s j) = true := by
  have hl : j < (L s).length := by rw [L_len]; exact hj
  have := List.all_eq_true.1 h _ (by rw [List.drop_zero]; exact List.getElem_mem hl)
  rw [bt_get s j hj]
  unfold leD
  rw [this]; simp
theorem wl_low (s : ByteArray) (h : lowD s = true) (d : Nat) : ∀ i, i + d ≤ s.size → wlD s d i = true := by
  induction d with
  | zero => intro i _; rfl
  | succ d ih =>
    intro i hi
    unfold wlD okD
    rw [low_all s h i (by omega), ih (i + 1) (by omega)]; rfl
theorem word_low (s : ByteArray) : (wordD s && lowD s) = (inD s.size && lowD s) := by
  cases h : lowD s with
  | false => simp
  | true =>
    unfold wordD
    cases hi : inD s.size with
    | false => simp
    | true =>
      obtain ⟨h1, h2⟩ := inD_iff.1 hi
      have e1 := low_all s h 0 (by omega)
      have e2 := low_all s h (s.size - 1) (by omega)
      rw [show ((s.size - 1 : Nat) : Int) = (s.size : Int) - 1 by omega] at e2
      rw [show ((0 : Nat) : Int) = 0 from rfl] at e1
      rw [e1, e2, wl_low s h (s.size - 1) 1 (by omega)]; rfl
theorem rd_get (l : List ByteArray) (i : Nat) (h : i < l.length) : rdOf ByteArray.empty l (i : Int) = l[i] := by simp [rdOf, h]
theorem spec_inner (ws : List ByteArray) (i : Nat) (hi : i < ws.length) (hs : (ws[i]).size ≤ 12) (hl : ws.length ≤ 4611686018427387904) (T : Bool) (hT : Ev (fun k => spec_l2Particle.l0 k ws ((i + 1 : Nat) : Int)) T) (d : Nat) : ∀ j : Nat, j ≤ (ws[i]).size → (ws[i]).size - j = d →
    Ev (fun k => spec_l2Particle.l1 k ws (i : Int) (j : Int)) (lowF ws[i] j && T) := by
  have hw : wrap64 ((i : Int) + 1) = ((i + 1 : Nat) : Int) := by rw [w64 (by omega) (by omega)]; rfl
  induction d with
  | zero =>
    intro j h1 hd
    refine Ev.step (f := fun k => spec_l2Particle.l0 k ws ((i + 1 : Nat) : Int)) (fun k => ?_) (ev_eq hT (by rw [lowF_end _ _ (by omega)]; simp))
    simp only [spec_l2Particle.l1, rd_get ws i hi]
    rw [if_pos (by omega), if_pos (by omega), if_neg (by omega), hw]
  | succ d ih =>
    intro j h1 hd
    rw [lowF_step _ j (by omega)]
    have hw' : wrap64 ((j : Int) + 1) = ((j + 1 : Nat) : Int) := by rw [w64 (by omega) (by omega)]; rfl
    refine Ev.step (f := fun k => if loD (bt ws[i] (j : Int)) = true then spec_l2Particle.l1 k ws (i : Int) ((j + 1 : Nat) : Int) else some false) (fun k => ?_) ?_
    · simp only [spec_l2Particle.l1, rd_get ws i hi]
      rw [if_pos (by omega), if_pos (by omega), if_pos (by omega), if_pos (by omega), hw', spec_lo]; rfl
    · cases h : loD (bt ws[i] (j : Int)) with
      | true => exact ev_pos rfl (ev_eq (ih (j + 1) (by omega) (by omega)) (by simp))
      | false => exact ev_neg (by simp) (ev_eq (Ev.now _) (by simp))
theorem spec_outer (ws : List ByteArray) (hl : ws.length ≤ 4611686018427387904) (d : Nat) : ∀ i : Nat, i ≤ ws.length → ws.length - i = d →
    Ev (fun k => spec_l2Particle.l0 k ws (i : Int)) (wsD (ws.drop i) && decide (ws.length ≤ 2)) := by
  induction d with
  | zero =>
    intro i h1 hd
    refine Ev.step (f := fun k => some (decide ((ws.length : Int) ≤ 2))) (fun k => ?_) (ev_eq (Ev.now _) ?_)
    · simp only [spec_l2Particle.l0]; rw [if_neg (by omega)]
    · rw [List.drop_of_length_le (by omega)]
      show decide _ = (true && decide _)
      rw [Bool.true_and, decide_eq_decide]; omega
  | succ d ih =>
    intro i h1 hd
    have hi : i < ws.length := by omega
    refine Ev.step (f := fun k => (spec_l2Word.f k ws[i]).bind fun t => if t = true then spec_l2Particle.l1 k ws (i : Int) ((0 : Nat) : Int) else some false) (fun k => ?_) ?_
    · simp only [spec_l2Particle.l0, rd_get ws i hi]
      rw [if_pos (by omega), if_pos (by omega)]; rfl
    · refine Ev.bind (spec_word _) ?_
      have e : (wsD (ws.drop i) && decide (ws.length ≤ 2)) = ((wordD ws[i] && lowD ws[i]) && (wsD (ws.drop (i + 1)) && decide (ws.length ≤ 2))) := by
        rw [word_low, List.drop_eq_getElem_cons hi]
        simp only [wsD, List.all_cons, Bool.and_assoc]
      rw [e]
      cases h : wordD ws[i] with
      | true => exact ev_pos rfl (ev_eq (spec_inner ws i hi (word_in h).2 hl _ (ih (i + 1) (by omega) (by omega)) _ 0 (by omega) rfl) (by simp [lowD]))
      | false => exact ev_neg (by simp) (ev_eq (Ev.now _) (by simp))
theorem impl_inner (ws ws' : List ByteArray) (n i : Nat) (w : ByteArray) (hi : i < 4611686018427387904) (hs : w.size ≤ 12) (T : Bool) (hT : Ev (fun k => impl_isParticle.l0 k ws ws' (n : Int) ((i + 1 : Nat) : Int)) T) (d : Nat) : ∀ j : Nat, j ≤ w.size → w.size - j = d →
    Ev (fun k => impl_isParticle.l1 k ws w (j : Int) ws' (n : Int) (i : Int)) (lowF w j && T) := by
  have hw : wrap64 ((i : Int) + 1) = ((i + 1 : Nat) : Int) := by rw [w64 (by omega) (by omega)]; rfl
  induction d with
  | zero =>
    intro j h1 hd
    refine Ev.step (f := fun k => impl_isParticle.l0 k ws ws' (n : Int) ((i + 1 : Nat) : Int)) (fun k => ?_) (ev_eq hT (by rw [lowF_end _ _ (by omega)]; simp))
    simp only [impl_isParticle.l1]
    rw [if_neg (by omega), hw]
  | succ d ih =>
    intro j h1 hd
    rw [lowF_step _ j (by omega)]
    have hw' : wrap64 ((j : Int) + 1) = ((j + 1 : Nat) : Int) := by rw [w64 (by omega) (by omega)]; rfl
    refine Ev.step (f := fun k => if loD (bt w (j : Int)) = true then impl_isParticle.l1 k ws w ((j + 1 : Nat) : Int) ws' (n : Int) (i : Int) else some false) (fun k => ?_) ?_
    · simp only [impl_isParticle.l1]
      rw [if_pos (by omega), if_pos (by omega), hw', impl_lo]; rfl
    · cases h : loD (bt w (j : Int)) with
      | true => exact ev_pos rfl (ev_eq (ih (j + 1) (by omega) (by omega)) (by simp))
      | false => exact ev_neg (by simp) (ev_eq (Ev.now _) (by simp))
theorem impl_outer (ws : List ByteArray) (hl : ws.length ≤ 4611686018427387904) (d : Nat) : ∀ i : Nat, i ≤ ws.length → ws.length - i = d →
    Ev (fun k => impl_isParticle.l0 k ws ws (ws.length : Int) (i : Int)) (wsD (ws.drop i) && decide (ws.length ≤ 2)) := by
  induction d with
  | zero =>
    intro i h1 hd
    refine Ev.step (f := fun k => some (decide ((ws.length : Int) ≤ 2))) (fun k => ?_) (ev_eq (Ev.now _) ?_)
    · simp only [impl_isParticle.l0]; rw [if_neg (by omega)]
    · rw [List.drop_of_length_le (by omega)]
      show decide _ = (true && decide _)
      rw [Bool.true_and, decide_eq_decide]; omega
  | succ d ih =>
    intro i h1 hd
    have hi : i < ws.length := by omega
    have e : (wsD (ws.drop i) && decide (ws.length ≤ 2)) = (inD (ws[i]).size && (lowD ws[i] && (wsD (ws.drop (i + 1)) && decide (ws.length ≤ 2)))) := by
      rw [List.drop_eq_getElem_cons hi]
      simp only [wsD, List.all_cons, Bool.and_assoc]
    rw [e]
    refine Ev.step (f := fun k => if inD (ws[i]).size = true then impl_isParticle.l1 k ws ws[i] ((0 : Nat) : Int) ws (ws.length : Int) (i : Int) else some false) (fun k => ?_) ?_
    · simp only [impl_isParticle.l0, rd_get ws i hi]
      rw [if_pos (by omega), if_pos (by omega), if_pos (by omega), impl_in]; rfl
    · cases h : inD (ws[i]).size with
      | true => exact ev_pos rfl (ev_eq (impl_inner ws ws ws.length i ws[i] (by omega) (inD_iff.1 h).2 _ (ih (i + 1) (by omega) (by omega)) _ 0 (by omega) rfl) (by simp [lowD]))
      | false => exact ev_neg (by simp) (ev_eq (Ev.now _) (by simp))
def wordsOf (s : ByteArray) : List ByteArray := (spl 32 (L s)).map mkB
def partD (s : ByteArray) : Bool := decide (s.size = 0) || (wsD (wordsOf s) && decide ((wordsOf s).length ≤ 2))
theorem wordsOf_len (s : ByteArray) : (wordsOf s).length ≤ s.size + 1 := by
  have := spl_length 32 (L s)
  rw [L_len] at this
  unfold wordsOf
  rw [List.length_map]; exact this
theorem nil_iff (s : ByteArray) : s.toList = ([] : List UInt8) ↔ s.size = 0 := by rw [toList_L, size_pos_iff]
theorem split_sp (s : ByteArray) (c : UInt8) (hs : s.size ≤ 4294967280) : strings_Split.f s (⟨#[c]⟩ : ByteArray) = some ((spl c (L s)).map mkB) := by
  have e : (⟨#[c]⟩ : ByteArray) = mkB [c] := rfl
  have h1 : (mkB [c]).size = 1 := by rw [size_mk]; rfl
  have hc := Lib.countB_le (mkB [c]) (by omega) s.size s (Nat.le_refl _)
  unfold strings_Split.f
  rw [e, if_pos ⟨by omega, by omega, Lib.splitB_all (mkB [c]) (by omega) 0 _ s rfl, by omega⟩, splitB_eq]
theorem spec_part (s : ByteArray) (hs : s.size ≤ 4294967280) : Ev (fun k => spec_l2Particle.f k s) (partD s) := by
  unfold spec_l2Particle.f partD
  by_cases h : s.size = 0
  · exact ev_pos ((nil_iff s).2 h) (ev_eq (Ev.now _) (by simp [h]))
  · refine ev_neg (fun e => h ((nil_iff s).1 e)) (Ev.bind (split_ev s 32 (by omega)) (ev_eq (spec_outer (wordsOf s) (by have := wordsOf_len s; omega) _ 0 (by omega) rfl) ?_))
    simp [h]
theorem impl_part (s : ByteArray) (hs : s.size ≤ 4294967280) : Ev (fun k => impl_isParticle.f k s) (partD s) := by
  unfold impl_isParticle.f partD
  by_cases h : s.size = 0
  · exact ev_pos ((nil_iff s).2 h) (ev_eq (Ev.now _) (by simp [h]))
  · refine ev_neg (fun e => h ((nil_iff s).1 e)) (ev_bind0 (split_sp s 32 hs) (ev_eq (impl_outer (wordsOf s) (by have := wordsOf_len s; omega) _ 0 (by omega) rfl) ?_))
    simp [h]
end Go.Proofs.YtcckamdpncbkoaaDoor.G

namespace Go.Proofs.YtcckamdpncbkoaaDoor.G
open Go.RowKit Go.Proofs.YtcckamdpncbkoaaDoorW.PrintWords Go.Proofs.YtcckamdpncbkoaaDoorW.PrintLast Go.Proofs.YtcckamdpncbkoaaDoor.B
set_option linter.unusedVariables false
set_option linter.unusedSimpArgs false
def bytesS (l : List ByteArray) : Nat := (l.map (·.size)).sum
def bulkS (l : List ByteArray) : Nat := l.length + bytesS l
theorem bytesS_cons (a : ByteArray) (l : List ByteArray) : bytesS (a :: l) = a.size + bytesS l := by simp [bytesS]
def lftOf (left : Int) (n : Nat) : Int := if (n : Int) ≤ left then left - n else -1
theorem szS_loop (l : List ByteArray) (hb : ∀ s ∈ l, s.size ≤ 9223372036854775807) (hl : l.length ≤ 9223372036854775807) (d : Nat) : ∀ (left : Int) (i : Nat), 0 ≤ left → left ≤ 4611686018427387904 → l.length - i = d → i ≤ l.length →
    Ev (fun k => laws_szStringS.l0 k l left i) (lftOf left (bytesS (l.drop i))) := by
  induction d with
  | zero =>
    intro left i h0 h1 hd hi
    refine Ev.step (f := fun _ => some left) (fun k => ?_) (ev_eq (Ev.now _) ?_)
    · simp only [laws_szStringS.l0]; rw [if_neg (by omega)]
    · rw [List.drop_of_length_le (by omega)]; simp [lftOf, bytesS]; omega
  | succ d ih =>
    intro left i h0 h1 hd hi
    have hlt : i < l.length := by omega
    have hs := hb l[i] (List.getElem_mem hlt)
    have hr : rdOf ByteArray.empty l (i : Int) = l[i] := by simp [rdOf, hlt]
    have hw : wrap64 (left - (l[i].size : Int)) = left - (l[i].size : Int) := w64 (by omega) (by omega)
    rw [List.drop_eq_getElem_cons hlt, bytesS_cons]
    by_cases hn : left - (l[i].size : Int) < 0
    · refine Ev.step (f := fun _ => some (-1)) (fun k => ?_) (ev_eq (Ev.now _) ?_)
      · simp only [laws_szStringS.l0]; rw [if_pos (by omega), if_pos (by omega), hr, hw, if_pos hn]
      · unfold lftOf; rw [if_neg (by omega)]
    · refine Ev.step (f := fun k => laws_szStringS.l0 k l (left - (l[i].size : Int)) ((i + 1 : Nat) : Int)) (fun k => ?_) (ev_eq (ih (left - (l[i].size : Int)) (i + 1) (by omega) (by omega) (by omega) (by omega)) ?_)
      · simp only [laws_szStringS.l0]; rw [if_pos (by omega), if_pos (by omega), hr, hw, if_neg hn, w64 (x := (i : Int) + 1) (by omega) (by omega)]; rfl
      · unfold lftOf; split <;> split <;> omega
theorem szS_ev (l : List ByteArray) (hb : ∀ s ∈ l, s.size ≤ 9223372036854775807) (hl : l.length ≤ 9223372036854775807) (left : Int) (h0 : 0 ≤ left) (h1 : left ≤ 4611686018427387904) :
    Ev (fun k => laws_szStringS.f k l left) (lftOf left (bulkS l)) := by
  unfold laws_szStringS.f
  have hw : wrap64 (left - (l.length : Int)) = left - (l.length : Int) := w64 (by omega) (by omega)
  rw [hw]
  by_cases hn : left - (l.length : Int) < 0
  · refine ev_pos hn (ev_eq (Ev.now _) ?_)
    unfold lftOf bulkS; rw [if_neg (by omega)]
  · refine ev_neg hn (ev_eq (szS_loop l hb hl l.length (left - l.length) 0 (by omega) (by omega) rfl (by omega)) ?_)
    rw [List.drop_zero]
    unfold lftOf bulkS; split <;> split <;> omega
theorem toS_loop (l : List ByteArray) (hl : l.length ≤ 17592186044416) (d : Nat) : ∀ (i : Nat), l.length - i = d → i ≤ l.length →
    Ev (fun k => laws_toStringS.l0 k l (l.take i ++ List.replicate (l.length - i) (⟨#[]⟩ : ByteArray)) i) l := by
  induction d with
  | zero =>
    intro i hd hi
    refine Ev.step (f := fun _ => some l) (fun k => ?_) (Ev.now _)
    simp only [laws_toStringS.l0]; rw [if_neg (by omega), hd, List.take_of_length_le (by omega)]; simp
  | succ d ih =>
    intro i hd hi
    have hlt : i < l.length := by omega
    refine Ev.step (f := fun k => laws_toStringS.l0 k l (l.take (i + 1) ++ List.replicate (l.length - (i + 1)) (⟨#[]⟩ : ByteArray)) ((i + 1 : Nat) : Int)) (fun k => ?_) (ih (i + 1) (by omega) (by omega))
    have hr : rdOf ByteArray.empty l (i : Int) = l[i] := by simp [rdOf, hlt]
    have hlen : (l.take i).length = i := by simp; omega
    have e : (l.take i ++ List.replicate (l.length - i) (⟨#[]⟩ : ByteArray)).set i l[i] = l.take (i + 1) ++ List.replicate (l.length - (i + 1)) (⟨#[]⟩ : ByteArray) := by
      rw [List.set_append_right _ _ (by omega), hlen, Nat.sub_self, show l.length - i = (l.length - (i + 1)) + 1 by omega, List.replicate_succ, List.set_cons_zero, List.take_succ_eq_append_getElem hlt, List.append_assoc]
      rfl
    simp only [laws_toStringS.l0]
    rw [if_pos (by omega), if_pos (by omega), if_pos (by simp; omega), hr, w64 (x := (i : Int) + 1) (by omega) (by omega), Int.toNat_natCast, e]
    rfl
theorem toS_ev (l : List ByteArray) (hl : l.length ≤ 17592186044416) : Ev (fun k => laws_toStringS.f k l) l := by
  unfold laws_toStringS.f
  refine ev_pos (by omega) (ev_pos (by omega) ?_)
  have := toS_loop l hl l.length 0 rfl (by omega)
  simpa using this
end Go.Proofs.YtcckamdpncbkoaaDoor.G

namespace Go.Proofs.YtcckamdpncbkoaaDoor.G
open Go.RowKit Go.Proofs.YtcckamdpncbkoaaDoorW.PrintWords Go.Proofs.YtcckamdpncbkoaaDoorW.PrintLast Go.Proofs.YtcckamdpncbkoaaDoorW.PrintMore
open Go.Proofs.YtcckamdpncbkoaaDoor.Gl Go.Proofs.YtcckamdpncbkoaaDoor.Ext
attribute [local go_sem] max2_int min2_int max_two min_two max_three min_three max_four min_four   -- for this text's walks alone
set_option linter.unusedVariables false
set_option linter.unusedSimpArgs false

/-! ### spec_IsValidName: function 13 -/
def spec_IsValidName.f (k : Nat) (l0_0 : List ByteArray) (a0_1 : ByteArray) (a0_2 : ByteArray) (a0_3 : ByteArray) : Option (Bool) := (spec_l2Good.f k l0_0 a0_1 a0_2 a0_3).bind fun t139 => (some t139)
theorem spec_IsValidName.mono : ∀ a0 a1 a2 a3 k, LeO (spec_IsValidName.f k a0 a1 a2 a3) (spec_IsValidName.f (k + 1) a0 a1 a2 a3) := by
  intro a0 a1 a2 a3 k
  unfold spec_IsValidName.f
  repeat' first
      | (with_reducible exact spec_l2Good.mono _ _ _ _ _)
      | (with_reducible exact LeO.refl _)
      | (with_reducible exact LeO.none _)
      | (with_reducible refine LeO.ite ?_ ?_)
      | (with_reducible refine LeO.bind ?_ (fun _ => ?_))
      | exact spec_l2Good.mono _ _ _ _ _
      | exact LeO.none _
      | refine LeO.ite ?_ ?_
      | refine LeO.bind ?_ (fun _ => ?_)
set_option maxHeartbeats 8000000 in
set_option maxRecDepth 100000 in
theorem spec_IsValidName.calls (k : Nat) (A0_0 : Option Addr) (c0_0 : Nat) (l0_0 : List ByteArray) (a0_1 : ByteArray) (a0_2 : ByteArray) (a0_3 : ByteArray) (r : Bool) (w : World) (hr0_0 : Kd.C Kd.string w A0_0 l0_0.length l0_0) (hc0_0 : l0_0.length ≤ c0_0) (h : spec_IsValidName.f k l0_0 a0_1 a0_2 a0_3 = some r) :
    Calls Tryd.prog 13 #[.agg #[.slice A0_0 l0_0.length c0_0, .string a0_1, .string a0_2, .string a0_3]] w fun e w' => e = .returned (.bool r) ∧ Below w.heap.size w w' := by
  have hu27 := Tryd.underlying27
  have HR0_0 := Aside0.mk hr0_0
  have HC0_0 := Aside0.mk hc0_0
  clear hr0_0 hc0_0
  have HB := Aside0.mk (Below.refl w.heap.size w)
  have H : ((spec_l2Good.f k l0_0 a0_1 a0_2 a0_3).bind fun t139 => (some t139)) = some r := h
  clear h
  replace H := Option.bind_eq_some_iff.mp H
  obtain ⟨t139, A20, H⟩ := H
  replace H : (some t139) = some r := H
  have A2 := Aside0.mk A20
  clear A20
  obtain rfl := Option.some.inj H
  go_enter Tryd.func13, Tryd.ntmps13
  go_wp2_with (first | ((with_reducible refine gate_dst (N := 1) rfl ?_); refine box_event ?hg (N := 1) ?hd (cs := #[.slice A0_0 l0_0.length c0_0, .string a0_1, .string a0_2, .string a0_3]) (t := 27) ?hr ?_; (case hd => rfl); (case hg => rfl); (case hr => first | (go_simp; done) | (go_simp; rfl)); intro gb138 hg w3 hbox hb; have n0_ := Aside0.mk (below_step (by repeat (first | (with_reducible first | exact HB.out | apply below_alloc | apply pw_below_drewN | apply below_drew1) | exact HB.out)) hb); have n1_ := Aside0.mk (hbox); have n2_ := Aside0.mk ((by rw [hg]; exact (below_size (by repeat (first | (with_reducible first | exact HB.out | apply below_alloc | apply pw_below_drewN | apply below_drew1) | exact HB.out))) : w.heap.size ≤ gb138)); have n3_ := Aside0.mk ((by rw [hg]; exact (below_size (by repeat (first | (with_reducible first | exact HB.out | apply below_alloc | apply pw_below_drewN | apply below_drew1) | exact HB.out))) : w.heap.size ≤ gb138)); clear HB; have HB := n0_; have BK138 := n1_; have GW138 := n2_; have GE138 := n3_; clear n0_ n1_ n2_ n3_; clear hb hbox hg; have hcz4_0 : w3.cell? ⟨gb138, 0, none⟩ = some (.slice A0_0 l0_0.length c0_0) := (blk_cell BK138.out 0).trans rfl; have hcz4_1 : w3.cell? ⟨gb138, 1, none⟩ = some (.string a0_1) := (blk_cell BK138.out 1).trans rfl; have hcz4_2 : w3.cell? ⟨gb138, 2, none⟩ = some (.string a0_2) := (blk_cell BK138.out 2).trans rfl; have hcz4_3 : w3.cell? ⟨gb138, 3, none⟩ = some (.string a0_3) := (blk_cell BK138.out 3).trans rfl; have hfz4_0 := blk_frozen BK138.out 0; have hfz4_1 := blk_frozen BK138.out 1; have hfz4_2 := blk_frozen BK138.out 2; have hfz4_3 := blk_frozen BK138.out 3) | ((with_reducible refine gate_callee (f := 39) rfl ?_); refine goesL_ (some 4) rfl rfl Tryd.func39 (by kernel_rfl) rfl #[.agg #[.slice A0_0 l0_0.length c0_0, .string a0_1, .string a0_2, .string a0_3]] rfl (by (try simp only [List.map_toArray, List.map_cons, List.map_nil]); first | done | rfl | (simp only [List.length_drop, List.length_take]; rfl)) ?_; (with_reducible refine (spec_l2Good.calls k _ _ l0_0 a0_1 a0_2 a0_3 t139 _ ?side1 ?side2 A2.out).mono ?_); (case side1 => repeat (first | exact (Kd.C_below HR0_0.out HB.out) | (with_reducible refine Kd.C_alloc ?_ _) | (with_reducible refine Kd.C_drewN ?_ _) | (with_reducible refine Kd.C_drew ?_))); (case side2 => exact HC0_0.out); rintro e w5 ⟨rfl, hb⟩; refine ⟨_, rfl, ?_⟩; have n0_ := Aside0.mk (blk_below (g := gb138) (o := .cells #[.slice A0_0 l0_0.length c0_0, .string a0_1, .string a0_2, .string a0_3] 27 (0, 0)) (by (with_reducible repeat (first | refine blk_drewN ?_ _ | refine blk_drew ?_ | refine blk_alloc ?_ _)); exact BK138.out) hb); have n1_ := Aside0.mk (below_step (by repeat (first | (with_reducible first | exact HB.out | apply below_alloc | apply pw_below_drewN | apply below_drew1 | refine below_set ?_ GE138.out) | exact HB.out)) hb); clear BK138; clear HB; have BK138 := n0_; have HB := n1_; clear n0_ n1_; (try clear hb); (try clear hb2); (try clear hk); (try clear hi)))
  go_ret
  exact ⟨by first | rfl | (simp [errW_none, errW_some] <;> rfl) | (simp [*, errW_none, errW_some] <;> rfl), by repeat (first | (with_reducible first | exact HB.out | apply below_alloc | apply pw_below_drewN | apply below_drew1 | refine below_set ?_ GE138.out) | exact HB.out)⟩

end Go.Proofs.YtcckamdpncbkoaaDoor.G

namespace Go.Proofs.YtcckamdpncbkoaaDoor.G
open Go.RowKit Go.Proofs.YtcckamdpncbkoaaDoorW.PrintWords Go.Proofs.YtcckamdpncbkoaaDoorW.PrintLast Go.Proofs.YtcckamdpncbkoaaDoor.B
set_option linter.unusedVariables false
set_option linter.unusedSimpArgs false
def sufD (S : ByteArray) : Bool := decide (S.size = 0) || wordD S
def restD (P F S : ByteArray) : Bool := partD P && (greatD F && sufD S)
def goodN (G : List ByteArray) (P F S : ByteArray) : Bool := G.all greatD && (decide (G.length ≤ 3) && restD P F S)
theorem spec_tail (P F S : ByteArray) (hP : P.size ≤ 4294967280) : Ev (fun k => (spec_l2Particle.f k P).bind fun t134 => (if t134 = true then ((spec_l2Word.f k F).bind fun t135 => (if t135 = true then (if 0 < (F.size : Int) then ((spec_l2Upper.f (bt F 0)).bind fun t136 => (if t136 = true then (if S.toList = ([] : List UInt8) then (some true) else ((spec_l2Word.f k S).bind fun t137 => (some t137))) else (some false))) else (none)) else (some false))) else (some false))) (restD P F S) := by
  unfold restD
  refine Ev.bind (spec_part P hP) ?_
  cases partD P with
  | false => exact ev_neg (by simp) (Ev.now _)
  | true =>
    refine ev_pos rfl (Ev.bind (spec_word F) ?_)
    unfold greatD
    cases h : wordD F with
    | false => exact ev_neg (by simp) (Ev.now _)
    | true =>
      have := word_in h
      refine ev_pos rfl (ev_pos (by omega) (ev_bind0 (spec_up _) ?_))
      cases upD (bt F 0) with
      | false => exact ev_neg (by simp) (Ev.now _)
      | true =>
        refine ev_pos rfl ?_
        unfold sufD
        by_cases h : S.size = 0
        · exact ev_pos ((nil_iff S).2 h) (ev_eq (Ev.now _) (by simp [h]))
        · exact ev_neg (fun e => h ((nil_iff S).1 e)) (Ev.bind (spec_word S) (ev_eq (Ev.now _) (by simp [h])))
theorem spec_good_loop (G : List ByteArray) (P F S : ByteArray) (hG : G.length ≤ 4611686018427387904) (hP : P.size ≤ 4294967280) (d : Nat) : ∀ i : Nat, i ≤ G.length → G.length - i = d →
    Ev (fun k => spec_l2Good.l0 k (i : Int) G P F S) ((G.drop i).all greatD && (decide (G.length ≤ 3) && restD P F S)) := by
  induction d with
  | zero =>
    intro i h1 hd
    refine Ev.step (f := fun k => if (G.length : Int) ≤ 3 then ((spec_l2Particle.f k P).bind fun t134 => (if t134 = true then ((spec_l2Word.f k F).bind fun t135 => (if t135 = true then (if 0 < (F.size : Int) then ((spec_l2Upper.f (bt F 0)).bind fun t136 => (if t136 = true then (if S.toList = ([] : List UInt8) then (some true) else ((spec_l2Word.f k S).bind fun t137 => (some t137))) else (some false))) else (none)) else (some false))) else (some false))) else some false) (fun k => ?_) ?_
    · simp only [spec_l2Good.l0]; rw [if_neg (by omega)]
    · rw [List.drop_of_length_le (by omega)]
      by_cases h : G.length ≤ 3
      · exact ev_pos (by omega) (ev_eq (spec_tail P F S hP) (by simp [h]))
      · exact ev_neg (by omega) (ev_eq (Ev.now _) (by simp [h]))
  | succ d ih =>
    intro i h1 hd
    have hi : i < G.length := by omega
    have hw : wrap64 ((i : Int) + 1) = ((i + 1 : Nat) : Int) := by rw [w64 (by omega) (by omega)]; rfl
    rw [List.drop_eq_getElem_cons hi, List.all_cons, Bool.and_assoc]
    refine Ev.step (f := fun k => (spec_l2Word.f k G[i]).bind fun t131 => (if t131 = true then (if 0 < ((G[i]).size : Int) then ((spec_l2Upper.f (bt G[i] 0)).bind fun t133 => (if t133 = true then (spec_l2Good.l0 k ((i + 1 : Nat) : Int) G P F S) else (some false))) else (none)) else (some false))) (fun k => ?_) ?_
    · simp only [spec_l2Good.l0, rd_get G i hi]
      rw [if_pos (by omega), if_pos (by omega), hw]
    · refine Ev.bind (spec_word _) ?_
      rw [show greatD G[i] = (wordD G[i] && upD (bt G[i] 0)) from rfl]
      cases h : wordD G[i] with
      | false => exact ev_neg (by simp) (ev_eq (Ev.now _) (by simp))
      | true =>
        have := word_in h
        refine ev_pos rfl (ev_pos (by omega) (ev_bind0 (spec_up _) ?_))
        cases upD (bt G[i] 0) with
        | false => exact ev_neg (by simp) (ev_eq (Ev.now _) (by simp))
        | true => exact ev_pos rfl (ev_eq (ih (i + 1) (by omega) (by omega)) (by simp))
theorem spec_name (G : List ByteArray) (P F S : ByteArray) (hG : G.length ≤ 4611686018427387904) (hP : P.size ≤ 4294967280) : Ev (fun k => spec_l2Good.f k G P F S) (goodN G P F S) := by
  have := spec_good_loop G P F S hG hP _ 0 (by omega) rfl
  unfold spec_l2Good.f goodN
  rw [List.drop_zero] at this
  exact this
theorem idx_loop (G : List ByteArray) (hG : G.length ≤ 4611686018427387904) (d : Nat) : ∀ i : Nat, i ≤ G.length → G.length - i = d →
    ∃ v, Ev (fun k => slices_IndexFunc_string_string_at_42.l0 k G (G.length : Int) (i : Int)) v ∧ decide (v ≥ 0) = !((G.drop i).all greatD) := by
  induction d with
  | zero =>
    intro i h1 hd
    refine ⟨-1, Ev.step (f := fun _ => some (-1)) (fun k => ?_) (Ev.now _), ?_⟩
    · simp only [slices_IndexFunc_string_string_at_42.l0]; rw [if_neg (by omega)]
    · rw [List.drop_of_length_le (by omega)]; simp
  | succ d ih =>
    intro i h1 hd
    have hi : i < G.length := by omega
    have hw : wrap64 ((i : Int) + 1) = ((i + 1 : Nat) : Int) := by rw [w64 (by omega) (by omega)]; rfl
    rw [List.drop_eq_getElem_cons hi, List.all_cons]
    have hst : ∀ v, Ev (fun k => (impl_IsValidName_1.f k G[i]).bind fun t => if t = true then some (i : Int) else slices_IndexFunc_string_string_at_42.l0 k G (G.length : Int) ((i + 1 : Nat) : Int)) v → Ev (fun k => slices_IndexFunc_string_string_at_42.l0 k G (G.length : Int) (i : Int)) v := by
      intro v hv
      refine Ev.step (fun k => ?_) hv
      simp only [slices_IndexFunc_string_string_at_42.l0, rd_get G i hi]
      rw [if_pos (by omega), if_pos (by omega), if_pos (by omega), hw]
    have hf : Ev (fun k => impl_IsValidName_1.f k G[i]) (!greatD G[i]) := by
      unfold impl_IsValidName_1.f
      exact Ev.bind (impl_great _) (Ev.now _)
    cases h : greatD G[i] with
    | true =>
      obtain ⟨v, hv, e⟩ := ih (i + 1) (by omega) (by omega)
      refine ⟨v, hst v (Ev.bind hf (ev_neg (by simp [h]) hv)), ?_⟩
      rw [e]; simp
    | false =>
      refine ⟨(i : Int), hst _ (Ev.bind hf (ev_pos (by simp [h]) (Ev.now _))), ?_⟩
      simp
theorem contains_ev (G : List ByteArray) (hG : G.length ≤ 4611686018427387904) : Ev (fun k => slices_ContainsFunc_string_string_at_42.f k G) (!(G.all greatD)) := by
  obtain ⟨v, hv, e⟩ := idx_loop G hG _ 0 (by omega) rfl
  unfold slices_ContainsFunc_string_string_at_42.f slices_IndexFunc_string_string_at_42.f
  rw [List.drop_zero] at e
  exact Ev.bind hv (ev_eq (Ev.now _) e)
theorem impl_valid (G : List ByteArray) (P F S : ByteArray) (hG : G.length ≤ 4611686018427387904) (hP : P.size ≤ 4294967280) : Ev (fun k => impl_IsValidName.f k G P F S) (goodN G P F S) := by
  have hj1 : Ev (fun k => impl_IsValidName.j0 k true G P F S) false := Ev.step (f := fun _ => some false) (fun k => by simp [impl_IsValidName.j0]) (Ev.now _)
  have hj0 : Ev (fun k => impl_IsValidName.j0 k false G P F S) (restD P F S) := by
    refine Ev.step (f := fun k => (impl_isParticle.f k P).bind fun t172 => (if t172 = true then ((impl_isGreatWord.f k F).bind fun t173 => (if t173 = true then (if S.toList = ([] : List UInt8) then (some true) else ((impl_isNameWord.f k S).bind fun t174 => (some t174))) else (some false))) else (some false))) (fun k => by simp [impl_IsValidName.j0]) ?_
    unfold restD
    refine Ev.bind (impl_part P hP) ?_
    cases partD P with
    | false => exact ev_neg (by simp) (Ev.now _)
    | true =>
      refine ev_pos rfl (Ev.bind (impl_great F) ?_)
      cases greatD F with
      | false => exact ev_neg (by simp) (Ev.now _)
      | true =>
        refine ev_pos rfl ?_
        unfold sufD
        by_cases h : S.size = 0
        · exact ev_pos ((nil_iff S).2 h) (ev_eq (Ev.now _) (by simp [h]))
        · exact ev_neg (fun e => h ((nil_iff S).1 e)) (Ev.bind (impl_word S) (ev_eq (Ev.now _) (by simp [h])))
  unfold impl_IsValidName.f goodN
  by_cases h : G.length ≤ 3
  · refine ev_neg (by omega) (Ev.bind (contains_ev G hG) ?_)
    cases G.all greatD with
    | true => exact ev_eq hj0 (by simp [h])
    | false => exact ev_eq hj1 (by simp)
  · exact ev_pos (by omega) (ev_eq hj1 (by simp [h]))
def bulkN (G : List ByteArray) (P F S : ByteArray) : Nat := bulkS G + P.size + F.size + S.size
theorem szN_ev (G : List ByteArray) (P F S : ByteArray) (hb : ∀ s ∈ G, s.size ≤ 9223372036854775807) (hl : G.length ≤ 9223372036854775807) (hP : P.size ≤ 9223372036854775807) (hF : F.size ≤ 9223372036854775807) (hS : S.size ≤ 9223372036854775807) (left : Int) (h0 : 0 ≤ left) (h1 : left ≤ 4611686018427387904) :
    Ev (fun k => laws_szName.f k G P F S left) (lftOf left (bulkN G P F S)) := by
  unfold laws_szName.f
  refine Ev.bind (szS_ev G hb hl left h0 h1) ?_
  unfold bulkN
  by_cases c : (bulkS G : Int) ≤ left
  · have e : lftOf left (bulkS G) = left - bulkS G := by unfold lftOf; rw [if_pos c]
    rw [e]
    have w1 : wrap64 (left - (bulkS G : Int) - (P.size : Int)) = left - (bulkS G : Int) - (P.size : Int) := w64 (by omega) (by omega)
    rw [w1]
    refine ev_neg (by omega) ?_
    by_cases c1 : left - (bulkS G : Int) - (P.size : Int) < 0
    · exact ev_pos c1 (ev_eq (Ev.now _) (by unfold lftOf; rw [if_neg (by omega)]))
    refine ev_neg c1 ?_
    have w2 : wrap64 (left - (bulkS G : Int) - (P.size : Int) - (F.size : Int)) = left - (bulkS G : Int) - (P.size : Int) - (F.size : Int) := w64 (by omega) (by omega)
    rw [w2]
    by_cases c2 : left - (bulkS G : Int) - (P.size : Int) - (F.size : Int) < 0
    · exact ev_pos c2 (ev_eq (Ev.now _) (by unfold lftOf; rw [if_neg (by omega)]))
    refine ev_neg c2 ?_
    have w3 : wrap64 (left - (bulkS G : Int) - (P.size : Int) - (F.size : Int) - (S.size : Int)) = left - (bulkS G : Int) - (P.size : Int) - (F.size : Int) - (S.size : Int) := w64 (by omega) (by omega)
    rw [w3]
    by_cases c3 : left - (bulkS G : Int) - (P.size : Int) - (F.size : Int) - (S.size : Int) < 0
    · exact ev_pos c3 (ev_eq (Ev.now _) (by unfold lftOf; rw [if_neg (by omega)]))
    · exact ev_neg c3 (ev_eq (Ev.now _) (by unfold lftOf; rw [if_pos (by omega)]; omega))
  · have e : lftOf left (bulkS G) = -1 := by unfold lftOf; rw [if_neg c]
    rw [e]
    exact ev_pos (by omega) (ev_eq (Ev.now _) (by unfold lftOf; rw [if_neg (by omega)]))
theorem toN_ev (G : List ByteArray) (P F S : ByteArray) (hl : G.length ≤ 17592186044416) : Ev (fun k => laws_toName.f k G P F S) (G, P, F, S) := by
  unfold laws_toName.f
  exact Ev.bind (toS_ev G hl) (Ev.now _)
theorem eqS_same_loop (l : List ByteArray) (hl : l.length ≤ 4611686018427387904) (d : Nat) : ∀ i : Nat, i ≤ l.length → l.length - i = d → Ev (fun k => laws_eqStringS.l0 k l l (i : Int)) true := by
  induction d with
  | zero =>
    intro i h1 hd
    refine Ev.step (f := fun _ => some true) (fun k => ?_) (Ev.now _)
    simp only [laws_eqStringS.l0]; rw [if_neg (by omega)]
  | succ d ih =>
    intro i h1 hd
    have hw : wrap64 ((i : Int) + 1) = ((i + 1 : Nat) : Int) := by rw [w64 (by omega) (by omega)]; rfl
    refine Ev.step (f := fun k => laws_eqStringS.l0 k l l ((i + 1 : Nat) : Int)) (fun k => ?_) (ih (i + 1) (by omega) (by omega))
    simp only [laws_eqStringS.l0]
    rw [if_pos (by omega), if_pos (by omega), if_pos (by omega), if_pos trivial, hw]
theorem eqS_same (l : List ByteArray) (hl : l.length ≤ 4611686018427387904) : Ev (fun k => laws_eqStringS.f k l l) true := by
  unfold laws_eqStringS.f
  exact ev_pos rfl (eqS_same_loop l hl _ 0 (by omega) rfl)
theorem eqN_same (G : List ByteArray) (P F S : ByteArray) (hl : G.length ≤ 4611686018427387904) : Ev (fun k => laws_eqName.f k G P F S G P F S) true := by
  unfold laws_eqName.f
  exact Ev.bind (eqS_same G hl) (ev_pos rfl (ev_pos rfl (ev_pos rfl (ev_pos rfl (Ev.now _)))))


end Go.Proofs.YtcckamdpncbkoaaDoor.G

namespace Go.Proofs.YtcckamdpncbkoaaDoor.G
open Go.RowKit Go.Proofs.YtcckamdpncbkoaaDoorW.PrintWords Go.Proofs.YtcckamdpncbkoaaDoorW.PrintLast Go.Proofs.YtcckamdpncbkoaaDoorW.PrintMore
open Go.Proofs.YtcckamdpncbkoaaDoor.Gl Go.Proofs.YtcckamdpncbkoaaDoor.Ext
attribute [local go_sem] max2_int min2_int max_two min_two max_three min_three max_four min_four   -- for this text's walks alone
set_option linter.unusedVariables false
set_option linter.unusedSimpArgs false

/-! ### spec_l2Fits: function 76 -/
def spec_l2Fits.f (a0 : ByteArray) (a1 : ByteArray) : Option (Bool) := if a0.toList = a1.toList then (some true) else (if (a0.size : Int) = 1 then (if 0 < (a0.size : Int) then (if 0 < (a1.size : Int) then (if (bt a0 0) = (bt a1 0) then (some true) else (if (a1.size : Int) = 1 then (some ((bt a0 0) == (bt a1 0))) else (some false))) else (none)) else (none)) else (if (a1.size : Int) = 1 then (if 0 < (a0.size : Int) then (if 0 < (a1.size : Int) then (some ((bt a0 0) == (bt a1 0))) else (none)) else (none)) else (some false)))
set_option maxHeartbeats 8000000 in
set_option maxRecDepth 100000 in
theorem spec_l2Fits.calls (a0 : ByteArray) (a1 : ByteArray) (r : Bool) (w : World) (h : spec_l2Fits.f a0 a1 = some r) :
    Calls Tryd.prog 76 #[.string a0, .string a1] w fun e w' => e = .returned (.bool r) ∧ Drawn0 w w' := by
  have H : (if a0.toList = a1.toList then (some true) else (if (a0.size : Int) = 1 then (if 0 < (a0.size : Int) then (if 0 < (a1.size : Int) then (if (bt a0 0) = (bt a1 0) then (some true) else (if (a1.size : Int) = 1 then (some ((bt a0 0) == (bt a1 0))) else (some false))) else (none)) else (none)) else (if (a1.size : Int) = 1 then (if 0 < (a0.size : Int) then (if 0 < (a1.size : Int) then (some ((bt a0 0) == (bt a1 0))) else (none)) else (none)) else (some false)))) = some r := h
  clear h
  by_cases c3 : a0.toList = a1.toList
  · rw [if_pos c3] at H
    have c3b0 : (a0.toList == a1.toList) = true := beq_iff_eq.mpr c3
    have c3b1 : (a0.toList != a1.toList) = false := bne_eq_false_iff_eq.mpr c3
    clear c3
    obtain rfl := Option.some.inj H
    go_enter Tryd.func76, Tryd.ntmps76
    go_wp2
    repeat (go_quiet (fail); try go_wp2)
    go_ret
    exact ⟨by first | rfl | (simp; done) | (simp [*]; done), by repeat (first | exact Drawn0.refl _ | apply Drawn0.step)⟩
  · rw [if_neg c3] at H
    have c3b0 : (a0.toList == a1.toList) = false := beq_eq_false_iff_ne.mpr c3
    have c3b1 : (a0.toList != a1.toList) = true := bne_iff_ne.mpr c3
    by_cases c4 : (a0.size : Int) = 1
    · rw [if_pos c4] at H
      have c4b0 : ((a0.size : Int) == 1) = true := beq_iff_eq.mpr c4
      have c4b1 : ((a0.size : Int) != 1) = false := bne_eq_false_iff_eq.mpr c4
      clear c4
      by_cases c5 : 0 < (a0.size : Int)
      · rw [if_pos c5] at H
        have c5b0 : decide (0 < (a0.size : Int)) = true := decide_eq_true c5
        have c5b1 : decide (0 < a0.size) = true := decide_eq_true (by omega)
        clear c5
        by_cases c7 : 0 < (a1.size : Int)
        · rw [if_pos c7] at H
          have c7b0 : decide (0 < (a1.size : Int)) = true := decide_eq_true c7
          have c7b1 : decide (0 < a1.size) = true := decide_eq_true (by omega)
          clear c7
          by_cases c9 : (bt a0 0) = (bt a1 0)
          · rw [if_pos c9] at H
            have c9b0 : ((bt a0 0) == (bt a1 0)) = true := beq_iff_eq.mpr c9
            have c9b1 : ((bt a0 0) != (bt a1 0)) = false := bne_eq_false_iff_eq.mpr c9
            clear c9
            obtain rfl := Option.some.inj H
            have p6 : 0 ≤ (0 : Int) := (by omega)
            have q6 : 0 < a0.size := (by have : (0 : Int) < (a0.size : Int) := of_decide_eq_true (by first | (with_reducible assumption) | assumption); omega)
            have hx6 : ∀ h : 0 < a0.size, ((a0[0]'h).toNat : Int) = bt a0 0 := bt_at a0 0
            clear p6
            have qi6 : (0 < (a0.size : Int)) = True := eq_true (of_decide_eq_true (by first | (with_reducible assumption) | assumption))
            replace q6 := eq_true q6
            have p8 : 0 ≤ (0 : Int) := (by omega)
            have q8 : 0 < a1.size := (by have : (0 : Int) < (a1.size : Int) := of_decide_eq_true (by first | (with_reducible assumption) | assumption); omega)
            have hx8 : ∀ h : 0 < a1.size, ((a1[0]'h).toNat : Int) = bt a1 0 := bt_at a1 0
            clear p8
            have qi8 : (0 < (a1.size : Int)) = True := eq_true (of_decide_eq_true (by first | (with_reducible assumption) | assumption))
            replace q8 := eq_true q8
            go_enter Tryd.func76, Tryd.ntmps76
            go_wp2
            repeat (go_quiet (fail); try go_wp2)
            go_ret
            exact ⟨by first | rfl | (simp; done) | (simp [*]; done), by repeat (first | exact Drawn0.refl _ | apply Drawn0.step)⟩
          · rw [if_neg c9] at H
            have c9b0 : ((bt a0 0) == (bt a1 0)) = false := beq_eq_false_iff_ne.mpr c9
            have c9b1 : ((bt a0 0) != (bt a1 0)) = true := bne_iff_ne.mpr c9
            by_cases c10 : (a1.size : Int) = 1
            · rw [if_pos c10] at H
              have c10b0 : ((a1.size : Int) == 1) = true := beq_iff_eq.mpr c10
              have c10b1 : ((a1.size : Int) != 1) = false := bne_eq_false_iff_eq.mpr c10
              clear c10
              obtain rfl := Option.some.inj H
              have p6 : 0 ≤ (0 : Int) := (by omega)
              have q6 : 0 < a0.size := (by have : (0 : Int) < (a0.size : Int) := of_decide_eq_true (by first | (with_reducible assumption) | assumption); omega)
              have hx6 : ∀ h : 0 < a0.size, ((a0[0]'h).toNat : Int) = bt a0 0 := bt_at a0 0
              clear p6
              have qi6 : (0 < (a0.size : Int)) = True := eq_true (of_decide_eq_true (by first | (with_reducible assumption) | assumption))
              replace q6 := eq_true q6
              have p8 : 0 ≤ (0 : Int) := (by omega)
              have q8 : 0 < a1.size := (by have : (0 : Int) < (a1.size : Int) := of_decide_eq_true (by first | (with_reducible assumption) | assumption); omega)
              have hx8 : ∀ h : 0 < a1.size, ((a1[0]'h).toNat : Int) = bt a1 0 := bt_at a1 0
              clear p8
              have qi8 : (0 < (a1.size : Int)) = True := eq_true (of_decide_eq_true (by first | (with_reducible assumption) | assumption))
              replace q8 := eq_true q8
              have p11 : 0 ≤ (0 : Int) := (by omega)
              have q11 : 0 < a0.size := (by have : (0 : Int) < (a0.size : Int) := of_decide_eq_true (by first | (with_reducible assumption) | assumption); omega)
              have hx11 : ∀ h : 0 < a0.size, ((a0[0]'h).toNat : Int) = bt a0 0 := bt_at a0 0
              clear p11
              have qi11 : (0 < (a0.size : Int)) = True := eq_true (of_decide_eq_true (by first | (with_reducible assumption) | assumption))
              replace q11 := eq_true q11
              have p12 : 0 ≤ (0 : Int) := (by omega)
              have q12 : 0 < a1.size := (by have : (0 : Int) < (a1.size : Int) := of_decide_eq_true (by first | (with_reducible assumption) | assumption); omega)
              have hx12 : ∀ h : 0 < a1.size, ((a1[0]'h).toNat : Int) = bt a1 0 := bt_at a1 0
              clear p12
              have qi12 : (0 < (a1.size : Int)) = True := eq_true (of_decide_eq_true (by first | (with_reducible assumption) | assumption))
              replace q12 := eq_true q12
              go_enter Tryd.func76, Tryd.ntmps76
              go_wp2
              repeat (go_quiet (fail); try go_wp2)
              go_ret
              exact ⟨by first | rfl | (simp; done) | (simp [*]; done), by repeat (first | exact Drawn0.refl _ | apply Drawn0.step)⟩
            · rw [if_neg c10] at H
              have c10b0 : ((a1.size : Int) == 1) = false := beq_eq_false_iff_ne.mpr c10
              have c10b1 : ((a1.size : Int) != 1) = true := bne_iff_ne.mpr c10
              obtain rfl := Option.some.inj H
              have p6 : 0 ≤ (0 : Int) := (by omega)
              have q6 : 0 < a0.size := (by have : (0 : Int) < (a0.size : Int) := of_decide_eq_true (by first | (with_reducible assumption) | assumption); omega)
              have hx6 : ∀ h : 0 < a0.size, ((a0[0]'h).toNat : Int) = bt a0 0 := bt_at a0 0
              clear p6
              have qi6 : (0 < (a0.size : Int)) = True := eq_true (of_decide_eq_true (by first | (with_reducible assumption) | assumption))
              replace q6 := eq_true q6
              have p8 : 0 ≤ (0 : Int) := (by omega)
              have q8 : 0 < a1.size := (by have : (0 : Int) < (a1.size : Int) := of_decide_eq_true (by first | (with_reducible assumption) | assumption); omega)
              have hx8 : ∀ h : 0 < a1.size, ((a1[0]'h).toNat : Int) = bt a1 0 := bt_at a1 0
              clear p8
              have qi8 : (0 < (a1.size : Int)) = True := eq_true (of_decide_eq_true (by first | (with_reducible assumption) | assumption))
              replace q8 := eq_true q8
              go_enter Tryd.func76, Tryd.ntmps76
              go_wp2
              repeat (go_quiet (fail); try go_wp2)
              go_ret
              exact ⟨by first | rfl | (simp; done) | (simp [*]; done), by repeat (first | exact Drawn0.refl _ | apply Drawn0.step)⟩
        · rw [if_neg c7] at H
          exact absurd H (by simp)
      · rw [if_neg c5] at H
        exact absurd H (by simp)
    · rw [if_neg c4] at H
      have c4b0 : ((a0.size : Int) == 1) = false := beq_eq_false_iff_ne.mpr c4
      have c4b1 : ((a0.size : Int) != 1) = true := bne_iff_ne.mpr c4
      by_cases c13 : (a1.size : Int) = 1
      · rw [if_pos c13] at H
        have c13b0 : ((a1.size : Int) == 1) = true := beq_iff_eq.mpr c13
        have c13b1 : ((a1.size : Int) != 1) = false := bne_eq_false_iff_eq.mpr c13
        clear c13
        by_cases c14 : 0 < (a0.size : Int)
        · rw [if_pos c14] at H
          have c14b0 : decide (0 < (a0.size : Int)) = true := decide_eq_true c14
          have c14b1 : decide (0 < a0.size) = true := decide_eq_true (by omega)
          clear c14
          by_cases c16 : 0 < (a1.size : Int)
          · rw [if_pos c16] at H
            have c16b0 : decide (0 < (a1.size : Int)) = true := decide_eq_true c16
            have c16b1 : decide (0 < a1.size) = true := decide_eq_true (by omega)
            clear c16
            obtain rfl := Option.some.inj H
            have p15 : 0 ≤ (0 : Int) := (by omega)
            have q15 : 0 < a0.size := (by have : (0 : Int) < (a0.size : Int) := of_decide_eq_true (by first | (with_reducible assumption) | assumption); omega)
            have hx15 : ∀ h : 0 < a0.size, ((a0[0]'h).toNat : Int) = bt a0 0 := bt_at a0 0
            clear p15
            have qi15 : (0 < (a0.size : Int)) = True := eq_true (of_decide_eq_true (by first | (with_reducible assumption) | assumption))
            replace q15 := eq_true q15
            have p17 : 0 ≤ (0 : Int) := (by omega)
            have q17 : 0 < a1.size := (by have : (0 : Int) < (a1.size : Int) := of_decide_eq_true (by first | (with_reducible assumption) | assumption); omega)
            have hx17 : ∀ h : 0 < a1.size, ((a1[0]'h).toNat : Int) = bt a1 0 := bt_at a1 0
            clear p17
            have qi17 : (0 < (a1.size : Int)) = True := eq_true (of_decide_eq_true (by first | (with_reducible assumption) | assumption))
            replace q17 := eq_true q17
            go_enter Tryd.func76, Tryd.ntmps76
            go_wp2
            repeat (go_quiet (fail); try go_wp2)
            go_ret
            exact ⟨by first | rfl | (simp; done) | (simp [*]; done), by repeat (first | exact Drawn0.refl _ | apply Drawn0.step)⟩
          · rw [if_neg c16] at H
            exact absurd H (by simp)
        · rw [if_neg c14] at H
          exact absurd H (by simp)
      · rw [if_neg c13] at H
        have c13b0 : ((a1.size : Int) == 1) = false := beq_eq_false_iff_ne.mpr c13
        have c13b1 : ((a1.size : Int) != 1) = true := bne_iff_ne.mpr c13
        obtain rfl := Option.some.inj H
        go_enter Tryd.func76, Tryd.ntmps76
        go_wp2
        repeat (go_quiet (fail); try go_wp2)
        go_ret
        exact ⟨by first | rfl | (simp; done) | (simp [*]; done), by repeat (first | exact Drawn0.refl _ | apply Drawn0.step)⟩

end Go.Proofs.YtcckamdpncbkoaaDoor.G

namespace Go.Proofs.YtcckamdpncbkoaaDoor.G
open Go.RowKit Go.Proofs.YtcckamdpncbkoaaDoorW.PrintWords Go.Proofs.YtcckamdpncbkoaaDoorW.PrintLast Go.Proofs.YtcckamdpncbkoaaDoorW.PrintMore
open Go.Proofs.YtcckamdpncbkoaaDoor.Gl Go.Proofs.YtcckamdpncbkoaaDoor.Ext
attribute [local go_sem] max2_int min2_int max_two min_two max_three min_three max_four min_four   -- for this text's walks alone
set_option linter.unusedVariables false
set_option linter.unusedSimpArgs false

/-! ### spec_l2May: function 47 -/
mutual
def spec_l2May.l0 : Nat → Int → List ByteArray → ByteArray → ByteArray → ByteArray → List ByteArray → ByteArray → ByteArray → ByteArray → Option (Bool)
  | 0, _, _, _, _, _, _, _, _, _ => none
  | k + 1, x5, x205000, x205001, x205002, x205003, x206000, x206001, x206002, x206003 => if x5 < (x205000.length : Int) then (spec_l2May.j1 k x5 (decide (x5 < (x206000.length : Int))) x205000 x205001 x205002 x205003 x206000 x206001 x206002 x206003) else (spec_l2May.j1 k x5 false x205000 x205001 x205002 x205003 x206000 x206001 x206002 x206003)
def spec_l2May.j1 : Nat → Int → Bool → List ByteArray → ByteArray → ByteArray → ByteArray → List ByteArray → ByteArray → ByteArray → ByteArray → Option (Bool)
  | 0, _, _, _, _, _, _, _, _, _, _ => none
  | k + 1, x5, x17, x205000, x205001, x205002, x205003, x206000, x206001, x206002, x206003 => if x17 = true then (if 0 ≤ x5 then (if x5 < (x205000.length : Int) then (if x5 < (x206000.length : Int) then ((spec_l2Fits.f (rdOf ByteArray.empty x205000 x5) (rdOf ByteArray.empty x206000 x5)).bind fun t208 => (if t208 = true then (spec_l2May.l0 k (wrap64 (x5 + 1)) x205000 x205001 x205002 x205003 x206000 x206001 x206002 x206003) else (some false))) else (none)) else (none)) else (none)) else (if x205001.toList = x206001.toList then (if x205002.toList = x206002.toList then (some (x205003.toList == x206003.toList)) else (some false)) else (some false))
end
def spec_l2May.f (k : Nat) (l0_0 : List ByteArray) (a0_1 : ByteArray) (a0_2 : ByteArray) (a0_3 : ByteArray) (l1_0 : List ByteArray) (a1_1 : ByteArray) (a1_2 : ByteArray) (a1_3 : ByteArray) : Option (Bool) := spec_l2May.l0 k 0 l0_0 a0_1 a0_2 a0_3 l1_0 a1_1 a1_2 a1_3
theorem spec_l2May.mono_l : ∀ k, (∀ y0 y1 y2 y3 y4 y5 y6 y7 y8, LeO (spec_l2May.l0 k y0 y1 y2 y3 y4 y5 y6 y7 y8) (spec_l2May.l0 (k + 1) y0 y1 y2 y3 y4 y5 y6 y7 y8)) ∧ (∀ y0 y1 y2 y3 y4 y5 y6 y7 y8 y9, LeO (spec_l2May.j1 k y0 y1 y2 y3 y4 y5 y6 y7 y8 y9) (spec_l2May.j1 (k + 1) y0 y1 y2 y3 y4 y5 y6 y7 y8 y9))
  | 0 => ⟨fun _ _ _ _ _ _ _ _ _ r h => by simp [spec_l2May.l0] at h, fun _ _ _ _ _ _ _ _ _ _ r h => by simp [spec_l2May.j1] at h⟩
  | k + 1 => by
    obtain ⟨ih0, ih1⟩ := spec_l2May.mono_l k
    refine ⟨?_, ?_⟩
    · intro y0 y1 y2 y3 y4 y5 y6 y7 y8
      unfold spec_l2May.l0
      repeat' first
      | (with_reducible exact ih0 _ _ _ _ _ _ _ _ _)
      | (with_reducible exact ih1 _ _ _ _ _ _ _ _ _ _)
      | (with_reducible exact LeO.refl _)
      | (with_reducible exact LeO.none _)
      | (with_reducible refine LeO.ite ?_ ?_)
      | (with_reducible refine LeO.bind ?_ (fun _ => ?_))
      | exact ih0 _ _ _ _ _ _ _ _ _
      | exact ih1 _ _ _ _ _ _ _ _ _ _
      | exact LeO.none _
      | refine LeO.ite ?_ ?_
      | refine LeO.bind ?_ (fun _ => ?_)
    · intro y0 y1 y2 y3 y4 y5 y6 y7 y8 y9
      unfold spec_l2May.j1
      repeat' first
      | (with_reducible exact ih0 _ _ _ _ _ _ _ _ _)
      | (with_reducible exact ih1 _ _ _ _ _ _ _ _ _ _)
      | (with_reducible exact LeO.refl _)
      | (with_reducible exact LeO.none _)
      | (with_reducible refine LeO.ite ?_ ?_)
      | (with_reducible refine LeO.bind ?_ (fun _ => ?_))
      | exact ih0 _ _ _ _ _ _ _ _ _
      | exact ih1 _ _ _ _ _ _ _ _ _ _
      | exact LeO.none _
      | refine LeO.ite ?_ ?_
      | refine LeO.bind ?_ (fun _ => ?_)
theorem spec_l2May.mono : ∀ a0 a1 a2 a3 a4 a5 a6 a7 k, LeO (spec_l2May.f k a0 a1 a2 a3 a4 a5 a6 a7) (spec_l2May.f (k + 1) a0 a1 a2 a3 a4 a5 a6 a7) := by
  intro a0 a1 a2 a3 a4 a5 a6 a7 k
  obtain ⟨ih0, ih1⟩ := spec_l2May.mono_l k
  unfold spec_l2May.f
  repeat' first
      | (with_reducible exact ih0 _ _ _ _ _ _ _ _ _)
      | (with_reducible exact ih1 _ _ _ _ _ _ _ _ _ _)
      | (with_reducible exact LeO.refl _)
      | (with_reducible exact LeO.none _)
      | (with_reducible refine LeO.ite ?_ ?_)
      | (with_reducible refine LeO.bind ?_ (fun _ => ?_))
      | exact ih0 _ _ _ _ _ _ _ _ _
      | exact ih1 _ _ _ _ _ _ _ _ _ _
      | exact LeO.none _
      | refine LeO.ite ?_ ?_
      | refine LeO.bind ?_ (fun _ => ?_)
set_option maxHeartbeats 8000000 in
set_option maxRecDepth 100000 in
theorem spec_l2May.calls (k : Nat) (A0_0 : Option Addr) (c0_0 : Nat) (l0_0 : List ByteArray) (a0_1 : ByteArray) (a0_2 : ByteArray) (a0_3 : ByteArray) (A1_0 : Option Addr) (c1_0 : Nat) (l1_0 : List ByteArray) (a1_1 : ByteArray) (a1_2 : ByteArray) (a1_3 : ByteArray) (r : Bool) (w : World) (hr0_0 : Kd.C Kd.string w A0_0 l0_0.length l0_0) (hc0_0 : l0_0.length ≤ c0_0) (hr1_0 : Kd.C Kd.string w A1_0 l1_0.length l1_0) (hc1_0 : l1_0.length ≤ c1_0) (h : spec_l2May.f k l0_0 a0_1 a0_2 a0_3 l1_0 a1_1 a1_2 a1_3 = some r) :
    Calls Tryd.prog 47 #[.agg #[.slice A0_0 l0_0.length c0_0, .string a0_1, .string a0_2, .string a0_3], .agg #[.slice A1_0 l1_0.length c1_0, .string a1_1, .string a1_2, .string a1_3]] w fun e w' => e = .returned (.bool r) ∧ Below w.heap.size w w' := by
  have hu27 := Tryd.underlying27
  have HR0_0 := Aside0.mk hr0_0
  have HC0_0 := Aside0.mk hc0_0
  clear hr0_0 hc0_0
  have HR1_0 := Aside0.mk hr1_0
  have HC1_0 := Aside0.mk hc1_0
  clear hr1_0 hc1_0
  have HB := Aside0.mk (Below.refl w.heap.size w)
  have H : (spec_l2May.l0 k 0 l0_0 a0_1 a0_2 a0_3 l1_0 a1_1 a1_2 a1_3) = some r := h
  clear h
  have H' := Aside0.mk H
  clear H
  go_enter Tryd.func47, Tryd.ntmps47
  go_wp2_with (first | ((with_reducible refine gate_dst (N := 2) rfl ?_); (try (refine gate_guard (by rfl) ?_; dsimp only)); refine box_event ?hg (N := 2) ?hd (cs := #[.slice A0_0 l0_0.length c0_0, .string a0_1, .string a0_2, .string a0_3]) (t := 27) ?hr ?_; (case hd => rfl); (case hg => rfl); (case hr => first | (go_simp; done) | (go_simp; rfl)); intro gb204 hg w3 hbox hb; have n0_ := Aside0.mk (below_step (by repeat (first | (with_reducible first | exact HB.out | apply below_alloc | apply pw_below_drewN | apply below_drew1) | exact HB.out)) hb); have n1_ := Aside0.mk (hbox); have n2_ := Aside0.mk ((by rw [hg]; exact (below_size (by repeat (first | (with_reducible first | exact HB.out | apply below_alloc | apply pw_below_drewN | apply below_drew1) | exact HB.out))) : w.heap.size ≤ gb204)); have n3_ := Aside0.mk ((by rw [hg]; exact (below_size (by repeat (first | (with_reducible first | exact HB.out | apply below_alloc | apply pw_below_drewN | apply below_drew1) | exact HB.out))) : w.heap.size ≤ gb204)); clear HB; have HB := n0_; have BK204 := n1_; have GW204 := n2_; have GE204 := n3_; clear n0_ n1_ n2_ n3_; clear hb hbox hg) | ((with_reducible refine gate_dst (N := 3) rfl ?_); (try (refine gate_guard (by rfl) ?_; dsimp only)); refine box_event ?hg (N := 3) ?hd (cs := #[.slice A1_0 l1_0.length c1_0, .string a1_1, .string a1_2, .string a1_3]) (t := 27) ?hr ?_; (case hd => rfl); (case hg => rfl); (case hr => first | (go_simp; done) | (go_simp; rfl)); intro gb205 hg w4 hbox hb; have n0_ := Aside0.mk (blk_below (g := gb204) (o := .cells #[.slice A0_0 l0_0.length c0_0, .string a0_1, .string a0_2, .string a0_3] 27 (0, 0)) (by (with_reducible repeat (first | refine blk_drewN ?_ _ | refine blk_drew ?_ | refine blk_alloc ?_ _)); exact BK204.out) hb); have n1_ := Aside0.mk (below_step (by repeat (first | (with_reducible first | exact HB.out | apply below_alloc | apply pw_below_drewN | apply below_drew1 | refine below_set ?_ GE204.out) | exact HB.out)) hb); have n2_ := Aside0.mk (hbox); have n3_ := Aside0.mk ((by rw [hg]; exact (below_size (by repeat (first | (with_reducible first | exact HB.out | apply below_alloc | apply pw_below_drewN | apply below_drew1 | refine below_set ?_ GE204.out) | exact HB.out))) : w.heap.size ≤ gb205)); have n4_ := Aside0.mk ((by rw [hg]; exact (below_size (by repeat (first | (with_reducible first | exact HB.out | apply below_alloc | apply pw_below_drewN | apply below_drew1 | refine below_set ?_ GE204.out) | exact HB.out))) : w.heap.size ≤ gb205)); have n5_ := Aside0.mk ((by rw [hg]; exact Nat.ne_of_lt (blk_lt (g := gb204) (o := .cells #[.slice A0_0 l0_0.length c0_0, .string a0_1, .string a0_2, .string a0_3] 27 (0, 0)) (by (with_reducible repeat (first | refine blk_drewN ?_ _ | refine blk_drew ?_ | refine blk_alloc ?_ _)); exact BK204.out)) : gb204 ≠ gb205)); have n6_ := Aside0.mk ((by rw [hg]; exact Nat.ne_of_gt (blk_lt (g := gb204) (o := .cells #[.slice A0_0 l0_0.length c0_0, .string a0_1, .string a0_2, .string a0_3] 27 (0, 0)) (by (with_reducible repeat (first | refine blk_drewN ?_ _ | refine blk_drew ?_ | refine blk_alloc ?_ _)); exact BK204.out)) : gb205 ≠ gb204)); clear BK204; clear HB; have BK204 := n0_; have HB := n1_; have BK205 := n2_; have GW205 := n3_; have GE205 := n4_; have NB204_205 := n5_; have NB205_204 := n6_; clear n0_ n1_ n2_ n3_ n4_ n5_ n6_; clear hb hbox hg))
  repeat (go_quiet (first | ((with_reducible refine gate_dst (N := 2) rfl ?_); (try (refine gate_guard (by rfl) ?_; dsimp only)); refine box_event ?hg (N := 2) ?hd (cs := #[.slice A0_0 l0_0.length c0_0, .string a0_1, .string a0_2, .string a0_3]) (t := 27) ?hr ?_; (case hd => rfl); (case hg => rfl); (case hr => first | (go_simp; done) | (go_simp; rfl)); intro gb204 hg w3 hbox hb; have n0_ := Aside0.mk (below_step (by repeat (first | (with_reducible first | exact HB.out | apply below_alloc | apply pw_below_drewN | apply below_drew1) | exact HB.out)) hb); have n1_ := Aside0.mk (hbox); have n2_ := Aside0.mk ((by rw [hg]; exact (below_size (by repeat (first | (with_reducible first | exact HB.out | apply below_alloc | apply pw_below_drewN | apply below_drew1) | exact HB.out))) : w.heap.size ≤ gb204)); have n3_ := Aside0.mk ((by rw [hg]; exact (below_size (by repeat (first | (with_reducible first | exact HB.out | apply below_alloc | apply pw_below_drewN | apply below_drew1) | exact HB.out))) : w.heap.size ≤ gb204)); clear HB; have HB := n0_; have BK204 := n1_; have GW204 := n2_; have GE204 := n3_; clear n0_ n1_ n2_ n3_; clear hb hbox hg) | ((with_reducible refine gate_dst (N := 3) rfl ?_); (try (refine gate_guard (by rfl) ?_; dsimp only)); refine box_event ?hg (N := 3) ?hd (cs := #[.slice A1_0 l1_0.length c1_0, .string a1_1, .string a1_2, .string a1_3]) (t := 27) ?hr ?_; (case hd => rfl); (case hg => rfl); (case hr => first | (go_simp; done) | (go_simp; rfl)); intro gb205 hg w4 hbox hb; have n0_ := Aside0.mk (blk_below (g := gb204) (o := .cells #[.slice A0_0 l0_0.length c0_0, .string a0_1, .string a0_2, .string a0_3] 27 (0, 0)) (by (with_reducible repeat (first | refine blk_drewN ?_ _ | refine blk_drew ?_ | refine blk_alloc ?_ _)); exact BK204.out) hb); have n1_ := Aside0.mk (below_step (by repeat (first | (with_reducible first | exact HB.out | apply below_alloc | apply pw_below_drewN | apply below_drew1 | refine below_set ?_ GE204.out) | exact HB.out)) hb); have n2_ := Aside0.mk (hbox); have n3_ := Aside0.mk ((by rw [hg]; exact (below_size (by repeat (first | (with_reducible first | exact HB.out | apply below_alloc | apply pw_below_drewN | apply below_drew1 | refine below_set ?_ GE204.out) | exact HB.out))) : w.heap.size ≤ gb205)); have n4_ := Aside0.mk ((by rw [hg]; exact (below_size (by repeat (first | (with_reducible first | exact HB.out | apply below_alloc | apply pw_below_drewN | apply below_drew1 | refine below_set ?_ GE204.out) | exact HB.out))) : w.heap.size ≤ gb205)); have n5_ := Aside0.mk ((by rw [hg]; exact Nat.ne_of_lt (blk_lt (g := gb204) (o := .cells #[.slice A0_0 l0_0.length c0_0, .string a0_1, .string a0_2, .string a0_3] 27 (0, 0)) (by (with_reducible repeat (first | refine blk_drewN ?_ _ | refine blk_drew ?_ | refine blk_alloc ?_ _)); exact BK204.out)) : gb204 ≠ gb205)); have n6_ := Aside0.mk ((by rw [hg]; exact Nat.ne_of_gt (blk_lt (g := gb204) (o := .cells #[.slice A0_0 l0_0.length c0_0, .string a0_1, .string a0_2, .string a0_3] 27 (0, 0)) (by (with_reducible repeat (first | refine blk_drewN ?_ _ | refine blk_drew ?_ | refine blk_alloc ?_ _)); exact BK204.out)) : gb205 ≠ gb204)); clear BK204; clear HB; have BK204 := n0_; have HB := n1_; have BK205 := n2_; have GW205 := n3_; have GE205 := n4_; have NB204_205 := n5_; have NB205_204 := n6_; clear n0_ n1_ n2_ n3_ n4_ n5_ n6_; clear hb hbox hg)); try go_wp2_with (first | ((with_reducible refine gate_dst (N := 2) rfl ?_); (try (refine gate_guard (by rfl) ?_; dsimp only)); refine box_event ?hg (N := 2) ?hd (cs := #[.slice A0_0 l0_0.length c0_0, .string a0_1, .string a0_2, .string a0_3]) (t := 27) ?hr ?_; (case hd => rfl); (case hg => rfl); (case hr => first | (go_simp; done) | (go_simp; rfl)); intro gb204 hg w3 hbox hb; have n0_ := Aside0.mk (below_step (by repeat (first | (with_reducible first | exact HB.out | apply below_alloc | apply pw_below_drewN | apply below_drew1) | exact HB.out)) hb); have n1_ := Aside0.mk (hbox); have n2_ := Aside0.mk ((by rw [hg]; exact (below_size (by repeat (first | (with_reducible first | exact HB.out | apply below_alloc | apply pw_below_drewN | apply below_drew1) | exact HB.out))) : w.heap.size ≤ gb204)); have n3_ := Aside0.mk ((by rw [hg]; exact (below_size (by repeat (first | (with_reducible first | exact HB.out | apply below_alloc | apply pw_below_drewN | apply below_drew1) | exact HB.out))) : w.heap.size ≤ gb204)); clear HB; have HB := n0_; have BK204 := n1_; have GW204 := n2_; have GE204 := n3_; clear n0_ n1_ n2_ n3_; clear hb hbox hg) | ((with_reducible refine gate_dst (N := 3) rfl ?_); (try (refine gate_guard (by rfl) ?_; dsimp only)); refine box_event ?hg (N := 3) ?hd (cs := #[.slice A1_0 l1_0.length c1_0, .string a1_1, .string a1_2, .string a1_3]) (t := 27) ?hr ?_; (case hd => rfl); (case hg => rfl); (case hr => first | (go_simp; done) | (go_simp; rfl)); intro gb205 hg w4 hbox hb; have n0_ := Aside0.mk (blk_below (g := gb204) (o := .cells #[.slice A0_0 l0_0.length c0_0, .string a0_1, .string a0_2, .string a0_3] 27 (0, 0)) (by (with_reducible repeat (first | refine blk_drewN ?_ _ | refine blk_drew ?_ | refine blk_alloc ?_ _)); exact BK204.out) hb); have n1_ := Aside0.mk (below_step (by repeat (first | (with_reducible first | exact HB.out | apply below_alloc | apply pw_below_drewN | apply below_drew1 | refine below_set ?_ GE204.out) | exact HB.out)) hb); have n2_ := Aside0.mk (hbox); have n3_ := Aside0.mk ((by rw [hg]; exact (below_size (by repeat (first | (with_reducible first | exact HB.out | apply below_alloc | apply pw_below_drewN | apply below_drew1 | refine below_set ?_ GE204.out) | exact HB.out))) : w.heap.size ≤ gb205)); have n4_ := Aside0.mk ((by rw [hg]; exact (below_size (by repeat (first | (with_reducible first | exact HB.out | apply below_alloc | apply pw_below_drewN | apply below_drew1 | refine below_set ?_ GE204.out) | exact HB.out))) : w.heap.size ≤ gb205)); have n5_ := Aside0.mk ((by rw [hg]; exact Nat.ne_of_lt (blk_lt (g := gb204) (o := .cells #[.slice A0_0 l0_0.length c0_0, .string a0_1, .string a0_2, .string a0_3] 27 (0, 0)) (by (with_reducible repeat (first | refine blk_drewN ?_ _ | refine blk_drew ?_ | refine blk_alloc ?_ _)); exact BK204.out)) : gb204 ≠ gb205)); have n6_ := Aside0.mk ((by rw [hg]; exact Nat.ne_of_gt (blk_lt (g := gb204) (o := .cells #[.slice A0_0 l0_0.length c0_0, .string a0_1, .string a0_2, .string a0_3] 27 (0, 0)) (by (with_reducible repeat (first | refine blk_drewN ?_ _ | refine blk_drew ?_ | refine blk_alloc ?_ _)); exact BK204.out)) : gb205 ≠ gb204)); clear BK204; clear HB; have BK204 := n0_; have HB := n1_; have BK205 := n2_; have GW205 := n3_; have GE205 := n4_; have NB204_205 := n5_; have NB205_204 := n6_; clear n0_ n1_ n2_ n3_ n4_ n5_ n6_; clear hb hbox hg)))
  go_loopg [5] k (fun kq v5 w' => ∃ (x5_1 : Int), v5 = .int .i64 x5_1 ∧ Aside0 (spec_l2May.l0 kq x5_1 l0_0 a0_1 a0_2 a0_3 l1_0 a1_1 a1_2 a1_3 = some r) ∧ Aside0 (kq ≤ k) ∧ Aside0 (w'.heap[gb204]? = some (.cells #[(.slice A0_0 l0_0.length c0_0), .string a0_1, .string a0_2, .string a0_3] 27 (0, 0))) ∧ Aside0 (w'.heap[gb205]? = some (.cells #[(.slice A1_0 l1_0.length c1_0), .string a1_1, .string a1_2, .string a1_3] 27 (0, 0))) ∧ Aside0 (Below w.heap.size w w'))
  case atStart => exact ⟨(0), (by first | rfl | (simp; done) | (simp [*]; done)), H', ⟨Nat.le_refl _⟩, ⟨by (with_reducible repeat (first | refine blk_drewN ?_ _ | refine blk_drew ?_ | refine blk_alloc ?_ _)); exact BK204.out⟩, ⟨by (with_reducible repeat (first | refine blk_drewN ?_ _ | refine blk_drew ?_ | refine blk_alloc ?_ _)); exact BK205.out⟩, ⟨by repeat (first | (with_reducible first | exact HB.out | apply below_alloc | apply pw_below_drewN | apply below_drew1 | refine below_set ?_ GE204.out | refine below_set ?_ GE205.out) | exact HB.out)⟩⟩
  case round =>
    clear H'
    try clear c1
    try clear p2
    try clear c4
    obtain ⟨x5_1, rfl, HA, HK1, BK204, BK205, HB⟩ := hrel
    cases gk with
    | zero => exact absurd HA.out (by simp [spec_l2May.l0])
    | succ k1 =>
      have H := HA.out
      clear HA
      simp only [spec_l2May.l0] at H
      have HC5 := Aside0.mk H
      clear H
      go_upto_region 2 with (fail)
      repeat (go_quiet (fail); go_upto_region 2 with (fail))
      go_cut [17] (fun v17 wc => ∃ (kq : Nat) (x17_4 : Bool), v17 = .bool x17_4 ∧ Aside0 (spec_l2May.j1 kq x5_1 x17_4 l0_0 a0_1 a0_2 a0_3 l1_0 a1_1 a1_2 a1_3 = some r) ∧ Aside0 (kq ≤ k1) ∧ Aside0 (wc.heap[gb204]? = some (.cells #[(.slice A0_0 l0_0.length c0_0), .string a0_1, .string a0_2, .string a0_3] 27 (0, 0))) ∧ Aside0 (wc.heap[gb205]? = some (.cells #[(.slice A1_0 l1_0.length c1_0), .string a1_1, .string a1_2, .string a1_3] 27 (0, 0))) ∧ Aside0 (Below w.heap.size w wc))
      case first =>
        have H := HC5.out
        clear HC5
        by_cases c6 : x5_1 < (l0_0.length : Int)
        · rw [if_pos c6] at H
          have c6b0 : decide (x5_1 < (l0_0.length : Int)) = true := decide_eq_true c6
          clear c6
          (first | rw [c6b0] | (simp only [i64_w, i32_w]; rw [c6b0]) | skip)
          have H' := Aside0.mk H
          clear H
          have hnb7 := NB204_205.out
          have hnc7 := NB205_204.out
          have hcz8_0 : wr.cell? ⟨gb204, 0, none⟩ = some (.slice A0_0 l0_0.length c0_0) := (blk_cell BK204.out 0).trans rfl
          have hcz8_1 : wr.cell? ⟨gb204, 1, none⟩ = some (.string a0_1) := (blk_cell BK204.out 1).trans rfl
          have hcz8_2 : wr.cell? ⟨gb204, 2, none⟩ = some (.string a0_2) := (blk_cell BK204.out 2).trans rfl
          have hcz8_3 : wr.cell? ⟨gb204, 3, none⟩ = some (.string a0_3) := (blk_cell BK204.out 3).trans rfl
          have hfz8_0 := blk_frozen BK204.out 0
          have hfz8_1 := blk_frozen BK204.out 1
          have hfz8_2 := blk_frozen BK204.out 2
          have hfz8_3 := blk_frozen BK204.out 3
          have hcz9_0 : wr.cell? ⟨gb205, 0, none⟩ = some (.slice A1_0 l1_0.length c1_0) := (blk_cell BK205.out 0).trans rfl
          have hcz9_1 : wr.cell? ⟨gb205, 1, none⟩ = some (.string a1_1) := (blk_cell BK205.out 1).trans rfl
          have hcz9_2 : wr.cell? ⟨gb205, 2, none⟩ = some (.string a1_2) := (blk_cell BK205.out 2).trans rfl
          have hcz9_3 : wr.cell? ⟨gb205, 3, none⟩ = some (.string a1_3) := (blk_cell BK205.out 3).trans rfl
          have hfz9_0 := blk_frozen BK205.out 0
          have hfz9_1 := blk_frozen BK205.out 1
          have hfz9_2 := blk_frozen BK205.out 2
          have hfz9_3 := blk_frozen BK205.out 3
          go_wp2
          repeat (go_quiet (fail); try go_wp2)
          go_meet
          case rel => exact ⟨_, (decide (x5_1 < (l1_0.length : Int))), (by first | rfl | (simp; done) | (simp [*]; done)), H', ⟨by have := HK1.out; first | omega | exact Nat.le_refl _⟩, ⟨by (with_reducible repeat (first | refine blk_drewN ?_ _ | refine blk_drew ?_ | refine blk_alloc ?_ _)); exact BK204.out⟩, ⟨by (with_reducible repeat (first | refine blk_drewN ?_ _ | refine blk_drew ?_ | refine blk_alloc ?_ _)); exact BK205.out⟩, ⟨by repeat (first | (with_reducible first | exact HB.out | apply below_alloc | apply pw_below_drewN | apply below_drew1 | refine below_set ?_ GE204.out | refine below_set ?_ GE205.out) | exact HB.out)⟩⟩
        · rw [if_neg c6] at H
          have c6b0 : decide (x5_1 < (l0_0.length : Int)) = false := decide_eq_false c6
          clear c6
          (first | rw [c6b0] | (simp only [i64_w, i32_w]; rw [c6b0]) | skip)
          have H' := Aside0.mk H
          clear H
          have hnb10 := NB204_205.out
          have hnc10 := NB205_204.out
          have hcz11_0 : wr.cell? ⟨gb204, 0, none⟩ = some (.slice A0_0 l0_0.length c0_0) := (blk_cell BK204.out 0).trans rfl
          have hcz11_1 : wr.cell? ⟨gb204, 1, none⟩ = some (.string a0_1) := (blk_cell BK204.out 1).trans rfl
          have hcz11_2 : wr.cell? ⟨gb204, 2, none⟩ = some (.string a0_2) := (blk_cell BK204.out 2).trans rfl
          have hcz11_3 : wr.cell? ⟨gb204, 3, none⟩ = some (.string a0_3) := (blk_cell BK204.out 3).trans rfl
          have hfz11_0 := blk_frozen BK204.out 0
          have hfz11_1 := blk_frozen BK204.out 1
          have hfz11_2 := blk_frozen BK204.out 2
          have hfz11_3 := blk_frozen BK204.out 3
          go_wp2
          repeat (go_quiet (fail); try go_wp2)
          go_meet
          case rel => exact ⟨_, (false), (by first | rfl | (simp; done) | (simp [*]; done)), H', ⟨by have := HK1.out; first | omega | exact Nat.le_refl _⟩, ⟨by (with_reducible repeat (first | refine blk_drewN ?_ _ | refine blk_drew ?_ | refine blk_alloc ?_ _)); exact BK204.out⟩, ⟨by (with_reducible repeat (first | refine blk_drewN ?_ _ | refine blk_drew ?_ | refine blk_alloc ?_ _)); exact BK205.out⟩, ⟨by repeat (first | (with_reducible first | exact HB.out | apply below_alloc | apply pw_below_drewN | apply below_drew1 | refine below_set ?_ GE204.out | refine below_set ?_ GE205.out) | exact HB.out)⟩⟩
      case rest =>
        clear HC5
        try clear c1
        try clear p2
        try clear c4
        try clear c6
        try clear c6b0
        try clear c7
        try clear c10
        try clear hcz11_0
        try clear hcz11_1
        try clear hcz11_2
        try clear hcz11_3
        try clear hcz8_0
        try clear hcz8_1
        try clear hcz8_2
        try clear hcz8_3
        try clear hcz9_0
        try clear hcz9_1
        try clear hcz9_2
        try clear hcz9_3
        try clear hfz11_0
        try clear hfz11_1
        try clear hfz11_2
        try clear hfz11_3
        try clear hfz8_0
        try clear hfz8_1
        try clear hfz8_2
        try clear hfz8_3
        try clear hfz9_0
        try clear hfz9_1
        try clear hfz9_2
        try clear hfz9_3
        try clear p2
        obtain ⟨kq, x17_4, rfl, HA, HJ4, BK204, BK205, HB⟩ := hcut
        cases kq with
        | zero => exact absurd HA.out (by simp [spec_l2May.j1])
        | succ kj4 =>
          have H := HA.out
          clear HA
          simp only [spec_l2May.j1] at H
          by_cases c12 : x17_4 = true
          · subst c12
            have H1 : (if 0 ≤ x5_1 then (if x5_1 < (l0_0.length : Int) then (if x5_1 < (l1_0.length : Int) then ((spec_l2Fits.f (rdOf ByteArray.empty l0_0 x5_1) (rdOf ByteArray.empty l1_0 x5_1)).bind fun t208 => (if t208 = true then (spec_l2May.l0 kj4 (wrap64 (x5_1 + 1)) l0_0 a0_1 a0_2 a0_3 l1_0 a1_1 a1_2 a1_3) else (some false))) else (none)) else (none)) else (none)) = some r := by rw [if_pos rfl] at H; exact H
            clear H
            have H := H1
            clear H1
            by_cases c13 : 0 ≤ x5_1
            · rw [if_pos c13] at H
              have c13b0 : decide (0 ≤ x5_1) = true := decide_eq_true c13
              clear c13
              by_cases c14 : x5_1 < (l0_0.length : Int)
              · rw [if_pos c14] at H
                have c14b0 : decide (x5_1 < (l0_0.length : Int)) = true := decide_eq_true c14
                clear c14
                by_cases c15 : x5_1 < (l1_0.length : Int)
                · rw [if_pos c15] at H
                  have c15b0 : decide (x5_1 < (l1_0.length : Int)) = true := decide_eq_true c15
                  clear c15
                  replace H := Option.bind_eq_some_iff.mp H
                  obtain ⟨t208, A160, H⟩ := H
                  replace H : (if t208 = true then (spec_l2May.l0 kj4 (wrap64 (x5_1 + 1)) l0_0 a0_1 a0_2 a0_3 l1_0 a1_1 a1_2 a1_3) else (some false)) = some r := H
                  have A16 := Aside0.mk A160
                  clear A160
                  by_cases c17 : t208 = true
                  · subst c17
                    have H1 : (spec_l2May.l0 kj4 (wrap64 (x5_1 + 1)) l0_0 a0_1 a0_2 a0_3 l1_0 a1_1 a1_2 a1_3) = some r := by rw [if_pos rfl] at H; exact H
                    clear H
                    have H := H1
                    clear H1
                    have H' := Aside0.mk H
                    clear H
                    have hnb18 := NB204_205.out
                    have hnc18 := NB205_204.out
                    have hcz19_0 : wc.cell? ⟨gb204, 0, none⟩ = some (.slice A0_0 l0_0.length c0_0) := (blk_cell BK204.out 0).trans rfl
                    have hcz19_1 : wc.cell? ⟨gb204, 1, none⟩ = some (.string a0_1) := (blk_cell BK204.out 1).trans rfl
                    have hcz19_2 : wc.cell? ⟨gb204, 2, none⟩ = some (.string a0_2) := (blk_cell BK204.out 2).trans rfl
                    have hcz19_3 : wc.cell? ⟨gb204, 3, none⟩ = some (.string a0_3) := (blk_cell BK204.out 3).trans rfl
                    have hfz19_0 := blk_frozen BK204.out 0
                    have hfz19_1 := blk_frozen BK204.out 1
                    have hfz19_2 := blk_frozen BK204.out 2
                    have hfz19_3 := blk_frozen BK204.out 3
                    have p206 : 0 ≤ (x5_1 : Int) := of_decide_eq_true (by first | (with_reducible assumption) | assumption)
                    have q206 : x5_1 < (l0_0.length : Int) := of_decide_eq_true (by first | (with_reducible assumption) | assumption)
                    obtain ⟨ad206, e206, hx206_0⟩ := Kd.at_string HR0_0.out x5_1 p206 q206
                    cases e206
                    replace hx206_0 := (HB.out.cell (World.block_lt_of_cell? w _ hx206_0)).trans hx206_0
                    replace p206 := eq_true p206
                    replace q206 := eq_true q206
                    have hcz20_0 : wc.cell? ⟨gb205, 0, none⟩ = some (.slice A1_0 l1_0.length c1_0) := (blk_cell BK205.out 0).trans rfl
                    have hcz20_1 : wc.cell? ⟨gb205, 1, none⟩ = some (.string a1_1) := (blk_cell BK205.out 1).trans rfl
                    have hcz20_2 : wc.cell? ⟨gb205, 2, none⟩ = some (.string a1_2) := (blk_cell BK205.out 2).trans rfl
                    have hcz20_3 : wc.cell? ⟨gb205, 3, none⟩ = some (.string a1_3) := (blk_cell BK205.out 3).trans rfl
                    have hfz20_0 := blk_frozen BK205.out 0
                    have hfz20_1 := blk_frozen BK205.out 1
                    have hfz20_2 := blk_frozen BK205.out 2
                    have hfz20_3 := blk_frozen BK205.out 3
                    have p207 : 0 ≤ (x5_1 : Int) := of_decide_eq_true (by first | (with_reducible assumption) | assumption)
                    have q207 : x5_1 < (l1_0.length : Int) := of_decide_eq_true (by first | (with_reducible assumption) | assumption)
                    obtain ⟨ad207, e207, hx207_0⟩ := Kd.at_string HR1_0.out x5_1 p207 q207
                    cases e207
                    replace hx207_0 := (HB.out.cell (World.block_lt_of_cell? w _ hx207_0)).trans hx207_0
                    replace p207 := eq_true p207
                    replace q207 := eq_true q207
                    go_wp2_with (first | (go_at_call 76; (with_reducible refine (spec_l2Fits.calls (rdOf ByteArray.empty l0_0 x5_1) (rdOf ByteArray.empty l1_0 x5_1) true _ A16.out).mono ?_); rintro e w' ⟨rfl, ⟨nd, rfl⟩⟩; (try first | exact ⟨rfl, _, World.drewN_drewN _ _ _⟩ | exact ⟨rfl, _, Eq.trans (World.drewN_drewN _ _ _) (congrArg (World.drewN _) (Nat.add_assoc _ _ _))⟩)))
                    repeat (go_quiet (first | (go_at_call 76; (with_reducible refine (spec_l2Fits.calls (rdOf ByteArray.empty l0_0 x5_1) (rdOf ByteArray.empty l1_0 x5_1) true _ A16.out).mono ?_); rintro e w' ⟨rfl, ⟨nd, rfl⟩⟩; (try first | exact ⟨rfl, _, World.drewN_drewN _ _ _⟩ | exact ⟨rfl, _, Eq.trans (World.drewN_drewN _ _ _) (congrArg (World.drewN _) (Nat.add_assoc _ _ _))⟩))); try go_wp2_with (first | (go_at_call 76; (with_reducible refine (spec_l2Fits.calls (rdOf ByteArray.empty l0_0 x5_1) (rdOf ByteArray.empty l1_0 x5_1) true _ A16.out).mono ?_); rintro e w' ⟨rfl, ⟨nd, rfl⟩⟩; (try first | exact ⟨rfl, _, World.drewN_drewN _ _ _⟩ | exact ⟨rfl, _, Eq.trans (World.drewN_drewN _ _ _) (congrArg (World.drewN _) (Nat.add_assoc _ _ _))⟩))))
                    go_roundg kj4
                    case measure => have := HK1.out; have := HJ4.out; omega
                    case rel => exact ⟨(wrap64 (x5_1 + 1)), (by first | rfl | (simp; done) | (simp [*]; done)), H', ⟨by have := HK1.out; have := HJ4.out; omega⟩, ⟨by (with_reducible repeat (first | refine blk_drewN ?_ _ | refine blk_drew ?_ | refine blk_alloc ?_ _)); exact BK204.out⟩, ⟨by (with_reducible repeat (first | refine blk_drewN ?_ _ | refine blk_drew ?_ | refine blk_alloc ?_ _)); exact BK205.out⟩, ⟨by repeat (first | (with_reducible first | exact HB.out | apply below_alloc | apply pw_below_drewN | apply below_drew1 | refine below_set ?_ GE204.out | refine below_set ?_ GE205.out) | exact HB.out)⟩⟩
                  · replace c17 := Bool.eq_false_iff.mpr c17
                    subst c17
                    have H1 : (some false) = some r := by rw [if_neg (show ¬ (false = true) by decide)] at H; exact H
                    clear H
                    have H := H1
                    clear H1
                    obtain rfl := Option.some.inj H
                    have hnb21 := NB204_205.out
                    have hnc21 := NB205_204.out
                    have hcz22_0 : wc.cell? ⟨gb204, 0, none⟩ = some (.slice A0_0 l0_0.length c0_0) := (blk_cell BK204.out 0).trans rfl
                    have hcz22_1 : wc.cell? ⟨gb204, 1, none⟩ = some (.string a0_1) := (blk_cell BK204.out 1).trans rfl
                    have hcz22_2 : wc.cell? ⟨gb204, 2, none⟩ = some (.string a0_2) := (blk_cell BK204.out 2).trans rfl
                    have hcz22_3 : wc.cell? ⟨gb204, 3, none⟩ = some (.string a0_3) := (blk_cell BK204.out 3).trans rfl
                    have hfz22_0 := blk_frozen BK204.out 0
                    have hfz22_1 := blk_frozen BK204.out 1
                    have hfz22_2 := blk_frozen BK204.out 2
                    have hfz22_3 := blk_frozen BK204.out 3
                    have p206 : 0 ≤ (x5_1 : Int) := of_decide_eq_true (by first | (with_reducible assumption) | assumption)
                    have q206 : x5_1 < (l0_0.length : Int) := of_decide_eq_true (by first | (with_reducible assumption) | assumption)
                    obtain ⟨ad206, e206, hx206_0⟩ := Kd.at_string HR0_0.out x5_1 p206 q206
                    cases e206
                    replace hx206_0 := (HB.out.cell (World.block_lt_of_cell? w _ hx206_0)).trans hx206_0
                    replace p206 := eq_true p206
                    replace q206 := eq_true q206
                    have hcz23_0 : wc.cell? ⟨gb205, 0, none⟩ = some (.slice A1_0 l1_0.length c1_0) := (blk_cell BK205.out 0).trans rfl
                    have hcz23_1 : wc.cell? ⟨gb205, 1, none⟩ = some (.string a1_1) := (blk_cell BK205.out 1).trans rfl
                    have hcz23_2 : wc.cell? ⟨gb205, 2, none⟩ = some (.string a1_2) := (blk_cell BK205.out 2).trans rfl
                    have hcz23_3 : wc.cell? ⟨gb205, 3, none⟩ = some (.string a1_3) := (blk_cell BK205.out 3).trans rfl
                    have hfz23_0 := blk_frozen BK205.out 0
                    have hfz23_1 := blk_frozen BK205.out 1
                    have hfz23_2 := blk_frozen BK205.out 2
                    have hfz23_3 := blk_frozen BK205.out 3
                    have p207 : 0 ≤ (x5_1 : Int) := of_decide_eq_true (by first | (with_reducible assumption) | assumption)
                    have q207 : x5_1 < (l1_0.length : Int) := of_decide_eq_true (by first | (with_reducible assumption) | assumption)
                    obtain ⟨ad207, e207, hx207_0⟩ := Kd.at_string HR1_0.out x5_1 p207 q207
                    cases e207
                    replace hx207_0 := (HB.out.cell (World.block_lt_of_cell? w _ hx207_0)).trans hx207_0
                    replace p207 := eq_true p207
                    replace q207 := eq_true q207
                    go_wp2_with (first | (go_at_call 76; (with_reducible refine (spec_l2Fits.calls (rdOf ByteArray.empty l0_0 x5_1) (rdOf ByteArray.empty l1_0 x5_1) false _ A16.out).mono ?_); rintro e w' ⟨rfl, ⟨nd, rfl⟩⟩; (try first | exact ⟨rfl, _, World.drewN_drewN _ _ _⟩ | exact ⟨rfl, _, Eq.trans (World.drewN_drewN _ _ _) (congrArg (World.drewN _) (Nat.add_assoc _ _ _))⟩)))
                    repeat (go_quiet (first | (go_at_call 76; (with_reducible refine (spec_l2Fits.calls (rdOf ByteArray.empty l0_0 x5_1) (rdOf ByteArray.empty l1_0 x5_1) false _ A16.out).mono ?_); rintro e w' ⟨rfl, ⟨nd, rfl⟩⟩; (try first | exact ⟨rfl, _, World.drewN_drewN _ _ _⟩ | exact ⟨rfl, _, Eq.trans (World.drewN_drewN _ _ _) (congrArg (World.drewN _) (Nat.add_assoc _ _ _))⟩))); try go_wp2_with (first | (go_at_call 76; (with_reducible refine (spec_l2Fits.calls (rdOf ByteArray.empty l0_0 x5_1) (rdOf ByteArray.empty l1_0 x5_1) false _ A16.out).mono ?_); rintro e w' ⟨rfl, ⟨nd, rfl⟩⟩; (try first | exact ⟨rfl, _, World.drewN_drewN _ _ _⟩ | exact ⟨rfl, _, Eq.trans (World.drewN_drewN _ _ _) (congrArg (World.drewN _) (Nat.add_assoc _ _ _))⟩))))
                    go_ret
                    exact ⟨by first | rfl | (simp [errW_none, errW_some] <;> rfl) | (simp [*, errW_none, errW_some] <;> rfl), by repeat (first | (with_reducible first | exact HB.out | apply below_alloc | apply pw_below_drewN | apply below_drew1 | refine below_set ?_ GE204.out | refine below_set ?_ GE205.out) | exact HB.out)⟩
                · rw [if_neg c15] at H
                  exact absurd H (by simp)
              · rw [if_neg c14] at H
                exact absurd H (by simp)
            · rw [if_neg c13] at H
              exact absurd H (by simp)
          · replace c12 := Bool.eq_false_iff.mpr c12
            subst c12
            have H1 : (if a0_1.toList = a1_1.toList then (if a0_2.toList = a1_2.toList then (some (a0_3.toList == a1_3.toList)) else (some false)) else (some false)) = some r := by rw [if_neg (show ¬ (false = true) by decide)] at H; exact H
            clear H
            have H := H1
            clear H1
            by_cases c24 : a0_1.toList = a1_1.toList
            · rw [if_pos c24] at H
              have c24b0 : (a0_1.toList == a1_1.toList) = true := beq_iff_eq.mpr c24
              have c24b1 : (a0_1.toList != a1_1.toList) = false := bne_eq_false_iff_eq.mpr c24
              clear c24
              by_cases c25 : a0_2.toList = a1_2.toList
              · rw [if_pos c25] at H
                have c25b0 : (a0_2.toList == a1_2.toList) = true := beq_iff_eq.mpr c25
                have c25b1 : (a0_2.toList != a1_2.toList) = false := bne_eq_false_iff_eq.mpr c25
                clear c25
                obtain rfl := Option.some.inj H
                have hnb26 := NB204_205.out
                have hnc26 := NB205_204.out
                have hcz27_0 : wc.cell? ⟨gb204, 0, none⟩ = some (.slice A0_0 l0_0.length c0_0) := (blk_cell BK204.out 0).trans rfl
                have hcz27_1 : wc.cell? ⟨gb204, 1, none⟩ = some (.string a0_1) := (blk_cell BK204.out 1).trans rfl
                have hcz27_2 : wc.cell? ⟨gb204, 2, none⟩ = some (.string a0_2) := (blk_cell BK204.out 2).trans rfl
                have hcz27_3 : wc.cell? ⟨gb204, 3, none⟩ = some (.string a0_3) := (blk_cell BK204.out 3).trans rfl
                have hfz27_0 := blk_frozen BK204.out 0
                have hfz27_1 := blk_frozen BK204.out 1
                have hfz27_2 := blk_frozen BK204.out 2
                have hfz27_3 := blk_frozen BK204.out 3
                have hcz28_0 : wc.cell? ⟨gb205, 0, none⟩ = some (.slice A1_0 l1_0.length c1_0) := (blk_cell BK205.out 0).trans rfl
                have hcz28_1 : wc.cell? ⟨gb205, 1, none⟩ = some (.string a1_1) := (blk_cell BK205.out 1).trans rfl
                have hcz28_2 : wc.cell? ⟨gb205, 2, none⟩ = some (.string a1_2) := (blk_cell BK205.out 2).trans rfl
                have hcz28_3 : wc.cell? ⟨gb205, 3, none⟩ = some (.string a1_3) := (blk_cell BK205.out 3).trans rfl
                have hfz28_0 := blk_frozen BK205.out 0
                have hfz28_1 := blk_frozen BK205.out 1
                have hfz28_2 := blk_frozen BK205.out 2
                have hfz28_3 := blk_frozen BK205.out 3
                go_wp2
                repeat (go_quiet (fail); try go_wp2)
                go_ret
                exact ⟨by first | rfl | (simp [errW_none, errW_some] <;> rfl) | (simp [*, errW_none, errW_some] <;> rfl), by repeat (first | (with_reducible first | exact HB.out | apply below_alloc | apply pw_below_drewN | apply below_drew1 | refine below_set ?_ GE204.out | refine below_set ?_ GE205.out) | exact HB.out)⟩
              · rw [if_neg c25] at H
                have c25b0 : (a0_2.toList == a1_2.toList) = false := beq_eq_false_iff_ne.mpr c25
                have c25b1 : (a0_2.toList != a1_2.toList) = true := bne_iff_ne.mpr c25
                obtain rfl := Option.some.inj H
                have hnb29 := NB204_205.out
                have hnc29 := NB205_204.out
                have hcz30_0 : wc.cell? ⟨gb204, 0, none⟩ = some (.slice A0_0 l0_0.length c0_0) := (blk_cell BK204.out 0).trans rfl
                have hcz30_1 : wc.cell? ⟨gb204, 1, none⟩ = some (.string a0_1) := (blk_cell BK204.out 1).trans rfl
                have hcz30_2 : wc.cell? ⟨gb204, 2, none⟩ = some (.string a0_2) := (blk_cell BK204.out 2).trans rfl
                have hcz30_3 : wc.cell? ⟨gb204, 3, none⟩ = some (.string a0_3) := (blk_cell BK204.out 3).trans rfl
                have hfz30_0 := blk_frozen BK204.out 0
                have hfz30_1 := blk_frozen BK204.out 1
                have hfz30_2 := blk_frozen BK204.out 2
                have hfz30_3 := blk_frozen BK204.out 3
                have hcz31_0 : wc.cell? ⟨gb205, 0, none⟩ = some (.slice A1_0 l1_0.length c1_0) := (blk_cell BK205.out 0).trans rfl
                have hcz31_1 : wc.cell? ⟨gb205, 1, none⟩ = some (.string a1_1) := (blk_cell BK205.out 1).trans rfl
                have hcz31_2 : wc.cell? ⟨gb205, 2, none⟩ = some (.string a1_2) := (blk_cell BK205.out 2).trans rfl
                have hcz31_3 : wc.cell? ⟨gb205, 3, none⟩ = some (.string a1_3) := (blk_cell BK205.out 3).trans rfl
                have hfz31_0 := blk_frozen BK205.out 0
                have hfz31_1 := blk_frozen BK205.out 1
                have hfz31_2 := blk_frozen BK205.out 2
                have hfz31_3 := blk_frozen BK205.out 3
                go_wp2
                repeat (go_quiet (fail); try go_wp2)
                go_ret
                exact ⟨by first | rfl | (simp [errW_none, errW_some] <;> rfl) | (simp [*, errW_none, errW_some] <;> rfl), by repeat (first | (with_reducible first | exact HB.out | apply below_alloc | apply pw_below_drewN | apply below_drew1 | refine below_set ?_ GE204.out | refine below_set ?_ GE205.out) | exact HB.out)⟩
            · rw [if_neg c24] at H
              have c24b0 : (a0_1.toList == a1_1.toList) = false := beq_eq_false_iff_ne.mpr c24
              have c24b1 : (a0_1.toList != a1_1.toList) = true := bne_iff_ne.mpr c24
              obtain rfl := Option.some.inj H
              have hnb32 := NB204_205.out
              have hnc32 := NB205_204.out
              have hcz33_0 : wc.cell? ⟨gb204, 0, none⟩ = some (.slice A0_0 l0_0.length c0_0) := (blk_cell BK204.out 0).trans rfl
              have hcz33_1 : wc.cell? ⟨gb204, 1, none⟩ = some (.string a0_1) := (blk_cell BK204.out 1).trans rfl
              have hcz33_2 : wc.cell? ⟨gb204, 2, none⟩ = some (.string a0_2) := (blk_cell BK204.out 2).trans rfl
              have hcz33_3 : wc.cell? ⟨gb204, 3, none⟩ = some (.string a0_3) := (blk_cell BK204.out 3).trans rfl
              have hfz33_0 := blk_frozen BK204.out 0
              have hfz33_1 := blk_frozen BK204.out 1
              have hfz33_2 := blk_frozen BK204.out 2
              have hfz33_3 := blk_frozen BK204.out 3
              have hcz34_0 : wc.cell? ⟨gb205, 0, none⟩ = some (.slice A1_0 l1_0.length c1_0) := (blk_cell BK205.out 0).trans rfl
              have hcz34_1 : wc.cell? ⟨gb205, 1, none⟩ = some (.string a1_1) := (blk_cell BK205.out 1).trans rfl
              have hcz34_2 : wc.cell? ⟨gb205, 2, none⟩ = some (.string a1_2) := (blk_cell BK205.out 2).trans rfl
              have hcz34_3 : wc.cell? ⟨gb205, 3, none⟩ = some (.string a1_3) := (blk_cell BK205.out 3).trans rfl
              have hfz34_0 := blk_frozen BK205.out 0
              have hfz34_1 := blk_frozen BK205.out 1
              have hfz34_2 := blk_frozen BK205.out 2
              have hfz34_3 := blk_frozen BK205.out 3
              go_wp2
              repeat (go_quiet (fail); try go_wp2)
              go_ret
              exact ⟨by first | rfl | (simp [errW_none, errW_some] <;> rfl) | (simp [*, errW_none, errW_some] <;> rfl), by repeat (first | (with_reducible first | exact HB.out | apply below_alloc | apply pw_below_drewN | apply below_drew1 | refine below_set ?_ GE204.out | refine below_set ?_ GE205.out) | exact HB.out)⟩

end Go.Proofs.YtcckamdpncbkoaaDoor.G

namespace Go.Proofs.YtcckamdpncbkoaaDoor.G
open Go.RowKit Go.Proofs.YtcckamdpncbkoaaDoorW.PrintWords Go.Proofs.YtcckamdpncbkoaaDoorW.PrintLast Go.Proofs.YtcckamdpncbkoaaDoorW.PrintMore
open Go.Proofs.YtcckamdpncbkoaaDoor.Gl Go.Proofs.YtcckamdpncbkoaaDoor.Ext
attribute [local go_sem] max2_int min2_int max_two min_two max_three min_three max_four min_four   -- for this text's walks alone
set_option linter.unusedVariables false
set_option linter.unusedSimpArgs false

/-! ### stringslite_HasPrefix: function 98 -/
def stringslite_HasPrefix.f (a0 : ByteArray) (a1 : ByteArray) : Option (Bool) := if (a0.size : Int) ≥ (a1.size : Int) then (if 0 ≤ (a1.size : Int) then (if (a1.size : Int) ≤ (a0.size : Int) then (some ((a0.extract 0 ((a1.size : Int) : Int).toNat).toList == a1.toList)) else (none)) else (none)) else (some false)
set_option maxHeartbeats 8000000 in
set_option maxRecDepth 100000 in
theorem stringslite_HasPrefix.calls (a0 : ByteArray) (a1 : ByteArray) (r : Bool) (w : World) (h : stringslite_HasPrefix.f a0 a1 = some r) :
    Calls Tryd.prog 98 #[.string a0, .string a1] w fun e w' => e = .returned (.bool r) ∧ Drawn0 w w' := by
  have H : (if (a0.size : Int) ≥ (a1.size : Int) then (if 0 ≤ (a1.size : Int) then (if (a1.size : Int) ≤ (a0.size : Int) then (some ((a0.extract 0 ((a1.size : Int) : Int).toNat).toList == a1.toList)) else (none)) else (none)) else (some false)) = some r := h
  clear h
  by_cases c3 : (a0.size : Int) ≥ (a1.size : Int)
  · rw [if_pos c3] at H
    have c3b0 : decide ((a1.size : Int) ≤ (a0.size : Int)) = true := decide_eq_true c3
    have c3b1 : decide (a1.size ≤ a0.size) = true := decide_eq_true (Int.ofNat_le.mp c3)
    clear c3
    by_cases c4 : 0 ≤ (a1.size : Int)
    · rw [if_pos c4] at H
      have c4b0 := eq_true c4
      have c4b1 : decide (0 ≤ (a1.size : Int)) = true := decide_eq_true c4
      clear c4
      by_cases c5 : (a1.size : Int) ≤ (a0.size : Int)
      · rw [if_pos c5] at H
        have c5b0 := eq_true c5
        have c5b1 : decide ((a1.size : Int) ≤ (a0.size : Int)) = true := decide_eq_true c5
        clear c5
        obtain rfl := Option.some.inj H
        go_enter Tryd.func98, Tryd.ntmps98
        go_wp2
        go_ret
        exact ⟨by first | rfl | (simp; done) | (simp [*]; done), by repeat (first | exact Drawn0.refl _ | apply Drawn0.step)⟩
      · rw [if_neg c5] at H
        exact absurd H (by simp)
    · rw [if_neg c4] at H
      exact absurd H (by simp)
  · rw [if_neg c3] at H
    have c3b0 : decide ((a1.size : Int) ≤ (a0.size : Int)) = false := decide_eq_false c3
    have c3b1 : decide (a1.size ≤ a0.size) = false := decide_eq_false (fun h => c3 (Int.ofNat_le.mpr h))
    clear c3
    obtain rfl := Option.some.inj H
    go_enter Tryd.func98, Tryd.ntmps98
    go_wp2
    go_ret
    exact ⟨by first | rfl | (simp; done) | (simp [*]; done), by repeat (first | exact Drawn0.refl _ | apply Drawn0.step)⟩

end Go.Proofs.YtcckamdpncbkoaaDoor.G
