/- Texts of this session for the law FnExactJoinNames, put together by a program (merge.py): each ends with its namespace; conditions stand with each theorem. -/
import Derived.Test.YtcckamdpncbkoabDoorKFnExactJoinNames2
import Derived.Test.YtcckamdpncbkoabDoorKFnExactJoinNames4
import Derived.Test.YtcckamdpncbkoabDoorKFnExactJoinNames3
namespace Go.Proofs.YtcckamdpncbkoabDoor.G
open Go.RowKit Go.Proofs.YtcckamdpncbkoabDoorW.PrintWords Go.Proofs.YtcckamdpncbkoabDoorW.PrintLast Go.Proofs.YtcckamdpncbkoabDoorW.PrintMore
open Go.Proofs.YtcckamdpncbkoabDoor.Gl Go.Proofs.YtcckamdpncbkoabDoor.Ext
attribute [local go_sem] max2_int min2_int max_two min_two max_three min_three max_four min_four   -- for this text's walks alone
set_option linter.unusedVariables false
set_option linter.unusedSimpArgs false

/-! ### spec_l2May: function 93 -/
mutual
def spec_l2May.l0 : Nat → Int → List ByteArray → ByteArray → ByteArray → ByteArray → List ByteArray → ByteArray → ByteArray → ByteArray → Option (Bool)
  | 0, _, _, _, _, _, _, _, _, _ => none
  | k + 1, x5, x572000, x572001, x572002, x572003, x573000, x573001, x573002, x573003 => if x5 < (x572000.length : Int) then (spec_l2May.j1 k x5 (decide (x5 < (x573000.length : Int))) x572000 x572001 x572002 x572003 x573000 x573001 x573002 x573003) else (spec_l2May.j1 k x5 false x572000 x572001 x572002 x572003 x573000 x573001 x573002 x573003)
def spec_l2May.j1 : Nat → Int → Bool → List ByteArray → ByteArray → ByteArray → ByteArray → List ByteArray → ByteArray → ByteArray → ByteArray → Option (Bool)
  | 0, _, _, _, _, _, _, _, _, _, _ => none
  | k + 1, x5, x17, x572000, x572001, x572002, x572003, x573000, x573001, x573002, x573003 => if x17 = true then (if 0 ≤ x5 then (if x5 < (x572000.length : Int) then (if x5 < (x573000.length : Int) then ((spec_l2Fits.f (rdOf ByteArray.empty x572000 x5) (rdOf ByteArray.empty x573000 x5)).bind fun t575 => (if t575 = true then (spec_l2May.l0 k (wrap64 (x5 + 1)) x572000 x572001 x572002 x572003 x573000 x573001 x573002 x573003) else (some false))) else (none)) else (none)) else (none)) else (if x572001.toList = x573001.toList then (if x572002.toList = x573002.toList then (some (x572003.toList == x573003.toList)) else (some false)) else (some false))
end
def spec_l2May.f (k : Nat) (l0_0 : List ByteArray) (a0_1 : ByteArray) (a0_2 : ByteArray) (a0_3 : ByteArray) (l1_0 : List ByteArray) (a1_1 : ByteArray) (a1_2 : ByteArray) (a1_3 : ByteArray) : Option (Bool) := spec_l2May.l0 k 0 l0_0 a0_1 a0_2 a0_3 l1_0 a1_1 a1_2 a1_3
theorem spec_l2May.mono_l : ∀ k, (∀ y0 y1 y2 y3 y4 y5 y6 y7 y8, LeO (spec_l2May.l0 k y0 y1 y2 y3 y4 y5 y6 y7 y8) (spec_l2May.l0 (k + 1) y0 y1 y2 y3 y4 y5 y6 y7 y8)) ∧ (∀ y0 y1 y2 y3 y4 y5 y6 y7 y8 y9, LeO (spec_l2May.j1 k y0 y1 y2 y3 y4 y5 y6 y7 y8 y9) (spec_l2May.j1 (k + 1) y0 y1 y2 y3 y4 y5 y6 y7 y8 y9))
  | 0 => ⟨fun _ _ _ _ _ _ _ _ _ r h => by simp [spec_l2May.l0] at h, fun _ _ _ _ _ _ _ _ _ _ r h => by simp [spec_l2May.j1] at h⟩
  | k + 1 => by
    obtain ⟨ih0, ih1⟩ := spec_l2May.mono_l k
    refine ⟨?_, ?_⟩
    · intro y0 y1 y2 y3 y4 y5 y6 y7 y8
      unfold spec_l2May.l0
      repeat' first
      | (with_reducible exact ih0 _ _ _ _ _ _ _ _ _)
      | (with_reducible exact ih1 _ _ _ _ _ _ _ _ _ _)
      | (with_reducible exact LeO.refl _)
      | (with_reducible exact LeO.none _)
      | (with_reducible refine LeO.ite ?_ ?_)
      | (with_reducible refine LeO.bind ?_ (fun _ => ?_))
      | exact ih0 _ _ _ _ _ _ _ _ _
      | exact ih1 _ _ _ _ _ _ _ _ _ _
      | exact LeO.none _
      | refine LeO.ite ?_ ?_
      | refine LeO.bind ?_ (fun _ => ?_)
    · intro y0 y1 y2 y3 y4 y5 y6 y7 y8 y9
      unfold spec_l2May.j1
      repeat' first
      | (with_reducible exact ih0 _ _ _ _ _ _ _ _ _)
      | (with_reducible exact ih1 _ _ _ _ _ _ _ _ _ _)
      | (with_reducible exact LeO.refl _)
      | (with_reducible exact LeO.none _)
      | (with_reducible refine LeO.ite ?_ ?_)
      | (with_reducible refine LeO.bind ?_ (fun _ => ?_))
      | exact ih0 _ _ _ _ _ _ _ _ _
      | exact ih1 _ _ _ _ _ _ _ _ _ _
      | exact LeO.none _
      | refine LeO.ite ?_ ?_
      | refine LeO.bind ?_ (fun _ => ?_)
theorem spec_l2May.mono : ∀ a0 a1 a2 a3 a4 a5 a6 a7 k, LeO (spec_l2May.f k a0 a1 a2 a3 a4 a5 a6 a7) (spec_l2May.f (k + 1) a0 a1 a2 a3 a4 a5 a6 a7) := by
  intro a0 a1 a2 a3 a4 a5 a6 a7 k
  obtain ⟨ih0, ih1⟩ := spec_l2May.mono_l k
  unfold spec_l2May.f
  repeat' first
      | (with_reducible exact ih0 _ _ _ _ _ _ _ _ _)
      | (with_reducible exact ih1 _ _ _ _ _ _ _ _ _ _)
      | (with_reducible exact LeO.refl _)
      | (with_reducible exact LeO.none _)
      | (with_reducible refine LeO.ite ?_ ?_)
      | (with_reducible refine LeO.bind ?_ (fun _ => ?_))
      | exact ih0 _ _ _ _ _ _ _ _ _
      | exact ih1 _ _ _ _ _ _ _ _ _ _
      | exact LeO.none _
      | refine LeO.ite ?_ ?_
      | refine LeO.bind ?_ (fun _ => ?_)
set_option maxHeartbeats 8000000 in
set_option maxRecDepth 100000 in
theorem spec_l2May.calls (k : Nat) (A0_0 : Option Addr) (c0_0 : Nat) (l0_0 : List ByteArray) (a0_1 : ByteArray) (a0_2 : ByteArray) (a0_3 : ByteArray) (A1_0 : Option Addr) (c1_0 : Nat) (l1_0 : List ByteArray) (a1_1 : ByteArray) (a1_2 : ByteArray) (a1_3 : ByteArray) (r : Bool) (w : World) (hr0_0 : Kd.C Kd.string w A0_0 l0_0.length l0_0) (hc0_0 : l0_0.length ≤ c0_0) (hr1_0 : Kd.C Kd.string w A1_0 l1_0.length l1_0) (hc1_0 : l1_0.length ≤ c1_0) (h : spec_l2May.f k l0_0 a0_1 a0_2 a0_3 l1_0 a1_1 a1_2 a1_3 = some r) :
    Calls Tryd.prog 93 #[.agg #[.slice A0_0 l0_0.length c0_0, .string a0_1, .string a0_2, .string a0_3], .agg #[.slice A1_0 l1_0.length c1_0, .string a1_1, .string a1_2, .string a1_3]] w fun e w' => e = .returned (.bool r) ∧ Below w.heap.size w w' := by
  have hu34 := Tryd.underlying34
  have HR0_0 := Aside0.mk hr0_0
  have HC0_0 := Aside0.mk hc0_0
  clear hr0_0 hc0_0
  have HR1_0 := Aside0.mk hr1_0
  have HC1_0 := Aside0.mk hc1_0
  clear hr1_0 hc1_0
  have HB := Aside0.mk (Below.refl w.heap.size w)
  have H : (spec_l2May.l0 k 0 l0_0 a0_1 a0_2 a0_3 l1_0 a1_1 a1_2 a1_3) = some r := h
  clear h
  have H' := Aside0.mk H
  clear H
  go_enter Tryd.func93, Tryd.ntmps93
  go_wp2_with (first | ((with_reducible refine gate_dst (N := 2) rfl ?_); (try (refine gate_guard (by rfl) ?_; dsimp only)); refine box_event ?hg (N := 2) ?hd (cs := #[.slice A0_0 l0_0.length c0_0, .string a0_1, .string a0_2, .string a0_3]) (t := 34) ?hr ?_; (case hd => rfl); (case hg => rfl); (case hr => first | (go_simp; done) | (go_simp; rfl)); intro gb571 hg w3 hbox hb; have n0_ := Aside0.mk (below_step (by repeat (first | (with_reducible first | exact HB.out | apply below_alloc | apply pw_below_drewN | apply below_drew1) | exact HB.out)) hb); have n1_ := Aside0.mk (hbox); have n2_ := Aside0.mk ((by rw [hg]; exact (below_size (by repeat (first | (with_reducible first | exact HB.out | apply below_alloc | apply pw_below_drewN | apply below_drew1) | exact HB.out))) : w.heap.size ≤ gb571)); have n3_ := Aside0.mk ((by rw [hg]; exact (below_size (by repeat (first | (with_reducible first | exact HB.out | apply below_alloc | apply pw_below_drewN | apply below_drew1) | exact HB.out))) : w.heap.size ≤ gb571)); clear HB; have HB := n0_; have BK571 := n1_; have GW571 := n2_; have GE571 := n3_; clear n0_ n1_ n2_ n3_; clear hb hbox hg) | ((with_reducible refine gate_dst (N := 3) rfl ?_); (try (refine gate_guard (by rfl) ?_; dsimp only)); refine box_event ?hg (N := 3) ?hd (cs := #[.slice A1_0 l1_0.length c1_0, .string a1_1, .string a1_2, .string a1_3]) (t := 34) ?hr ?_; (case hd => rfl); (case hg => rfl); (case hr => first | (go_simp; done) | (go_simp; rfl)); intro gb572 hg w4 hbox hb; have n0_ := Aside0.mk (blk_below (g := gb571) (o := .cells #[.slice A0_0 l0_0.length c0_0, .string a0_1, .string a0_2, .string a0_3] 34 (0, 0)) (by (with_reducible repeat (first | refine blk_drewN ?_ _ | refine blk_drew ?_ | refine blk_alloc ?_ _)); exact BK571.out) hb); have n1_ := Aside0.mk (below_step (by repeat (first | (with_reducible first | exact HB.out | apply below_alloc | apply pw_below_drewN | apply below_drew1 | refine below_set ?_ GE571.out) | exact HB.out)) hb); have n2_ := Aside0.mk (hbox); have n3_ := Aside0.mk ((by rw [hg]; exact (below_size (by repeat (first | (with_reducible first | exact HB.out | apply below_alloc | apply pw_below_drewN | apply below_drew1 | refine below_set ?_ GE571.out) | exact HB.out))) : w.heap.size ≤ gb572)); have n4_ := Aside0.mk ((by rw [hg]; exact (below_size (by repeat (first | (with_reducible first | exact HB.out | apply below_alloc | apply pw_below_drewN | apply below_drew1 | refine below_set ?_ GE571.out) | exact HB.out))) : w.heap.size ≤ gb572)); have n5_ := Aside0.mk ((by rw [hg]; exact Nat.ne_of_lt (blk_lt (g := gb571) (o := .cells #[.slice A0_0 l0_0.length c0_0, .string a0_1, .string a0_2, .string a0_3] 34 (0, 0)) (by (with_reducible repeat (first | refine blk_drewN ?_ _ | refine blk_drew ?_ | refine blk_alloc ?_ _)); exact BK571.out)) : gb571 ≠ gb572)); have n6_ := Aside0.mk ((by rw [hg]; exact Nat.ne_of_gt (blk_lt (g := gb571) (o := .cells #[.slice A0_0 l0_0.length c0_0, .string a0_1, .string a0_2, .string a0_3] 34 (0, 0)) (by (with_reducible repeat (first | refine blk_drewN ?_ _ | refine blk_drew ?_ | refine blk_alloc ?_ _)); exact BK571.out)) : gb572 ≠ gb571)); clear BK571; clear HB; have BK571 := n0_; have HB := n1_; have BK572 := n2_; have GW572 := n3_; have GE572 := n4_; have NB571_572 := n5_; have NB572_571 := n6_; clear n0_ n1_ n2_ n3_ n4_ n5_ n6_; clear hb hbox hg))
  repeat (go_quiet (first | ((with_reducible refine gate_dst (N := 2) rfl ?_); (try (refine gate_guard (by rfl) ?_; dsimp only)); refine box_event ?hg (N := 2) ?hd (cs := #[.slice A0_0 l0_0.length c0_0, .string a0_1, .string a0_2, .string a0_3]) (t := 34) ?hr ?_; (case hd => rfl); (case hg => rfl); (case hr => first | (go_simp; done) | (go_simp; rfl)); intro gb571 hg w3 hbox hb; have n0_ := Aside0.mk (below_step (by repeat (first | (with_reducible first | exact HB.out | apply below_alloc | apply pw_below_drewN | apply below_drew1) | exact HB.out)) hb); have n1_ := Aside0.mk (hbox); have n2_ := Aside0.mk ((by rw [hg]; exact (below_size (by repeat (first | (with_reducible first | exact HB.out | apply below_alloc | apply pw_below_drewN | apply below_drew1) | exact HB.out))) : w.heap.size ≤ gb571)); have n3_ := Aside0.mk ((by rw [hg]; exact (below_size (by repeat (first | (with_reducible first | exact HB.out | apply below_alloc | apply pw_below_drewN | apply below_drew1) | exact HB.out))) : w.heap.size ≤ gb571)); clear HB; have HB := n0_; have BK571 := n1_; have GW571 := n2_; have GE571 := n3_; clear n0_ n1_ n2_ n3_; clear hb hbox hg) | ((with_reducible refine gate_dst (N := 3) rfl ?_); (try (refine gate_guard (by rfl) ?_; dsimp only)); refine box_event ?hg (N := 3) ?hd (cs := #[.slice A1_0 l1_0.length c1_0, .string a1_1, .string a1_2, .string a1_3]) (t := 34) ?hr ?_; (case hd => rfl); (case hg => rfl); (case hr => first | (go_simp; done) | (go_simp; rfl)); intro gb572 hg w4 hbox hb; have n0_ := Aside0.mk (blk_below (g := gb571) (o := .cells #[.slice A0_0 l0_0.length c0_0, .string a0_1, .string a0_2, .string a0_3] 34 (0, 0)) (by (with_reducible repeat (first | refine blk_drewN ?_ _ | refine blk_drew ?_ | refine blk_alloc ?_ _)); exact BK571.out) hb); have n1_ := Aside0.mk (below_step (by repeat (first | (with_reducible first | exact HB.out | apply below_alloc | apply pw_below_drewN | apply below_drew1 | refine below_set ?_ GE571.out) | exact HB.out)) hb); have n2_ := Aside0.mk (hbox); have n3_ := Aside0.mk ((by rw [hg]; exact (below_size (by repeat (first | (with_reducible first | exact HB.out | apply below_alloc | apply pw_below_drewN | apply below_drew1 | refine below_set ?_ GE571.out) | exact HB.out))) : w.heap.size ≤ gb572)); have n4_ := Aside0.mk ((by rw [hg]; exact (below_size (by repeat (first | (with_reducible first | exact HB.out | apply below_alloc | apply pw_below_drewN | apply below_drew1 | refine below_set ?_ GE571.out) | exact HB.out))) : w.heap.size ≤ gb572)); have n5_ := Aside0.mk ((by rw [hg]; exact Nat.ne_of_lt (blk_lt (g := gb571) (o := .cells #[.slice A0_0 l0_0.length c0_0, .string a0_1, .string a0_2, .string a0_3] 34 (0, 0)) (by (with_reducible repeat (first | refine blk_drewN ?_ _ | refine blk_drew ?_ | refine blk_alloc ?_ _)); exact BK571.out)) : gb571 ≠ gb572)); have n6_ := Aside0.mk ((by rw [hg]; exact Nat.ne_of_gt (blk_lt (g := gb571) (o := .cells #[.slice A0_0 l0_0.length c0_0, .string a0_1, .string a0_2, .string a0_3] 34 (0, 0)) (by (with_reducible repeat (first | refine blk_drewN ?_ _ | refine blk_drew ?_ | refine blk_alloc ?_ _)); exact BK571.out)) : gb572 ≠ gb571)); clear BK571; clear HB; have BK571 := n0_; have HB := n1_; have BK572 := n2_; have GW572 := n3_; have GE572 := n4_; have NB571_572 := n5_; have NB572_571 := n6_; clear n0_ n1_ n2_ n3_ n4_ n5_ n6_; clear hb hbox hg)); try go_wp2_with (first | ((with_reducible refine gate_dst (N := 2) rfl ?_); (try (refine gate_guard (by rfl) ?_; dsimp only)); refine box_event ?hg (N := 2) ?hd (cs := #[.slice A0_0 l0_0.length c0_0, .string a0_1, .string a0_2, .string a0_3]) (t := 34) ?hr ?_; (case hd => rfl); (case hg => rfl); (case hr => first | (go_simp; done) | (go_simp; rfl)); intro gb571 hg w3 hbox hb; have n0_ := Aside0.mk (below_step (by repeat (first | (with_reducible first | exact HB.out | apply below_alloc | apply pw_below_drewN | apply below_drew1) | exact HB.out)) hb); have n1_ := Aside0.mk (hbox); have n2_ := Aside0.mk ((by rw [hg]; exact (below_size (by repeat (first | (with_reducible first | exact HB.out | apply below_alloc | apply pw_below_drewN | apply below_drew1) | exact HB.out))) : w.heap.size ≤ gb571)); have n3_ := Aside0.mk ((by rw [hg]; exact (below_size (by repeat (first | (with_reducible first | exact HB.out | apply below_alloc | apply pw_below_drewN | apply below_drew1) | exact HB.out))) : w.heap.size ≤ gb571)); clear HB; have HB := n0_; have BK571 := n1_; have GW571 := n2_; have GE571 := n3_; clear n0_ n1_ n2_ n3_; clear hb hbox hg) | ((with_reducible refine gate_dst (N := 3) rfl ?_); (try (refine gate_guard (by rfl) ?_; dsimp only)); refine box_event ?hg (N := 3) ?hd (cs := #[.slice A1_0 l1_0.length c1_0, .string a1_1, .string a1_2, .string a1_3]) (t := 34) ?hr ?_; (case hd => rfl); (case hg => rfl); (case hr => first | (go_simp; done) | (go_simp; rfl)); intro gb572 hg w4 hbox hb; have n0_ := Aside0.mk (blk_below (g := gb571) (o := .cells #[.slice A0_0 l0_0.length c0_0, .string a0_1, .string a0_2, .string a0_3] 34 (0, 0)) (by (with_reducible repeat (first | refine blk_drewN ?_ _ | refine blk_drew ?_ | refine blk_alloc ?_ _)); exact BK571.out) hb); have n1_ := Aside0.mk (below_step (by repeat (first | (with_reducible first | exact HB.out | apply below_alloc | apply pw_below_drewN | apply below_drew1 | refine below_set ?_ GE571.out) | exact HB.out)) hb); have n2_ := Aside0.mk (hbox); have n3_ := Aside0.mk ((by rw [hg]; exact (below_size (by repeat (first | (with_reducible first | exact HB.out | apply below_alloc | apply pw_below_drewN | apply below_drew1 | refine below_set ?_ GE571.out) | exact HB.out))) : w.heap.size ≤ gb572)); have n4_ := Aside0.mk ((by rw [hg]; exact (below_size (by repeat (first | (with_reducible first | exact HB.out | apply below_alloc | apply pw_below_drewN | apply below_drew1 | refine below_set ?_ GE571.out) | exact HB.out))) : w.heap.size ≤ gb572)); have n5_ := Aside0.mk ((by rw [hg]; exact Nat.ne_of_lt (blk_lt (g := gb571) (o := .cells #[.slice A0_0 l0_0.length c0_0, .string a0_1, .string a0_2, .string a0_3] 34 (0, 0)) (by (with_reducible repeat (first | refine blk_drewN ?_ _ | refine blk_drew ?_ | refine blk_alloc ?_ _)); exact BK571.out)) : gb571 ≠ gb572)); have n6_ := Aside0.mk ((by rw [hg]; exact Nat.ne_of_gt (blk_lt (g := gb571) (o := .cells #[.slice A0_0 l0_0.length c0_0, .string a0_1, .string a0_2, .string a0_3] 34 (0, 0)) (by (with_reducible repeat (first | refine blk_drewN ?_ _ | refine blk_drew ?_ | refine blk_alloc ?_ _)); exact BK571.out)) : gb572 ≠ gb571)); clear BK571; clear HB; have BK571 := n0_; have HB := n1_; have BK572 := n2_; have GW572 := n3_; have GE572 := n4_; have NB571_572 := n5_; have NB572_571 := n6_; clear n0_ n1_ n2_ n3_ n4_ n5_ n6_; clear hb hbox hg)))
  go_loopg [5] k (fun kq v5 w' => ∃ (x5_1 : Int), v5 = .int .i64 x5_1 ∧ Aside0 (spec_l2May.l0 kq x5_1 l0_0 a0_1 a0_2 a0_3 l1_0 a1_1 a1_2 a1_3 = some r) ∧ Aside0 (kq ≤ k) ∧ Aside0 (w'.heap[gb571]? = some (.cells #[(.slice A0_0 l0_0.length c0_0), .string a0_1, .string a0_2, .string a0_3] 34 (0, 0))) ∧ Aside0 (w'.heap[gb572]? = some (.cells #[(.slice A1_0 l1_0.length c1_0), .string a1_1, .string a1_2, .string a1_3] 34 (0, 0))) ∧ Aside0 (Below w.heap.size w w'))
  case atStart => exact ⟨(0), (by first | rfl | (simp; done) | (simp [*]; done)), H', ⟨Nat.le_refl _⟩, ⟨by (with_reducible repeat (first | refine blk_drewN ?_ _ | refine blk_drew ?_ | refine blk_alloc ?_ _)); exact BK571.out⟩, ⟨by (with_reducible repeat (first | refine blk_drewN ?_ _ | refine blk_drew ?_ | refine blk_alloc ?_ _)); exact BK572.out⟩, ⟨by repeat (first | (with_reducible first | exact HB.out | apply below_alloc | apply pw_below_drewN | apply below_drew1 | refine below_set ?_ GE571.out | refine below_set ?_ GE572.out) | exact HB.out)⟩⟩
  case round =>
    clear H'
    try clear c1
    try clear p2
    obtain ⟨x5_1, rfl, HA, HK1, BK571, BK572, HB⟩ := hrel
    cases gk with
    | zero => exact absurd HA.out (by simp [spec_l2May.l0])
    | succ k1 =>
      have H := HA.out
      clear HA
      simp only [spec_l2May.l0] at H
      have HC5 := Aside0.mk H
      clear H
      go_upto_region 2 with (fail)
      repeat (go_quiet (fail); go_upto_region 2 with (fail))
      go_cut [17] (fun v17 wc => ∃ (kq : Nat) (x17_4 : Bool), v17 = .bool x17_4 ∧ Aside0 (spec_l2May.j1 kq x5_1 x17_4 l0_0 a0_1 a0_2 a0_3 l1_0 a1_1 a1_2 a1_3 = some r) ∧ Aside0 (kq ≤ k1) ∧ Aside0 (wc.heap[gb571]? = some (.cells #[(.slice A0_0 l0_0.length c0_0), .string a0_1, .string a0_2, .string a0_3] 34 (0, 0))) ∧ Aside0 (wc.heap[gb572]? = some (.cells #[(.slice A1_0 l1_0.length c1_0), .string a1_1, .string a1_2, .string a1_3] 34 (0, 0))) ∧ Aside0 (Below w.heap.size w wc))
      case first =>
        have H := HC5.out
        clear HC5
        by_cases c6 : x5_1 < (l0_0.length : Int)
        · rw [if_pos c6] at H
          have c6b0 : decide (x5_1 < (l0_0.length : Int)) = true := decide_eq_true c6
          clear c6
          (first | rw [c6b0] | (simp only [i64_w, i32_w]; rw [c6b0]) | skip)
          have H' := Aside0.mk H
          clear H
          have hnb7 := NB571_572.out
          have hnc7 := NB572_571.out
          have hcz8_0 : wr.cell? ⟨gb571, 0, none⟩ = some (.slice A0_0 l0_0.length c0_0) := (blk_cell BK571.out 0).trans rfl
          have hcz8_1 : wr.cell? ⟨gb571, 1, none⟩ = some (.string a0_1) := (blk_cell BK571.out 1).trans rfl
          have hcz8_2 : wr.cell? ⟨gb571, 2, none⟩ = some (.string a0_2) := (blk_cell BK571.out 2).trans rfl
          have hcz8_3 : wr.cell? ⟨gb571, 3, none⟩ = some (.string a0_3) := (blk_cell BK571.out 3).trans rfl
          have hfz8_0 := blk_frozen BK571.out 0
          have hfz8_1 := blk_frozen BK571.out 1
          have hfz8_2 := blk_frozen BK571.out 2
          have hfz8_3 := blk_frozen BK571.out 3
          have hcz9_0 : wr.cell? ⟨gb572, 0, none⟩ = some (.slice A1_0 l1_0.length c1_0) := (blk_cell BK572.out 0).trans rfl
          have hcz9_1 : wr.cell? ⟨gb572, 1, none⟩ = some (.string a1_1) := (blk_cell BK572.out 1).trans rfl
          have hcz9_2 : wr.cell? ⟨gb572, 2, none⟩ = some (.string a1_2) := (blk_cell BK572.out 2).trans rfl
          have hcz9_3 : wr.cell? ⟨gb572, 3, none⟩ = some (.string a1_3) := (blk_cell BK572.out 3).trans rfl
          have hfz9_0 := blk_frozen BK572.out 0
          have hfz9_1 := blk_frozen BK572.out 1
          have hfz9_2 := blk_frozen BK572.out 2
          have hfz9_3 := blk_frozen BK572.out 3
          go_wp2
          repeat (go_quiet (fail); try go_wp2)
          go_meet
          case rel => exact ⟨_, (decide (x5_1 < (l1_0.length : Int))), (by first | rfl | (simp; done) | (simp [*]; done)), H', ⟨by have := HK1.out; first | omega | exact Nat.le_refl _⟩, ⟨by (with_reducible repeat (first | refine blk_drewN ?_ _ | refine blk_drew ?_ | refine blk_alloc ?_ _)); exact BK571.out⟩, ⟨by (with_reducible repeat (first | refine blk_drewN ?_ _ | refine blk_drew ?_ | refine blk_alloc ?_ _)); exact BK572.out⟩, ⟨by repeat (first | (with_reducible first | exact HB.out | apply below_alloc | apply pw_below_drewN | apply below_drew1 | refine below_set ?_ GE571.out | refine below_set ?_ GE572.out) | exact HB.out)⟩⟩
        · rw [if_neg c6] at H
          have c6b0 : decide (x5_1 < (l0_0.length : Int)) = false := decide_eq_false c6
          clear c6
          (first | rw [c6b0] | (simp only [i64_w, i32_w]; rw [c6b0]) | skip)
          have H' := Aside0.mk H
          clear H
          have hnb10 := NB571_572.out
          have hnc10 := NB572_571.out
          have hcz11_0 : wr.cell? ⟨gb571, 0, none⟩ = some (.slice A0_0 l0_0.length c0_0) := (blk_cell BK571.out 0).trans rfl
          have hcz11_1 : wr.cell? ⟨gb571, 1, none⟩ = some (.string a0_1) := (blk_cell BK571.out 1).trans rfl
          have hcz11_2 : wr.cell? ⟨gb571, 2, none⟩ = some (.string a0_2) := (blk_cell BK571.out 2).trans rfl
          have hcz11_3 : wr.cell? ⟨gb571, 3, none⟩ = some (.string a0_3) := (blk_cell BK571.out 3).trans rfl
          have hfz11_0 := blk_frozen BK571.out 0
          have hfz11_1 := blk_frozen BK571.out 1
          have hfz11_2 := blk_frozen BK571.out 2
          have hfz11_3 := blk_frozen BK571.out 3
          go_wp2
          repeat (go_quiet (fail); try go_wp2)
          go_meet
          case rel => exact ⟨_, (false), (by first | rfl | (simp; done) | (simp [*]; done)), H', ⟨by have := HK1.out; first | omega | exact Nat.le_refl _⟩, ⟨by (with_reducible repeat (first | refine blk_drewN ?_ _ | refine blk_drew ?_ | refine blk_alloc ?_ _)); exact BK571.out⟩, ⟨by (with_reducible repeat (first | refine blk_drewN ?_ _ | refine blk_drew ?_ | refine blk_alloc ?_ _)); exact BK572.out⟩, ⟨by repeat (first | (with_reducible first | exact HB.out | apply below_alloc | apply pw_below_drewN | apply below_drew1 | refine below_set ?_ GE571.out | refine below_set ?_ GE572.out) | exact HB.out)⟩⟩
      case rest =>
        clear HC5
        try clear c1
        try clear p2
        try clear c6
        try clear c6b0
        try clear c7
        try clear c9
        try clear c10
        try clear hcz11_0
        try clear hcz11_1
        try clear hcz11_2
        try clear hcz11_3
        try clear hcz8_0
        try clear hcz8_1
        try clear hcz8_2
        try clear hcz8_3
        try clear hcz9_0
        try clear hcz9_1
        try clear hcz9_2
        try clear hcz9_3
        try clear hfz11_0
        try clear hfz11_1
        try clear hfz11_2
        try clear hfz11_3
        try clear hfz8_0
        try clear hfz8_1
        try clear hfz8_2
        try clear hfz8_3
        try clear hfz9_0
        try clear hfz9_1
        try clear hfz9_2
        try clear hfz9_3
        try clear p2
        obtain ⟨kq, x17_4, rfl, HA, HJ4, BK571, BK572, HB⟩ := hcut
        cases kq with
        | zero => exact absurd HA.out (by simp [spec_l2May.j1])
        | succ kj4 =>
          have H := HA.out
          clear HA
          simp only [spec_l2May.j1] at H
          by_cases c12 : x17_4 = true
          · subst c12
            have H1 : (if 0 ≤ x5_1 then (if x5_1 < (l0_0.length : Int) then (if x5_1 < (l1_0.length : Int) then ((spec_l2Fits.f (rdOf ByteArray.empty l0_0 x5_1) (rdOf ByteArray.empty l1_0 x5_1)).bind fun t575 => (if t575 = true then (spec_l2May.l0 kj4 (wrap64 (x5_1 + 1)) l0_0 a0_1 a0_2 a0_3 l1_0 a1_1 a1_2 a1_3) else (some false))) else (none)) else (none)) else (none)) = some r := by rw [if_pos rfl] at H; exact H
            clear H
            have H := H1
            clear H1
            by_cases c13 : 0 ≤ x5_1
            · rw [if_pos c13] at H
              have c13b0 : decide (0 ≤ x5_1) = true := decide_eq_true c13
              clear c13
              by_cases c14 : x5_1 < (l0_0.length : Int)
              · rw [if_pos c14] at H
                have c14b0 : decide (x5_1 < (l0_0.length : Int)) = true := decide_eq_true c14
                clear c14
                by_cases c15 : x5_1 < (l1_0.length : Int)
                · rw [if_pos c15] at H
                  have c15b0 : decide (x5_1 < (l1_0.length : Int)) = true := decide_eq_true c15
                  clear c15
                  replace H := Option.bind_eq_some_iff.mp H
                  obtain ⟨t575, A160, H⟩ := H
                  replace H : (if t575 = true then (spec_l2May.l0 kj4 (wrap64 (x5_1 + 1)) l0_0 a0_1 a0_2 a0_3 l1_0 a1_1 a1_2 a1_3) else (some false)) = some r := H
                  have A16 := Aside0.mk A160
                  clear A160
                  by_cases c17 : t575 = true
                  · subst c17
                    have H1 : (spec_l2May.l0 kj4 (wrap64 (x5_1 + 1)) l0_0 a0_1 a0_2 a0_3 l1_0 a1_1 a1_2 a1_3) = some r := by rw [if_pos rfl] at H; exact H
                    clear H
                    have H := H1
                    clear H1
                    have H' := Aside0.mk H
                    clear H
                    have hnb18 := NB571_572.out
                    have hnc18 := NB572_571.out
                    have hcz19_0 : wc.cell? ⟨gb571, 0, none⟩ = some (.slice A0_0 l0_0.length c0_0) := (blk_cell BK571.out 0).trans rfl
                    have hcz19_1 : wc.cell? ⟨gb571, 1, none⟩ = some (.string a0_1) := (blk_cell BK571.out 1).trans rfl
                    have hcz19_2 : wc.cell? ⟨gb571, 2, none⟩ = some (.string a0_2) := (blk_cell BK571.out 2).trans rfl
                    have hcz19_3 : wc.cell? ⟨gb571, 3, none⟩ = some (.string a0_3) := (blk_cell BK571.out 3).trans rfl
                    have hfz19_0 := blk_frozen BK571.out 0
                    have hfz19_1 := blk_frozen BK571.out 1
                    have hfz19_2 := blk_frozen BK571.out 2
                    have hfz19_3 := blk_frozen BK571.out 3
                    have p573 : 0 ≤ (x5_1 : Int) := of_decide_eq_true (by first | (with_reducible assumption) | assumption)
                    have q573 : x5_1 < (l0_0.length : Int) := of_decide_eq_true (by first | (with_reducible assumption) | assumption)
                    obtain ⟨ad573, e573, hx573_0⟩ := Kd.at_string HR0_0.out x5_1 p573 q573
                    cases e573
                    replace hx573_0 := (HB.out.cell (World.block_lt_of_cell? w _ hx573_0)).trans hx573_0
                    replace p573 := eq_true p573
                    replace q573 := eq_true q573
                    have hcz20_0 : wc.cell? ⟨gb572, 0, none⟩ = some (.slice A1_0 l1_0.length c1_0) := (blk_cell BK572.out 0).trans rfl
                    have hcz20_1 : wc.cell? ⟨gb572, 1, none⟩ = some (.string a1_1) := (blk_cell BK572.out 1).trans rfl
                    have hcz20_2 : wc.cell? ⟨gb572, 2, none⟩ = some (.string a1_2) := (blk_cell BK572.out 2).trans rfl
                    have hcz20_3 : wc.cell? ⟨gb572, 3, none⟩ = some (.string a1_3) := (blk_cell BK572.out 3).trans rfl
                    have hfz20_0 := blk_frozen BK572.out 0
                    have hfz20_1 := blk_frozen BK572.out 1
                    have hfz20_2 := blk_frozen BK572.out 2
                    have hfz20_3 := blk_frozen BK572.out 3
                    have p574 : 0 ≤ (x5_1 : Int) := of_decide_eq_true (by first | (with_reducible assumption) | assumption)
                    have q574 : x5_1 < (l1_0.length : Int) := of_decide_eq_true (by first | (with_reducible assumption) | assumption)
                    obtain ⟨ad574, e574, hx574_0⟩ := Kd.at_string HR1_0.out x5_1 p574 q574
                    cases e574
                    replace hx574_0 := (HB.out.cell (World.block_lt_of_cell? w _ hx574_0)).trans hx574_0
                    replace p574 := eq_true p574
                    replace q574 := eq_true q574
                    go_wp2_with (first | (go_at_call 146; (with_reducible refine (spec_l2Fits.calls (rdOf ByteArray.empty l0_0 x5_1) (rdOf ByteArray.empty l1_0 x5_1) true _ A16.out).mono ?_); rintro e w' ⟨rfl, ⟨nd, rfl⟩⟩; (try first | exact ⟨rfl, _, World.drewN_drewN _ _ _⟩ | exact ⟨rfl, _, Eq.trans (World.drewN_drewN _ _ _) (congrArg (World.drewN _) (Nat.add_assoc _ _ _))⟩)))
                    repeat (go_quiet (first | (go_at_call 146; (with_reducible refine (spec_l2Fits.calls (rdOf ByteArray.empty l0_0 x5_1) (rdOf ByteArray.empty l1_0 x5_1) true _ A16.out).mono ?_); rintro e w' ⟨rfl, ⟨nd, rfl⟩⟩; (try first | exact ⟨rfl, _, World.drewN_drewN _ _ _⟩ | exact ⟨rfl, _, Eq.trans (World.drewN_drewN _ _ _) (congrArg (World.drewN _) (Nat.add_assoc _ _ _))⟩))); try go_wp2_with (first | (go_at_call 146; (with_reducible refine (spec_l2Fits.calls (rdOf ByteArray.empty l0_0 x5_1) (rdOf ByteArray.empty l1_0 x5_1) true _ A16.out).mono ?_); rintro e w' ⟨rfl, ⟨nd, rfl⟩⟩; (try first | exact ⟨rfl, _, World.drewN_drewN _ _ _⟩ | exact ⟨rfl, _, Eq.trans (World.drewN_drewN _ _ _) (congrArg (World.drewN _) (Nat.add_assoc _ _ _))⟩))))
                    go_roundg kj4
                    case measure => have := HK1.out; have := HJ4.out; omega
                    case rel => exact ⟨(wrap64 (x5_1 + 1)), (by first | rfl | (simp; done) | (simp [*]; done)), H', ⟨by have := HK1.out; have := HJ4.out; omega⟩, ⟨by (with_reducible repeat (first | refine blk_drewN ?_ _ | refine blk_drew ?_ | refine blk_alloc ?_ _)); exact BK571.out⟩, ⟨by (with_reducible repeat (first | refine blk_drewN ?_ _ | refine blk_drew ?_ | refine blk_alloc ?_ _)); exact BK572.out⟩, ⟨by repeat (first | (with_reducible first | exact HB.out | apply below_alloc | apply pw_below_drewN | apply below_drew1 | refine below_set ?_ GE571.out | refine below_set ?_ GE572.out) | exact HB.out)⟩⟩
                  · replace c17 := Bool.eq_false_iff.mpr c17
                    subst c17
                    have H1 : (some false) = some r := by rw [if_neg (show ¬ (false = true) by decide)] at H; exact H
                    clear H
                    have H := H1
                    clear H1
                    obtain rfl := Option.some.inj H
                    have hnb21 := NB571_572.out
                    have hnc21 := NB572_571.out
                    have hcz22_0 : wc.cell? ⟨gb571, 0, none⟩ = some (.slice A0_0 l0_0.length c0_0) := (blk_cell BK571.out 0).trans rfl
                    have hcz22_1 : wc.cell? ⟨gb571, 1, none⟩ = some (.string a0_1) := (blk_cell BK571.out 1).trans rfl
                    have hcz22_2 : wc.cell? ⟨gb571, 2, none⟩ = some (.string a0_2) := (blk_cell BK571.out 2).trans rfl
                    have hcz22_3 : wc.cell? ⟨gb571, 3, none⟩ = some (.string a0_3) := (blk_cell BK571.out 3).trans rfl
                    have hfz22_0 := blk_frozen BK571.out 0
                    have hfz22_1 := blk_frozen BK571.out 1
                    have hfz22_2 := blk_frozen BK571.out 2
                    have hfz22_3 := blk_frozen BK571.out 3
                    have p573 : 0 ≤ (x5_1 : Int) := of_decide_eq_true (by first | (with_reducible assumption) | assumption)
                    have q573 : x5_1 < (l0_0.length : Int) := of_decide_eq_true (by first | (with_reducible assumption) | assumption)
                    obtain ⟨ad573, e573, hx573_0⟩ := Kd.at_string HR0_0.out x5_1 p573 q573
                    cases e573
                    replace hx573_0 := (HB.out.cell (World.block_lt_of_cell? w _ hx573_0)).trans hx573_0
                    replace p573 := eq_true p573
                    replace q573 := eq_true q573
                    have hcz23_0 : wc.cell? ⟨gb572, 0, none⟩ = some (.slice A1_0 l1_0.length c1_0) := (blk_cell BK572.out 0).trans rfl
                    have hcz23_1 : wc.cell? ⟨gb572, 1, none⟩ = some (.string a1_1) := (blk_cell BK572.out 1).trans rfl
                    have hcz23_2 : wc.cell? ⟨gb572, 2, none⟩ = some (.string a1_2) := (blk_cell BK572.out 2).trans rfl
                    have hcz23_3 : wc.cell? ⟨gb572, 3, none⟩ = some (.string a1_3) := (blk_cell BK572.out 3).trans rfl
                    have hfz23_0 := blk_frozen BK572.out 0
                    have hfz23_1 := blk_frozen BK572.out 1
                    have hfz23_2 := blk_frozen BK572.out 2
                    have hfz23_3 := blk_frozen BK572.out 3
                    have p574 : 0 ≤ (x5_1 : Int) := of_decide_eq_true (by first | (with_reducible assumption) | assumption)
                    have q574 : x5_1 < (l1_0.length : Int) := of_decide_eq_true (by first | (with_reducible assumption) | assumption)
                    obtain ⟨ad574, e574, hx574_0⟩ := Kd.at_string HR1_0.out x5_1 p574 q574
                    cases e574
                    replace hx574_0 := (HB.out.cell (World.block_lt_of_cell? w _ hx574_0)).trans hx574_0
                    replace p574 := eq_true p574
                    replace q574 := eq_true q574
                    go_wp2_with (first | (go_at_call 146; (with_reducible refine (spec_l2Fits.calls (rdOf ByteArray.empty l0_0 x5_1) (rdOf ByteArray.empty l1_0 x5_1) false _ A16.out).mono ?_); rintro e w' ⟨rfl, ⟨nd, rfl⟩⟩; (try first | exact ⟨rfl, _, World.drewN_drewN _ _ _⟩ | exact ⟨rfl, _, Eq.trans (World.drewN_drewN _ _ _) (congrArg (World.drewN _) (Nat.add_assoc _ _ _))⟩)))
                    repeat (go_quiet (first | (go_at_call 146; (with_reducible refine (spec_l2Fits.calls (rdOf ByteArray.empty l0_0 x5_1) (rdOf ByteArray.empty l1_0 x5_1) false _ A16.out).mono ?_); rintro e w' ⟨rfl, ⟨nd, rfl⟩⟩; (try first | exact ⟨rfl, _, World.drewN_drewN _ _ _⟩ | exact ⟨rfl, _, Eq.trans (World.drewN_drewN _ _ _) (congrArg (World.drewN _) (Nat.add_assoc _ _ _))⟩))); try go_wp2_with (first | (go_at_call 146; (with_reducible refine (spec_l2Fits.calls (rdOf ByteArray.empty l0_0 x5_1) (rdOf ByteArray.empty l1_0 x5_1) false _ A16.out).mono ?_); rintro e w' ⟨rfl, ⟨nd, rfl⟩⟩; (try first | exact ⟨rfl, _, World.drewN_drewN _ _ _⟩ | exact ⟨rfl, _, Eq.trans (World.drewN_drewN _ _ _) (congrArg (World.drewN _) (Nat.add_assoc _ _ _))⟩))))
                    go_ret
                    exact ⟨by first | rfl | (simp [errW_none, errW_some] <;> rfl) | (simp [*, errW_none, errW_some] <;> rfl), by repeat (first | (with_reducible first | exact HB.out | apply below_alloc | apply pw_below_drewN | apply below_drew1 | refine below_set ?_ GE571.out | refine below_set ?_ GE572.out) | exact HB.out)⟩
                · rw [if_neg c15] at H
                  exact absurd H (by simp)
              · rw [if_neg c14] at H
                exact absurd H (by simp)
            · rw [if_neg c13] at H
              exact absurd H (by simp)
          · replace c12 := Bool.eq_false_iff.mpr c12
            subst c12
            have H1 : (if a0_1.toList = a1_1.toList then (if a0_2.toList = a1_2.toList then (some (a0_3.toList == a1_3.toList)) else (some false)) else (some false)) = some r := by rw [if_neg (show ¬ (false = true) by decide)] at H; exact H
            clear H
            have H := H1
            clear H1
            by_cases c24 : a0_1.toList = a1_1.toList
            · rw [if_pos c24] at H
              have c24b0 : (a0_1.toList == a1_1.toList) = true := beq_iff_eq.mpr c24
              have c24b1 : (a0_1.toList != a1_1.toList) = false := bne_eq_false_iff_eq.mpr c24
              clear c24
              by_cases c25 : a0_2.toList = a1_2.toList
              · rw [if_pos c25] at H
                have c25b0 : (a0_2.toList == a1_2.toList) = true := beq_iff_eq.mpr c25
                have c25b1 : (a0_2.toList != a1_2.toList) = false := bne_eq_false_iff_eq.mpr c25
                clear c25
                obtain rfl := Option.some.inj H
                have hnb26 := NB571_572.out
                have hnc26 := NB572_571.out
                have hcz27_0 : wc.cell? ⟨gb571, 0, none⟩ = some (.slice A0_0 l0_0.length c0_0) := (blk_cell BK571.out 0).trans rfl
                have hcz27_1 : wc.cell? ⟨gb571, 1, none⟩ = some (.string a0_1) := (blk_cell BK571.out 1).trans rfl
                have hcz27_2 : wc.cell? ⟨gb571, 2, none⟩ = some (.string a0_2) := (blk_cell BK571.out 2).trans rfl
                have hcz27_3 : wc.cell? ⟨gb571, 3, none⟩ = some (.string a0_3) := (blk_cell BK571.out 3).trans rfl
                have hfz27_0 := blk_frozen BK571.out 0
                have hfz27_1 := blk_frozen BK571.out 1
                have hfz27_2 := blk_frozen BK571.out 2
                have hfz27_3 := blk_frozen BK571.out 3
                have hcz28_0 : wc.cell? ⟨gb572, 0, none⟩ = some (.slice A1_0 l1_0.length c1_0) := (blk_cell BK572.out 0).trans rfl
                have hcz28_1 : wc.cell? ⟨gb572, 1, none⟩ = some (.string a1_1) := (blk_cell BK572.out 1).trans rfl
                have hcz28_2 : wc.cell? ⟨gb572, 2, none⟩ = some (.string a1_2) := (blk_cell BK572.out 2).trans rfl
                have hcz28_3 : wc.cell? ⟨gb572, 3, none⟩ = some (.string a1_3) := (blk_cell BK572.out 3).trans rfl
                have hfz28_0 := blk_frozen BK572.out 0
                have hfz28_1 := blk_frozen BK572.out 1
                have hfz28_2 := blk_frozen BK572.out 2
                have hfz28_3 := blk_frozen BK572.out 3
                go_wp2
                repeat (go_quiet (fail); try go_wp2)
                go_ret
                exact ⟨by first | rfl | (simp [errW_none, errW_some] <;> rfl) | (simp [*, errW_none, errW_some] <;> rfl), by repeat (first | (with_reducible first | exact HB.out | apply below_alloc | apply pw_below_drewN | apply below_drew1 | refine below_set ?_ GE571.out | refine below_set ?_ GE572.out) | exact HB.out)⟩
              · rw [if_neg c25] at H
                have c25b0 : (a0_2.toList == a1_2.toList) = false := beq_eq_false_iff_ne.mpr c25
                have c25b1 : (a0_2.toList != a1_2.toList) = true := bne_iff_ne.mpr c25
                obtain rfl := Option.some.inj H
                have hnb29 := NB571_572.out
                have hnc29 := NB572_571.out
                have hcz30_0 : wc.cell? ⟨gb571, 0, none⟩ = some (.slice A0_0 l0_0.length c0_0) := (blk_cell BK571.out 0).trans rfl
                have hcz30_1 : wc.cell? ⟨gb571, 1, none⟩ = some (.string a0_1) := (blk_cell BK571.out 1).trans rfl
                have hcz30_2 : wc.cell? ⟨gb571, 2, none⟩ = some (.string a0_2) := (blk_cell BK571.out 2).trans rfl
                have hcz30_3 : wc.cell? ⟨gb571, 3, none⟩ = some (.string a0_3) := (blk_cell BK571.out 3).trans rfl
                have hfz30_0 := blk_frozen BK571.out 0
                have hfz30_1 := blk_frozen BK571.out 1
                have hfz30_2 := blk_frozen BK571.out 2
                have hfz30_3 := blk_frozen BK571.out 3
                have hcz31_0 : wc.cell? ⟨gb572, 0, none⟩ = some (.slice A1_0 l1_0.length c1_0) := (blk_cell BK572.out 0).trans rfl
                have hcz31_1 : wc.cell? ⟨gb572, 1, none⟩ = some (.string a1_1) := (blk_cell BK572.out 1).trans rfl
                have hcz31_2 : wc.cell? ⟨gb572, 2, none⟩ = some (.string a1_2) := (blk_cell BK572.out 2).trans rfl
                have hcz31_3 : wc.cell? ⟨gb572, 3, none⟩ = some (.string a1_3) := (blk_cell BK572.out 3).trans rfl
                have hfz31_0 := blk_frozen BK572.out 0
                have hfz31_1 := blk_frozen BK572.out 1
                have hfz31_2 := blk_frozen BK572.out 2
                have hfz31_3 := blk_frozen BK572.out 3
                go_wp2
                repeat (go_quiet (fail); try go_wp2)
                go_ret
                exact ⟨by first | rfl | (simp [errW_none, errW_some] <;> rfl) | (simp [*, errW_none, errW_some] <;> rfl), by repeat (first | (with_reducible first | exact HB.out | apply below_alloc | apply pw_below_drewN | apply below_drew1 | refine below_set ?_ GE571.out | refine below_set ?_ GE572.out) | exact HB.out)⟩
            · rw [if_neg c24] at H
              have c24b0 : (a0_1.toList == a1_1.toList) = false := beq_eq_false_iff_ne.mpr c24
              have c24b1 : (a0_1.toList != a1_1.toList) = true := bne_iff_ne.mpr c24
              obtain rfl := Option.some.inj H
              have hnb32 := NB571_572.out
              have hnc32 := NB572_571.out
              have hcz33_0 : wc.cell? ⟨gb571, 0, none⟩ = some (.slice A0_0 l0_0.length c0_0) := (blk_cell BK571.out 0).trans rfl
              have hcz33_1 : wc.cell? ⟨gb571, 1, none⟩ = some (.string a0_1) := (blk_cell BK571.out 1).trans rfl
              have hcz33_2 : wc.cell? ⟨gb571, 2, none⟩ = some (.string a0_2) := (blk_cell BK571.out 2).trans rfl
              have hcz33_3 : wc.cell? ⟨gb571, 3, none⟩ = some (.string a0_3) := (blk_cell BK571.out 3).trans rfl
              have hfz33_0 := blk_frozen BK571.out 0
              have hfz33_1 := blk_frozen BK571.out 1
              have hfz33_2 := blk_frozen BK571.out 2
              have hfz33_3 := blk_frozen BK571.out 3
              have hcz34_0 : wc.cell? ⟨gb572, 0, none⟩ = some (.slice A1_0 l1_0.length c1_0) := (blk_cell BK572.out 0).trans rfl
              have hcz34_1 : wc.cell? ⟨gb572, 1, none⟩ = some (.string a1_1) := (blk_cell BK572.out 1).trans rfl
              have hcz34_2 : wc.cell? ⟨gb572, 2, none⟩ = some (.string a1_2) := (blk_cell BK572.out 2).trans rfl
              have hcz34_3 : wc.cell? ⟨gb572, 3, none⟩ = some (.string a1_3) := (blk_cell BK572.out 3).trans rfl
              have hfz34_0 := blk_frozen BK572.out 0
              have hfz34_1 := blk_frozen BK572.out 1
              have hfz34_2 := blk_frozen BK572.out 2
              have hfz34_3 := blk_frozen BK572.out 3
              go_wp2
              repeat (go_quiet (fail); try go_wp2)
              go_ret
              exact ⟨by first | rfl | (simp [errW_none, errW_some] <;> rfl) | (simp [*, errW_none, errW_some] <;> rfl), by repeat (first | (with_reducible first | exact HB.out | apply below_alloc | apply pw_below_drewN | apply below_drew1 | refine below_set ?_ GE571.out | refine below_set ?_ GE572.out) | exact HB.out)⟩

end Go.Proofs.YtcckamdpncbkoabDoor.G

namespace Go.Proofs.YtcckamdpncbkoabDoor.G
open Go.RowKit Go.Proofs.YtcckamdpncbkoabDoorW.PrintWords Go.Proofs.YtcckamdpncbkoabDoorW.PrintLast Go.Proofs.YtcckamdpncbkoabDoorW.PrintMore
open Go.Proofs.YtcckamdpncbkoabDoor.Gl Go.Proofs.YtcckamdpncbkoabDoor.Ext
attribute [local go_sem] max2_int min2_int max_two min_two max_three min_three max_four min_four   -- for this text's walks alone
set_option linter.unusedVariables false
set_option linter.unusedSimpArgs false

/-! ### stringslite_HasPrefix: function 169 -/
def stringslite_HasPrefix.f (a0 : ByteArray) (a1 : ByteArray) : Option (Bool) := if (a0.size : Int) ≥ (a1.size : Int) then (if 0 ≤ (a1.size : Int) then (if (a1.size : Int) ≤ (a0.size : Int) then (some ((a0.extract 0 ((a1.size : Int) : Int).toNat).toList == a1.toList)) else (none)) else (none)) else (some false)
set_option maxHeartbeats 8000000 in
set_option maxRecDepth 100000 in
theorem stringslite_HasPrefix.calls (a0 : ByteArray) (a1 : ByteArray) (r : Bool) (w : World) (h : stringslite_HasPrefix.f a0 a1 = some r) :
    Calls Tryd.prog 169 #[.string a0, .string a1] w fun e w' => e = .returned (.bool r) ∧ Drawn0 w w' := by
  have H : (if (a0.size : Int) ≥ (a1.size : Int) then (if 0 ≤ (a1.size : Int) then (if (a1.size : Int) ≤ (a0.size : Int) then (some ((a0.extract 0 ((a1.size : Int) : Int).toNat).toList == a1.toList)) else (none)) else (none)) else (some false)) = some r := h
  clear h
  by_cases c3 : (a0.size : Int) ≥ (a1.size : Int)
  · rw [if_pos c3] at H
    have c3b0 : decide ((a1.size : Int) ≤ (a0.size : Int)) = true := decide_eq_true c3
    have c3b1 : decide (a1.size ≤ a0.size) = true := decide_eq_true (Int.ofNat_le.mp c3)
    clear c3
    by_cases c4 : 0 ≤ (a1.size : Int)
    · rw [if_pos c4] at H
      have c4b0 := eq_true c4
      have c4b1 : decide (0 ≤ (a1.size : Int)) = true := decide_eq_true c4
      clear c4
      by_cases c5 : (a1.size : Int) ≤ (a0.size : Int)
      · rw [if_pos c5] at H
        have c5b0 := eq_true c5
        have c5b1 : decide ((a1.size : Int) ≤ (a0.size : Int)) = true := decide_eq_true c5
        clear c5
        obtain rfl := Option.some.inj H
        go_enter Tryd.func169, Tryd.ntmps169
        go_wp2
        go_ret
        exact ⟨by first | rfl | (simp; done) | (simp [*]; done), by repeat (first | exact Drawn0.refl _ | apply Drawn0.step)⟩
      · rw [if_neg c5] at H
        exact absurd H (by simp)
    · rw [if_neg c4] at H
      exact absurd H (by simp)
  · rw [if_neg c3] at H
    have c3b0 : decide ((a1.size : Int) ≤ (a0.size : Int)) = false := decide_eq_false c3
    have c3b1 : decide (a1.size ≤ a0.size) = false := decide_eq_false (fun h => c3 (Int.ofNat_le.mpr h))
    clear c3
    obtain rfl := Option.some.inj H
    go_enter Tryd.func169, Tryd.ntmps169
    go_wp2
    go_ret
    exact ⟨by first | rfl | (simp; done) | (simp [*]; done), by repeat (first | exact Drawn0.refl _ | apply Drawn0.step)⟩

end Go.Proofs.YtcckamdpncbkoabDoor.G

namespace Go.Proofs.YtcckamdpncbkoabDoor.G
open Go.RowKit Go.Proofs.YtcckamdpncbkoabDoorW.PrintWords Go.Proofs.YtcckamdpncbkoabDoorW.PrintLast Go.Proofs.YtcckamdpncbkoabDoorW.PrintMore
open Go.Proofs.YtcckamdpncbkoabDoor.Gl Go.Proofs.YtcckamdpncbkoabDoor.Ext
attribute [local go_sem] max2_int min2_int max_two min_two max_three min_three max_four min_four   -- for this text's walks alone
set_option linter.unusedVariables false
set_option linter.unusedSimpArgs false

/-! ### strings_HasPrefix: function 145 -/
def strings_HasPrefix.f (a0 : ByteArray) (a1 : ByteArray) : Option (Bool) := (stringslite_HasPrefix.f a0 a1).bind fun t558 => (some t558)
set_option maxHeartbeats 8000000 in
set_option maxRecDepth 100000 in
theorem strings_HasPrefix.calls (a0 : ByteArray) (a1 : ByteArray) (r : Bool) (w : World) (h : strings_HasPrefix.f a0 a1 = some r) :
    Calls Tryd.prog 145 #[.string a0, .string a1] w fun e w' => e = .returned (.bool r) ∧ Drawn0 w w' := by
  have H : ((stringslite_HasPrefix.f a0 a1).bind fun t558 => (some t558)) = some r := h
  clear h
  replace H := Option.bind_eq_some_iff.mp H
  obtain ⟨t558, A30, H⟩ := H
  replace H : (some t558) = some r := H
  have A3 := Aside0.mk A30
  clear A30
  obtain rfl := Option.some.inj H
  go_enter Tryd.func145, Tryd.ntmps145
  go_wp2_with (first | ((with_reducible refine gate_callee (f := 169) rfl ?_); refine goesL_ (some 7) rfl rfl Tryd.func169 (by kernel_rfl) rfl #[.string a0, .string a1] rfl (by (try simp only [List.map_toArray, List.map_cons, List.map_nil]); first | done | rfl | (simp only [List.length_drop, List.length_take]; rfl)) ?_; (with_reducible refine (stringslite_HasPrefix.calls a0 a1 t558 _ A3.out).mono ?_); rintro e w' ⟨rfl, ⟨nd, rfl⟩⟩; refine ⟨_, rfl, ?_⟩))
  go_ret
  exact ⟨by first | rfl | (simp; done) | (simp [*]; done), by repeat (first | exact Drawn0.refl _ | apply Drawn0.step)⟩

end Go.Proofs.YtcckamdpncbkoabDoor.G

namespace Go.Proofs.YtcckamdpncbkoabDoor.G
open Go.RowKit Go.Proofs.YtcckamdpncbkoabDoorW.PrintWords Go.Proofs.YtcckamdpncbkoabDoorW.PrintLast Go.Proofs.YtcckamdpncbkoabDoorW.PrintMore
open Go.Proofs.YtcckamdpncbkoabDoor.Gl Go.Proofs.YtcckamdpncbkoabDoor.Ext
attribute [local go_sem] max2_int min2_int max_two min_two max_three min_three max_four min_four   -- for this text's walks alone
set_option linter.unusedVariables false
set_option linter.unusedSimpArgs false

/-! ### impl_mayBeSame: function 92 -/
mutual
def impl_mayBeSame.j0 : Nat → Bool → List ByteArray → ByteArray → ByteArray → ByteArray → List ByteArray → ByteArray → ByteArray → ByteArray → Option (Bool)
  | 0, _, _, _, _, _, _, _, _, _ => none
  | k + 1, x26, x560000, x560001, x560002, x560003, x561000, x561001, x561002, x561003 => if x26 = true then (some false) else (impl_mayBeSame.l0 k 0 x560000 x560001 x560002 x560003 x561000 x561001 x561002 x561003)
def impl_mayBeSame.l0 : Nat → Int → List ByteArray → ByteArray → ByteArray → ByteArray → List ByteArray → ByteArray → ByteArray → ByteArray → Option (Bool)
  | 0, _, _, _, _, _, _, _, _, _ => none
  | k + 1, x5, x560000, x560001, x560002, x560003, x561000, x561001, x561002, x561003 => if x5 < (mn (x560000.length : Int) (x561000.length : Int)) then (if 0 ≤ x5 then (if x5 < (x560000.length : Int) then (if x5 < (x561000.length : Int) then (if (rdOf ByteArray.empty x560000 x5).toList = (rdOf ByteArray.empty x561000 x5).toList then (impl_mayBeSame.l0 k (wrap64 (x5 + 1)) x560000 x560001 x560002 x560003 x561000 x561001 x561002 x561003) else (if ((rdOf ByteArray.empty x560000 x5).size : Int) = 1 then ((strings_HasPrefix.f (rdOf ByteArray.empty x561000 x5) (rdOf ByteArray.empty x560000 x5)).bind fun t563 => (if t563 = true then (impl_mayBeSame.l0 k (wrap64 (x5 + 1)) x560000 x560001 x560002 x560003 x561000 x561001 x561002 x561003) else (if ((rdOf ByteArray.empty x561000 x5).size : Int) = 1 then ((strings_HasPrefix.f (rdOf ByteArray.empty x560000 x5) (rdOf ByteArray.empty x561000 x5)).bind fun t564 => (if t564 = true then (impl_mayBeSame.l0 k (wrap64 (x5 + 1)) x560000 x560001 x560002 x560003 x561000 x561001 x561002 x561003) else (some false))) else (some false)))) else (if ((rdOf ByteArray.empty x561000 x5).size : Int) = 1 then ((strings_HasPrefix.f (rdOf ByteArray.empty x560000 x5) (rdOf ByteArray.empty x561000 x5)).bind fun t565 => (if t565 = true then (impl_mayBeSame.l0 k (wrap64 (x5 + 1)) x560000 x560001 x560002 x560003 x561000 x561001 x561002 x561003) else (some false))) else (some false)))) else (none)) else (none)) else (none)) else (some true)
end
def impl_mayBeSame.f (k : Nat) (l0_0 : List ByteArray) (a0_1 : ByteArray) (a0_2 : ByteArray) (a0_3 : ByteArray) (l1_0 : List ByteArray) (a1_1 : ByteArray) (a1_2 : ByteArray) (a1_3 : ByteArray) : Option (Bool) := if a0_1.toList = a1_1.toList then (if a0_2.toList = a1_2.toList then (impl_mayBeSame.j0 k (a0_3.toList != a1_3.toList) l0_0 a0_1 a0_2 a0_3 l1_0 a1_1 a1_2 a1_3) else (impl_mayBeSame.j0 k true l0_0 a0_1 a0_2 a0_3 l1_0 a1_1 a1_2 a1_3)) else (impl_mayBeSame.j0 k true l0_0 a0_1 a0_2 a0_3 l1_0 a1_1 a1_2 a1_3)
theorem impl_mayBeSame.mono_l : ∀ k, (∀ y0 y1 y2 y3 y4 y5 y6 y7 y8, LeO (impl_mayBeSame.j0 k y0 y1 y2 y3 y4 y5 y6 y7 y8) (impl_mayBeSame.j0 (k + 1) y0 y1 y2 y3 y4 y5 y6 y7 y8)) ∧ (∀ y0 y1 y2 y3 y4 y5 y6 y7 y8, LeO (impl_mayBeSame.l0 k y0 y1 y2 y3 y4 y5 y6 y7 y8) (impl_mayBeSame.l0 (k + 1) y0 y1 y2 y3 y4 y5 y6 y7 y8))
  | 0 => ⟨fun _ _ _ _ _ _ _ _ _ r h => by simp [impl_mayBeSame.j0] at h, fun _ _ _ _ _ _ _ _ _ r h => by simp [impl_mayBeSame.l0] at h⟩
  | k + 1 => by
    obtain ⟨ih0, ih1⟩ := impl_mayBeSame.mono_l k
    refine ⟨?_, ?_⟩
    · intro y0 y1 y2 y3 y4 y5 y6 y7 y8
      unfold impl_mayBeSame.j0
      repeat' first
      | (with_reducible exact ih0 _ _ _ _ _ _ _ _ _)
      | (with_reducible exact ih1 _ _ _ _ _ _ _ _ _)
      | (with_reducible exact LeO.refl _)
      | (with_reducible exact LeO.none _)
      | (with_reducible refine LeO.ite ?_ ?_)
      | (with_reducible refine LeO.bind ?_ (fun _ => ?_))
      | exact ih0 _ _ _ _ _ _ _ _ _
      | exact ih1 _ _ _ _ _ _ _ _ _
      | exact LeO.none _
      | refine LeO.ite ?_ ?_
      | refine LeO.bind ?_ (fun _ => ?_)
    · intro y0 y1 y2 y3 y4 y5 y6 y7 y8
      unfold impl_mayBeSame.l0
      repeat' first
      | (with_reducible exact ih0 _ _ _ _ _ _ _ _ _)
      | (with_reducible exact ih1 _ _ _ _ _ _ _ _ _)
      | (with_reducible exact LeO.refl _)
      | (with_reducible exact LeO.none _)
      | (with_reducible refine LeO.ite ?_ ?_)
      | (with_reducible refine LeO.bind ?_ (fun _ => ?_))
      | exact ih0 _ _ _ _ _ _ _ _ _
      | exact ih1 _ _ _ _ _ _ _ _ _
      | exact LeO.none _
      | refine LeO.ite ?_ ?_
      | refine LeO.bind ?_ (fun _ => ?_)
theorem impl_mayBeSame.mono : ∀ a0 a1 a2 a3 a4 a5 a6 a7 k, LeO (impl_mayBeSame.f k a0 a1 a2 a3 a4 a5 a6 a7) (impl_mayBeSame.f (k + 1) a0 a1 a2 a3 a4 a5 a6 a7) := by
  intro a0 a1 a2 a3 a4 a5 a6 a7 k
  obtain ⟨ih0, ih1⟩ := impl_mayBeSame.mono_l k
  unfold impl_mayBeSame.f
  repeat' first
      | (with_reducible exact ih0 _ _ _ _ _ _ _ _ _)
      | (with_reducible exact ih1 _ _ _ _ _ _ _ _ _)
      | (with_reducible exact LeO.refl _)
      | (with_reducible exact LeO.none _)
      | (with_reducible refine LeO.ite ?_ ?_)
      | (with_reducible refine LeO.bind ?_ (fun _ => ?_))
      | exact ih0 _ _ _ _ _ _ _ _ _
      | exact ih1 _ _ _ _ _ _ _ _ _
      | exact LeO.none _
      | refine LeO.ite ?_ ?_
      | refine LeO.bind ?_ (fun _ => ?_)
set_option maxHeartbeats 8000000 in
set_option maxRecDepth 100000 in
theorem impl_mayBeSame.calls (k : Nat) (A0_0 : Option Addr) (c0_0 : Nat) (l0_0 : List ByteArray) (a0_1 : ByteArray) (a0_2 : ByteArray) (a0_3 : ByteArray) (A1_0 : Option Addr) (c1_0 : Nat) (l1_0 : List ByteArray) (a1_1 : ByteArray) (a1_2 : ByteArray) (a1_3 : ByteArray) (r : Bool) (w : World) (hr0_0 : Kd.C Kd.string w A0_0 l0_0.length l0_0) (hc0_0 : l0_0.length ≤ c0_0) (hr1_0 : Kd.C Kd.string w A1_0 l1_0.length l1_0) (hc1_0 : l1_0.length ≤ c1_0) (h : impl_mayBeSame.f k l0_0 a0_1 a0_2 a0_3 l1_0 a1_1 a1_2 a1_3 = some r) :
    Calls Tryd.prog 92 #[.agg #[.slice A0_0 l0_0.length c0_0, .string a0_1, .string a0_2, .string a0_3], .agg #[.slice A1_0 l1_0.length c1_0, .string a1_1, .string a1_2, .string a1_3]] w fun e w' => e = .returned (.bool r) ∧ Below w.heap.size w w' := by
  have hu34 := Tryd.underlying34
  have HR0_0 := Aside0.mk hr0_0
  have HC0_0 := Aside0.mk hc0_0
  clear hr0_0 hc0_0
  have HR1_0 := Aside0.mk hr1_0
  have HC1_0 := Aside0.mk hc1_0
  clear hr1_0 hc1_0
  have HB := Aside0.mk (Below.refl w.heap.size w)
  have H : (if a0_1.toList = a1_1.toList then (if a0_2.toList = a1_2.toList then (impl_mayBeSame.j0 k (a0_3.toList != a1_3.toList) l0_0 a0_1 a0_2 a0_3 l1_0 a1_1 a1_2 a1_3) else (impl_mayBeSame.j0 k true l0_0 a0_1 a0_2 a0_3 l1_0 a1_1 a1_2 a1_3)) else (impl_mayBeSame.j0 k true l0_0 a0_1 a0_2 a0_3 l1_0 a1_1 a1_2 a1_3)) = some r := h
  clear h
  have HC3 := Aside0.mk H
  clear H
  go_enter Tryd.func92, Tryd.ntmps92
  go_upto_region 1 with (first | ((with_reducible refine gate_dst (N := 2) rfl ?_); (try (refine gate_guard (by rfl) ?_; dsimp only)); refine box_event ?hg (N := 2) ?hd (cs := #[.slice A0_0 l0_0.length c0_0, .string a0_1, .string a0_2, .string a0_3]) (t := 34) ?hr ?_; (case hd => rfl); (case hg => rfl); (case hr => first | (go_simp; done) | (go_simp; rfl)); intro gb559 hg w4 hbox hb; have n0_ := Aside0.mk (below_step (by repeat (first | (with_reducible first | exact HB.out | apply below_alloc | apply pw_below_drewN | apply below_drew1) | exact HB.out)) hb); have n1_ := Aside0.mk (hbox); have n2_ := Aside0.mk ((by rw [hg]; exact (below_size (by repeat (first | (with_reducible first | exact HB.out | apply below_alloc | apply pw_below_drewN | apply below_drew1) | exact HB.out))) : w.heap.size ≤ gb559)); have n3_ := Aside0.mk ((by rw [hg]; exact (below_size (by repeat (first | (with_reducible first | exact HB.out | apply below_alloc | apply pw_below_drewN | apply below_drew1) | exact HB.out))) : w.heap.size ≤ gb559)); clear HB; have HB := n0_; have BK559 := n1_; have GW559 := n2_; have GE559 := n3_; clear n0_ n1_ n2_ n3_; clear hb hbox hg) | ((with_reducible refine gate_dst (N := 3) rfl ?_); (try (refine gate_guard (by rfl) ?_; dsimp only)); refine box_event ?hg (N := 3) ?hd (cs := #[.slice A1_0 l1_0.length c1_0, .string a1_1, .string a1_2, .string a1_3]) (t := 34) ?hr ?_; (case hd => rfl); (case hg => rfl); (case hr => first | (go_simp; done) | (go_simp; rfl)); intro gb560 hg w5 hbox hb; have n0_ := Aside0.mk (blk_below (g := gb559) (o := .cells #[.slice A0_0 l0_0.length c0_0, .string a0_1, .string a0_2, .string a0_3] 34 (0, 0)) (by (with_reducible repeat (first | refine blk_drewN ?_ _ | refine blk_drew ?_ | refine blk_alloc ?_ _)); exact BK559.out) hb); have n1_ := Aside0.mk (below_step (by repeat (first | (with_reducible first | exact HB.out | apply below_alloc | apply pw_below_drewN | apply below_drew1 | refine below_set ?_ GE559.out) | exact HB.out)) hb); have n2_ := Aside0.mk (hbox); have n3_ := Aside0.mk ((by rw [hg]; exact (below_size (by repeat (first | (with_reducible first | exact HB.out | apply below_alloc | apply pw_below_drewN | apply below_drew1 | refine below_set ?_ GE559.out) | exact HB.out))) : w.heap.size ≤ gb560)); have n4_ := Aside0.mk ((by rw [hg]; exact (below_size (by repeat (first | (with_reducible first | exact HB.out | apply below_alloc | apply pw_below_drewN | apply below_drew1 | refine below_set ?_ GE559.out) | exact HB.out))) : w.heap.size ≤ gb560)); have n5_ := Aside0.mk ((by rw [hg]; exact Nat.ne_of_lt (blk_lt (g := gb559) (o := .cells #[.slice A0_0 l0_0.length c0_0, .string a0_1, .string a0_2, .string a0_3] 34 (0, 0)) (by (with_reducible repeat (first | refine blk_drewN ?_ _ | refine blk_drew ?_ | refine blk_alloc ?_ _)); exact BK559.out)) : gb559 ≠ gb560)); have n6_ := Aside0.mk ((by rw [hg]; exact Nat.ne_of_gt (blk_lt (g := gb559) (o := .cells #[.slice A0_0 l0_0.length c0_0, .string a0_1, .string a0_2, .string a0_3] 34 (0, 0)) (by (with_reducible repeat (first | refine blk_drewN ?_ _ | refine blk_drew ?_ | refine blk_alloc ?_ _)); exact BK559.out)) : gb560 ≠ gb559)); clear BK559; clear HB; have BK559 := n0_; have HB := n1_; have BK560 := n2_; have GW560 := n3_; have GE560 := n4_; have NB559_560 := n5_; have NB560_559 := n6_; clear n0_ n1_ n2_ n3_ n4_ n5_ n6_; clear hb hbox hg))
  repeat (go_quiet (first | ((with_reducible refine gate_dst (N := 2) rfl ?_); (try (refine gate_guard (by rfl) ?_; dsimp only)); refine box_event ?hg (N := 2) ?hd (cs := #[.slice A0_0 l0_0.length c0_0, .string a0_1, .string a0_2, .string a0_3]) (t := 34) ?hr ?_; (case hd => rfl); (case hg => rfl); (case hr => first | (go_simp; done) | (go_simp; rfl)); intro gb559 hg w4 hbox hb; have n0_ := Aside0.mk (below_step (by repeat (first | (with_reducible first | exact HB.out | apply below_alloc | apply pw_below_drewN | apply below_drew1) | exact HB.out)) hb); have n1_ := Aside0.mk (hbox); have n2_ := Aside0.mk ((by rw [hg]; exact (below_size (by repeat (first | (with_reducible first | exact HB.out | apply below_alloc | apply pw_below_drewN | apply below_drew1) | exact HB.out))) : w.heap.size ≤ gb559)); have n3_ := Aside0.mk ((by rw [hg]; exact (below_size (by repeat (first | (with_reducible first | exact HB.out | apply below_alloc | apply pw_below_drewN | apply below_drew1) | exact HB.out))) : w.heap.size ≤ gb559)); clear HB; have HB := n0_; have BK559 := n1_; have GW559 := n2_; have GE559 := n3_; clear n0_ n1_ n2_ n3_; clear hb hbox hg) | ((with_reducible refine gate_dst (N := 3) rfl ?_); (try (refine gate_guard (by rfl) ?_; dsimp only)); refine box_event ?hg (N := 3) ?hd (cs := #[.slice A1_0 l1_0.length c1_0, .string a1_1, .string a1_2, .string a1_3]) (t := 34) ?hr ?_; (case hd => rfl); (case hg => rfl); (case hr => first | (go_simp; done) | (go_simp; rfl)); intro gb560 hg w5 hbox hb; have n0_ := Aside0.mk (blk_below (g := gb559) (o := .cells #[.slice A0_0 l0_0.length c0_0, .string a0_1, .string a0_2, .string a0_3] 34 (0, 0)) (by (with_reducible repeat (first | refine blk_drewN ?_ _ | refine blk_drew ?_ | refine blk_alloc ?_ _)); exact BK559.out) hb); have n1_ := Aside0.mk (below_step (by repeat (first | (with_reducible first | exact HB.out | apply below_alloc | apply pw_below_drewN | apply below_drew1 | refine below_set ?_ GE559.out) | exact HB.out)) hb); have n2_ := Aside0.mk (hbox); have n3_ := Aside0.mk ((by rw [hg]; exact (below_size (by repeat (first | (with_reducible first | exact HB.out | apply below_alloc | apply pw_below_drewN | apply below_drew1 | refine below_set ?_ GE559.out) | exact HB.out))) : w.heap.size ≤ gb560)); have n4_ := Aside0.mk ((by rw [hg]; exact (below_size (by repeat (first | (with_reducible first | exact HB.out | apply below_alloc | apply pw_below_drewN | apply below_drew1 | refine below_set ?_ GE559.out) | exact HB.out))) : w.heap.size ≤ gb560)); have n5_ := Aside0.mk ((by rw [hg]; exact Nat.ne_of_lt (blk_lt (g := gb559) (o := .cells #[.slice A0_0 l0_0.length c0_0, .string a0_1, .string a0_2, .string a0_3] 34 (0, 0)) (by (with_reducible repeat (first | refine blk_drewN ?_ _ | refine blk_drew ?_ | refine blk_alloc ?_ _)); exact BK559.out)) : gb559 ≠ gb560)); have n6_ := Aside0.mk ((by rw [hg]; exact Nat.ne_of_gt (blk_lt (g := gb559) (o := .cells #[.slice A0_0 l0_0.length c0_0, .string a0_1, .string a0_2, .string a0_3] 34 (0, 0)) (by (with_reducible repeat (first | refine blk_drewN ?_ _ | refine blk_drew ?_ | refine blk_alloc ?_ _)); exact BK559.out)) : gb560 ≠ gb559)); clear BK559; clear HB; have BK559 := n0_; have HB := n1_; have BK560 := n2_; have GW560 := n3_; have GE560 := n4_; have NB559_560 := n5_; have NB560_559 := n6_; clear n0_ n1_ n2_ n3_ n4_ n5_ n6_; clear hb hbox hg)); go_upto_region 1 with (first | ((with_reducible refine gate_dst (N := 2) rfl ?_); (try (refine gate_guard (by rfl) ?_; dsimp only)); refine box_event ?hg (N := 2) ?hd (cs := #[.slice A0_0 l0_0.length c0_0, .string a0_1, .string a0_2, .string a0_3]) (t := 34) ?hr ?_; (case hd => rfl); (case hg => rfl); (case hr => first | (go_simp; done) | (go_simp; rfl)); intro gb559 hg w4 hbox hb; have n0_ := Aside0.mk (below_step (by repeat (first | (with_reducible first | exact HB.out | apply below_alloc | apply pw_below_drewN | apply below_drew1) | exact HB.out)) hb); have n1_ := Aside0.mk (hbox); have n2_ := Aside0.mk ((by rw [hg]; exact (below_size (by repeat (first | (with_reducible first | exact HB.out | apply below_alloc | apply pw_below_drewN | apply below_drew1) | exact HB.out))) : w.heap.size ≤ gb559)); have n3_ := Aside0.mk ((by rw [hg]; exact (below_size (by repeat (first | (with_reducible first | exact HB.out | apply below_alloc | apply pw_below_drewN | apply below_drew1) | exact HB.out))) : w.heap.size ≤ gb559)); clear HB; have HB := n0_; have BK559 := n1_; have GW559 := n2_; have GE559 := n3_; clear n0_ n1_ n2_ n3_; clear hb hbox hg) | ((with_reducible refine gate_dst (N := 3) rfl ?_); (try (refine gate_guard (by rfl) ?_; dsimp only)); refine box_event ?hg (N := 3) ?hd (cs := #[.slice A1_0 l1_0.length c1_0, .string a1_1, .string a1_2, .string a1_3]) (t := 34) ?hr ?_; (case hd => rfl); (case hg => rfl); (case hr => first | (go_simp; done) | (go_simp; rfl)); intro gb560 hg w5 hbox hb; have n0_ := Aside0.mk (blk_below (g := gb559) (o := .cells #[.slice A0_0 l0_0.length c0_0, .string a0_1, .string a0_2, .string a0_3] 34 (0, 0)) (by (with_reducible repeat (first | refine blk_drewN ?_ _ | refine blk_drew ?_ | refine blk_alloc ?_ _)); exact BK559.out) hb); have n1_ := Aside0.mk (below_step (by repeat (first | (with_reducible first | exact HB.out | apply below_alloc | apply pw_below_drewN | apply below_drew1 | refine below_set ?_ GE559.out) | exact HB.out)) hb); have n2_ := Aside0.mk (hbox); have n3_ := Aside0.mk ((by rw [hg]; exact (below_size (by repeat (first | (with_reducible first | exact HB.out | apply below_alloc | apply pw_below_drewN | apply below_drew1 | refine below_set ?_ GE559.out) | exact HB.out))) : w.heap.size ≤ gb560)); have n4_ := Aside0.mk ((by rw [hg]; exact (below_size (by repeat (first | (with_reducible first | exact HB.out | apply below_alloc | apply pw_below_drewN | apply below_drew1 | refine below_set ?_ GE559.out) | exact HB.out))) : w.heap.size ≤ gb560)); have n5_ := Aside0.mk ((by rw [hg]; exact Nat.ne_of_lt (blk_lt (g := gb559) (o := .cells #[.slice A0_0 l0_0.length c0_0, .string a0_1, .string a0_2, .string a0_3] 34 (0, 0)) (by (with_reducible repeat (first | refine blk_drewN ?_ _ | refine blk_drew ?_ | refine blk_alloc ?_ _)); exact BK559.out)) : gb559 ≠ gb560)); have n6_ := Aside0.mk ((by rw [hg]; exact Nat.ne_of_gt (blk_lt (g := gb559) (o := .cells #[.slice A0_0 l0_0.length c0_0, .string a0_1, .string a0_2, .string a0_3] 34 (0, 0)) (by (with_reducible repeat (first | refine blk_drewN ?_ _ | refine blk_drew ?_ | refine blk_alloc ?_ _)); exact BK559.out)) : gb560 ≠ gb559)); clear BK559; clear HB; have BK559 := n0_; have HB := n1_; have BK560 := n2_; have GW560 := n3_; have GE560 := n4_; have NB559_560 := n5_; have NB560_559 := n6_; clear n0_ n1_ n2_ n3_ n4_ n5_ n6_; clear hb hbox hg)))
  (try simp only [Act.put, List.setIfInBounds_toArray, List.set_cons_zero, List.set_cons_succ])
  go_cut [26] (fun v26 wc => ∃ (kq : Nat) (x26_2 : Bool), v26 = .bool x26_2 ∧ Aside0 (impl_mayBeSame.j0 kq x26_2 l0_0 a0_1 a0_2 a0_3 l1_0 a1_1 a1_2 a1_3 = some r) ∧ Aside0 (kq ≤ k) ∧ Aside0 (wc.heap[gb559]? = some (.cells #[(.slice A0_0 l0_0.length c0_0), .string a0_1, .string a0_2, .string a0_3] 34 (0, 0))) ∧ Aside0 (wc.heap[gb560]? = some (.cells #[(.slice A1_0 l1_0.length c1_0), .string a1_1, .string a1_2, .string a1_3] 34 (0, 0))) ∧ Aside0 (Below w.heap.size w wc))
  case first =>
    have H := HC3.out
    clear HC3
    by_cases c6 : a0_1.toList = a1_1.toList
    · rw [if_pos c6] at H
      have c6b0 : (a0_1.toList == a1_1.toList) = true := beq_iff_eq.mpr c6
      have c6b1 : (a0_1.toList != a1_1.toList) = false := bne_eq_false_iff_eq.mpr c6
      clear c6
      (first | rw [c6b0] | (simp only [i64_w, i32_w]; rw [c6b0]) | skip)
      by_cases c7 : a0_2.toList = a1_2.toList
      · rw [if_pos c7] at H
        have c7b0 : (a0_2.toList == a1_2.toList) = true := beq_iff_eq.mpr c7
        have c7b1 : (a0_2.toList != a1_2.toList) = false := bne_eq_false_iff_eq.mpr c7
        clear c7
        have H' := Aside0.mk H
        clear H
        have hnb8 := NB559_560.out
        have hnc8 := NB560_559.out
        have hcz9_0 : w5.cell? ⟨gb559, 0, none⟩ = some (.slice A0_0 l0_0.length c0_0) := (blk_cell BK559.out 0).trans rfl
        have hcz9_1 : w5.cell? ⟨gb559, 1, none⟩ = some (.string a0_1) := (blk_cell BK559.out 1).trans rfl
        have hcz9_2 : w5.cell? ⟨gb559, 2, none⟩ = some (.string a0_2) := (blk_cell BK559.out 2).trans rfl
        have hcz9_3 : w5.cell? ⟨gb559, 3, none⟩ = some (.string a0_3) := (blk_cell BK559.out 3).trans rfl
        have hfz9_0 := blk_frozen BK559.out 0
        have hfz9_1 := blk_frozen BK559.out 1
        have hfz9_2 := blk_frozen BK559.out 2
        have hfz9_3 := blk_frozen BK559.out 3
        have hcz10_0 : w5.cell? ⟨gb560, 0, none⟩ = some (.slice A1_0 l1_0.length c1_0) := (blk_cell BK560.out 0).trans rfl
        have hcz10_1 : w5.cell? ⟨gb560, 1, none⟩ = some (.string a1_1) := (blk_cell BK560.out 1).trans rfl
        have hcz10_2 : w5.cell? ⟨gb560, 2, none⟩ = some (.string a1_2) := (blk_cell BK560.out 2).trans rfl
        have hcz10_3 : w5.cell? ⟨gb560, 3, none⟩ = some (.string a1_3) := (blk_cell BK560.out 3).trans rfl
        have hfz10_0 := blk_frozen BK560.out 0
        have hfz10_1 := blk_frozen BK560.out 1
        have hfz10_2 := blk_frozen BK560.out 2
        have hfz10_3 := blk_frozen BK560.out 3
        go_wp2
        all_goals
          first
          | (exfalso; (try simp only [decide_eq_true_eq, decide_eq_false_iff_not] at *); first | done | omega)
          | repeat (go_quiet (fail); try go_wp2)
            go_meet
            case rel => exact ⟨_, ((a0_3.toList != a1_3.toList)), (by first | rfl | (simp; done) | (simp [*]; done)), H', ⟨by first | omega | exact Nat.le_refl _⟩, ⟨by (with_reducible repeat (first | refine blk_drewN ?_ _ | refine blk_drew ?_ | refine blk_alloc ?_ _)); exact BK559.out⟩, ⟨by (with_reducible repeat (first | refine blk_drewN ?_ _ | refine blk_drew ?_ | refine blk_alloc ?_ _)); exact BK560.out⟩, ⟨by repeat (first | (with_reducible first | exact HB.out | apply below_alloc | apply pw_below_drewN | apply below_drew1 | refine below_set ?_ GE559.out | refine below_set ?_ GE560.out) | exact HB.out)⟩⟩
      · rw [if_neg c7] at H
        have c7b0 : (a0_2.toList == a1_2.toList) = false := beq_eq_false_iff_ne.mpr c7
        have c7b1 : (a0_2.toList != a1_2.toList) = true := bne_iff_ne.mpr c7
        have H' := Aside0.mk H
        clear H
        have hnb11 := NB559_560.out
        have hnc11 := NB560_559.out
        have hcz12_0 : w5.cell? ⟨gb559, 0, none⟩ = some (.slice A0_0 l0_0.length c0_0) := (blk_cell BK559.out 0).trans rfl
        have hcz12_1 : w5.cell? ⟨gb559, 1, none⟩ = some (.string a0_1) := (blk_cell BK559.out 1).trans rfl
        have hcz12_2 : w5.cell? ⟨gb559, 2, none⟩ = some (.string a0_2) := (blk_cell BK559.out 2).trans rfl
        have hcz12_3 : w5.cell? ⟨gb559, 3, none⟩ = some (.string a0_3) := (blk_cell BK559.out 3).trans rfl
        have hfz12_0 := blk_frozen BK559.out 0
        have hfz12_1 := blk_frozen BK559.out 1
        have hfz12_2 := blk_frozen BK559.out 2
        have hfz12_3 := blk_frozen BK559.out 3
        have hcz13_0 : w5.cell? ⟨gb560, 0, none⟩ = some (.slice A1_0 l1_0.length c1_0) := (blk_cell BK560.out 0).trans rfl
        have hcz13_1 : w5.cell? ⟨gb560, 1, none⟩ = some (.string a1_1) := (blk_cell BK560.out 1).trans rfl
        have hcz13_2 : w5.cell? ⟨gb560, 2, none⟩ = some (.string a1_2) := (blk_cell BK560.out 2).trans rfl
        have hcz13_3 : w5.cell? ⟨gb560, 3, none⟩ = some (.string a1_3) := (blk_cell BK560.out 3).trans rfl
        have hfz13_0 := blk_frozen BK560.out 0
        have hfz13_1 := blk_frozen BK560.out 1
        have hfz13_2 := blk_frozen BK560.out 2
        have hfz13_3 := blk_frozen BK560.out 3
        go_wp2
        all_goals
          first
          | (exfalso; (try simp only [decide_eq_true_eq, decide_eq_false_iff_not] at *); first | done | omega)
          | repeat (go_quiet (fail); try go_wp2)
            go_meet
            case rel => exact ⟨_, (true), (by first | rfl | (simp; done) | (simp [*]; done)), H', ⟨by first | omega | exact Nat.le_refl _⟩, ⟨by (with_reducible repeat (first | refine blk_drewN ?_ _ | refine blk_drew ?_ | refine blk_alloc ?_ _)); exact BK559.out⟩, ⟨by (with_reducible repeat (first | refine blk_drewN ?_ _ | refine blk_drew ?_ | refine blk_alloc ?_ _)); exact BK560.out⟩, ⟨by repeat (first | (with_reducible first | exact HB.out | apply below_alloc | apply pw_below_drewN | apply below_drew1 | refine below_set ?_ GE559.out | refine below_set ?_ GE560.out) | exact HB.out)⟩⟩
    · rw [if_neg c6] at H
      have c6b0 : (a0_1.toList == a1_1.toList) = false := beq_eq_false_iff_ne.mpr c6
      have c6b1 : (a0_1.toList != a1_1.toList) = true := bne_iff_ne.mpr c6
      (first | rw [c6b0] | (simp only [i64_w, i32_w]; rw [c6b0]) | skip)
      have H' := Aside0.mk H
      clear H
      have hnb14 := NB559_560.out
      have hnc14 := NB560_559.out
      have hcz15_0 : w5.cell? ⟨gb559, 0, none⟩ = some (.slice A0_0 l0_0.length c0_0) := (blk_cell BK559.out 0).trans rfl
      have hcz15_1 : w5.cell? ⟨gb559, 1, none⟩ = some (.string a0_1) := (blk_cell BK559.out 1).trans rfl
      have hcz15_2 : w5.cell? ⟨gb559, 2, none⟩ = some (.string a0_2) := (blk_cell BK559.out 2).trans rfl
      have hcz15_3 : w5.cell? ⟨gb559, 3, none⟩ = some (.string a0_3) := (blk_cell BK559.out 3).trans rfl
      have hfz15_0 := blk_frozen BK559.out 0
      have hfz15_1 := blk_frozen BK559.out 1
      have hfz15_2 := blk_frozen BK559.out 2
      have hfz15_3 := blk_frozen BK559.out 3
      have hcz16_0 : w5.cell? ⟨gb560, 0, none⟩ = some (.slice A1_0 l1_0.length c1_0) := (blk_cell BK560.out 0).trans rfl
      have hcz16_1 : w5.cell? ⟨gb560, 1, none⟩ = some (.string a1_1) := (blk_cell BK560.out 1).trans rfl
      have hcz16_2 : w5.cell? ⟨gb560, 2, none⟩ = some (.string a1_2) := (blk_cell BK560.out 2).trans rfl
      have hcz16_3 : w5.cell? ⟨gb560, 3, none⟩ = some (.string a1_3) := (blk_cell BK560.out 3).trans rfl
      have hfz16_0 := blk_frozen BK560.out 0
      have hfz16_1 := blk_frozen BK560.out 1
      have hfz16_2 := blk_frozen BK560.out 2
      have hfz16_3 := blk_frozen BK560.out 3
      go_wp2
      all_goals
        first
        | (exfalso; (try simp only [decide_eq_true_eq, decide_eq_false_iff_not] at *); first | done | omega)
        | repeat (go_quiet (fail); try go_wp2)
          go_meet
          case rel => exact ⟨_, (true), (by first | rfl | (simp; done) | (simp [*]; done)), H', ⟨by first | omega | exact Nat.le_refl _⟩, ⟨by (with_reducible repeat (first | refine blk_drewN ?_ _ | refine blk_drew ?_ | refine blk_alloc ?_ _)); exact BK559.out⟩, ⟨by (with_reducible repeat (first | refine blk_drewN ?_ _ | refine blk_drew ?_ | refine blk_alloc ?_ _)); exact BK560.out⟩, ⟨by repeat (first | (with_reducible first | exact HB.out | apply below_alloc | apply pw_below_drewN | apply below_drew1 | refine below_set ?_ GE559.out | refine below_set ?_ GE560.out) | exact HB.out)⟩⟩
  case rest =>
    clear HC3
    try clear c1
    try clear p2
    try clear c6
    try clear c6b0
    try clear c6b1
    try clear c7
    try clear c7b0
    try clear c7b1
    try clear c8
    try clear c9
    try clear c11
    try clear c14
    try clear hcz10_0
    try clear hcz10_1
    try clear hcz10_2
    try clear hcz10_3
    try clear hcz12_0
    try clear hcz12_1
    try clear hcz12_2
    try clear hcz12_3
    try clear hcz13_0
    try clear hcz13_1
    try clear hcz13_2
    try clear hcz13_3
    try clear hcz15_0
    try clear hcz15_1
    try clear hcz15_2
    try clear hcz15_3
    try clear hcz16_0
    try clear hcz16_1
    try clear hcz16_2
    try clear hcz16_3
    try clear hcz9_0
    try clear hcz9_1
    try clear hcz9_2
    try clear hcz9_3
    try clear hfz10_0
    try clear hfz10_1
    try clear hfz10_2
    try clear hfz10_3
    try clear hfz12_0
    try clear hfz12_1
    try clear hfz12_2
    try clear hfz12_3
    try clear hfz13_0
    try clear hfz13_1
    try clear hfz13_2
    try clear hfz13_3
    try clear hfz15_0
    try clear hfz15_1
    try clear hfz15_2
    try clear hfz15_3
    try clear hfz16_0
    try clear hfz16_1
    try clear hfz16_2
    try clear hfz16_3
    try clear hfz9_0
    try clear hfz9_1
    try clear hfz9_2
    try clear hfz9_3
    obtain ⟨kq, x26_2, rfl, HA, HJ2, BK559, BK560, HB⟩ := hcut
    cases kq with
    | zero => exact absurd HA.out (by simp [impl_mayBeSame.j0])
    | succ kj2 =>
      have H := HA.out
      clear HA
      simp only [impl_mayBeSame.j0] at H
      by_cases c17 : x26_2 = true
      · subst c17
        have H1 : (some false) = some r := by rw [if_pos rfl] at H; exact H
        clear H
        have H := H1
        clear H1
        obtain rfl := Option.some.inj H
        go_wp2
        all_goals
          first
          | (exfalso; (try simp only [decide_eq_true_eq, decide_eq_false_iff_not] at *); first | done | omega)
          | repeat (go_quiet (fail); try go_wp2)
            go_ret
            exact ⟨by first | rfl | (simp [errW_none, errW_some] <;> rfl) | (simp [*, errW_none, errW_some] <;> rfl), by repeat (first | (with_reducible first | exact HB.out | apply below_alloc | apply pw_below_drewN | apply below_drew1 | refine below_set ?_ GE559.out | refine below_set ?_ GE560.out) | exact HB.out)⟩
      · replace c17 := Bool.eq_false_iff.mpr c17
        subst c17
        have H1 : (impl_mayBeSame.l0 kj2 0 l0_0 a0_1 a0_2 a0_3 l1_0 a1_1 a1_2 a1_3) = some r := by rw [if_neg (show ¬ (false = true) by decide)] at H; exact H
        clear H
        have H := H1
        clear H1
        have H' := Aside0.mk H
        clear H
        go_wp2
        all_goals
          first
          | (exfalso; (try simp only [decide_eq_true_eq, decide_eq_false_iff_not] at *); first | done | omega)
          | repeat (go_quiet (fail); try go_wp2)
            go_loopg [5] kj2 (fun kq v5 w' => ∃ (x5_2 : Int), v5 = .int .i64 x5_2 ∧ Aside0 (impl_mayBeSame.l0 kq x5_2 l0_0 a0_1 a0_2 a0_3 l1_0 a1_1 a1_2 a1_3 = some r) ∧ Aside0 (kq ≤ kj2) ∧ Aside0 (w'.heap[gb559]? = some (.cells #[(.slice A0_0 l0_0.length c0_0), .string a0_1, .string a0_2, .string a0_3] 34 (0, 0))) ∧ Aside0 (w'.heap[gb560]? = some (.cells #[(.slice A1_0 l1_0.length c1_0), .string a1_1, .string a1_2, .string a1_3] 34 (0, 0))) ∧ Aside0 (Below w.heap.size w w'))
            case atStart => exact ⟨(0), (by first | rfl | (simp; done) | (simp [*]; done)), H', ⟨Nat.le_refl _⟩, ⟨by (with_reducible repeat (first | refine blk_drewN ?_ _ | refine blk_drew ?_ | refine blk_alloc ?_ _)); exact BK559.out⟩, ⟨by (with_reducible repeat (first | refine blk_drewN ?_ _ | refine blk_drew ?_ | refine blk_alloc ?_ _)); exact BK560.out⟩, ⟨by repeat (first | (with_reducible first | exact HB.out | apply below_alloc | apply pw_below_drewN | apply below_drew1 | refine below_set ?_ GE559.out | refine below_set ?_ GE560.out) | exact HB.out)⟩⟩
            case round =>
              clear H'
              try clear c1
              try clear p2
              try clear c6
              try clear c6b0
              try clear c6b1
              try clear c7
              try clear c7b0
              try clear c7b1
              try clear c8
              try clear c9
              try clear c11
              try clear c14
              try clear c17
              try clear hcz10_0
              try clear hcz10_1
              try clear hcz10_2
              try clear hcz10_3
              try clear hcz12_0
              try clear hcz12_1
              try clear hcz12_2
              try clear hcz12_3
              try clear hcz13_0
              try clear hcz13_1
              try clear hcz13_2
              try clear hcz13_3
              try clear hcz15_0
              try clear hcz15_1
              try clear hcz15_2
              try clear hcz15_3
              try clear hcz16_0
              try clear hcz16_1
              try clear hcz16_2
              try clear hcz16_3
              try clear hcz9_0
              try clear hcz9_1
              try clear hcz9_2
              try clear hcz9_3
              try clear hfz10_0
              try clear hfz10_1
              try clear hfz10_2
              try clear hfz10_3
              try clear hfz12_0
              try clear hfz12_1
              try clear hfz12_2
              try clear hfz12_3
              try clear hfz13_0
              try clear hfz13_1
              try clear hfz13_2
              try clear hfz13_3
              try clear hfz15_0
              try clear hfz15_1
              try clear hfz15_2
              try clear hfz15_3
              try clear hfz16_0
              try clear hfz16_1
              try clear hfz16_2
              try clear hfz16_3
              try clear hfz9_0
              try clear hfz9_1
              try clear hfz9_2
              try clear hfz9_3
              try clear p2
              obtain ⟨x5_2, rfl, HA, HK2, BK559, BK560, HB⟩ := hrel
              cases gk with
              | zero => exact absurd HA.out (by simp [impl_mayBeSame.l0])
              | succ k2 =>
                have H := HA.out
                clear HA
                simp only [impl_mayBeSame.l0] at H
                obtain ⟨ji18, hji18⟩ : ∃ j_ : Int, (mn (l0_0.length : Int) (l1_0.length : Int)) = j_ := ⟨_, rfl⟩
                replace H : (if x5_2 < (ji18) then (if 0 ≤ x5_2 then (if x5_2 < (l0_0.length : Int) then (if x5_2 < (l1_0.length : Int) then (if (rdOf ByteArray.empty l0_0 x5_2).toList = (rdOf ByteArray.empty l1_0 x5_2).toList then (impl_mayBeSame.l0 k2 (wrap64 (x5_2 + 1)) l0_0 a0_1 a0_2 a0_3 l1_0 a1_1 a1_2 a1_3) else (if ((rdOf ByteArray.empty l0_0 x5_2).size : Int) = 1 then ((strings_HasPrefix.f (rdOf ByteArray.empty l1_0 x5_2) (rdOf ByteArray.empty l0_0 x5_2)).bind fun t563 => (if t563 = true then (impl_mayBeSame.l0 k2 (wrap64 (x5_2 + 1)) l0_0 a0_1 a0_2 a0_3 l1_0 a1_1 a1_2 a1_3) else (if ((rdOf ByteArray.empty l1_0 x5_2).size : Int) = 1 then ((strings_HasPrefix.f (rdOf ByteArray.empty l0_0 x5_2) (rdOf ByteArray.empty l1_0 x5_2)).bind fun t564 => (if t564 = true then (impl_mayBeSame.l0 k2 (wrap64 (x5_2 + 1)) l0_0 a0_1 a0_2 a0_3 l1_0 a1_1 a1_2 a1_3) else (some false))) else (some false)))) else (if ((rdOf ByteArray.empty l1_0 x5_2).size : Int) = 1 then ((strings_HasPrefix.f (rdOf ByteArray.empty l0_0 x5_2) (rdOf ByteArray.empty l1_0 x5_2)).bind fun t565 => (if t565 = true then (impl_mayBeSame.l0 k2 (wrap64 (x5_2 + 1)) l0_0 a0_1 a0_2 a0_3 l1_0 a1_1 a1_2 a1_3) else (some false))) else (some false)))) else (none)) else (none)) else (none)) else (some true)) = some r := by first | (rw [hji18] at H; exact H) | (simp only [hji18] at H ⊢; exact H)
                have hji18_ : (if (l1_0.length : Int) < (l0_0.length : Int) then (l1_0.length : Int) else (l0_0.length : Int)) = ji18 := hji18
                by_cases c19 : x5_2 < (ji18)
                · rw [if_pos c19] at H
                  have c19b0 : decide (x5_2 < (ji18)) = true := decide_eq_true c19
                  clear c19
                  by_cases c20 : 0 ≤ x5_2
                  · rw [if_pos c20] at H
                    have c20b0 : decide (0 ≤ x5_2) = true := decide_eq_true c20
                    clear c20
                    by_cases c21 : x5_2 < (l0_0.length : Int)
                    · rw [if_pos c21] at H
                      have c21b0 : decide (x5_2 < (l0_0.length : Int)) = true := decide_eq_true c21
                      clear c21
                      by_cases c22 : x5_2 < (l1_0.length : Int)
                      · rw [if_pos c22] at H
                        have c22b0 : decide (x5_2 < (l1_0.length : Int)) = true := decide_eq_true c22
                        clear c22
                        by_cases c23 : (rdOf ByteArray.empty l0_0 x5_2).toList = (rdOf ByteArray.empty l1_0 x5_2).toList
                        · rw [if_pos c23] at H
                          have c23b0 : ((rdOf ByteArray.empty l0_0 x5_2).toList == (rdOf ByteArray.empty l1_0 x5_2).toList) = true := beq_iff_eq.mpr c23
                          have c23b1 : ((rdOf ByteArray.empty l0_0 x5_2).toList != (rdOf ByteArray.empty l1_0 x5_2).toList) = false := bne_eq_false_iff_eq.mpr c23
                          clear c23
                          have H' := Aside0.mk H
                          clear H
                          have hnb24 := NB559_560.out
                          have hnc24 := NB560_559.out
                          have hcz25_0 : wr.cell? ⟨gb559, 0, none⟩ = some (.slice A0_0 l0_0.length c0_0) := (blk_cell BK559.out 0).trans rfl
                          have hcz25_1 : wr.cell? ⟨gb559, 1, none⟩ = some (.string a0_1) := (blk_cell BK559.out 1).trans rfl
                          have hcz25_2 : wr.cell? ⟨gb559, 2, none⟩ = some (.string a0_2) := (blk_cell BK559.out 2).trans rfl
                          have hcz25_3 : wr.cell? ⟨gb559, 3, none⟩ = some (.string a0_3) := (blk_cell BK559.out 3).trans rfl
                          have hfz25_0 := blk_frozen BK559.out 0
                          have hfz25_1 := blk_frozen BK559.out 1
                          have hfz25_2 := blk_frozen BK559.out 2
                          have hfz25_3 := blk_frozen BK559.out 3
                          have hcz26_0 : wr.cell? ⟨gb560, 0, none⟩ = some (.slice A1_0 l1_0.length c1_0) := (blk_cell BK560.out 0).trans rfl
                          have hcz26_1 : wr.cell? ⟨gb560, 1, none⟩ = some (.string a1_1) := (blk_cell BK560.out 1).trans rfl
                          have hcz26_2 : wr.cell? ⟨gb560, 2, none⟩ = some (.string a1_2) := (blk_cell BK560.out 2).trans rfl
                          have hcz26_3 : wr.cell? ⟨gb560, 3, none⟩ = some (.string a1_3) := (blk_cell BK560.out 3).trans rfl
                          have hfz26_0 := blk_frozen BK560.out 0
                          have hfz26_1 := blk_frozen BK560.out 1
                          have hfz26_2 := blk_frozen BK560.out 2
                          have hfz26_3 := blk_frozen BK560.out 3
                          have p561 : 0 ≤ (x5_2 : Int) := of_decide_eq_true (by first | (with_reducible assumption) | assumption)
                          have q561 : x5_2 < (l0_0.length : Int) := of_decide_eq_true (by first | (with_reducible assumption) | assumption)
                          obtain ⟨ad561, e561, hx561_0⟩ := Kd.at_string HR0_0.out x5_2 p561 q561
                          cases e561
                          replace hx561_0 := (HB.out.cell (World.block_lt_of_cell? w _ hx561_0)).trans hx561_0
                          replace p561 := eq_true p561
                          replace q561 := eq_true q561
                          have p562 : 0 ≤ (x5_2 : Int) := of_decide_eq_true (by first | (with_reducible assumption) | assumption)
                          have q562 : x5_2 < (l1_0.length : Int) := of_decide_eq_true (by first | (with_reducible assumption) | assumption)
                          obtain ⟨ad562, e562, hx562_0⟩ := Kd.at_string HR1_0.out x5_2 p562 q562
                          cases e562
                          replace hx562_0 := (HB.out.cell (World.block_lt_of_cell? w _ hx562_0)).trans hx562_0
                          replace p562 := eq_true p562
                          replace q562 := eq_true q562
                          go_wp2
                          all_goals
                            first
                            | (exfalso; (try simp only [decide_eq_true_eq, decide_eq_false_iff_not] at *); first | done | omega)
                            | repeat (go_quiet (fail); try go_wp2)
                              go_roundg k2
                              case measure => have := HJ2.out; have := HK2.out; omega
                              case rel => exact ⟨(wrap64 (x5_2 + 1)), (by first | rfl | (simp; done) | (simp [*]; done)), H', ⟨by have := HJ2.out; have := HK2.out; omega⟩, ⟨by (with_reducible repeat (first | refine blk_drewN ?_ _ | refine blk_drew ?_ | refine blk_alloc ?_ _)); exact BK559.out⟩, ⟨by (with_reducible repeat (first | refine blk_drewN ?_ _ | refine blk_drew ?_ | refine blk_alloc ?_ _)); exact BK560.out⟩, ⟨by repeat (first | (with_reducible first | exact HB.out | apply below_alloc | apply pw_below_drewN | apply below_drew1 | refine below_set ?_ GE559.out | refine below_set ?_ GE560.out) | exact HB.out)⟩⟩
                        · rw [if_neg c23] at H
                          have c23b0 : ((rdOf ByteArray.empty l0_0 x5_2).toList == (rdOf ByteArray.empty l1_0 x5_2).toList) = false := beq_eq_false_iff_ne.mpr c23
                          have c23b1 : ((rdOf ByteArray.empty l0_0 x5_2).toList != (rdOf ByteArray.empty l1_0 x5_2).toList) = true := bne_iff_ne.mpr c23
                          by_cases c27 : ((rdOf ByteArray.empty l0_0 x5_2).size : Int) = 1
                          · rw [if_pos c27] at H
                            have c27b0 : (((rdOf ByteArray.empty l0_0 x5_2).size : Int) == 1) = true := beq_iff_eq.mpr c27
                            have c27b1 : (((rdOf ByteArray.empty l0_0 x5_2).size : Int) != 1) = false := bne_eq_false_iff_eq.mpr c27
                            clear c27
                            replace H := Option.bind_eq_some_iff.mp H
                            obtain ⟨t563, A280, H⟩ := H
                            replace H : (if t563 = true then (impl_mayBeSame.l0 k2 (wrap64 (x5_2 + 1)) l0_0 a0_1 a0_2 a0_3 l1_0 a1_1 a1_2 a1_3) else (if ((rdOf ByteArray.empty l1_0 x5_2).size : Int) = 1 then ((strings_HasPrefix.f (rdOf ByteArray.empty l0_0 x5_2) (rdOf ByteArray.empty l1_0 x5_2)).bind fun t564 => (if t564 = true then (impl_mayBeSame.l0 k2 (wrap64 (x5_2 + 1)) l0_0 a0_1 a0_2 a0_3 l1_0 a1_1 a1_2 a1_3) else (some false))) else (some false))) = some r := H
                            have A28 := Aside0.mk A280
                            clear A280
                            by_cases c29 : t563 = true
                            · subst c29
                              have H1 : (impl_mayBeSame.l0 k2 (wrap64 (x5_2 + 1)) l0_0 a0_1 a0_2 a0_3 l1_0 a1_1 a1_2 a1_3) = some r := by rw [if_pos rfl] at H; exact H
                              clear H
                              have H := H1
                              clear H1
                              have H' := Aside0.mk H
                              clear H
                              have hnb30 := NB559_560.out
                              have hnc30 := NB560_559.out
                              have hcz31_0 : wr.cell? ⟨gb559, 0, none⟩ = some (.slice A0_0 l0_0.length c0_0) := (blk_cell BK559.out 0).trans rfl
                              have hcz31_1 : wr.cell? ⟨gb559, 1, none⟩ = some (.string a0_1) := (blk_cell BK559.out 1).trans rfl
                              have hcz31_2 : wr.cell? ⟨gb559, 2, none⟩ = some (.string a0_2) := (blk_cell BK559.out 2).trans rfl
                              have hcz31_3 : wr.cell? ⟨gb559, 3, none⟩ = some (.string a0_3) := (blk_cell BK559.out 3).trans rfl
                              have hfz31_0 := blk_frozen BK559.out 0
                              have hfz31_1 := blk_frozen BK559.out 1
                              have hfz31_2 := blk_frozen BK559.out 2
                              have hfz31_3 := blk_frozen BK559.out 3
                              have hcz32_0 : wr.cell? ⟨gb560, 0, none⟩ = some (.slice A1_0 l1_0.length c1_0) := (blk_cell BK560.out 0).trans rfl
                              have hcz32_1 : wr.cell? ⟨gb560, 1, none⟩ = some (.string a1_1) := (blk_cell BK560.out 1).trans rfl
                              have hcz32_2 : wr.cell? ⟨gb560, 2, none⟩ = some (.string a1_2) := (blk_cell BK560.out 2).trans rfl
                              have hcz32_3 : wr.cell? ⟨gb560, 3, none⟩ = some (.string a1_3) := (blk_cell BK560.out 3).trans rfl
                              have hfz32_0 := blk_frozen BK560.out 0
                              have hfz32_1 := blk_frozen BK560.out 1
                              have hfz32_2 := blk_frozen BK560.out 2
                              have hfz32_3 := blk_frozen BK560.out 3
                              have p561 : 0 ≤ (x5_2 : Int) := of_decide_eq_true (by first | (with_reducible assumption) | assumption)
                              have q561 : x5_2 < (l0_0.length : Int) := of_decide_eq_true (by first | (with_reducible assumption) | assumption)
                              obtain ⟨ad561, e561, hx561_0⟩ := Kd.at_string HR0_0.out x5_2 p561 q561
                              cases e561
                              replace hx561_0 := (HB.out.cell (World.block_lt_of_cell? w _ hx561_0)).trans hx561_0
                              replace p561 := eq_true p561
                              replace q561 := eq_true q561
                              have p562 : 0 ≤ (x5_2 : Int) := of_decide_eq_true (by first | (with_reducible assumption) | assumption)
                              have q562 : x5_2 < (l1_0.length : Int) := of_decide_eq_true (by first | (with_reducible assumption) | assumption)
                              obtain ⟨ad562, e562, hx562_0⟩ := Kd.at_string HR1_0.out x5_2 p562 q562
                              cases e562
                              replace hx562_0 := (HB.out.cell (World.block_lt_of_cell? w _ hx562_0)).trans hx562_0
                              replace p562 := eq_true p562
                              replace q562 := eq_true q562
                              go_wp2_with (first | (go_at_call 145; (with_reducible refine (strings_HasPrefix.calls (rdOf ByteArray.empty l1_0 x5_2) (rdOf ByteArray.empty l0_0 x5_2) true _ A28.out).mono ?_); rintro e w' ⟨rfl, ⟨nd, rfl⟩⟩; (try first | exact ⟨rfl, _, World.drewN_drewN _ _ _⟩ | exact ⟨rfl, _, Eq.trans (World.drewN_drewN _ _ _) (congrArg (World.drewN _) (Nat.add_assoc _ _ _))⟩)))
                              all_goals
                                first
                                | (exfalso; (try simp only [decide_eq_true_eq, decide_eq_false_iff_not] at *); first | done | omega)
                                | repeat (go_quiet (first | (go_at_call 145; (with_reducible refine (strings_HasPrefix.calls (rdOf ByteArray.empty l1_0 x5_2) (rdOf ByteArray.empty l0_0 x5_2) true _ A28.out).mono ?_); rintro e w' ⟨rfl, ⟨nd, rfl⟩⟩; (try first | exact ⟨rfl, _, World.drewN_drewN _ _ _⟩ | exact ⟨rfl, _, Eq.trans (World.drewN_drewN _ _ _) (congrArg (World.drewN _) (Nat.add_assoc _ _ _))⟩))); try go_wp2_with (first | (go_at_call 145; (with_reducible refine (strings_HasPrefix.calls (rdOf ByteArray.empty l1_0 x5_2) (rdOf ByteArray.empty l0_0 x5_2) true _ A28.out).mono ?_); rintro e w' ⟨rfl, ⟨nd, rfl⟩⟩; (try first | exact ⟨rfl, _, World.drewN_drewN _ _ _⟩ | exact ⟨rfl, _, Eq.trans (World.drewN_drewN _ _ _) (congrArg (World.drewN _) (Nat.add_assoc _ _ _))⟩))))
                                  go_roundg k2
                                  case measure => have := HJ2.out; have := HK2.out; omega
                                  case rel => exact ⟨(wrap64 (x5_2 + 1)), (by first | rfl | (simp; done) | (simp [*]; done)), H', ⟨by have := HJ2.out; have := HK2.out; omega⟩, ⟨by (with_reducible repeat (first | refine blk_drewN ?_ _ | refine blk_drew ?_ | refine blk_alloc ?_ _)); exact BK559.out⟩, ⟨by (with_reducible repeat (first | refine blk_drewN ?_ _ | refine blk_drew ?_ | refine blk_alloc ?_ _)); exact BK560.out⟩, ⟨by repeat (first | (with_reducible first | exact HB.out | apply below_alloc | apply pw_below_drewN | apply below_drew1 | refine below_set ?_ GE559.out | refine below_set ?_ GE560.out) | exact HB.out)⟩⟩
                            · replace c29 := Bool.eq_false_iff.mpr c29
                              subst c29
                              have H1 : (if ((rdOf ByteArray.empty l1_0 x5_2).size : Int) = 1 then ((strings_HasPrefix.f (rdOf ByteArray.empty l0_0 x5_2) (rdOf ByteArray.empty l1_0 x5_2)).bind fun t564 => (if t564 = true then (impl_mayBeSame.l0 k2 (wrap64 (x5_2 + 1)) l0_0 a0_1 a0_2 a0_3 l1_0 a1_1 a1_2 a1_3) else (some false))) else (some false)) = some r := by rw [if_neg (show ¬ (false = true) by decide)] at H; exact H
                              clear H
                              have H := H1
                              clear H1
                              by_cases c33 : ((rdOf ByteArray.empty l1_0 x5_2).size : Int) = 1
                              · rw [if_pos c33] at H
                                have c33b0 : (((rdOf ByteArray.empty l1_0 x5_2).size : Int) == 1) = true := beq_iff_eq.mpr c33
                                have c33b1 : (((rdOf ByteArray.empty l1_0 x5_2).size : Int) != 1) = false := bne_eq_false_iff_eq.mpr c33
                                clear c33
                                replace H := Option.bind_eq_some_iff.mp H
                                obtain ⟨t564, A340, H⟩ := H
                                replace H : (if t564 = true then (impl_mayBeSame.l0 k2 (wrap64 (x5_2 + 1)) l0_0 a0_1 a0_2 a0_3 l1_0 a1_1 a1_2 a1_3) else (some false)) = some r := H
                                have A34 := Aside0.mk A340
                                clear A340
                                by_cases c35 : t564 = true
                                · subst c35
                                  have H1 : (impl_mayBeSame.l0 k2 (wrap64 (x5_2 + 1)) l0_0 a0_1 a0_2 a0_3 l1_0 a1_1 a1_2 a1_3) = some r := by rw [if_pos rfl] at H; exact H
                                  clear H
                                  have H := H1
                                  clear H1
                                  have H' := Aside0.mk H
                                  clear H
                                  have hnb36 := NB559_560.out
                                  have hnc36 := NB560_559.out
                                  have hcz37_0 : wr.cell? ⟨gb559, 0, none⟩ = some (.slice A0_0 l0_0.length c0_0) := (blk_cell BK559.out 0).trans rfl
                                  have hcz37_1 : wr.cell? ⟨gb559, 1, none⟩ = some (.string a0_1) := (blk_cell BK559.out 1).trans rfl
                                  have hcz37_2 : wr.cell? ⟨gb559, 2, none⟩ = some (.string a0_2) := (blk_cell BK559.out 2).trans rfl
                                  have hcz37_3 : wr.cell? ⟨gb559, 3, none⟩ = some (.string a0_3) := (blk_cell BK559.out 3).trans rfl
                                  have hfz37_0 := blk_frozen BK559.out 0
                                  have hfz37_1 := blk_frozen BK559.out 1
                                  have hfz37_2 := blk_frozen BK559.out 2
                                  have hfz37_3 := blk_frozen BK559.out 3
                                  have hcz38_0 : wr.cell? ⟨gb560, 0, none⟩ = some (.slice A1_0 l1_0.length c1_0) := (blk_cell BK560.out 0).trans rfl
                                  have hcz38_1 : wr.cell? ⟨gb560, 1, none⟩ = some (.string a1_1) := (blk_cell BK560.out 1).trans rfl
                                  have hcz38_2 : wr.cell? ⟨gb560, 2, none⟩ = some (.string a1_2) := (blk_cell BK560.out 2).trans rfl
                                  have hcz38_3 : wr.cell? ⟨gb560, 3, none⟩ = some (.string a1_3) := (blk_cell BK560.out 3).trans rfl
                                  have hfz38_0 := blk_frozen BK560.out 0
                                  have hfz38_1 := blk_frozen BK560.out 1
                                  have hfz38_2 := blk_frozen BK560.out 2
                                  have hfz38_3 := blk_frozen BK560.out 3
                                  have p561 : 0 ≤ (x5_2 : Int) := of_decide_eq_true (by first | (with_reducible assumption) | assumption)
                                  have q561 : x5_2 < (l0_0.length : Int) := of_decide_eq_true (by first | (with_reducible assumption) | assumption)
                                  obtain ⟨ad561, e561, hx561_0⟩ := Kd.at_string HR0_0.out x5_2 p561 q561
                                  cases e561
                                  replace hx561_0 := (HB.out.cell (World.block_lt_of_cell? w _ hx561_0)).trans hx561_0
                                  replace p561 := eq_true p561
                                  replace q561 := eq_true q561
                                  have p562 : 0 ≤ (x5_2 : Int) := of_decide_eq_true (by first | (with_reducible assumption) | assumption)
                                  have q562 : x5_2 < (l1_0.length : Int) := of_decide_eq_true (by first | (with_reducible assumption) | assumption)
                                  obtain ⟨ad562, e562, hx562_0⟩ := Kd.at_string HR1_0.out x5_2 p562 q562
                                  cases e562
                                  replace hx562_0 := (HB.out.cell (World.block_lt_of_cell? w _ hx562_0)).trans hx562_0
                                  replace p562 := eq_true p562
                                  replace q562 := eq_true q562
                                  go_wp2_with (first | (go_at_call 145; (with_reducible refine (strings_HasPrefix.calls (rdOf ByteArray.empty l1_0 x5_2) (rdOf ByteArray.empty l0_0 x5_2) false _ A28.out).mono ?_); rintro e w' ⟨rfl, ⟨nd, rfl⟩⟩; (try first | exact ⟨rfl, _, World.drewN_drewN _ _ _⟩ | exact ⟨rfl, _, Eq.trans (World.drewN_drewN _ _ _) (congrArg (World.drewN _) (Nat.add_assoc _ _ _))⟩)) | (go_at_call 145; (with_reducible refine (strings_HasPrefix.calls (rdOf ByteArray.empty l0_0 x5_2) (rdOf ByteArray.empty l1_0 x5_2) true _ A34.out).mono ?_); rintro e w' ⟨rfl, ⟨nd, rfl⟩⟩; (try first | exact ⟨rfl, _, World.drewN_drewN _ _ _⟩ | exact ⟨rfl, _, Eq.trans (World.drewN_drewN _ _ _) (congrArg (World.drewN _) (Nat.add_assoc _ _ _))⟩)))
                                  all_goals
                                    first
                                    | (exfalso; (try simp only [decide_eq_true_eq, decide_eq_false_iff_not] at *); first | done | omega)
                                    | repeat (go_quiet (first | (go_at_call 145; (with_reducible refine (strings_HasPrefix.calls (rdOf ByteArray.empty l1_0 x5_2) (rdOf ByteArray.empty l0_0 x5_2) false _ A28.out).mono ?_); rintro e w' ⟨rfl, ⟨nd, rfl⟩⟩; (try first | exact ⟨rfl, _, World.drewN_drewN _ _ _⟩ | exact ⟨rfl, _, Eq.trans (World.drewN_drewN _ _ _) (congrArg (World.drewN _) (Nat.add_assoc _ _ _))⟩)) | (go_at_call 145; (with_reducible refine (strings_HasPrefix.calls (rdOf ByteArray.empty l0_0 x5_2) (rdOf ByteArray.empty l1_0 x5_2) true _ A34.out).mono ?_); rintro e w' ⟨rfl, ⟨nd, rfl⟩⟩; (try first | exact ⟨rfl, _, World.drewN_drewN _ _ _⟩ | exact ⟨rfl, _, Eq.trans (World.drewN_drewN _ _ _) (congrArg (World.drewN _) (Nat.add_assoc _ _ _))⟩))); try go_wp2_with (first | (go_at_call 145; (with_reducible refine (strings_HasPrefix.calls (rdOf ByteArray.empty l1_0 x5_2) (rdOf ByteArray.empty l0_0 x5_2) false _ A28.out).mono ?_); rintro e w' ⟨rfl, ⟨nd, rfl⟩⟩; (try first | exact ⟨rfl, _, World.drewN_drewN _ _ _⟩ | exact ⟨rfl, _, Eq.trans (World.drewN_drewN _ _ _) (congrArg (World.drewN _) (Nat.add_assoc _ _ _))⟩)) | (go_at_call 145; (with_reducible refine (strings_HasPrefix.calls (rdOf ByteArray.empty l0_0 x5_2) (rdOf ByteArray.empty l1_0 x5_2) true _ A34.out).mono ?_); rintro e w' ⟨rfl, ⟨nd, rfl⟩⟩; (try first | exact ⟨rfl, _, World.drewN_drewN _ _ _⟩ | exact ⟨rfl, _, Eq.trans (World.drewN_drewN _ _ _) (congrArg (World.drewN _) (Nat.add_assoc _ _ _))⟩))))
                                      go_roundg k2
                                      case measure => have := HJ2.out; have := HK2.out; omega
                                      case rel => exact ⟨(wrap64 (x5_2 + 1)), (by first | rfl | (simp; done) | (simp [*]; done)), H', ⟨by have := HJ2.out; have := HK2.out; omega⟩, ⟨by (with_reducible repeat (first | refine blk_drewN ?_ _ | refine blk_drew ?_ | refine blk_alloc ?_ _)); exact BK559.out⟩, ⟨by (with_reducible repeat (first | refine blk_drewN ?_ _ | refine blk_drew ?_ | refine blk_alloc ?_ _)); exact BK560.out⟩, ⟨by repeat (first | (with_reducible first | exact HB.out | apply below_alloc | apply pw_below_drewN | apply below_drew1 | refine below_set ?_ GE559.out | refine below_set ?_ GE560.out) | exact HB.out)⟩⟩
                                · replace c35 := Bool.eq_false_iff.mpr c35
                                  subst c35
                                  have H1 : (some false) = some r := by rw [if_neg (show ¬ (false = true) by decide)] at H; exact H
                                  clear H
                                  have H := H1
                                  clear H1
                                  obtain rfl := Option.some.inj H
                                  have hnb39 := NB559_560.out
                                  have hnc39 := NB560_559.out
                                  have hcz40_0 : wr.cell? ⟨gb559, 0, none⟩ = some (.slice A0_0 l0_0.length c0_0) := (blk_cell BK559.out 0).trans rfl
                                  have hcz40_1 : wr.cell? ⟨gb559, 1, none⟩ = some (.string a0_1) := (blk_cell BK559.out 1).trans rfl
                                  have hcz40_2 : wr.cell? ⟨gb559, 2, none⟩ = some (.string a0_2) := (blk_cell BK559.out 2).trans rfl
                                  have hcz40_3 : wr.cell? ⟨gb559, 3, none⟩ = some (.string a0_3) := (blk_cell BK559.out 3).trans rfl
                                  have hfz40_0 := blk_frozen BK559.out 0
                                  have hfz40_1 := blk_frozen BK559.out 1
                                  have hfz40_2 := blk_frozen BK559.out 2
                                  have hfz40_3 := blk_frozen BK559.out 3
                                  have hcz41_0 : wr.cell? ⟨gb560, 0, none⟩ = some (.slice A1_0 l1_0.length c1_0) := (blk_cell BK560.out 0).trans rfl
                                  have hcz41_1 : wr.cell? ⟨gb560, 1, none⟩ = some (.string a1_1) := (blk_cell BK560.out 1).trans rfl
                                  have hcz41_2 : wr.cell? ⟨gb560, 2, none⟩ = some (.string a1_2) := (blk_cell BK560.out 2).trans rfl
                                  have hcz41_3 : wr.cell? ⟨gb560, 3, none⟩ = some (.string a1_3) := (blk_cell BK560.out 3).trans rfl
                                  have hfz41_0 := blk_frozen BK560.out 0
                                  have hfz41_1 := blk_frozen BK560.out 1
                                  have hfz41_2 := blk_frozen BK560.out 2
                                  have hfz41_3 := blk_frozen BK560.out 3
                                  have p561 : 0 ≤ (x5_2 : Int) := of_decide_eq_true (by first | (with_reducible assumption) | assumption)
                                  have q561 : x5_2 < (l0_0.length : Int) := of_decide_eq_true (by first | (with_reducible assumption) | assumption)
                                  obtain ⟨ad561, e561, hx561_0⟩ := Kd.at_string HR0_0.out x5_2 p561 q561
                                  cases e561
                                  replace hx561_0 := (HB.out.cell (World.block_lt_of_cell? w _ hx561_0)).trans hx561_0
                                  replace p561 := eq_true p561
                                  replace q561 := eq_true q561
                                  have p562 : 0 ≤ (x5_2 : Int) := of_decide_eq_true (by first | (with_reducible assumption) | assumption)
                                  have q562 : x5_2 < (l1_0.length : Int) := of_decide_eq_true (by first | (with_reducible assumption) | assumption)
                                  obtain ⟨ad562, e562, hx562_0⟩ := Kd.at_string HR1_0.out x5_2 p562 q562
                                  cases e562
                                  replace hx562_0 := (HB.out.cell (World.block_lt_of_cell? w _ hx562_0)).trans hx562_0
                                  replace p562 := eq_true p562
                                  replace q562 := eq_true q562
                                  go_wp2_with (first | (go_at_call 145; (with_reducible refine (strings_HasPrefix.calls (rdOf ByteArray.empty l1_0 x5_2) (rdOf ByteArray.empty l0_0 x5_2) false _ A28.out).mono ?_); rintro e w' ⟨rfl, ⟨nd, rfl⟩⟩; (try first | exact ⟨rfl, _, World.drewN_drewN _ _ _⟩ | exact ⟨rfl, _, Eq.trans (World.drewN_drewN _ _ _) (congrArg (World.drewN _) (Nat.add_assoc _ _ _))⟩)) | (go_at_call 145; (with_reducible refine (strings_HasPrefix.calls (rdOf ByteArray.empty l0_0 x5_2) (rdOf ByteArray.empty l1_0 x5_2) false _ A34.out).mono ?_); rintro e w' ⟨rfl, ⟨nd, rfl⟩⟩; (try first | exact ⟨rfl, _, World.drewN_drewN _ _ _⟩ | exact ⟨rfl, _, Eq.trans (World.drewN_drewN _ _ _) (congrArg (World.drewN _) (Nat.add_assoc _ _ _))⟩)))
                                  all_goals
                                    first
                                    | (exfalso; (try simp only [decide_eq_true_eq, decide_eq_false_iff_not] at *); first | done | omega)
                                    | repeat (go_quiet (first | (go_at_call 145; (with_reducible refine (strings_HasPrefix.calls (rdOf ByteArray.empty l1_0 x5_2) (rdOf ByteArray.empty l0_0 x5_2) false _ A28.out).mono ?_); rintro e w' ⟨rfl, ⟨nd, rfl⟩⟩; (try first | exact ⟨rfl, _, World.drewN_drewN _ _ _⟩ | exact ⟨rfl, _, Eq.trans (World.drewN_drewN _ _ _) (congrArg (World.drewN _) (Nat.add_assoc _ _ _))⟩)) | (go_at_call 145; (with_reducible refine (strings_HasPrefix.calls (rdOf ByteArray.empty l0_0 x5_2) (rdOf ByteArray.empty l1_0 x5_2) false _ A34.out).mono ?_); rintro e w' ⟨rfl, ⟨nd, rfl⟩⟩; (try first | exact ⟨rfl, _, World.drewN_drewN _ _ _⟩ | exact ⟨rfl, _, Eq.trans (World.drewN_drewN _ _ _) (congrArg (World.drewN _) (Nat.add_assoc _ _ _))⟩))); try go_wp2_with (first | (go_at_call 145; (with_reducible refine (strings_HasPrefix.calls (rdOf ByteArray.empty l1_0 x5_2) (rdOf ByteArray.empty l0_0 x5_2) false _ A28.out).mono ?_); rintro e w' ⟨rfl, ⟨nd, rfl⟩⟩; (try first | exact ⟨rfl, _, World.drewN_drewN _ _ _⟩ | exact ⟨rfl, _, Eq.trans (World.drewN_drewN _ _ _) (congrArg (World.drewN _) (Nat.add_assoc _ _ _))⟩)) | (go_at_call 145; (with_reducible refine (strings_HasPrefix.calls (rdOf ByteArray.empty l0_0 x5_2) (rdOf ByteArray.empty l1_0 x5_2) false _ A34.out).mono ?_); rintro e w' ⟨rfl, ⟨nd, rfl⟩⟩; (try first | exact ⟨rfl, _, World.drewN_drewN _ _ _⟩ | exact ⟨rfl, _, Eq.trans (World.drewN_drewN _ _ _) (congrArg (World.drewN _) (Nat.add_assoc _ _ _))⟩))))
                                      go_ret
                                      exact ⟨by first | rfl | (simp [errW_none, errW_some] <;> rfl) | (simp only [← hji18]; first | rfl | (simp [errW_none, errW_some] <;> rfl)) | (simp [*, errW_none, errW_some] <;> rfl), by repeat (first | (with_reducible first | exact HB.out | apply below_alloc | apply pw_below_drewN | apply below_drew1 | refine below_set ?_ GE559.out | refine below_set ?_ GE560.out) | exact HB.out)⟩
                              · rw [if_neg c33] at H
                                have c33b0 : (((rdOf ByteArray.empty l1_0 x5_2).size : Int) == 1) = false := beq_eq_false_iff_ne.mpr c33
                                have c33b1 : (((rdOf ByteArray.empty l1_0 x5_2).size : Int) != 1) = true := bne_iff_ne.mpr c33
                                obtain rfl := Option.some.inj H
                                have hnb42 := NB559_560.out
                                have hnc42 := NB560_559.out
                                have hcz43_0 : wr.cell? ⟨gb559, 0, none⟩ = some (.slice A0_0 l0_0.length c0_0) := (blk_cell BK559.out 0).trans rfl
                                have hcz43_1 : wr.cell? ⟨gb559, 1, none⟩ = some (.string a0_1) := (blk_cell BK559.out 1).trans rfl
                                have hcz43_2 : wr.cell? ⟨gb559, 2, none⟩ = some (.string a0_2) := (blk_cell BK559.out 2).trans rfl
                                have hcz43_3 : wr.cell? ⟨gb559, 3, none⟩ = some (.string a0_3) := (blk_cell BK559.out 3).trans rfl
                                have hfz43_0 := blk_frozen BK559.out 0
                                have hfz43_1 := blk_frozen BK559.out 1
                                have hfz43_2 := blk_frozen BK559.out 2
                                have hfz43_3 := blk_frozen BK559.out 3
                                have hcz44_0 : wr.cell? ⟨gb560, 0, none⟩ = some (.slice A1_0 l1_0.length c1_0) := (blk_cell BK560.out 0).trans rfl
                                have hcz44_1 : wr.cell? ⟨gb560, 1, none⟩ = some (.string a1_1) := (blk_cell BK560.out 1).trans rfl
                                have hcz44_2 : wr.cell? ⟨gb560, 2, none⟩ = some (.string a1_2) := (blk_cell BK560.out 2).trans rfl
                                have hcz44_3 : wr.cell? ⟨gb560, 3, none⟩ = some (.string a1_3) := (blk_cell BK560.out 3).trans rfl
                                have hfz44_0 := blk_frozen BK560.out 0
                                have hfz44_1 := blk_frozen BK560.out 1
                                have hfz44_2 := blk_frozen BK560.out 2
                                have hfz44_3 := blk_frozen BK560.out 3
                                have p561 : 0 ≤ (x5_2 : Int) := of_decide_eq_true (by first | (with_reducible assumption) | assumption)
                                have q561 : x5_2 < (l0_0.length : Int) := of_decide_eq_true (by first | (with_reducible assumption) | assumption)
                                obtain ⟨ad561, e561, hx561_0⟩ := Kd.at_string HR0_0.out x5_2 p561 q561
                                cases e561
                                replace hx561_0 := (HB.out.cell (World.block_lt_of_cell? w _ hx561_0)).trans hx561_0
                                replace p561 := eq_true p561
                                replace q561 := eq_true q561
                                have p562 : 0 ≤ (x5_2 : Int) := of_decide_eq_true (by first | (with_reducible assumption) | assumption)
                                have q562 : x5_2 < (l1_0.length : Int) := of_decide_eq_true (by first | (with_reducible assumption) | assumption)
                                obtain ⟨ad562, e562, hx562_0⟩ := Kd.at_string HR1_0.out x5_2 p562 q562
                                cases e562
                                replace hx562_0 := (HB.out.cell (World.block_lt_of_cell? w _ hx562_0)).trans hx562_0
                                replace p562 := eq_true p562
                                replace q562 := eq_true q562
                                go_wp2_with (first | (go_at_call 145; (with_reducible refine (strings_HasPrefix.calls (rdOf ByteArray.empty l1_0 x5_2) (rdOf ByteArray.empty l0_0 x5_2) false _ A28.out).mono ?_); rintro e w' ⟨rfl, ⟨nd, rfl⟩⟩; (try first | exact ⟨rfl, _, World.drewN_drewN _ _ _⟩ | exact ⟨rfl, _, Eq.trans (World.drewN_drewN _ _ _) (congrArg (World.drewN _) (Nat.add_assoc _ _ _))⟩)))
                                all_goals
                                  first
                                  | (exfalso; (try simp only [decide_eq_true_eq, decide_eq_false_iff_not] at *); first | done | omega)
                                  | repeat (go_quiet (first | (go_at_call 145; (with_reducible refine (strings_HasPrefix.calls (rdOf ByteArray.empty l1_0 x5_2) (rdOf ByteArray.empty l0_0 x5_2) false _ A28.out).mono ?_); rintro e w' ⟨rfl, ⟨nd, rfl⟩⟩; (try first | exact ⟨rfl, _, World.drewN_drewN _ _ _⟩ | exact ⟨rfl, _, Eq.trans (World.drewN_drewN _ _ _) (congrArg (World.drewN _) (Nat.add_assoc _ _ _))⟩))); try go_wp2_with (first | (go_at_call 145; (with_reducible refine (strings_HasPrefix.calls (rdOf ByteArray.empty l1_0 x5_2) (rdOf ByteArray.empty l0_0 x5_2) false _ A28.out).mono ?_); rintro e w' ⟨rfl, ⟨nd, rfl⟩⟩; (try first | exact ⟨rfl, _, World.drewN_drewN _ _ _⟩ | exact ⟨rfl, _, Eq.trans (World.drewN_drewN _ _ _) (congrArg (World.drewN _) (Nat.add_assoc _ _ _))⟩))))
                                    go_ret
                                    exact ⟨by first | rfl | (simp [errW_none, errW_some] <;> rfl) | (simp only [← hji18]; first | rfl | (simp [errW_none, errW_some] <;> rfl)) | (simp [*, errW_none, errW_some] <;> rfl), by repeat (first | (with_reducible first | exact HB.out | apply below_alloc | apply pw_below_drewN | apply below_drew1 | refine below_set ?_ GE559.out | refine below_set ?_ GE560.out) | exact HB.out)⟩
                          · rw [if_neg c27] at H
                            have c27b0 : (((rdOf ByteArray.empty l0_0 x5_2).size : Int) == 1) = false := beq_eq_false_iff_ne.mpr c27
                            have c27b1 : (((rdOf ByteArray.empty l0_0 x5_2).size : Int) != 1) = true := bne_iff_ne.mpr c27
                            by_cases c45 : ((rdOf ByteArray.empty l1_0 x5_2).size : Int) = 1
                            · rw [if_pos c45] at H
                              have c45b0 : (((rdOf ByteArray.empty l1_0 x5_2).size : Int) == 1) = true := beq_iff_eq.mpr c45
                              have c45b1 : (((rdOf ByteArray.empty l1_0 x5_2).size : Int) != 1) = false := bne_eq_false_iff_eq.mpr c45
                              clear c45
                              replace H := Option.bind_eq_some_iff.mp H
                              obtain ⟨t565, A460, H⟩ := H
                              replace H : (if t565 = true then (impl_mayBeSame.l0 k2 (wrap64 (x5_2 + 1)) l0_0 a0_1 a0_2 a0_3 l1_0 a1_1 a1_2 a1_3) else (some false)) = some r := H
                              have A46 := Aside0.mk A460
                              clear A460
                              by_cases c47 : t565 = true
                              · subst c47
                                have H1 : (impl_mayBeSame.l0 k2 (wrap64 (x5_2 + 1)) l0_0 a0_1 a0_2 a0_3 l1_0 a1_1 a1_2 a1_3) = some r := by rw [if_pos rfl] at H; exact H
                                clear H
                                have H := H1
                                clear H1
                                have H' := Aside0.mk H
                                clear H
                                have hnb48 := NB559_560.out
                                have hnc48 := NB560_559.out
                                have hcz49_0 : wr.cell? ⟨gb559, 0, none⟩ = some (.slice A0_0 l0_0.length c0_0) := (blk_cell BK559.out 0).trans rfl
                                have hcz49_1 : wr.cell? ⟨gb559, 1, none⟩ = some (.string a0_1) := (blk_cell BK559.out 1).trans rfl
                                have hcz49_2 : wr.cell? ⟨gb559, 2, none⟩ = some (.string a0_2) := (blk_cell BK559.out 2).trans rfl
                                have hcz49_3 : wr.cell? ⟨gb559, 3, none⟩ = some (.string a0_3) := (blk_cell BK559.out 3).trans rfl
                                have hfz49_0 := blk_frozen BK559.out 0
                                have hfz49_1 := blk_frozen BK559.out 1
                                have hfz49_2 := blk_frozen BK559.out 2
                                have hfz49_3 := blk_frozen BK559.out 3
                                have hcz50_0 : wr.cell? ⟨gb560, 0, none⟩ = some (.slice A1_0 l1_0.length c1_0) := (blk_cell BK560.out 0).trans rfl
                                have hcz50_1 : wr.cell? ⟨gb560, 1, none⟩ = some (.string a1_1) := (blk_cell BK560.out 1).trans rfl
                                have hcz50_2 : wr.cell? ⟨gb560, 2, none⟩ = some (.string a1_2) := (blk_cell BK560.out 2).trans rfl
                                have hcz50_3 : wr.cell? ⟨gb560, 3, none⟩ = some (.string a1_3) := (blk_cell BK560.out 3).trans rfl
                                have hfz50_0 := blk_frozen BK560.out 0
                                have hfz50_1 := blk_frozen BK560.out 1
                                have hfz50_2 := blk_frozen BK560.out 2
                                have hfz50_3 := blk_frozen BK560.out 3
                                have p561 : 0 ≤ (x5_2 : Int) := of_decide_eq_true (by first | (with_reducible assumption) | assumption)
                                have q561 : x5_2 < (l0_0.length : Int) := of_decide_eq_true (by first | (with_reducible assumption) | assumption)
                                obtain ⟨ad561, e561, hx561_0⟩ := Kd.at_string HR0_0.out x5_2 p561 q561
                                cases e561
                                replace hx561_0 := (HB.out.cell (World.block_lt_of_cell? w _ hx561_0)).trans hx561_0
                                replace p561 := eq_true p561
                                replace q561 := eq_true q561
                                have p562 : 0 ≤ (x5_2 : Int) := of_decide_eq_true (by first | (with_reducible assumption) | assumption)
                                have q562 : x5_2 < (l1_0.length : Int) := of_decide_eq_true (by first | (with_reducible assumption) | assumption)
                                obtain ⟨ad562, e562, hx562_0⟩ := Kd.at_string HR1_0.out x5_2 p562 q562
                                cases e562
                                replace hx562_0 := (HB.out.cell (World.block_lt_of_cell? w _ hx562_0)).trans hx562_0
                                replace p562 := eq_true p562
                                replace q562 := eq_true q562
                                go_wp2_with (first | (go_at_call 145; (with_reducible refine (strings_HasPrefix.calls (rdOf ByteArray.empty l0_0 x5_2) (rdOf ByteArray.empty l1_0 x5_2) true _ A46.out).mono ?_); rintro e w' ⟨rfl, ⟨nd, rfl⟩⟩; (try first | exact ⟨rfl, _, World.drewN_drewN _ _ _⟩ | exact ⟨rfl, _, Eq.trans (World.drewN_drewN _ _ _) (congrArg (World.drewN _) (Nat.add_assoc _ _ _))⟩)))
                                all_goals
                                  first
                                  | (exfalso; (try simp only [decide_eq_true_eq, decide_eq_false_iff_not] at *); first | done | omega)
                                  | repeat (go_quiet (first | (go_at_call 145; (with_reducible refine (strings_HasPrefix.calls (rdOf ByteArray.empty l0_0 x5_2) (rdOf ByteArray.empty l1_0 x5_2) true _ A46.out).mono ?_); rintro e w' ⟨rfl, ⟨nd, rfl⟩⟩; (try first | exact ⟨rfl, _, World.drewN_drewN _ _ _⟩ | exact ⟨rfl, _, Eq.trans (World.drewN_drewN _ _ _) (congrArg (World.drewN _) (Nat.add_assoc _ _ _))⟩))); try go_wp2_with (first | (go_at_call 145; (with_reducible refine (strings_HasPrefix.calls (rdOf ByteArray.empty l0_0 x5_2) (rdOf ByteArray.empty l1_0 x5_2) true _ A46.out).mono ?_); rintro e w' ⟨rfl, ⟨nd, rfl⟩⟩; (try first | exact ⟨rfl, _, World.drewN_drewN _ _ _⟩ | exact ⟨rfl, _, Eq.trans (World.drewN_drewN _ _ _) (congrArg (World.drewN _) (Nat.add_assoc _ _ _))⟩))))
                                    go_roundg k2
                                    case measure => have := HJ2.out; have := HK2.out; omega
                                    case rel => exact ⟨(wrap64 (x5_2 + 1)), (by first | rfl | (simp; done) | (simp [*]; done)), H', ⟨by have := HJ2.out; have := HK2.out; omega⟩, ⟨by (with_reducible repeat (first | refine blk_drewN ?_ _ | refine blk_drew ?_ | refine blk_alloc ?_ _)); exact BK559.out⟩, ⟨by (with_reducible repeat (first | refine blk_drewN ?_ _ | refine blk_drew ?_ | refine blk_alloc ?_ _)); exact BK560.out⟩, ⟨by repeat (first | (with_reducible first | exact HB.out | apply below_alloc | apply pw_below_drewN | apply below_drew1 | refine below_set ?_ GE559.out | refine below_set ?_ GE560.out) | exact HB.out)⟩⟩
                              · replace c47 := Bool.eq_false_iff.mpr c47
                                subst c47
                                have H1 : (some false) = some r := by rw [if_neg (show ¬ (false = true) by decide)] at H; exact H
                                clear H
                                have H := H1
                                clear H1
                                obtain rfl := Option.some.inj H
                                have hnb51 := NB559_560.out
                                have hnc51 := NB560_559.out
                                have hcz52_0 : wr.cell? ⟨gb559, 0, none⟩ = some (.slice A0_0 l0_0.length c0_0) := (blk_cell BK559.out 0).trans rfl
                                have hcz52_1 : wr.cell? ⟨gb559, 1, none⟩ = some (.string a0_1) := (blk_cell BK559.out 1).trans rfl
                                have hcz52_2 : wr.cell? ⟨gb559, 2, none⟩ = some (.string a0_2) := (blk_cell BK559.out 2).trans rfl
                                have hcz52_3 : wr.cell? ⟨gb559, 3, none⟩ = some (.string a0_3) := (blk_cell BK559.out 3).trans rfl
                                have hfz52_0 := blk_frozen BK559.out 0
                                have hfz52_1 := blk_frozen BK559.out 1
                                have hfz52_2 := blk_frozen BK559.out 2
                                have hfz52_3 := blk_frozen BK559.out 3
                                have hcz53_0 : wr.cell? ⟨gb560, 0, none⟩ = some (.slice A1_0 l1_0.length c1_0) := (blk_cell BK560.out 0).trans rfl
                                have hcz53_1 : wr.cell? ⟨gb560, 1, none⟩ = some (.string a1_1) := (blk_cell BK560.out 1).trans rfl
                                have hcz53_2 : wr.cell? ⟨gb560, 2, none⟩ = some (.string a1_2) := (blk_cell BK560.out 2).trans rfl
                                have hcz53_3 : wr.cell? ⟨gb560, 3, none⟩ = some (.string a1_3) := (blk_cell BK560.out 3).trans rfl
                                have hfz53_0 := blk_frozen BK560.out 0
                                have hfz53_1 := blk_frozen BK560.out 1
                                have hfz53_2 := blk_frozen BK560.out 2
                                have hfz53_3 := blk_frozen BK560.out 3
                                have p561 : 0 ≤ (x5_2 : Int) := of_decide_eq_true (by first | (with_reducible assumption) | assumption)
                                have q561 : x5_2 < (l0_0.length : Int) := of_decide_eq_true (by first | (with_reducible assumption) | assumption)
                                obtain ⟨ad561, e561, hx561_0⟩ := Kd.at_string HR0_0.out x5_2 p561 q561
                                cases e561
                                replace hx561_0 := (HB.out.cell (World.block_lt_of_cell? w _ hx561_0)).trans hx561_0
                                replace p561 := eq_true p561
                                replace q561 := eq_true q561
                                have p562 : 0 ≤ (x5_2 : Int) := of_decide_eq_true (by first | (with_reducible assumption) | assumption)
                                have q562 : x5_2 < (l1_0.length : Int) := of_decide_eq_true (by first | (with_reducible assumption) | assumption)
                                obtain ⟨ad562, e562, hx562_0⟩ := Kd.at_string HR1_0.out x5_2 p562 q562
                                cases e562
                                replace hx562_0 := (HB.out.cell (World.block_lt_of_cell? w _ hx562_0)).trans hx562_0
                                replace p562 := eq_true p562
                                replace q562 := eq_true q562
                                go_wp2_with (first | (go_at_call 145; (with_reducible refine (strings_HasPrefix.calls (rdOf ByteArray.empty l0_0 x5_2) (rdOf ByteArray.empty l1_0 x5_2) false _ A46.out).mono ?_); rintro e w' ⟨rfl, ⟨nd, rfl⟩⟩; (try first | exact ⟨rfl, _, World.drewN_drewN _ _ _⟩ | exact ⟨rfl, _, Eq.trans (World.drewN_drewN _ _ _) (congrArg (World.drewN _) (Nat.add_assoc _ _ _))⟩)))
                                all_goals
                                  first
                                  | (exfalso; (try simp only [decide_eq_true_eq, decide_eq_false_iff_not] at *); first | done | omega)
                                  | repeat (go_quiet (first | (go_at_call 145; (with_reducible refine (strings_HasPrefix.calls (rdOf ByteArray.empty l0_0 x5_2) (rdOf ByteArray.empty l1_0 x5_2) false _ A46.out).mono ?_); rintro e w' ⟨rfl, ⟨nd, rfl⟩⟩; (try first | exact ⟨rfl, _, World.drewN_drewN _ _ _⟩ | exact ⟨rfl, _, Eq.trans (World.drewN_drewN _ _ _) (congrArg (World.drewN _) (Nat.add_assoc _ _ _))⟩))); try go_wp2_with (first | (go_at_call 145; (with_reducible refine (strings_HasPrefix.calls (rdOf ByteArray.empty l0_0 x5_2) (rdOf ByteArray.empty l1_0 x5_2) false _ A46.out).mono ?_); rintro e w' ⟨rfl, ⟨nd, rfl⟩⟩; (try first | exact ⟨rfl, _, World.drewN_drewN _ _ _⟩ | exact ⟨rfl, _, Eq.trans (World.drewN_drewN _ _ _) (congrArg (World.drewN _) (Nat.add_assoc _ _ _))⟩))))
                                    go_ret
                                    exact ⟨by first | rfl | (simp [errW_none, errW_some] <;> rfl) | (simp only [← hji18]; first | rfl | (simp [errW_none, errW_some] <;> rfl)) | (simp [*, errW_none, errW_some] <;> rfl), by repeat (first | (with_reducible first | exact HB.out | apply below_alloc | apply pw_below_drewN | apply below_drew1 | refine below_set ?_ GE559.out | refine below_set ?_ GE560.out) | exact HB.out)⟩
                            · rw [if_neg c45] at H
                              have c45b0 : (((rdOf ByteArray.empty l1_0 x5_2).size : Int) == 1) = false := beq_eq_false_iff_ne.mpr c45
                              have c45b1 : (((rdOf ByteArray.empty l1_0 x5_2).size : Int) != 1) = true := bne_iff_ne.mpr c45
                              obtain rfl := Option.some.inj H
                              have hnb54 := NB559_560.out
                              have hnc54 := NB560_559.out
                              have hcz55_0 : wr.cell? ⟨gb559, 0, none⟩ = some (.slice A0_0 l0_0.length c0_0) := (blk_cell BK559.out 0).trans rfl
                              have hcz55_1 : wr.cell? ⟨gb559, 1, none⟩ = some (.string a0_1) := (blk_cell BK559.out 1).trans rfl
                              have hcz55_2 : wr.cell? ⟨gb559, 2, none⟩ = some (.string a0_2) := (blk_cell BK559.out 2).trans rfl
                              have hcz55_3 : wr.cell? ⟨gb559, 3, none⟩ = some (.string a0_3) := (blk_cell BK559.out 3).trans rfl
                              have hfz55_0 := blk_frozen BK559.out 0
                              have hfz55_1 := blk_frozen BK559.out 1
                              have hfz55_2 := blk_frozen BK559.out 2
                              have hfz55_3 := blk_frozen BK559.out 3
                              have hcz56_0 : wr.cell? ⟨gb560, 0, none⟩ = some (.slice A1_0 l1_0.length c1_0) := (blk_cell BK560.out 0).trans rfl
                              have hcz56_1 : wr.cell? ⟨gb560, 1, none⟩ = some (.string a1_1) := (blk_cell BK560.out 1).trans rfl
                              have hcz56_2 : wr.cell? ⟨gb560, 2, none⟩ = some (.string a1_2) := (blk_cell BK560.out 2).trans rfl
                              have hcz56_3 : wr.cell? ⟨gb560, 3, none⟩ = some (.string a1_3) := (blk_cell BK560.out 3).trans rfl
                              have hfz56_0 := blk_frozen BK560.out 0
                              have hfz56_1 := blk_frozen BK560.out 1
                              have hfz56_2 := blk_frozen BK560.out 2
                              have hfz56_3 := blk_frozen BK560.out 3
                              have p561 : 0 ≤ (x5_2 : Int) := of_decide_eq_true (by first | (with_reducible assumption) | assumption)
                              have q561 : x5_2 < (l0_0.length : Int) := of_decide_eq_true (by first | (with_reducible assumption) | assumption)
                              obtain ⟨ad561, e561, hx561_0⟩ := Kd.at_string HR0_0.out x5_2 p561 q561
                              cases e561
                              replace hx561_0 := (HB.out.cell (World.block_lt_of_cell? w _ hx561_0)).trans hx561_0
                              replace p561 := eq_true p561
                              replace q561 := eq_true q561
                              have p562 : 0 ≤ (x5_2 : Int) := of_decide_eq_true (by first | (with_reducible assumption) | assumption)
                              have q562 : x5_2 < (l1_0.length : Int) := of_decide_eq_true (by first | (with_reducible assumption) | assumption)
                              obtain ⟨ad562, e562, hx562_0⟩ := Kd.at_string HR1_0.out x5_2 p562 q562
                              cases e562
                              replace hx562_0 := (HB.out.cell (World.block_lt_of_cell? w _ hx562_0)).trans hx562_0
                              replace p562 := eq_true p562
                              replace q562 := eq_true q562
                              go_wp2
                              all_goals
                                first
                                | (exfalso; (try simp only [decide_eq_true_eq, decide_eq_false_iff_not] at *); first | done | omega)
                                | repeat (go_quiet (fail); try go_wp2)
                                  go_ret
                                  exact ⟨by first | rfl | (simp [errW_none, errW_some] <;> rfl) | (simp only [← hji18]; first | rfl | (simp [errW_none, errW_some] <;> rfl)) | (simp [*, errW_none, errW_some] <;> rfl), by repeat (first | (with_reducible first | exact HB.out | apply below_alloc | apply pw_below_drewN | apply below_drew1 | refine below_set ?_ GE559.out | refine below_set ?_ GE560.out) | exact HB.out)⟩
                      · rw [if_neg c22] at H
                        exact absurd H (by simp)
                    · rw [if_neg c21] at H
                      exact absurd H (by simp)
                  · rw [if_neg c20] at H
                    exact absurd H (by simp)
                · rw [if_neg c19] at H
                  have c19b0 : decide (x5_2 < (ji18)) = false := decide_eq_false c19
                  clear c19
                  obtain rfl := Option.some.inj H
                  have hnb57 := NB559_560.out
                  have hnc57 := NB560_559.out
                  have hcz58_0 : wr.cell? ⟨gb559, 0, none⟩ = some (.slice A0_0 l0_0.length c0_0) := (blk_cell BK559.out 0).trans rfl
                  have hcz58_1 : wr.cell? ⟨gb559, 1, none⟩ = some (.string a0_1) := (blk_cell BK559.out 1).trans rfl
                  have hcz58_2 : wr.cell? ⟨gb559, 2, none⟩ = some (.string a0_2) := (blk_cell BK559.out 2).trans rfl
                  have hcz58_3 : wr.cell? ⟨gb559, 3, none⟩ = some (.string a0_3) := (blk_cell BK559.out 3).trans rfl
                  have hfz58_0 := blk_frozen BK559.out 0
                  have hfz58_1 := blk_frozen BK559.out 1
                  have hfz58_2 := blk_frozen BK559.out 2
                  have hfz58_3 := blk_frozen BK559.out 3
                  have hcz59_0 : wr.cell? ⟨gb560, 0, none⟩ = some (.slice A1_0 l1_0.length c1_0) := (blk_cell BK560.out 0).trans rfl
                  have hcz59_1 : wr.cell? ⟨gb560, 1, none⟩ = some (.string a1_1) := (blk_cell BK560.out 1).trans rfl
                  have hcz59_2 : wr.cell? ⟨gb560, 2, none⟩ = some (.string a1_2) := (blk_cell BK560.out 2).trans rfl
                  have hcz59_3 : wr.cell? ⟨gb560, 3, none⟩ = some (.string a1_3) := (blk_cell BK560.out 3).trans rfl
                  have hfz59_0 := blk_frozen BK560.out 0
                  have hfz59_1 := blk_frozen BK560.out 1
                  have hfz59_2 := blk_frozen BK560.out 2
                  have hfz59_3 := blk_frozen BK560.out 3
                  go_wp2
                  all_goals
                    first
                    | (exfalso; (try simp only [decide_eq_true_eq, decide_eq_false_iff_not] at *); first | done | omega)
                    | repeat (go_quiet (fail); try go_wp2)
                      go_ret
                      exact ⟨by first | rfl | (simp [errW_none, errW_some] <;> rfl) | (simp only [← hji18]; first | rfl | (simp [errW_none, errW_some] <;> rfl)) | (simp [*, errW_none, errW_some] <;> rfl), by repeat (first | (with_reducible first | exact HB.out | apply below_alloc | apply pw_below_drewN | apply below_drew1 | refine below_set ?_ GE559.out | refine below_set ?_ GE560.out) | exact HB.out)⟩

end Go.Proofs.YtcckamdpncbkoabDoor.G

namespace Go.Proofs.YtcckamdpncbkoabDoor.G
open Go.RowKit Go.Proofs.YtcckamdpncbkoabDoorW.PrintWords Go.Proofs.YtcckamdpncbkoabDoorW.PrintLast Go.Proofs.YtcckamdpncbkoabDoor.B
set_option linter.unusedVariables false
set_option linter.unusedSimpArgs false
def headD (x y : ByteArray) : Bool := decide (bt x 0 = bt y 0)
end Go.Proofs.YtcckamdpncbkoabDoor.G

namespace Go.Proofs.YtcckamdpncbkoabDoor.G
open Go.RowKit Go.Proofs.YtcckamdpncbkoabDoorW.PrintWords Go.Proofs.YtcckamdpncbkoabDoorW.PrintLast Go.Proofs.YtcckamdpncbkoabDoorW.PrintMore
open Go.Proofs.YtcckamdpncbkoabDoor.Gl Go.Proofs.YtcckamdpncbkoabDoor.Ext
attribute [local go_sem] max2_int min2_int max_two min_two max_three min_three max_four min_four   -- for this text's walks alone
set_option linter.unusedVariables false
set_option linter.unusedSimpArgs false

/-! ### spec_l2Given: function 134 -/
def spec_l2Given.f (k : Nat) (l0_0 : List ByteArray) (a0_1 : ByteArray) (a0_2 : ByteArray) (a0_3 : ByteArray) : Option (ByteArray) := (spec_l2Join.f k l0_0).bind fun t367 => (some t367)
theorem spec_l2Given.mono : ∀ a0 a1 a2 a3 k, LeO (spec_l2Given.f k a0 a1 a2 a3) (spec_l2Given.f (k + 1) a0 a1 a2 a3) := by
  intro a0 a1 a2 a3 k
  unfold spec_l2Given.f
  repeat' first
      | (with_reducible exact spec_l2Join.mono _ _)
      | (with_reducible exact LeO.refl _)
      | (with_reducible exact LeO.none _)
      | (with_reducible refine LeO.ite ?_ ?_)
      | (with_reducible refine LeO.bind ?_ (fun _ => ?_))
      | exact spec_l2Join.mono _ _
      | exact LeO.none _
      | refine LeO.ite ?_ ?_
      | refine LeO.bind ?_ (fun _ => ?_)
set_option maxHeartbeats 8000000 in
set_option maxRecDepth 100000 in
theorem spec_l2Given.calls (k : Nat) (A0_0 : Option Addr) (c0_0 : Nat) (l0_0 : List ByteArray) (a0_1 : ByteArray) (a0_2 : ByteArray) (a0_3 : ByteArray) (r : ByteArray) (w : World) (hr0_0 : Kd.C Kd.string w A0_0 l0_0.length l0_0) (hc0_0 : l0_0.length ≤ c0_0) (h : spec_l2Given.f k l0_0 a0_1 a0_2 a0_3 = some r) :
    Calls Tryd.prog 134 #[.agg #[.slice A0_0 l0_0.length c0_0, .string a0_1, .string a0_2, .string a0_3]] w fun e w' => e = .returned (.string r) ∧ Below w.heap.size w w' := by
  have hu34 := Tryd.underlying34
  have HR0_0 := Aside0.mk hr0_0
  have HC0_0 := Aside0.mk hc0_0
  clear hr0_0 hc0_0
  have HB := Aside0.mk (Below.refl w.heap.size w)
  have H : ((spec_l2Join.f k l0_0).bind fun t367 => (some t367)) = some r := h
  clear h
  replace H := Option.bind_eq_some_iff.mp H
  obtain ⟨t367, A20, H⟩ := H
  replace H : (some t367) = some r := H
  have A2 := Aside0.mk A20
  clear A20
  obtain rfl := Option.some.inj H
  go_enter Tryd.func134, Tryd.ntmps134
  go_wp2_with (first | ((with_reducible refine gate_dst (N := 1) rfl ?_); refine box_event ?hg (N := 1) ?hd (cs := #[.slice A0_0 l0_0.length c0_0, .string a0_1, .string a0_2, .string a0_3]) (t := 34) ?hr ?_; (case hd => rfl); (case hg => rfl); (case hr => first | (go_simp; done) | (go_simp; rfl)); intro gb366 hg w3 hbox hb; have n0_ := Aside0.mk (below_step (by repeat (first | (with_reducible first | exact HB.out | apply below_alloc | apply pw_below_drewN | apply below_drew1) | exact HB.out)) hb); have n1_ := Aside0.mk (hbox); have n2_ := Aside0.mk ((by rw [hg]; exact (below_size (by repeat (first | (with_reducible first | exact HB.out | apply below_alloc | apply pw_below_drewN | apply below_drew1) | exact HB.out))) : w.heap.size ≤ gb366)); have n3_ := Aside0.mk ((by rw [hg]; exact (below_size (by repeat (first | (with_reducible first | exact HB.out | apply below_alloc | apply pw_below_drewN | apply below_drew1) | exact HB.out))) : w.heap.size ≤ gb366)); clear HB; have HB := n0_; have BK366 := n1_; have GW366 := n2_; have GE366 := n3_; clear n0_ n1_ n2_ n3_; clear hb hbox hg; have hcz4_0 : w3.cell? ⟨gb366, 0, none⟩ = some (.slice A0_0 l0_0.length c0_0) := (blk_cell BK366.out 0).trans rfl; have hcz4_1 : w3.cell? ⟨gb366, 1, none⟩ = some (.string a0_1) := (blk_cell BK366.out 1).trans rfl; have hcz4_2 : w3.cell? ⟨gb366, 2, none⟩ = some (.string a0_2) := (blk_cell BK366.out 2).trans rfl; have hcz4_3 : w3.cell? ⟨gb366, 3, none⟩ = some (.string a0_3) := (blk_cell BK366.out 3).trans rfl; have hfz4_0 := blk_frozen BK366.out 0; have hfz4_1 := blk_frozen BK366.out 1; have hfz4_2 := blk_frozen BK366.out 2; have hfz4_3 := blk_frozen BK366.out 3) | ((with_reducible refine gate_callee (f := 133) rfl ?_); refine goesL_ (some 5) rfl rfl Tryd.func133 (by kernel_rfl) rfl #[.slice A0_0 l0_0.length c0_0] rfl (by (try simp only [List.map_toArray, List.map_cons, List.map_nil]); first | done | rfl | (simp only [List.length_drop, List.length_take]; rfl)) ?_; (with_reducible refine (spec_l2Join.calls k _ _ l0_0 t367 _ ?side1 ?side2 A2.out).mono ?_); (case side1 => repeat (first | exact (Kd.C_below HR0_0.out HB.out) | (with_reducible refine Kd.C_alloc ?_ _) | (with_reducible refine Kd.C_drewN ?_ _) | (with_reducible refine Kd.C_drew ?_))); (case side2 => exact HC0_0.out); rintro e w' ⟨rfl, ⟨nd, rfl⟩⟩; refine ⟨_, rfl, ?_⟩))
  go_ret
  exact ⟨by first | rfl | (simp [errW_none, errW_some] <;> rfl) | (simp [*, errW_none, errW_some] <;> rfl), by repeat (first | (with_reducible first | exact HB.out | apply below_alloc | apply pw_below_drewN | apply below_drew1 | refine below_set ?_ GE366.out) | exact HB.out)⟩

end Go.Proofs.YtcckamdpncbkoabDoor.G

namespace Go.Proofs.YtcckamdpncbkoabDoor.G
open Go.RowKit Go.Proofs.YtcckamdpncbkoabDoorW.PrintWords Go.Proofs.YtcckamdpncbkoabDoorW.PrintLast Go.Proofs.YtcckamdpncbkoabDoorW.PrintMore
open Go.Proofs.YtcckamdpncbkoabDoor.Gl Go.Proofs.YtcckamdpncbkoabDoor.Ext
attribute [local go_sem] max2_int min2_int max_two min_two max_three min_three max_four min_four   -- for this text's walks alone
set_option linter.unusedVariables false
set_option linter.unusedSimpArgs false

/-! ### spec_l2Full: function 144 -/
def spec_l2Full.f (k : Nat) (l0_0 : List ByteArray) (a0_1 : ByteArray) (a0_2 : ByteArray) (a0_3 : ByteArray) : Option (ByteArray) := (spec_l2Given.f k l0_0 a0_1 a0_2 a0_3).bind fun t534 => ((spec_l2Join.f k (([t534, a0_1, a0_2, a0_3] : List ByteArray))).bind fun t538 => (some t538))
theorem spec_l2Full.mono : ∀ a0 a1 a2 a3 k, LeO (spec_l2Full.f k a0 a1 a2 a3) (spec_l2Full.f (k + 1) a0 a1 a2 a3) := by
  intro a0 a1 a2 a3 k
  unfold spec_l2Full.f
  repeat' first
      | (with_reducible exact spec_l2Given.mono _ _ _ _ _)
      | (with_reducible exact spec_l2Join.mono _ _)
      | (with_reducible exact LeO.refl _)
      | (with_reducible exact LeO.none _)
      | (with_reducible refine LeO.ite ?_ ?_)
      | (with_reducible refine LeO.bind ?_ (fun _ => ?_))
      | exact spec_l2Given.mono _ _ _ _ _
      | exact spec_l2Join.mono _ _
      | exact LeO.none _
      | refine LeO.ite ?_ ?_
      | refine LeO.bind ?_ (fun _ => ?_)
def spec_l2Full.T1 : Bool × List (List Nat × List Nat) := (true, [([], []), ([0], [0]), ([], []), ([2], [2]), ([], []), ([4], [4]), ([], []), ([6], [6]), ([1, 3, 5, 7], [1, 3, 5, 7]), ([8, 1], [8]), ([9, 9, 0, 1, 2, 3, 4, 5, 6, 7, 8, 9], [9])])
def spec_l2Full.B1 : List Nat := [0, 1, 0, 4, 0, 16, 0, 64, 255, 511, 1023]
theorem spec_l2Full.tab1 : rtab .any (opsOf Tryd.f144 1) = spec_l2Full.T1 := by kernel_rfl
theorem spec_l2Full.bits1 : waitsOk spec_l2Full.T1.2 spec_l2Full.B1 = true := by kernel_rfl
set_option maxHeartbeats 8000000 in
set_option maxRecDepth 100000 in
theorem spec_l2Full.calls (k : Nat) (A0_0 : Option Addr) (c0_0 : Nat) (l0_0 : List ByteArray) (a0_1 : ByteArray) (a0_2 : ByteArray) (a0_3 : ByteArray) (r : ByteArray) (w : World) (hr0_0 : Kd.C Kd.string w A0_0 l0_0.length l0_0) (hc0_0 : l0_0.length ≤ c0_0) (h : spec_l2Full.f k l0_0 a0_1 a0_2 a0_3 = some r) :
    Calls Tryd.prog 144 #[.agg #[.slice A0_0 l0_0.length c0_0, .string a0_1, .string a0_2, .string a0_3]] w fun e w' => e = .returned (.string r) ∧ Below w.heap.size w w' := by
  have hu34 := Tryd.underlying34
  have HR0_0 := Aside0.mk hr0_0
  have HC0_0 := Aside0.mk hc0_0
  clear hr0_0 hc0_0
  have HB := Aside0.mk (Below.refl w.heap.size w)
  have H : ((spec_l2Given.f k l0_0 a0_1 a0_2 a0_3).bind fun t534 => ((spec_l2Join.f k (([t534, a0_1, a0_2, a0_3] : List ByteArray))).bind fun t538 => (some t538))) = some r := h
  clear h
  replace H := Option.bind_eq_some_iff.mp H
  obtain ⟨t534, A20, H⟩ := H
  replace H : ((spec_l2Join.f k (([t534, a0_1, a0_2, a0_3] : List ByteArray))).bind fun t538 => (some t538)) = some r := H
  have A2 := Aside0.mk A20
  clear A20
  obtain ⟨y535, hy535⟩ : ∃ y_ : List ByteArray, y_ = (([t534, a0_1, a0_2, a0_3] : List ByteArray)) := ⟨_, rfl⟩
  replace H : ((spec_l2Join.f k y535).bind fun t538 => (some t538)) = some r := by first | (rw [hy535]; with_reducible exact H) | (have H2_ := (Option.bind_some _ _).symm.trans H; rw [hy535]; with_reducible exact H2_) | (have H2_ := (Option.bind_some _ _).symm.trans H; with_reducible exact H2_) | with_reducible exact H | (rw [hy535]; exact H) | exact H
  have Ny535 := Aside0.mk hy535
  clear hy535
  replace H := Option.bind_eq_some_iff.mp H
  obtain ⟨t538, A30, H⟩ := H
  replace H : (some t538) = some r := H
  have A3 := Aside0.mk A30
  clear A30
  obtain rfl := Option.some.inj H
  go_enter Tryd.func144, Tryd.ntmps144
  try go_wp2_with (first | ((with_reducible refine gate_dst (N := 1) rfl ?_); refine box_event ?hg (N := 1) ?hd (cs := #[.slice A0_0 l0_0.length c0_0, .string a0_1, .string a0_2, .string a0_3]) (t := 34) ?hr ?_; (case hd => rfl); (case hg => rfl); (case hr => first | (go_simp; done) | (go_simp; rfl)); intro gb533 hg w4 hbox hb; have n0_ := Aside0.mk (below_step (by repeat (first | (with_reducible first | exact HB.out | apply below_alloc | apply pw_below_drewN | apply below_drew1) | exact HB.out)) hb); have n1_ := Aside0.mk (hbox); have n2_ := Aside0.mk ((by rw [hg]; exact (below_size (by repeat (first | (with_reducible first | exact HB.out | apply below_alloc | apply pw_below_drewN | apply below_drew1) | exact HB.out))) : w.heap.size ≤ gb533)); have n3_ := Aside0.mk ((by rw [hg]; exact (below_size (by repeat (first | (with_reducible first | exact HB.out | apply below_alloc | apply pw_below_drewN | apply below_drew1) | exact HB.out))) : w.heap.size ≤ gb533)); clear HB; have HB := n0_; have BK533 := n1_; have GW533 := n2_; have GE533 := n3_; clear n0_ n1_ n2_ n3_; clear hb hbox hg))
  have n0_ := Aside0.mk (blk_drew BK533.out)
  have n1_ := Aside0.mk (below_drew1 HB.out)
  clear BK533
  clear HB
  have BK533 := n0_
  have HB := n1_
  clear n0_ n1_
  refine start_ (n := 11) (S := fun w' => w'.cell? ⟨gb533, 0, none⟩ = some (.slice A0_0 l0_0.length c0_0) ∧ w'.cell? ⟨gb533, 1, none⟩ = some (.string a0_1) ∧ w'.cell? ⟨gb533, 2, none⟩ = some (.string a0_2) ∧ w'.cell? ⟨gb533, 3, none⟩ = some (.string a0_3)) (ds := []) #[false, false, false, false, false, false, false, false, false, false, false] (by kernel_rfl) rfl rfl ⟨(blk_cell BK533.out 0).trans rfl, (blk_cell BK533.out 1).trans rfl, (blk_cell BK533.out 2).trans rfl, (blk_cell BK533.out 3).trans rfl⟩ (fun hHeld => ?_); refine with_tabW spec_l2Full.tab1 spec_l2Full.bits1 (fun HT_ HW_ => ?_)
  generalize w4.drew = w5 at BK533 HB hHeld ⊢
  refine pure_ (i := 2) (N := some 5) (v := ?_) (a' := ?_) #[false, false, true, false, false, false, false, false, false, false, false] rfl rfl (any_of HT_.out (by kernel_rfl)) (fun _ _ _ h => h) (Or.inl ⟨by rfl, ?_⟩) ?_ ?_
  rotate_left
  · intro w'
    go_simp
    with_reducible rfl
  rotate_left
  · simp only [Act.put, List.setIfInBounds_toArray, List.set_cons_zero, List.set_cons_succ, i64_w, i32_w]
    rfl
  refine pure_ (i := 4) (N := some 7) (v := ?_) (a' := ?_) #[false, false, true, false, true, false, false, false, false, false, false] rfl rfl (any_of HT_.out (by kernel_rfl)) (fun _ _ _ h => h) (Or.inl ⟨by rfl, ?_⟩) ?_ ?_
  rotate_left
  · intro w'
    go_simp
    with_reducible rfl
  rotate_left
  · simp only [Act.put, List.setIfInBounds_toArray, List.set_cons_zero, List.set_cons_succ, i64_w, i32_w]
    rfl
  refine pure_ (i := 6) (N := some 9) (v := ?_) (a' := ?_) #[false, false, true, false, true, false, true, false, false, false, false] rfl rfl (any_of HT_.out (by kernel_rfl)) (fun _ _ _ h => h) (Or.inl ⟨by rfl, ?_⟩) ?_ ?_
  rotate_left
  · intro w'
    go_simp
    with_reducible rfl
  rotate_left
  · simp only [Act.put, List.setIfInBounds_toArray, List.set_cons_zero, List.set_cons_succ, i64_w, i32_w]
    rfl
  refine take_ (i := 0) (N := some 3) (v := ?_) (a' := ?_) #[true, false, true, false, true, false, true, false, false, false, false] rfl rfl (take_ofW HT_.out HW_.out (by kernel_rfl)) (fun _ _ _ h => h) (Or.inl ⟨by rfl, ?_⟩) hHeld ?_ ?_
  rotate_left
  · rintro w' ⟨s0, s1, s2, s3⟩
    go_simp
    with_reducible rfl
  rotate_left
  · simp only [Act.put, List.setIfInBounds_toArray, List.set_cons_zero, List.set_cons_succ, i64_w, i32_w]
    rfl
  refine take_ (i := 3) (N := some 6) (v := ?_) (a' := ?_) #[true, false, true, true, true, false, true, false, false, false, false] rfl rfl (take_ofW HT_.out HW_.out (by kernel_rfl)) (fun _ _ _ h => h) (Or.inl ⟨by rfl, ?_⟩) hHeld ?_ ?_
  rotate_left
  · rintro w' ⟨s0, s1, s2, s3⟩
    go_simp
    with_reducible rfl
  rotate_left
  · simp only [Act.put, List.setIfInBounds_toArray, List.set_cons_zero, List.set_cons_succ, i64_w, i32_w]
    rfl
  refine take_ (i := 5) (N := some 8) (v := ?_) (a' := ?_) #[true, false, true, true, true, true, true, false, false, false, false] rfl rfl (take_ofW HT_.out HW_.out (by kernel_rfl)) (fun _ _ _ h => h) (Or.inl ⟨by rfl, ?_⟩) hHeld ?_ ?_
  rotate_left
  · rintro w' ⟨s0, s1, s2, s3⟩
    go_simp
    with_reducible rfl
  rotate_left
  · simp only [Act.put, List.setIfInBounds_toArray, List.set_cons_zero, List.set_cons_succ, i64_w, i32_w]
    rfl
  refine take_ (i := 7) (N := some 10) (v := ?_) (a' := ?_) #[true, false, true, true, true, true, true, true, false, false, false] rfl rfl (take_ofW HT_.out HW_.out (by kernel_rfl)) (fun _ _ _ h => h) (Or.inl ⟨by rfl, ?_⟩) hHeld ?_ ?_
  rotate_left
  · rintro w' ⟨s0, s1, s2, s3⟩
    go_simp
    with_reducible rfl
  rotate_left
  · simp only [Act.put, List.setIfInBounds_toArray, List.set_cons_zero, List.set_cons_succ, i64_w, i32_w]
    rfl
  refine one_ (i := 1) (N := some 4) #[true, true, true, true, true, true, true, true, false, false, false] rfl rfl (one_of HT_.out (by kernel_rfl)) (by decide) (fun K hK => ?_)
  refine goes_ Tryd.func134 (by kernel_rfl) rfl #[.agg #[.slice A0_0 l0_0.length c0_0, .string a0_1, .string a0_2, .string a0_3]] (by rfl) rfl rfl (by (try simp only [List.map_toArray, List.map_cons, List.map_nil]); first | done | rfl | (simp only [List.length_drop, List.length_take]; rfl)) ?_
  with_reducible refine (spec_l2Given.calls k _ _ l0_0 a0_1 a0_2 a0_3 t534 _ ?side1 ?side2 A2.out).mono ?_
  (case side1 => repeat (first | exact (Kd.C_below HR0_0.out HB.out) | (with_reducible refine Kd.C_alloc ?_ _) | (with_reducible refine Kd.C_drewN ?_ _) | (with_reducible refine Kd.C_drew ?_)))
  (case side2 => exact HC0_0.out)
  rintro e w6 ⟨rfl, hb⟩
  refine ⟨_, rfl, ?_⟩
  have n0_ := Aside0.mk (blk_below (g := gb533) (o := .cells #[.slice A0_0 l0_0.length c0_0, .string a0_1, .string a0_2, .string a0_3] 34 (0, 0)) (by (with_reducible repeat (first | refine blk_drewN ?_ _ | refine blk_drew ?_ | refine blk_alloc ?_ _)); exact BK533.out) hb)
  have n1_ := Aside0.mk (below_step (by repeat (first | (with_reducible first | exact HB.out | apply below_alloc | apply pw_below_drewN | apply below_drew1 | refine below_set ?_ GE533.out) | exact HB.out)) hb)
  clear BK533
  clear HB
  have BK533 := n0_
  have HB := n1_
  clear n0_ n1_
  (try clear hb)
  (try clear hb2)
  (try clear hk)
  (try clear hi)
  refine hK.out _ _ ⟨(blk_cell BK533.out 0).trans rfl, (blk_cell BK533.out 1).trans rfl, (blk_cell BK533.out 2).trans rfl, (blk_cell BK533.out 3).trans rfl⟩ (fun hHeld => ?_)
  clear hK K
  refine norm_ (a' := ?_) ?_ ?_
  rotate_left
  · show Act.put _ (some 4) _ = _
    simp only [Act.put, List.setIfInBounds_toArray, List.set_cons_zero, List.set_cons_succ, i64_w, i32_w]
    rfl
  refine one_ (i := 8) (N := some 11) #[true, true, true, true, true, true, true, true, true, false, false] rfl rfl (one_of HT_.out (by kernel_rfl)) (by decide) (fun K hK => ?_)
  refine Kd.R_lit_step Kd.string _ 9 ?hg (N := 11) ?hd (xs := ([t534, a0_1, a0_2, a0_3] : List ByteArray)) (inner := [.string t534, .string a0_1, .string a0_2, .string a0_3]) (ok := fun _ => True) (okp := fun _ => True) ?hr ?hp (fun _ hk => hk) trivial (Below.refl _ _) (Nat.le_refl _) (by simp) ?_; (case hd => rfl); (case hg => rfl); (case hr => first | (go_simp; done) | (go_simp; rfl)); (case hp => exact (Reps.one (show Kd.M Kd.string _ _ _ t534 [.string t534] from rfl) (Reps.one (show Kd.M Kd.string _ _ _ a0_1 [.string a0_1] from rfl) (Reps.one (show Kd.M Kd.string _ _ _ a0_2 [.string a0_2] from rfl) (Reps.one (show Kd.M Kd.string _ _ _ a0_3 [.string a0_3] from rfl) (Reps.none _ _))))))
  intro v536 w7 ho8 hb hg_ hnew_
  clear hg_ hnew_
  (first | rw [← Ny535.out] at ho8 | (simp only [Int.reduceToNat] at ho8; rw [← Ny535.out] at ho8))
  have n0_ := Aside0.mk (Kd.R_lower ho8 (below_size (by repeat (first | (with_reducible first | exact HB.out | apply below_alloc | apply pw_below_drewN | apply below_drew1 | refine below_set ?_ GE533.out) | exact HB.out))))
  have n1_ := Aside0.mk (blk_below (g := gb533) (o := .cells #[.slice A0_0 l0_0.length c0_0, .string a0_1, .string a0_2, .string a0_3] 34 (0, 0)) (by (with_reducible repeat (first | refine blk_drewN ?_ _ | refine blk_drew ?_ | refine blk_alloc ?_ _)); exact BK533.out) hb)
  have n2_ := Aside0.mk (below_step (by repeat (first | (with_reducible first | exact HB.out | apply below_alloc | apply pw_below_drewN | apply below_drew1 | refine below_set ?_ GE533.out) | exact HB.out)) hb)
  clear BK533
  clear HB
  have HO537 := n0_
  have BK533 := n1_
  have HB := n2_
  clear n0_ n1_ n2_
  clear hb ho8
  obtain ⟨Ao9, co9, eo9⟩ := Kd.R_slice HO537.out
  (first | subst eo9 | (injection eo9 with f1_ f2_ f3_; have f4_ := f1_.symm; have f5_ := f3_.symm; clear f1_ f2_ f3_; subst f4_; subst f5_))
  refine hK.out _ _ ⟨(blk_cell BK533.out 0).trans rfl, (blk_cell BK533.out 1).trans rfl, (blk_cell BK533.out 2).trans rfl, (blk_cell BK533.out 3).trans rfl⟩ (fun hHeld => ?_)
  clear hK K
  refine norm_ (a' := ?_) ?_ ?_
  rotate_left
  · show Act.put _ (some 11) _ = _
    simp only [Act.put, List.setIfInBounds_toArray, List.set_cons_zero, List.set_cons_succ, i64_w, i32_w]
    rfl
  refine one_ (i := 9) (N := some 12) #[true, true, true, true, true, true, true, true, true, true, false] rfl rfl (one_of HT_.out (by kernel_rfl)) (by decide) (fun K hK => ?_)
  refine goes_ Tryd.func133 (by kernel_rfl) rfl #[.slice Ao9 y535.length co9] (by rfl) rfl rfl (by (try simp only [List.map_toArray, List.map_cons, List.map_nil]); first | done | rfl | (simp only [List.length_drop, List.length_take]; rfl)) ?_
  with_reducible refine (spec_l2Join.calls k _ _ y535 t538 _ ?side1 ?side2 A3.out).mono ?_
  (case side1 => repeat (first | exact (Kd.R_reads' HO537.out).2.2 | (with_reducible refine Kd.C_alloc ?_ _) | (with_reducible refine Kd.C_drewN ?_ _) | (with_reducible refine Kd.C_drew ?_)))
  (case side2 => exact (Kd.R_reads' HO537.out).2.1)
  rintro e w' ⟨rfl, ⟨nd, rfl⟩⟩
  refine ⟨_, rfl, ?_⟩
  refine hK.out _ _ ⟨(blk_cell BK533.out 0).trans rfl, (blk_cell BK533.out 1).trans rfl, (blk_cell BK533.out 2).trans rfl, (blk_cell BK533.out 3).trans rfl⟩ (fun hHeld => ?_)
  clear hK K
  refine norm_ (a' := ?_) ?_ ?_
  rotate_left
  · show Act.put _ (some 12) _ = _
    simp only [Act.put, List.setIfInBounds_toArray, List.set_cons_zero, List.set_cons_succ, i64_w, i32_w]
    rfl
  refine pure_ (i := 10) (N := some 2) (v := ?_) (a' := ?_) #[true, true, true, true, true, true, true, true, true, true, true] rfl rfl (any_of HT_.out (by kernel_rfl)) (fun _ _ _ h => h) (Or.inl ⟨by rfl, ?_⟩) ?_ ?_
  rotate_left
  · intro w'
    go_simp
    with_reducible rfl
  rotate_left
  · simp only [Act.put, List.setIfInBounds_toArray, List.set_cons_zero, List.set_cons_succ, i64_w, i32_w]
    rfl
  refine done_ (done_of HT_.out (by kernel_rfl)) ?_
  try go_wp2
  go_ret
  exact ⟨by first | rfl | (simp [errW_none, errW_some] <;> rfl) | (simp [*, errW_none, errW_some] <;> rfl), by repeat (first | (with_reducible first | exact HB.out | apply below_alloc | apply pw_below_drewN | apply below_drew1 | refine below_set ?_ GE533.out) | exact HB.out)⟩

end Go.Proofs.YtcckamdpncbkoabDoor.G

namespace Go.Proofs.YtcckamdpncbkoabDoor.G
open Go.RowKit Go.Proofs.YtcckamdpncbkoabDoorW.PrintWords Go.Proofs.YtcckamdpncbkoabDoorW.PrintLast Go.Proofs.YtcckamdpncbkoabDoorW.PrintMore
open Go.Proofs.YtcckamdpncbkoabDoor.Gl Go.Proofs.YtcckamdpncbkoabDoor.Ext
attribute [local go_sem] max2_int min2_int max_two min_two max_three min_three max_four min_four   -- for this text's walks alone
set_option linter.unusedVariables false
set_option linter.unusedSimpArgs false

/-! ### impl_fullForm: function 83 -/
def impl_fullForm.f (l0_0 : List ByteArray) (a0_1 : ByteArray) (a0_2 : ByteArray) (a0_3 : ByteArray) : Option (ByteArray) := (strings_Join.f l0_0 (⟨#[32]⟩ : ByteArray)).bind fun t385 => ((impl_spaced.f (([t385, a0_1, a0_2, a0_3] : List ByteArray))).bind fun t389 => (some t389))
def impl_fullForm.T1 : Bool × List (List Nat × List Nat) := (true, [([], []), ([0], [0]), ([1], [1]), ([], []), ([3], [3]), ([], []), ([5], [5]), ([], []), ([7], [7]), ([2, 4, 6, 8], [2, 4, 6, 8]), ([9, 2], [9]), ([10, 10, 0, 1, 2, 3, 4, 5, 6, 7, 8, 9, 10], [10])])
def impl_fullForm.B1 : List Nat := [0, 1, 3, 0, 8, 0, 32, 0, 128, 511, 1023, 2047]
theorem impl_fullForm.tab1 : rtab .any (opsOf Tryd.f83 1) = impl_fullForm.T1 := by kernel_rfl
theorem impl_fullForm.bits1 : waitsOk impl_fullForm.T1.2 impl_fullForm.B1 = true := by kernel_rfl
set_option maxHeartbeats 8000000 in
set_option maxRecDepth 100000 in
theorem impl_fullForm.calls (A0_0 : Option Addr) (c0_0 : Nat) (l0_0 : List ByteArray) (a0_1 : ByteArray) (a0_2 : ByteArray) (a0_3 : ByteArray) (r : ByteArray) (w : World) (hr0_0 : Kd.C Kd.string w A0_0 l0_0.length l0_0) (hc0_0 : l0_0.length ≤ c0_0) (h : impl_fullForm.f l0_0 a0_1 a0_2 a0_3 = some r) :
    Calls Tryd.prog 83 #[.agg #[.slice A0_0 l0_0.length c0_0, .string a0_1, .string a0_2, .string a0_3]] w fun e w' => e = .returned (.string r) ∧ Below w.heap.size w w' := by
  have hu34 := Tryd.underlying34
  have HR0_0 := Aside0.mk hr0_0
  have HC0_0 := Aside0.mk hc0_0
  clear hr0_0 hc0_0
  have HB := Aside0.mk (Below.refl w.heap.size w)
  have H : ((strings_Join.f l0_0 (⟨#[32]⟩ : ByteArray)).bind fun t385 => ((impl_spaced.f (([t385, a0_1, a0_2, a0_3] : List ByteArray))).bind fun t389 => (some t389))) = some r := h
  clear h
  replace H := Option.bind_eq_some_iff.mp H
  obtain ⟨t385, A20, H⟩ := H
  replace H : ((impl_spaced.f (([t385, a0_1, a0_2, a0_3] : List ByteArray))).bind fun t389 => (some t389)) = some r := H
  have A2 := Aside0.mk A20
  clear A20
  obtain ⟨y386, hy386⟩ : ∃ y_ : List ByteArray, y_ = (([t385, a0_1, a0_2, a0_3] : List ByteArray)) := ⟨_, rfl⟩
  replace H : ((impl_spaced.f y386).bind fun t389 => (some t389)) = some r := by first | (rw [hy386]; with_reducible exact H) | (have H2_ := (Option.bind_some _ _).symm.trans H; rw [hy386]; with_reducible exact H2_) | (have H2_ := (Option.bind_some _ _).symm.trans H; with_reducible exact H2_) | with_reducible exact H | (rw [hy386]; exact H) | exact H
  have Ny386 := Aside0.mk hy386
  clear hy386
  replace H := Option.bind_eq_some_iff.mp H
  obtain ⟨t389, A30, H⟩ := H
  replace H : (some t389) = some r := H
  have A3 := Aside0.mk A30
  clear A30
  obtain rfl := Option.some.inj H
  go_enter Tryd.func83, Tryd.ntmps83
  try go_wp2_with (first | ((with_reducible refine gate_dst (N := 1) rfl ?_); refine box_event ?hg (N := 1) ?hd (cs := #[.slice A0_0 l0_0.length c0_0, .string a0_1, .string a0_2, .string a0_3]) (t := 34) ?hr ?_; (case hd => rfl); (case hg => rfl); (case hr => first | (go_simp; done) | (go_simp; rfl)); intro gb384 hg w4 hbox hb; have n0_ := Aside0.mk (below_step (by repeat (first | (with_reducible first | exact HB.out | apply below_alloc | apply pw_below_drewN | apply below_drew1) | exact HB.out)) hb); have n1_ := Aside0.mk (hbox); have n2_ := Aside0.mk ((by rw [hg]; exact (below_size (by repeat (first | (with_reducible first | exact HB.out | apply below_alloc | apply pw_below_drewN | apply below_drew1) | exact HB.out))) : w.heap.size ≤ gb384)); have n3_ := Aside0.mk ((by rw [hg]; exact (below_size (by repeat (first | (with_reducible first | exact HB.out | apply below_alloc | apply pw_below_drewN | apply below_drew1) | exact HB.out))) : w.heap.size ≤ gb384)); clear HB; have HB := n0_; have BK384 := n1_; have GW384 := n2_; have GE384 := n3_; clear n0_ n1_ n2_ n3_; clear hb hbox hg))
  have n0_ := Aside0.mk (blk_drew BK384.out)
  have n1_ := Aside0.mk (below_drew1 HB.out)
  clear BK384
  clear HB
  have BK384 := n0_
  have HB := n1_
  clear n0_ n1_
  refine start_ (n := 12) (S := fun w' => w'.cell? ⟨gb384, 0, none⟩ = some (.slice A0_0 l0_0.length c0_0) ∧ w'.cell? ⟨gb384, 1, none⟩ = some (.string a0_1) ∧ w'.cell? ⟨gb384, 2, none⟩ = some (.string a0_2) ∧ w'.cell? ⟨gb384, 3, none⟩ = some (.string a0_3)) (ds := []) #[false, false, false, false, false, false, false, false, false, false, false, false] (by kernel_rfl) rfl rfl ⟨(blk_cell BK384.out 0).trans rfl, (blk_cell BK384.out 1).trans rfl, (blk_cell BK384.out 2).trans rfl, (blk_cell BK384.out 3).trans rfl⟩ (fun hHeld => ?_); refine with_tabW impl_fullForm.tab1 impl_fullForm.bits1 (fun HT_ HW_ => ?_)
  generalize w4.drew = w5 at BK384 HB hHeld ⊢
  refine pure_ (i := 0) (N := some 3) (v := ?_) (a' := ?_) #[true, false, false, false, false, false, false, false, false, false, false, false] rfl rfl (any_of HT_.out (by kernel_rfl)) (fun _ _ _ h => h) (Or.inl ⟨by rfl, ?_⟩) ?_ ?_
  rotate_left
  · intro w'
    go_simp
    with_reducible rfl
  rotate_left
  · simp only [Act.put, List.setIfInBounds_toArray, List.set_cons_zero, List.set_cons_succ, i64_w, i32_w]
    rfl
  refine pure_ (i := 3) (N := some 6) (v := ?_) (a' := ?_) #[true, false, false, true, false, false, false, false, false, false, false, false] rfl rfl (any_of HT_.out (by kernel_rfl)) (fun _ _ _ h => h) (Or.inl ⟨by rfl, ?_⟩) ?_ ?_
  rotate_left
  · intro w'
    go_simp
    with_reducible rfl
  rotate_left
  · simp only [Act.put, List.setIfInBounds_toArray, List.set_cons_zero, List.set_cons_succ, i64_w, i32_w]
    rfl
  refine pure_ (i := 5) (N := some 8) (v := ?_) (a' := ?_) #[true, false, false, true, false, true, false, false, false, false, false, false] rfl rfl (any_of HT_.out (by kernel_rfl)) (fun _ _ _ h => h) (Or.inl ⟨by rfl, ?_⟩) ?_ ?_
  rotate_left
  · intro w'
    go_simp
    with_reducible rfl
  rotate_left
  · simp only [Act.put, List.setIfInBounds_toArray, List.set_cons_zero, List.set_cons_succ, i64_w, i32_w]
    rfl
  refine pure_ (i := 7) (N := some 10) (v := ?_) (a' := ?_) #[true, false, false, true, false, true, false, true, false, false, false, false] rfl rfl (any_of HT_.out (by kernel_rfl)) (fun _ _ _ h => h) (Or.inl ⟨by rfl, ?_⟩) ?_ ?_
  rotate_left
  · intro w'
    go_simp
    with_reducible rfl
  rotate_left
  · simp only [Act.put, List.setIfInBounds_toArray, List.set_cons_zero, List.set_cons_succ, i64_w, i32_w]
    rfl
  refine take_ (i := 1) (N := some 4) (v := ?_) (a' := ?_) #[true, true, false, true, false, true, false, true, false, false, false, false] rfl rfl (take_ofW HT_.out HW_.out (by kernel_rfl)) (fun _ _ _ h => h) (Or.inl ⟨by rfl, ?_⟩) hHeld ?_ ?_
  rotate_left
  · rintro w' ⟨s0, s1, s2, s3⟩
    go_simp
    with_reducible rfl
  rotate_left
  · simp only [Act.put, List.setIfInBounds_toArray, List.set_cons_zero, List.set_cons_succ, i64_w, i32_w]
    rfl
  refine take_ (i := 4) (N := some 7) (v := ?_) (a' := ?_) #[true, true, false, true, true, true, false, true, false, false, false, false] rfl rfl (take_ofW HT_.out HW_.out (by kernel_rfl)) (fun _ _ _ h => h) (Or.inl ⟨by rfl, ?_⟩) hHeld ?_ ?_
  rotate_left
  · rintro w' ⟨s0, s1, s2, s3⟩
    go_simp
    with_reducible rfl
  rotate_left
  · simp only [Act.put, List.setIfInBounds_toArray, List.set_cons_zero, List.set_cons_succ, i64_w, i32_w]
    rfl
  refine take_ (i := 6) (N := some 9) (v := ?_) (a' := ?_) #[true, true, false, true, true, true, true, true, false, false, false, false] rfl rfl (take_ofW HT_.out HW_.out (by kernel_rfl)) (fun _ _ _ h => h) (Or.inl ⟨by rfl, ?_⟩) hHeld ?_ ?_
  rotate_left
  · rintro w' ⟨s0, s1, s2, s3⟩
    go_simp
    with_reducible rfl
  rotate_left
  · simp only [Act.put, List.setIfInBounds_toArray, List.set_cons_zero, List.set_cons_succ, i64_w, i32_w]
    rfl
  refine take_ (i := 8) (N := some 11) (v := ?_) (a' := ?_) #[true, true, false, true, true, true, true, true, true, false, false, false] rfl rfl (take_ofW HT_.out HW_.out (by kernel_rfl)) (fun _ _ _ h => h) (Or.inl ⟨by rfl, ?_⟩) hHeld ?_ ?_
  rotate_left
  · rintro w' ⟨s0, s1, s2, s3⟩
    go_simp
    with_reducible rfl
  rotate_left
  · simp only [Act.put, List.setIfInBounds_toArray, List.set_cons_zero, List.set_cons_succ, i64_w, i32_w]
    rfl
  refine one_ (i := 2) (N := some 5) #[true, true, true, true, true, true, true, true, true, false, false, false] rfl rfl (one_of HT_.out (by kernel_rfl)) (by decide) (fun K hK => ?_)
  refine goes_ Tryd.func71 (by kernel_rfl) rfl #[.slice A0_0 l0_0.length c0_0, .string (⟨#[32]⟩ : ByteArray)] (by rfl) rfl rfl (by (try simp only [List.map_toArray, List.map_cons, List.map_nil]); first | done | rfl | (simp only [List.length_drop, List.length_take]; rfl)) ?_
  with_reducible refine (strings_Join.calls _ _ l0_0 (⟨#[32]⟩ : ByteArray) t385 _ ?side1 ?side2 A2.out).mono ?_
  (case side1 => repeat (first | exact (Kd.C_below HR0_0.out HB.out) | (with_reducible refine Kd.C_alloc ?_ _) | (with_reducible refine Kd.C_drewN ?_ _) | (with_reducible refine Kd.C_drew ?_)))
  (case side2 => exact HC0_0.out)
  rintro e w6 ⟨rfl, hb⟩
  refine ⟨_, rfl, ?_⟩
  have n0_ := Aside0.mk (blk_below (g := gb384) (o := .cells #[.slice A0_0 l0_0.length c0_0, .string a0_1, .string a0_2, .string a0_3] 34 (0, 0)) (by (with_reducible repeat (first | refine blk_drewN ?_ _ | refine blk_drew ?_ | refine blk_alloc ?_ _)); exact BK384.out) hb)
  have n1_ := Aside0.mk (below_step (by repeat (first | (with_reducible first | exact HB.out | apply below_alloc | apply pw_below_drewN | apply below_drew1 | refine below_set ?_ GE384.out) | exact HB.out)) hb)
  clear BK384
  clear HB
  have BK384 := n0_
  have HB := n1_
  clear n0_ n1_
  (try clear hb)
  (try clear hb2)
  (try clear hk)
  (try clear hi)
  refine hK.out _ _ ⟨(blk_cell BK384.out 0).trans rfl, (blk_cell BK384.out 1).trans rfl, (blk_cell BK384.out 2).trans rfl, (blk_cell BK384.out 3).trans rfl⟩ (fun hHeld => ?_)
  clear hK K
  refine norm_ (a' := ?_) ?_ ?_
  rotate_left
  · show Act.put _ (some 5) _ = _
    simp only [Act.put, List.setIfInBounds_toArray, List.set_cons_zero, List.set_cons_succ, i64_w, i32_w]
    rfl
  refine one_ (i := 9) (N := some 12) #[true, true, true, true, true, true, true, true, true, true, false, false] rfl rfl (one_of HT_.out (by kernel_rfl)) (by decide) (fun K hK => ?_)
  refine Kd.R_lit_step Kd.string _ 9 ?hg (N := 12) ?hd (xs := ([t385, a0_1, a0_2, a0_3] : List ByteArray)) (inner := [.string t385, .string a0_1, .string a0_2, .string a0_3]) (ok := fun _ => True) (okp := fun _ => True) ?hr ?hp (fun _ hk => hk) trivial (Below.refl _ _) (Nat.le_refl _) (by simp) ?_; (case hd => rfl); (case hg => rfl); (case hr => first | (go_simp; done) | (go_simp; rfl)); (case hp => exact (Reps.one (show Kd.M Kd.string _ _ _ t385 [.string t385] from rfl) (Reps.one (show Kd.M Kd.string _ _ _ a0_1 [.string a0_1] from rfl) (Reps.one (show Kd.M Kd.string _ _ _ a0_2 [.string a0_2] from rfl) (Reps.one (show Kd.M Kd.string _ _ _ a0_3 [.string a0_3] from rfl) (Reps.none _ _))))))
  intro v387 w7 ho8 hb hg_ hnew_
  clear hg_ hnew_
  (first | rw [← Ny386.out] at ho8 | (simp only [Int.reduceToNat] at ho8; rw [← Ny386.out] at ho8))
  have n0_ := Aside0.mk (Kd.R_lower ho8 (below_size (by repeat (first | (with_reducible first | exact HB.out | apply below_alloc | apply pw_below_drewN | apply below_drew1 | refine below_set ?_ GE384.out) | exact HB.out))))
  have n1_ := Aside0.mk (blk_below (g := gb384) (o := .cells #[.slice A0_0 l0_0.length c0_0, .string a0_1, .string a0_2, .string a0_3] 34 (0, 0)) (by (with_reducible repeat (first | refine blk_drewN ?_ _ | refine blk_drew ?_ | refine blk_alloc ?_ _)); exact BK384.out) hb)
  have n2_ := Aside0.mk (below_step (by repeat (first | (with_reducible first | exact HB.out | apply below_alloc | apply pw_below_drewN | apply below_drew1 | refine below_set ?_ GE384.out) | exact HB.out)) hb)
  clear BK384
  clear HB
  have HO388 := n0_
  have BK384 := n1_
  have HB := n2_
  clear n0_ n1_ n2_
  clear hb ho8
  obtain ⟨Ao9, co9, eo9⟩ := Kd.R_slice HO388.out
  (first | subst eo9 | (injection eo9 with f1_ f2_ f3_; have f4_ := f1_.symm; have f5_ := f3_.symm; clear f1_ f2_ f3_; subst f4_; subst f5_))
  refine hK.out _ _ ⟨(blk_cell BK384.out 0).trans rfl, (blk_cell BK384.out 1).trans rfl, (blk_cell BK384.out 2).trans rfl, (blk_cell BK384.out 3).trans rfl⟩ (fun hHeld => ?_)
  clear hK K
  refine norm_ (a' := ?_) ?_ ?_
  rotate_left
  · show Act.put _ (some 12) _ = _
    simp only [Act.put, List.setIfInBounds_toArray, List.set_cons_zero, List.set_cons_succ, i64_w, i32_w]
    rfl
  refine one_ (i := 10) (N := some 13) #[true, true, true, true, true, true, true, true, true, true, true, false] rfl rfl (one_of HT_.out (by kernel_rfl)) (by decide) (fun K hK => ?_)
  refine goes_ Tryd.func121 (by kernel_rfl) rfl #[.slice Ao9 y386.length co9] (by rfl) rfl rfl (by (try simp only [List.map_toArray, List.map_cons, List.map_nil]); first | done | rfl | (simp only [List.length_drop, List.length_take]; rfl)) ?_
  with_reducible refine (impl_spaced.calls (fun k_ => some k_ = (.slice Ao9 y386.length co9 : Value).ownBlock) (.slice Ao9 y386.length co9) y386 t389 w _ ?side1 ?side2 A3.out).mono ?_
  (case side1 => repeat (first | (with_reducible first | exact HB.out | apply below_alloc | apply pw_below_drewN | apply below_drew1 | refine below_set ?_ GE384.out) | exact HB.out))
  (case side2 => exact Kd.R_tight rfl HO388.out)
  rintro e w10 ⟨rfl, hb, hkp⟩
  refine ⟨_, rfl, ?_⟩
  have n0_ := Aside0.mk (blk_kept (by (with_reducible repeat (first | refine blk_drewN ?_ _ | refine blk_drew ?_ | refine blk_alloc ?_ _)); exact BK384.out) hkp (fun hs_ => (fun e_ => (Kd.R_ne HO388.out BK384.out (by decide)) e_) hs_))
  have n1_ := Aside0.mk (hb)
  clear BK384
  clear HB
  clear HO388
  have BK384 := n0_
  have HB := n1_
  clear n0_ n1_
  (try clear hb)
  (try clear hkp)
  refine hK.out _ _ ⟨(blk_cell BK384.out 0).trans rfl, (blk_cell BK384.out 1).trans rfl, (blk_cell BK384.out 2).trans rfl, (blk_cell BK384.out 3).trans rfl⟩ (fun hHeld => ?_)
  clear hK K
  refine norm_ (a' := ?_) ?_ ?_
  rotate_left
  · show Act.put _ (some 13) _ = _
    simp only [Act.put, List.setIfInBounds_toArray, List.set_cons_zero, List.set_cons_succ, i64_w, i32_w]
    rfl
  refine pure_ (i := 11) (N := some 2) (v := ?_) (a' := ?_) #[true, true, true, true, true, true, true, true, true, true, true, true] rfl rfl (any_of HT_.out (by kernel_rfl)) (fun _ _ _ h => h) (Or.inl ⟨by rfl, ?_⟩) ?_ ?_
  rotate_left
  · intro w'
    go_simp
    with_reducible rfl
  rotate_left
  · simp only [Act.put, List.setIfInBounds_toArray, List.set_cons_zero, List.set_cons_succ, i64_w, i32_w]
    rfl
  refine done_ (done_of HT_.out (by kernel_rfl)) ?_
  try go_wp2
  go_ret
  exact ⟨by first | rfl | (simp [errW_none, errW_some] <;> rfl) | (simp [*, errW_none, errW_some] <;> rfl), by repeat (first | (with_reducible first | exact HB.out | apply below_alloc | apply pw_below_drewN | apply below_drew1 | refine below_set ?_ GE384.out) | exact HB.out)⟩

end Go.Proofs.YtcckamdpncbkoabDoor.G

namespace Go.Proofs.YtcckamdpncbkoabDoor.G
open Go.RowKit Go.Proofs.YtcckamdpncbkoabDoorW.PrintWords Go.Proofs.YtcckamdpncbkoabDoorW.PrintLast Go.Proofs.YtcckamdpncbkoabDoor.B
set_option linter.unusedVariables false
set_option linter.unusedSimpArgs false
def spB : ByteArray := ⟨#[32]⟩
def glu (s p : ByteArray) : ByteArray := (if s.size ≠ 0 ∧ p.size ≠ 0 then s ++ spB else s) ++ p
def joinD (l : List ByteArray) : ByteArray := l.foldl glu ByteArray.empty
def sumB (l : List ByteArray) : Nat := (l.map fun x => x.size + 1).sum
theorem sumB_cons (a : ByteArray) (l : List ByteArray) : sumB (a :: l) = a.size + 1 + sumB l := by simp [sumB]
theorem glu_size (s p : ByteArray) : (glu s p).size ≤ s.size + (p.size + 1) := by
  unfold glu
  rw [size_append]
  split
  · rw [size_append]; show s.size + 1 + p.size ≤ _; omega
  · omega
theorem fold_size (l : List ByteArray) : ∀ s : ByteArray, (l.foldl glu s).size ≤ s.size + sumB l := by
  induction l with
  | nil => intro s; simp [sumB]
  | cons p l ih =>
    intro s
    have := ih (glu s p)
    have h2 := glu_size s p
    rw [List.foldl_cons, sumB_cons]; omega
theorem joinD_size (l : List ByteArray) : (joinD l).size ≤ sumB l := by
  have := fold_size l ByteArray.empty
  have e : ByteArray.empty.size = 0 := rfl
  unfold joinD; omega
theorem L_nil {s : ByteArray} (h : s.size = 0) : L s = [] := (size_pos_iff s).1 h
theorem L_glu (s p : ByteArray) : L (glu s p) = if s.size ≠ 0 ∧ p.size ≠ 0 then L s ++ 32 :: L p else L s ++ L p := by
  unfold glu
  rw [L_append]
  split
  · rw [L_append, List.append_assoc]; rfl
  · rfl
theorem fold_join (l : List ByteArray) : ∀ s : ByteArray, L (l.foldl glu s) = if s.size = 0 then Lib.join ((l.filter fun x => !decide (x.size = 0)).map (·.data.toList)) [32] else L s ++ Lib.joinTail [32] ((l.filter fun x => !decide (x.size = 0)).map (·.data.toList)) := by
  induction l with
  | nil =>
    intro s
    by_cases h : s.size = 0
    · rw [if_pos h]; simp [Lib.join_nil, L_nil h]
    · rw [if_neg h]; simp [Lib.joinTail]
  | cons p l ih =>
    intro s
    rw [List.foldl_cons, ih]
    by_cases hp : p.size = 0
    · have e : glu s p = s := L_inj (by rw [L_glu, if_neg (fun h => h.2 hp), L_nil hp, List.append_nil])
      rw [e, List.filter_cons_of_neg (by simp [hp])]
    · have hg : ¬ (glu s p).size = 0 := by rw [← L_len, L_glu]; split <;> simp [L_len, hp]
      rw [if_neg hg, List.filter_cons_of_pos (by simp [hp]), List.map_cons, L_glu]
      by_cases h : s.size = 0
      · rw [if_neg (fun x => x.1 h), if_pos h, L_nil h, List.nil_append, Lib.join_cons]
      · rw [if_pos (And.intro h hp), if_neg h]
        simp [Lib.joinTail]
theorem join_filter (l : List ByteArray) : Lib.join ((l.filter fun x => !decide (x.size = 0)).map (·.data.toList)) (⟨#[32]⟩ : ByteArray).data.toList = L (joinD l) := by
  have := fold_join l ByteArray.empty
  rw [if_pos (show ByteArray.empty.size = 0 from rfl)] at this
  exact this.symm
theorem filter_all {l : List ByteArray} (h : ∀ x ∈ l, 1 ≤ x.size) : (l.filter fun x => !decide (x.size = 0)) = l := by
  rw [List.filter_eq_self]
  intro x hx
  have := h x hx
  show (!decide (x.size = 0)) = true
  rw [decide_eq_false (by omega)]; rfl
theorem libJoin_filter (l : List ByteArray) (hl : l.length ≤ 1000) (hs : sumB l ≤ 140737488355328) : strings_Join.f (l.filter fun x => !decide (x.size = 0)) (⟨#[32]⟩ : ByteArray) = some (joinD l) := by
  have h1 : (l.filter fun x => !decide (x.size = 0)).length ≤ l.length := List.length_filter_le _ _
  have h2 := joinD_size l
  unfold strings_Join.f
  rw [join_filter, if_pos ⟨by omega, by rw [L_len]; omega⟩]
theorem libJoin_all (l : List ByteArray) (hp : ∀ x ∈ l, 1 ≤ x.size) (hl : l.length ≤ 1000) (hs : sumB l ≤ 140737488355328) : strings_Join.f l (⟨#[32]⟩ : ByteArray) = some (joinD l) := by
  have := libJoin_filter l hl hs
  rwa [filter_all hp] at this
theorem spaced_eq (l : List ByteArray) (h1 : 1 ≤ l.length) (hl : l.length ≤ 1000) (hs : sumB l ≤ 140737488355328) : impl_spaced.f l = some (joinD l) := by
  unfold impl_spaced.f
  rw [if_pos ⟨h1, hl⟩]
  exact libJoin_filter l hl hs
theorem spec_join_loop (l : List ByteArray) (hl : l.length ≤ 4611686018427387904) (hs : sumB l ≤ 140737488355328) (d : Nat) : ∀ (s : ByteArray) (i : Nat), i ≤ l.length → l.length - i = d → s.size + sumB (l.drop i) ≤ 140737488355328 →
    Ev (fun k => spec_l2Join.l0 k l s (i : Int)) ((l.drop i).foldl glu s) := by
  induction d with
  | zero =>
    intro s i h1 hd hb
    refine Ev.step (f := fun _ => some s) (fun k => ?_) (ev_eq (Ev.now _) ?_)
    · simp only [spec_l2Join.l0]; rw [if_neg (by omega)]
    · rw [List.drop_of_length_le (by omega)]; rfl
  | succ d ih =>
    intro s i h1 hd hb
    have hi : i < l.length := by omega
    have hw : wrap64 ((i : Int) + 1) = ((i + 1 : Nat) : Int) := by rw [w64 (by omega) (by omega)]; rfl
    rw [List.drop_eq_getElem_cons hi] at hb ⊢
    rw [sumB_cons] at hb
    have hg := glu_size s l[i]
    rw [List.foldl_cons]
    refine Ev.step (f := fun k => spec_l2Join.l0 k l (glu s l[i]) ((i + 1 : Nat) : Int)) (fun k => ?_) (ih (glu s l[i]) (i + 1) (by omega) (by omega) (by omega))
    simp only [spec_l2Join.l0, rd_get l i hi]
    have a1 : (i : Int) < (l.length : Int) := by omega
    have a2 : (0 : Int) ≤ (i : Int) := by omega
    have a3 : s.size + l[i].size ≤ 9223372036854775807 := by omega
    have a4 : s.size + 1 ≤ 9223372036854775807 := by omega
    have a5 : (s ++ (⟨#[32]⟩ : ByteArray)).size + l[i].size ≤ 9223372036854775807 := by
      rw [size_append]; show s.size + 1 + l[i].size ≤ _; omega
    simp only [if_pos a1, if_pos a2, if_pos a3, if_pos a4, if_pos a5, hw]
    unfold glu
    by_cases hs0 : s.size = 0
    · have b : s.toList = ([] : List UInt8) := (nil_iff s).2 hs0
      simp only [b, hs0, ne_eq, not_true_eq_false, false_and, if_true, if_false]
    · have b : ¬ s.toList = ([] : List UInt8) := fun e => hs0 ((nil_iff s).1 e)
      rw [if_neg b]
      by_cases hp : l[i].size = 0
      · have b2 : (l[i]).toList = ([] : List UInt8) := (nil_iff _).2 hp
        rw [if_pos b2, if_neg (fun x : s.size ≠ 0 ∧ l[i].size ≠ 0 => x.2 hp)]
      · have b2 : ¬ (l[i]).toList = ([] : List UInt8) := fun e => hp ((nil_iff _).1 e)
        rw [if_neg b2, if_pos (show s.size ≠ 0 ∧ l[i].size ≠ 0 from ⟨hs0, hp⟩)]
        rfl
theorem spec_join (l : List ByteArray) (hl : l.length ≤ 4611686018427387904) (hs : sumB l ≤ 140737488355328) : Ev (fun k => spec_l2Join.f k l) (joinD l) := by
  have := spec_join_loop l hl hs _ ByteArray.empty 0 (by omega) rfl (by rw [List.drop_zero]; show 0 + _ ≤ _; omega)
  unfold spec_l2Join.f
  rw [List.drop_zero] at this
  exact this
end Go.Proofs.YtcckamdpncbkoabDoor.G

namespace Go.Proofs.YtcckamdpncbkoabDoor.G
open Go.RowKit Go.Proofs.YtcckamdpncbkoabDoorW.PrintWords Go.Proofs.YtcckamdpncbkoabDoorW.PrintLast Go.Proofs.YtcckamdpncbkoabDoor.B
set_option linter.unusedVariables false
set_option linter.unusedSimpArgs false
def hyp (c : Int) : ByteArray := mkB [45, UInt8.ofNat c.toNat, 46]
def upC (c : Int) : Int := if loD c = true then c - 32 else c
def hyD (w : ByteArray) : Nat → Nat → ByteArray → ByteArray
  | 0, _, a => a
  | d + 1, i, a => hyD w d (i + 1) (if bt w (i : Int) = 45 then a ++ hyp (upC (bt w ((i + 1 : Nat) : Int))) else a)
theorem hyD_back (w : ByteArray) (d : Nat) : ∀ (i : Nat) (a : ByteArray), bt w ((i + d : Nat) : Int) ≠ 45 → hyD w (d + 1) i a = hyD w d i a := by
  induction d with
  | zero => intro i a h; simp only [hyD]; rw [if_neg (show ¬ bt w (i : Int) = 45 from h)]
  | succ d ih =>
    intro i a h
    have e : i + (d + 1) = (i + 1) + d := by omega
    rw [e] at h
    show hyD w (d + 1) (i + 1) _ = hyD w d (i + 1) _
    exact ih (i + 1) _ h
theorem hyD_front (w : ByteArray) (d i : Nat) (a : ByteArray) (h : bt w (i : Int) ≠ 45) : hyD w (d + 1) i a = hyD w d (i + 1) a := by
  show hyD w d (i + 1) _ = _
  rw [if_neg h]
theorem hyp_size (c : Int) : (hyp c).size = 3 := by unfold hyp; rw [size_mk]; rfl
theorem hyD_size (w : ByteArray) (d : Nat) : ∀ (i : Nat) (a : ByteArray), a.size ≤ (hyD w d i a).size ∧ (hyD w d i a).size ≤ a.size + 3 * d := by
  induction d with
  | zero => intro i a; exact ⟨Nat.le_refl _, Nat.le_refl _⟩
  | succ d ih =>
    intro i a
    show a.size ≤ (hyD w d (i + 1) _).size ∧ (hyD w d (i + 1) _).size ≤ _
    have := ih (i + 1) (if bt w (i : Int) = 45 then a ++ hyp (upC (bt w ((i + 1 : Nat) : Int))) else a)
    have e : (if bt w (i : Int) = 45 then a ++ hyp (upC (bt w ((i + 1 : Nat) : Int))) else a).size ≤ a.size + 3 ∧ a.size ≤ (if bt w (i : Int) = 45 then a ++ hyp (upC (bt w ((i + 1 : Nat) : Int))) else a).size := by
      split
      · rw [size_append, hyp_size]; omega
      · omega
    omega
theorem le_rng {c : Int} (h : leD c = true) : 65 ≤ c ∧ c ≤ 122 := by
  unfold leD upD loD at h
  simp only [Bool.or_eq_true, Bool.and_eq_true, decide_eq_true_eq] at h
  omega
theorem wl_at (s : ByteArray) (d : Nat) : ∀ i j : Nat, wlD s d i = true → i ≤ j → j < i + d → okD s j = true := by
  induction d with
  | zero => intro i j h h1 h2; omega
  | succ d ih =>
    intro i j h h1 h2
    unfold wlD at h
    rw [Bool.and_eq_true] at h
    by_cases e : j = i
    · rw [e]; exact h.1
    · exact ih (i + 1) j h.2 (by omega) (by omega)
structure Wrd (w : ByteArray) : Prop where
  s1 : 1 ≤ w.size
  s2 : w.size ≤ 12
  h0 : bt w ((0 : Nat) : Int) ≠ 45
  hn : bt w ((w.size - 1 : Nat) : Int) ≠ 45
  asc : ∀ j : Nat, j < w.size → 0 ≤ bt w (j : Int) ∧ bt w (j : Int) < 128
theorem wrd_of {w : ByteArray} (h : wordD w = true) : Wrd w := by
  obtain ⟨s1, s2⟩ := word_in h
  unfold wordD at h
  simp only [Bool.and_eq_true] at h
  obtain ⟨_, ⟨h1, h2⟩, h3⟩ := h
  have r1 := le_rng h1
  have e : ((w.size : Int) - 1) = ((w.size - 1 : Nat) : Int) := by omega
  rw [e] at h2
  have r2 := le_rng h2
  refine ⟨s1, s2, fun e => by rw [show ((0 : Nat) : Int) = 0 from rfl] at e; omega, fun e => by omega, fun j hj => ?_⟩
  by_cases h0 : j = 0
  · subst h0; rw [show ((0 : Nat) : Int) = 0 from rfl]; omega
  · have := wl_at w _ 1 j h3 (by omega) (by omega)
    unfold okD at this
    simp only [Bool.or_eq_true, Bool.and_eq_true, decide_eq_true_eq] at this
    rcases this with h | ⟨h, _⟩
    · have := le_rng h; omega
    · omega
theorem great_wrd {w : ByteArray} (h : greatD w = true) : Wrd w := by
  unfold greatD at h; rw [Bool.and_eq_true] at h; exact wrd_of h.1
theorem up_rng {c : Int} (h : 0 ≤ c ∧ c < 128) : 0 ≤ upC c ∧ upC c < 128 := by
  unfold upC
  split
  · rename_i e
    unfold loD at e
    simp only [Bool.and_eq_true, decide_eq_true_eq] at e
    omega
  · exact h
theorem impl_upB (c : Int) (h : 0 ≤ c ∧ c < 128) : impl_upperByte.f c = some (upC c) := by
  unfold impl_upperByte.f upC
  rw [impl_lo]
  show (if loD c = true then _ else _) = _
  cases e : loD c with
  | false => rw [if_neg (by simp), if_neg (by simp)]
  | true =>
    unfold loD at e
    simp only [Bool.and_eq_true, decide_eq_true_eq] at e
    rw [if_pos rfl, if_pos rfl]
    congr 1; omega
theorem enc_one (c : Int) (h : 0 ≤ c ∧ c < 128) : Utf8.encode (wrap32 c) = mkB [UInt8.ofNat c.toNat] := by
  have e : wrap32 c = c := by unfold wrap32; omega
  have v : Utf8.valid c = true := by unfold Utf8.valid; simp; omega
  rw [e]
  unfold Utf8.encode
  simp only [v, if_true]
  rw [if_pos (by omega)]
  rfl
theorem hyp_impl (a : ByteArray) (u : Int) : a ++ (((⟨#[45]⟩ : ByteArray) ++ mkB [UInt8.ofNat u.toNat]) ++ (⟨#[46]⟩ : ByteArray)) = a ++ hyp u := by
  apply L_inj; simp only [L_append, L_mk, hyp]; rfl
theorem hyp_spec (a : ByteArray) (u : Int) : ((a ++ (⟨#[45]⟩ : ByteArray)) ++ strOfNums [u]) ++ (⟨#[46]⟩ : ByteArray) = a ++ hyp u := by
  apply L_inj
  have e : L (strOfNums [u]) = [UInt8.ofNat u.toNat] := rfl
  simp only [L_append, L_mk, hyp, e, List.append_assoc]; rfl
theorem str_one (u : Int) : (strOfNums [u]).size = 1 := rfl
theorem one_size (n : UInt8) : (⟨#[n]⟩ : ByteArray).size = 1 := rfl
theorem spec_ini_l1 (parts : List ByteArray) (x4 : Int) (w : ByteArray) (hW : Wrd w) (G : List ByteArray) (P F S v : ByteArray) (hp : parts.length < 8796093022208) (d : Nat) : ∀ (i : Nat) (a : ByteArray), i + 1 ≤ w.size → w.size - (i + 1) = d → a.size + 3 * d ≤ 1000 →
    Ev (fun k => spec_l2Initials.l0 k (parts ++ [hyD w d i a]) (wrap64 (x4 + 1)) G P F S) v → Ev (fun k => spec_l2Initials.l1 k parts x4 w a ((i + 1 : Nat) : Int) G P F S) v := by
  induction d with
  | zero =>
    intro i a h1 h2 h3 hv
    refine Ev.step (fun k => ?_) hv
    simp only [spec_l2Initials.l1]
    rw [if_neg (by omega), if_pos hp]
    rfl
  | succ d ih =>
    intro i a h1 h2 h3 hv
    have hs := hW.s2
    have hw1 : wrap64 (((i + 1 : Nat) : Int) - 1) = (i : Int) := by rw [w64 (by omega) (by omega)]; omega
    have hw2 : wrap64 (((i + 1 : Nat) : Int) + 1) = ((i + 1 + 1 : Nat) : Int) := by rw [w64 (by omega) (by omega)]; rfl
    have b := hW.asc (i + 1) (by omega)
    have a1 : ((i + 1 : Nat) : Int) < (w.size : Int) := by omega
    have a2 : (0 : Int) ≤ (i : Int) := by omega
    have a3 : (i : Int) < (w.size : Int) := by omega
    have a4 : (0 : Int) ≤ ((i + 1 : Nat) : Int) := by omega
    have a5 : a.size + 1 ≤ 9223372036854775807 := by omega
    have hv' : Ev (fun k => spec_l2Initials.l0 k (parts ++ [hyD w d (i + 1) (if bt w (i : Int) = 45 then a ++ hyp (upC (bt w ((i + 1 : Nat) : Int))) else a)]) (wrap64 (x4 + 1)) G P F S) v := hv
    by_cases c : bt w (i : Int) = 45
    · rw [if_pos c] at hv'
      have := ih (i + 1) (a ++ hyp (upC (bt w ((i + 1 : Nat) : Int)))) (by omega) (by omega) (by rw [size_append, hyp_size]; omega) hv'
      refine Ev.step (fun k => ?_) this
      simp only [spec_l2Initials.l1]
      rw [if_pos a1, hw1, if_pos a2, if_pos a3, if_pos c, if_pos a4, spec_lo, hw2]
      simp only [Option.bind_some]
      have a6 : ∀ u : Int, (a ++ (⟨#[45]⟩ : ByteArray)).size + (strOfNums [u]).size ≤ 9223372036854775807 := fun u => by rw [size_append, str_one, one_size]; omega
      have a7 : ∀ u : Int, ((a ++ (⟨#[45]⟩ : ByteArray)) ++ strOfNums [u]).size + 1 ≤ 9223372036854775807 := fun u => by rw [size_append, size_append, str_one, one_size]; omega
      cases e : loD (bt w ((i + 1 : Nat) : Int)) with
      | false =>
        have eu : upC (bt w ((i + 1 : Nat) : Int)) = bt w ((i + 1 : Nat) : Int) := by unfold upC; rw [if_neg (by rw [e]; exact Bool.false_ne_true)]
        rw [if_neg (by simp), if_pos a5, if_pos (a6 _), if_pos (a7 _), hyp_spec, eu]
      | true =>
        have eu : upC (bt w ((i + 1 : Nat) : Int)) = bt w ((i + 1 : Nat) : Int) - 32 := by unfold upC; rw [if_pos e]
        have r := up_rng b
        rw [eu] at r
        have em : (bt w ((i + 1 : Nat) : Int) - 32) % 256 = bt w ((i + 1 : Nat) : Int) - 32 := by omega
        rw [if_pos rfl, if_pos a5, em, if_pos (a6 _), if_pos (a7 _), hyp_spec, eu]
    · rw [if_neg c] at hv'
      have := ih (i + 1) a (by omega) (by omega) (by omega) hv'
      refine Ev.step (fun k => ?_) this
      simp only [spec_l2Initials.l1]
      rw [if_pos a1, hw1, if_pos a2, if_pos a3, if_neg c, hw2]
theorem impl_ini_l1 (parts : List ByteArray) (w : ByteArray) (hW : Wrd w) (G : List ByteArray) (x11 x12 : Int) (v : ByteArray) (hp : parts.length < 8796093022208) (d : Nat) : ∀ (i : Nat) (a : ByteArray), i ≤ w.size → w.size - i = d → a.size + 3 * d ≤ 1000 →
    Ev (fun k => impl_initialsOf.l0 k (parts ++ [hyD w d i a]) G x11 (wrap64 (x12 + 1))) v → Ev (fun k => impl_initialsOf.l1 k parts w a (i : Int) G x11 x12) v := by
  induction d with
  | zero =>
    intro i a h1 h2 h3 hv
    refine Ev.step (fun k => ?_) hv
    simp only [impl_initialsOf.l1]
    rw [if_neg (by omega), if_pos hp]
    rfl
  | succ d ih =>
    intro i a h1 h2 h3 hv
    have hs := hW.s2
    have hw2 : wrap64 ((i : Int) + 1) = ((i + 1 : Nat) : Int) := by rw [w64 (by omega) (by omega)]; rfl
    have a1 : (i : Int) < (w.size : Int) := by omega
    have a2 : (0 : Int) ≤ (i : Int) := by omega
    have a4 : (0 : Int) ≤ ((i + 1 : Nat) : Int) := by omega
    have hv' : Ev (fun k => impl_initialsOf.l0 k (parts ++ [hyD w d (i + 1) (if bt w (i : Int) = 45 then a ++ hyp (upC (bt w ((i + 1 : Nat) : Int))) else a)]) G x11 (wrap64 (x12 + 1))) v := hv
    by_cases c : bt w (i : Int) = 45
    · rw [if_pos c] at hv'
      have hne : i ≠ w.size - 1 := fun e => hW.hn (by rw [← e]; exact c)
      have b := hW.asc (i + 1) (by omega)
      have a3 : ((i + 1 : Nat) : Int) < (w.size : Int) := by omega
      have := ih (i + 1) (a ++ hyp (upC (bt w ((i + 1 : Nat) : Int)))) (by omega) (by omega) (by rw [size_append, hyp_size]; omega) hv'
      refine Ev.step (fun k => ?_) this
      simp only [impl_initialsOf.l1]
      rw [if_pos a1, if_pos a2, if_pos c, hw2, if_pos a4, if_pos a3, impl_upB _ b]
      simp only [Option.bind_some]
      have s1 : (mkB [UInt8.ofNat (upC (bt w ((i + 1 : Nat) : Int))).toNat]).size = 1 := by rw [size_mk]; rfl
      rw [enc_one _ (up_rng b), s1, if_pos (by omega), if_pos (by rw [size_append, s1, one_size]; omega), if_pos (by rw [size_append, size_append, s1, one_size, one_size]; omega), hyp_impl]
    · rw [if_neg c] at hv'
      have := ih (i + 1) a (by omega) (by omega) (by omega) hv'
      refine Ev.step (fun k => ?_) this
      simp only [impl_initialsOf.l1]
      rw [if_pos a1, if_pos a2, if_neg c, hw2]
def iniD (w : ByteArray) : ByteArray := hyD w (w.size - 1) 1 (w.extract 0 1 ++ (⟨#[46]⟩ : ByteArray))
theorem head_size (w : ByteArray) (h : 1 ≤ w.size) : (w.extract 0 1 ++ (⟨#[46]⟩ : ByteArray)).size = 2 := by
  rw [size_append, ByteArray.size_extract, one_size]; omega
theorem ini_alt {w : ByteArray} (hW : Wrd w) : hyD w (w.size - 1) 0 (w.extract 0 1 ++ (⟨#[46]⟩ : ByteArray)) = iniD w := by
  unfold iniD
  rw [← hyD_front w (w.size - 1) 0 _ hW.h0]
  exact (hyD_back w (w.size - 1) 0 _ (by rw [Nat.zero_add]; exact hW.hn)).symm
theorem ini_size {w : ByteArray} (hW : Wrd w) : 1 ≤ (iniD w).size ∧ (iniD w).size ≤ 40 := by
  have h1 := hyD_size w (w.size - 1) 1 (w.extract 0 1 ++ (⟨#[46]⟩ : ByteArray))
  have h2 := head_size w hW.s1
  have h3 := hW.s2
  unfold iniD
  omega
theorem parts_sum (l : List ByteArray) (h : ∀ x ∈ l, 1 ≤ x.size ∧ x.size ≤ 40) : sumB l ≤ 41 * l.length := by
  induction l with
  | nil => exact Nat.le_refl _
  | cons a l ih =>
    have := ih (fun x hx => h x (List.mem_cons_of_mem _ hx))
    have := (h a (List.mem_cons_self)).2
    rw [sumB_cons, List.length_cons]; omega
theorem spec_ini_l0 (G : List ByteArray) (P F S : ByteArray) (hG : G.length ≤ 3) (hW : ∀ w ∈ G, Wrd w) (d : Nat) : ∀ (i : Nat) (parts : List ByteArray), i ≤ G.length → G.length - i = d → parts.length = i → (∀ x ∈ parts, 1 ≤ x.size ∧ x.size ≤ 40) →
    Ev (fun k => spec_l2Initials.l0 k parts (i : Int) G P F S) (joinD (parts ++ (G.drop i).map iniD)) := by
  induction d with
  | zero =>
    intro i parts h1 h2 h3 h4
    have hb := parts_sum parts h4
    refine Ev.step (f := fun k => (spec_l2Join.f k parts).bind fun t => some t) (fun k => ?_) (Ev.bind (spec_join parts (by omega) (by omega)) (ev_eq (Ev.now _) ?_))
    · simp only [spec_l2Initials.l0]; rw [if_neg (by omega)]
    · rw [List.drop_of_length_le (by omega), List.map_nil, List.append_nil]
  | succ d ih =>
    intro i parts h1 h2 h3 h4
    have hi : i < G.length := by omega
    have w1 := hW G[i] (List.getElem_mem hi)
    have hs := head_size G[i] w1.s1
    have hw : wrap64 ((i : Int) + 1) = ((i + 1 : Nat) : Int) := by rw [w64 (by omega) (by omega)]; rfl
    have hn := ih (i + 1) (parts ++ [iniD G[i]]) (by omega) (by omega) (by simp [h3]) (fun x hx => by
      rcases List.mem_append.1 hx with h | h
      · exact h4 x h
      · rw [List.mem_singleton.1 h]; exact ini_size w1)
    rw [← ini_alt w1, ← hw] at hn
    have h5 := w1.s1
    have h6 := w1.s2
    have h7 := spec_ini_l1 parts (i : Int) G[i] w1 G P F S _ (by omega) (G[i].size - 1) 0 _ (by omega) (by omega) (by omega) hn
    rw [List.drop_eq_getElem_cons hi, List.map_cons]
    refine Ev.step (fun k => ?_) (ev_eq h7 (by rw [ini_alt w1, List.append_assoc]; rfl))
    simp only [spec_l2Initials.l0, rd_get G i hi]
    have a0 : (0 : Nat) ≤ 1 := by omega
    rw [if_pos (by omega), if_pos (by omega), if_pos a0, if_pos (by omega), if_pos (by rw [ByteArray.size_extract]; omega)]
    rfl
theorem impl_ini_l0 (G : List ByteArray) (hG : G.length ≤ 3) (hW : ∀ w ∈ G, Wrd w) (d : Nat) : ∀ (i : Nat) (parts : List ByteArray), i ≤ G.length → G.length - i = d → parts.length = i → (∀ x ∈ parts, 1 ≤ x.size ∧ x.size ≤ 40) →
    Ev (fun k => impl_initialsOf.l0 k parts G (G.length : Int) (i : Int)) (joinD (parts ++ (G.drop i).map iniD)) := by
  induction d with
  | zero =>
    intro i parts h1 h2 h3 h4
    have hb := parts_sum parts h4
    refine Ev.step (f := fun k => (strings_Join.f parts (⟨#[32]⟩ : ByteArray)).bind fun t => some t) (fun k => ?_) (ev_bind0 (libJoin_all parts (fun x hx => (h4 x hx).1) (by omega) (by omega)) (ev_eq (Ev.now _) ?_))
    · simp only [impl_initialsOf.l0]; rw [if_neg (by omega)]
    · rw [List.drop_of_length_le (by omega), List.map_nil, List.append_nil]
  | succ d ih =>
    intro i parts h1 h2 h3 h4
    have hi : i < G.length := by omega
    have w1 := hW G[i] (List.getElem_mem hi)
    have hs := head_size G[i] w1.s1
    have hw : wrap64 ((i : Int) + 1) = ((i + 1 : Nat) : Int) := by rw [w64 (by omega) (by omega)]; rfl
    have hn := ih (i + 1) (parts ++ [iniD G[i]]) (by omega) (by omega) (by simp [h3]) (fun x hx => by
      rcases List.mem_append.1 hx with h | h
      · exact h4 x h
      · rw [List.mem_singleton.1 h]; exact ini_size w1)
    rw [← hw] at hn
    have h5 := w1.s1
    have h6 := w1.s2
    have h7 := impl_ini_l1 parts G[i] w1 G (G.length : Int) (i : Int) _ (by omega) (G[i].size - 1) 1 _ (by omega) (by omega) (by omega) hn
    rw [List.drop_eq_getElem_cons hi, List.map_cons]
    refine Ev.step (fun k => ?_) (ev_eq h7 (by rw [List.append_assoc]; rfl))
    simp only [impl_initialsOf.l0, rd_get G i hi]
    have a0 : (0 : Nat) ≤ 1 := by omega
    rw [if_pos (by omega), if_pos (by omega), if_pos (by omega), if_pos a0, if_pos (by omega), if_pos (by rw [ByteArray.size_extract]; omega)]
    rfl
def initD (G : List ByteArray) : ByteArray := joinD (G.map iniD)
theorem good_wrd {G : List ByteArray} {P F S : ByteArray} (h : goodN G P F S = true) : G.length ≤ 3 ∧ ∀ w ∈ G, Wrd w := by
  unfold goodN at h
  simp only [Bool.and_eq_true, decide_eq_true_eq] at h
  exact ⟨h.2.1, fun x hx => great_wrd (List.all_eq_true.1 h.1 x hx)⟩
theorem spec_ini (G : List ByteArray) (P F S : ByteArray) (hg : goodN G P F S = true) : Ev (fun k => spec_l2Initials.f k G P F S) (initD G) := by
  obtain ⟨h1, h2⟩ := good_wrd hg
  have := spec_ini_l0 G P F S h1 h2 _ 0 [] (by omega) rfl rfl (fun x hx => by cases hx)
  unfold spec_l2Initials.f
  exact this
theorem impl_ini (G : List ByteArray) (P F S : ByteArray) (hg : goodN G P F S = true) : Ev (fun k => impl_initialsOf.f k G P F S) (initD G) := by
  obtain ⟨h1, h2⟩ := good_wrd hg
  have := impl_ini_l0 G h1 h2 _ 0 [] (by omega) rfl rfl (fun x hx => by cases hx)
  unfold impl_initialsOf.f
  exact this
theorem init_size {G : List ByteArray} {P F S : ByteArray} (hg : goodN G P F S = true) : (initD G).size ≤ 123 := by
  obtain ⟨h1, h2⟩ := good_wrd hg
  have h3 := parts_sum (G.map iniD) (fun x hx => by obtain ⟨y, hy, rfl⟩ := List.mem_map.1 hx; exact ini_size (h2 y hy))
  have h4 := joinD_size (G.map iniD)
  rw [List.length_map] at h3
  unfold initD; omega
end Go.Proofs.YtcckamdpncbkoabDoor.G

namespace Go.Proofs.YtcckamdpncbkoabDoor.G
open Go.RowKit Go.Proofs.YtcckamdpncbkoabDoorW.PrintWords Go.Proofs.YtcckamdpncbkoabDoorW.PrintLast Go.Proofs.YtcckamdpncbkoabDoor.B
set_option linter.unusedVariables false
set_option linter.unusedSimpArgs false
def shortD (G : List ByteArray) (P F : ByteArray) : ByteArray := joinD [initD G, P, F]
theorem short_sum {G : List ByteArray} {P F S : ByteArray} (hg : goodN G P F S = true) (h : bulkN G P F S ≤ 1048576) : sumB [initD G, P, F] ≤ 1048760 := by
  have h1 := init_size hg
  unfold bulkN at h
  have h4 : sumB [initD G, P, F] = (initD G).size + 1 + (P.size + 1 + (F.size + 1 + 0)) := rfl
  omega
theorem spec_short (G : List ByteArray) (P F S : ByteArray) (hg : goodN G P F S = true) (h : bulkN G P F S ≤ 1048576) : Ev (fun k => spec_l2Short.f k G P F S) (shortD G P F) := by
  have h1 := short_sum hg h
  unfold spec_l2Short.f
  exact Ev.bind (spec_ini G P F S hg) (Ev.bind (spec_join _ (by simp) (by omega)) (Ev.now _))
theorem impl_short (G : List ByteArray) (P F S : ByteArray) (hg : goodN G P F S = true) (h : bulkN G P F S ≤ 1048576) : Ev (fun k => impl_shortForm.f k G P F S) (shortD G P F) := by
  have h1 := short_sum hg h
  unfold impl_shortForm.f
  exact Ev.bind (impl_ini G P F S hg) (ev_bind0 (spaced_eq _ (by simp) (by simp) (by omega)) (Ev.now _))
theorem short_size {G : List ByteArray} {P F S : ByteArray} (hg : goodN G P F S = true) (h : bulkN G P F S ≤ 1048576) : (shortD G P F).size ≤ 1048760 := Nat.le_trans (joinD_size _) (short_sum hg h)
end Go.Proofs.YtcckamdpncbkoabDoor.G

namespace Go.Proofs.YtcckamdpncbkoabDoor.G
open Go.RowKit Go.Proofs.YtcckamdpncbkoabDoorW.PrintWords Go.Proofs.YtcckamdpncbkoabDoorW.PrintLast Go.Proofs.YtcckamdpncbkoabDoor.B Go.Proofs.YtcckamdpncbkoabDoor.Opn
set_option linter.unusedVariables false
set_option linter.unusedSimpArgs false
def conv (x : S89) : S34 := ⟨x.f0, x.f1, x.f2, x.f3⟩
def bulkL (l : List S89) : Nat := (l.map fun x => bulkN x.f0 x.f1 x.f2 x.f3).sum
theorem rd24 (l : List S89) (i : Nat) (h : i < l.length) : rd_T89 l (i : Int) = l[i] := by simp [rd_T89, h]
theorem rd27 (l : List S34) (i : Nat) (h : i < l.length) : rd_T34 l (i : Int) = l[i] := by simp [rd_T34, h]
theorem bulkL_cons (a : S89) (l : List S89) : bulkL (a :: l) = bulkN a.f0 a.f1 a.f2 a.f3 + bulkL l := by simp [bulkL]
theorem bulkL_mem {l : List S89} {x : S89} (h : x ∈ l) : bulkN x.f0 x.f1 x.f2 x.f3 ≤ bulkL l := by
  induction l with
  | nil => simp at h
  | cons a l ih =>
    rw [bulkL_cons]
    rcases List.mem_cons.1 h with rfl | h
    · omega
    · have := ih h; omega
theorem szL_loop (l : List S89) (hb : ∀ x ∈ l, ok89 x) (hl : l.length ≤ 9223372036854775807) (d : Nat) : ∀ (left : Int) (i : Nat), 0 ≤ left → left ≤ 1048576 → l.length - i = d → i ≤ l.length →
    Ev (fun k => laws_szNameS.l0 k l left (i : Int)) (lftOf left (bulkL (l.drop i))) := by
  induction d with
  | zero =>
    intro left i h0 h1 hd hi
    refine Ev.step (f := fun _ => some left) (fun k => ?_) (ev_eq (Ev.now _) ?_)
    · simp only [laws_szNameS.l0]; rw [if_neg (by omega)]
    · rw [List.drop_of_length_le (by omega)]; unfold lftOf bulkL; simp; omega
  | succ d ih =>
    intro left i h0 h1 hd hi
    have hlt : i < l.length := by omega
    obtain ⟨b0, b1, b2, b3⟩ := hb l[i] (List.getElem_mem hlt)
    have hsz := szN_ev (l[i]).f0 (l[i]).f1 (l[i]).f2 (l[i]).f3 b0.2 b0.1 b1 b2 b3 left h0 (by omega)
    have hw : wrap64 ((i : Int) + 1) = ((i + 1 : Nat) : Int) := by rw [w64 (by omega) (by omega)]; rfl
    rw [List.drop_eq_getElem_cons hlt, bulkL_cons]
    refine Ev.step (f := fun k => (laws_szName.f k (l[i]).f0 (l[i]).f1 (l[i]).f2 (l[i]).f3 left).bind fun t276 => (if t276 < 0 then (some (-1)) else (laws_szNameS.l0 k l t276 ((i + 1 : Nat) : Int)))) (fun k => ?_) (Ev.bind hsz ?_)
    · simp only [laws_szNameS.l0, rd24 l i hlt, hw]
      rw [if_pos (by omega), if_pos (by omega)]
    · by_cases c : (bulkN (l[i]).f0 (l[i]).f1 (l[i]).f2 (l[i]).f3 : Int) ≤ left
      · have e : lftOf left (bulkN (l[i]).f0 (l[i]).f1 (l[i]).f2 (l[i]).f3) = left - bulkN (l[i]).f0 (l[i]).f1 (l[i]).f2 (l[i]).f3 := by unfold lftOf; rw [if_pos c]
        rw [e]
        refine ev_neg (by omega) (ev_eq (ih _ (i + 1) (by omega) (by omega) (by omega) (by omega)) ?_)
        unfold lftOf; split <;> split <;> omega
      · have e : lftOf left (bulkN (l[i]).f0 (l[i]).f1 (l[i]).f2 (l[i]).f3) = -1 := by unfold lftOf; rw [if_neg c]
        rw [e]
        exact ev_pos (by omega) (ev_eq (Ev.now _) (by unfold lftOf; rw [if_neg (by omega)]))
theorem szL_ev (l : List S89) (hb : ∀ x ∈ l, ok89 x) (hl : l.length ≤ 9223372036854775807) (left : Int) (h0 : 0 ≤ left) (h1 : left ≤ 1048576) :
    Ev (fun k => laws_szNameS.f k l left) (lftOf left (l.length + bulkL l)) := by
  unfold laws_szNameS.f
  have hw : wrap64 (left - (l.length : Int)) = left - (l.length : Int) := w64 (by omega) (by omega)
  rw [hw]
  by_cases hn : left - (l.length : Int) < 0
  · exact ev_pos hn (ev_eq (Ev.now _) (by unfold lftOf; rw [if_neg (by omega)]))
  · refine ev_neg hn (ev_eq (szL_loop l hb hl l.length (left - l.length) 0 (by omega) (by omega) rfl (by omega)) ?_)
    rw [List.drop_zero]
    unfold lftOf; split <;> split <;> omega
theorem toL_loop (l : List S89) (hl : l.length ≤ 1048576) (hs : ∀ x ∈ l, x.f0.length ≤ 1048576) (d : Nat) : ∀ (i : Nat), l.length - i = d → i ≤ l.length →
    Ev (fun k => laws_toNameS.l0 k l ((l.take i).map conv ++ List.replicate (l.length - i) z34) (i : Int)) (l.map conv) := by
  induction d with
  | zero =>
    intro i hd hi
    refine Ev.step (f := fun _ => some (l.map conv)) (fun k => ?_) (Ev.now _)
    simp only [laws_toNameS.l0]; rw [if_neg (by omega), hd, List.take_of_length_le (by omega)]; simp
  | succ d ih =>
    intro i hd hi
    have hlt : i < l.length := by omega
    have hw : wrap64 ((i : Int) + 1) = ((i + 1 : Nat) : Int) := by rw [w64 (by omega) (by omega)]; rfl
    have hlen : ((l.take i).map conv).length = i := by simp; omega
    have hall : ((l.take i).map conv ++ List.replicate (l.length - i) z34).length = l.length := by simp; omega
    have e : ((l.take i).map conv ++ List.replicate (l.length - i) z34).set i (conv l[i]) = (l.take (i + 1)).map conv ++ List.replicate (l.length - (i + 1)) z34 := by
      rw [List.set_append_right _ _ (by omega), hlen, Nat.sub_self, show l.length - i = (l.length - (i + 1)) + 1 by omega, List.replicate_succ, List.set_cons_zero, List.take_succ_eq_append_getElem hlt, List.map_append, List.append_assoc]
      rfl
    have ht := toN_ev (l[i]).f0 (l[i]).f1 (l[i]).f2 (l[i]).f3 (by have := hs _ (List.getElem_mem hlt); omega)
    refine Ev.step (f := fun k => (laws_toName.f k (l[i]).f0 (l[i]).f1 (l[i]).f2 (l[i]).f3).bind fun bt289 => laws_toNameS.l0 k l (((l.take i).map conv ++ List.replicate (l.length - i) z34).set i (⟨bt289.1, bt289.2.1, bt289.2.2.1, bt289.2.2.2⟩ : S34)) ((i + 1 : Nat) : Int)) (fun k => ?_) (Ev.bind ht ?_)
    · have a3 : (i : Int) < ((((l.take i).map conv ++ List.replicate (l.length - i) z34).length : Nat) : Int) := by rw [hall]; omega
      simp only [laws_toNameS.l0, rd24 l i hlt, hw, if_pos a3, Int.toNat_natCast]
      rw [if_pos (by omega), if_pos (by omega)]
    · have hq := ih (i + 1) (by omega) (by omega)
      rw [← e] at hq
      exact hq
theorem toL_ev (l : List S89) (hl : l.length ≤ 1048576) (hs : ∀ x ∈ l, x.f0.length ≤ 1048576) : Ev (fun k => laws_toNameS.f k l) (l.map conv) := by
  unfold laws_toNameS.f
  refine ev_pos (by omega) (ev_pos (by omega) ?_)
  have := toL_loop l hl hs l.length 0 rfl (by omega)
  simpa using this
def goodS (x : S34) : Bool := goodN x.f0 x.f1 x.f2 x.f3
def okS (x : S34) : Prop := x.f0.length ≤ 4611686018427387904 ∧ x.f1.size ≤ 4294967280
def listD (l : List S34) : Bool := l.all goodS && decide (l.length ≤ 4)
theorem spec_list_loop (l : List S34) (ho : ∀ x ∈ l, okS x) (hl : l.length ≤ 1048576) (d : Nat) : ∀ i : Nat, i ≤ l.length → min l.length 5 - i = d → i ≤ 5 →
    Ev (fun k => spec_l2List.l0 k l (i : Int)) (((l.take 5).drop i).all goodS && decide (l.length ≤ 4)) := by
  have stop : ∀ i : Nat, Ev (fun k => spec_l2List.j1 k l (i : Int) false) (decide (l.length ≤ 4)) := fun i => by
    refine Ev.step (f := fun _ => some (decide ((l.length : Int) ≤ 4))) (fun k => by simp [spec_l2List.j1]) (ev_eq (Ev.now _) ?_)
    rw [decide_eq_decide]; omega
  induction d with
  | zero =>
    intro i h1 hd h5
    rw [List.drop_of_length_le (by rw [List.length_take]; omega)]
    refine Ev.step (f := fun k => spec_l2List.j1 k l (i : Int) false) (fun k => ?_) (ev_eq (stop i) (by simp))
    simp only [spec_l2List.l0]
    by_cases c : i < l.length
    · rw [if_pos (by omega), decide_eq_false (by omega)]
    · rw [if_neg (by omega)]
  | succ d ih =>
    intro i h1 hd h5
    have hi : i < l.length := by omega
    have hw : wrap64 ((i : Int) + 1) = ((i + 1 : Nat) : Int) := by rw [w64 (by omega) (by omega)]; rfl
    have hi' : i < (l.take 5).length := by rw [List.length_take]; omega
    have hx := ho _ (List.getElem_mem hi)
    rw [List.drop_eq_getElem_cons hi', List.all_cons, List.getElem_take, Bool.and_assoc]
    refine Ev.step (f := fun k => spec_l2List.j1 k l (i : Int) true) (fun k => ?_) (Ev.step (f := fun k => (spec_l2Good.f k (l[i]).f0 (l[i]).f1 (l[i]).f2 (l[i]).f3).bind fun t278 => (if t278 = true then (spec_l2List.l0 k l ((i + 1 : Nat) : Int)) else (some false))) (fun k => ?_) (Ev.bind (spec_name _ _ _ _ hx.1 hx.2) ?_))
    · simp only [spec_l2List.l0]
      rw [if_pos (by omega), decide_eq_true (by omega)]
    · simp only [spec_l2List.j1, rd27 l i hi, hw]
      rw [if_pos trivial, if_pos (by omega), if_pos (by omega)]
    · show Ev _ (goodN (l[i]).f0 (l[i]).f1 (l[i]).f2 (l[i]).f3 && _)
      cases goodN (l[i]).f0 (l[i]).f1 (l[i]).f2 (l[i]).f3 with
      | true => exact ev_pos rfl (ev_eq (ih (i + 1) (by omega) (by omega) (by omega)) (by simp))
      | false => exact ev_neg (by simp) (ev_eq (Ev.now _) (by simp))
theorem spec_list (l : List S34) (ho : ∀ x ∈ l, okS x) (hl : l.length ≤ 1048576) : Ev (fun k => spec_l2List.f k l) (listD l) := by
  have h := spec_list_loop l ho hl _ 0 (by omega) rfl (by omega)
  unfold spec_l2List.f listD
  refine ev_eq h ?_
  rw [List.drop_zero]
  by_cases c : l.length ≤ 4
  · rw [List.take_of_length_le (by omega)]
  · rw [decide_eq_false c]; simp
theorem idxN_loop (l : List S34) (ho : ∀ x ∈ l, okS x) (hl : l.length ≤ 1048576) (d : Nat) : ∀ i : Nat, i ≤ l.length → l.length - i = d →
    ∃ v, Ev (fun k => impl_Name_157_at_119.l0 k l (l.length : Int) (i : Int)) v ∧ decide (v ≥ 0) = !((l.drop i).all goodS) := by
  induction d with
  | zero =>
    intro i h1 hd
    refine ⟨-1, Ev.step (f := fun _ => some (-1)) (fun k => ?_) (Ev.now _), ?_⟩
    · simp only [impl_Name_157_at_119.l0]; rw [if_neg (by omega)]
    · rw [List.drop_of_length_le (by omega)]; simp
  | succ d ih =>
    intro i h1 hd
    have hi : i < l.length := by omega
    have hw : wrap64 ((i : Int) + 1) = ((i + 1 : Nat) : Int) := by rw [w64 (by omega) (by omega)]; rfl
    have hx := ho _ (List.getElem_mem hi)
    rw [List.drop_eq_getElem_cons hi, List.all_cons]
    have hst : ∀ v, Ev (fun k => (impl_areNames_1.f k (l[i]).f0 (l[i]).f1 (l[i]).f2 (l[i]).f3).bind fun t => if t = true then some (i : Int) else impl_Name_157_at_119.l0 k l (l.length : Int) ((i + 1 : Nat) : Int)) v → Ev (fun k => impl_Name_157_at_119.l0 k l (l.length : Int) (i : Int)) v := by
      intro v hv
      refine Ev.step (fun k => ?_) hv
      simp only [impl_Name_157_at_119.l0, rd27 l i hi, hw]
      rw [if_pos (by omega), if_pos (by omega), if_pos (by omega)]
    have hf : Ev (fun k => impl_areNames_1.f k (l[i]).f0 (l[i]).f1 (l[i]).f2 (l[i]).f3) (!goodS l[i]) := by
      unfold impl_areNames_1.f
      exact Ev.bind (impl_valid _ _ _ _ hx.1 hx.2) (Ev.now _)
    cases h : goodS l[i] with
    | true =>
      obtain ⟨v, hv, e⟩ := ih (i + 1) (by omega) (by omega)
      refine ⟨v, hst v (Ev.bind hf (ev_neg (by simp [h]) hv)), ?_⟩
      rw [e]; simp
    | false =>
      refine ⟨(i : Int), hst _ (Ev.bind hf (ev_pos (by simp [h]) (Ev.now _))), ?_⟩
      simp
theorem impl_list (l : List S34) (ho : ∀ x ∈ l, okS x) (hl : l.length ≤ 1048576) : Ev (fun k => impl_areNames.f k l) (listD l) := by
  unfold impl_areNames.f listD
  by_cases c : l.length ≤ 4
  · obtain ⟨v, hv, e⟩ := idxN_loop l ho hl _ 0 (by omega) rfl
    rw [List.drop_zero] at e
    refine ev_pos (by omega) (Ev.bind (g := fun k => impl_Name_118_at_119.f k l) (a := decide (v ≥ 0)) ?_ (ev_eq (Ev.now _) ?_))
    · unfold impl_Name_118_at_119.f impl_Name_157_at_119.f
      exact Ev.bind hv (Ev.now _)
    · rw [e]; simp [c]
  · exact ev_neg (by omega) (ev_eq (Ev.now _) (by simp [c]))
theorem list_good {l : List S34} (h : listD l = true) : l.length ≤ 4 ∧ ∀ x ∈ l, goodS x = true := by
  unfold listD at h
  simp only [Bool.and_eq_true, decide_eq_true_eq] at h
  exact ⟨h.2, fun x hx => List.all_eq_true.1 h.1 x hx⟩
theorem eqL_loop (l : List S34) (ho : ∀ x ∈ l, okS x) (hl : l.length ≤ 1048576) (d : Nat) : ∀ i : Nat, i ≤ l.length → l.length - i = d → Ev (fun k => laws_eqNameS.l0 k l l (i : Int)) true := by
  induction d with
  | zero =>
    intro i h1 hd
    refine Ev.step (f := fun _ => some true) (fun k => ?_) (Ev.now _)
    simp only [laws_eqNameS.l0]; rw [if_neg (by omega)]
  | succ d ih =>
    intro i h1 hd
    have hi : i < l.length := by omega
    have hw : wrap64 ((i : Int) + 1) = ((i + 1 : Nat) : Int) := by rw [w64 (by omega) (by omega)]; rfl
    refine Ev.step (f := fun k => (laws_eqName.f k (l[i]).f0 (l[i]).f1 (l[i]).f2 (l[i]).f3 (l[i]).f0 (l[i]).f1 (l[i]).f2 (l[i]).f3).bind fun t308 => (if t308 = true then (laws_eqNameS.l0 k l l ((i + 1 : Nat) : Int)) else (some false))) (fun k => ?_) (Ev.bind (eqN_same _ _ _ _ (ho _ (List.getElem_mem hi)).1) (ev_pos rfl (ih (i + 1) (by omega) (by omega))))
    simp only [laws_eqNameS.l0, rd27 l i hi, hw]
    rw [if_pos (by omega), if_pos (by omega), if_pos (by omega)]
theorem eqL_same (l : List S34) (ho : ∀ x ∈ l, okS x) (hl : l.length ≤ 1048576) : Ev (fun k => laws_eqNameS.f k l l) true := by
  unfold laws_eqNameS.f
  exact ev_pos rfl (eqL_loop l ho hl _ 0 (by omega) rfl)
theorem conv_ok {l : List S89} (h : bulkL l ≤ 1048576) : ∀ x ∈ l.map conv, okS x := by
  intro x hx
  obtain ⟨y, hy, rfl⟩ := List.mem_map.1 hx
  have := bulkL_mem hy
  unfold bulkN bulkS at this
  exact ⟨by show y.f0.length ≤ _; omega, by show y.f1.size ≤ _; omega⟩
end Go.Proofs.YtcckamdpncbkoabDoor.G

namespace Go.Proofs.YtcckamdpncbkoabDoor.G
open Go.RowKit Go.Proofs.YtcckamdpncbkoabDoorW.PrintWords Go.Proofs.YtcckamdpncbkoabDoorW.PrintLast Go.Proofs.YtcckamdpncbkoabDoor.B
set_option linter.unusedVariables false
set_option linter.unusedSimpArgs false
def etB : ByteArray := ⟨#[32, 101, 116, 32, 97, 108, 46]⟩
def andB : ByteArray := ⟨#[32, 97, 110, 100, 32]⟩
def cmC : ByteArray := ⟨#[44, 32]⟩
def shS (x : S34) : ByteArray := shortD x.f0 x.f1 x.f2
def bulkS1 (x : S34) : Nat := bulkN x.f0 x.f1 x.f2 x.f3
def glueN (n i : Nat) (s t : ByteArray) : ByteArray := if i = 0 then s ++ t else if i + 1 = n then (s ++ andB) ++ t else (s ++ cmC) ++ t
theorem glueN_size (n i : Nat) (s t : ByteArray) : (glueN n i s t).size ≤ s.size + 5 + t.size := by
  unfold glueN
  split
  · rw [size_append]; omega
  · split
    · rw [size_append, size_append]; show s.size + 5 + t.size ≤ _; omega
    · rw [size_append, size_append]; show s.size + 2 + t.size ≤ _; omega
structure LOk (l : List S34) : Prop where
  four : l.length ≤ 4
  good : ∀ x ∈ l, goodS x = true
  bulk : ∀ x ∈ l, bulkS1 x ≤ 1048576
theorem LOk.size {l : List S34} (h : LOk l) {x : S34} (hx : x ∈ l) : (shS x).size ≤ 1048760 := short_size (S := x.f3) (h.good x hx) (h.bulk x hx)
theorem LOk.spec {l : List S34} (h : LOk l) {x : S34} (hx : x ∈ l) : Ev (fun k => spec_l2Short.f k x.f0 x.f1 x.f2 x.f3) (shS x) := spec_short _ _ _ _ (h.good x hx) (h.bulk x hx)
theorem LOk.impl {l : List S34} (h : LOk l) {x : S34} (hx : x ∈ l) : Ev (fun k => impl_shortForm.f k x.f0 x.f1 x.f2 x.f3) (shS x) := impl_short _ _ _ _ (h.good x hx) (h.bulk x hx)
theorem step3 {α : Type} {f g : Nat → Option α} {v : α} (h : ∀ k, f (k + 3) = g k) (hv : Ev g v) : Ev f v := by
  obtain ⟨K, hK⟩ := hv
  refine ⟨K + 3, fun k hk => ?_⟩
  obtain ⟨k', rfl⟩ : ∃ k', k = k' + 3 := ⟨k - 3, by omega⟩
  exact (h k').trans (hK k' (by omega))
theorem spec_et (l : List S34) (lim : Int) (s : ByteArray) (h1 : 1 < l.length) (h2 : (l.length : Int) > lim) (hs : s.size ≤ 100000000) : Ev (fun k => spec_l2Names.l0 k l lim s 1) (s ++ etB) := by
  refine step3 (g := fun _ => some (s ++ etB)) (fun k => ?_) (Ev.now _)
  have a1 : (1 : Int) < (l.length : Int) := by omega
  have a2 : s.size + 7 ≤ 9223372036854775807 := by omega
  simp only [spec_l2Names.l0, spec_l2Names.j1]
  rw [if_pos a1, if_pos trivial, if_pos (decide_eq_true h2), if_pos a2]
  rfl
theorem spec_next (l : List S34) (ho : LOk l) (lim : Int) (s v : ByteArray) (i : Nat) (hi : i < l.length) (hne : ¬ (i = 1 ∧ (l.length : Int) > lim)) (hs : s.size ≤ 100000000)
    (hv : Ev (fun k => spec_l2Names.l0 k l lim (glueN l.length i s (shS l[i])) ((i + 1 : Nat) : Int)) v) : Ev (fun k => spec_l2Names.l0 k l lim s (i : Int)) v := by
  have hm := List.getElem_mem hi
  have h4 := ho.four
  have hz := ho.size hm
  have hw : wrap64 ((i : Int) + 1) = ((i + 1 : Nat) : Int) := by rw [w64 (by omega) (by omega)]; rfl
  have hw1 : wrap64 ((l.length : Int) - 1) = (l.length : Int) - 1 := w64 (by omega) (by omega)
  have hr := rd27 l i hi
  have a1 : (i : Int) < (l.length : Int) := by omega
  have a2 : (0 : Int) ≤ (i : Int) := by omega
  have key : Ev (fun k => (spec_l2Short.f k (l[i]).f0 (l[i]).f1 (l[i]).f2 (l[i]).f3).bind fun t => spec_l2Names.l0 k l lim (glueN l.length i s t) ((i + 1 : Nat) : Int)) v := Ev.bind (ho.spec hm) hv
  obtain ⟨K, hK⟩ := ho.spec hm
  obtain ⟨K', hK'⟩ := hv
  refine ⟨K + K' + 3, fun k hk => ?_⟩
  obtain ⟨k', rfl⟩ : ∃ k', k = k' + 3 := ⟨k - 3, by omega⟩
  have e1 : spec_l2Short.f k' (l[i]).f0 (l[i]).f1 (l[i]).f2 (l[i]).f3 = some (shS l[i]) := hK k' (by omega)
  have e2 : spec_l2Names.l0 k' l lim (glueN l.length i s (shS l[i])) ((i + 1 : Nat) : Int) = some v := hK' k' (by omega)
  have j2 : spec_l2Names.j2 (k' + 1) l lim s (i : Int) (decide (0 < i) && decide (i + 1 = l.length)) = some v := by
    simp only [spec_l2Names.j2, hr, hw, if_pos a1, if_pos a2]
    rw [e1]
    simp only [Option.bind_some]
    unfold glueN at e2
    by_cases c : i = 0
    · subst c
      have b3 : s.size + (shS l[0]).size ≤ 9223372036854775807 := by omega
      rw [if_neg (by simp), if_neg (by omega), if_pos b3]
      rw [if_pos rfl] at e2
      exact e2
    · rw [if_neg c] at e2
      by_cases d : i + 1 = l.length
      · have b1 : s.size + 5 ≤ 9223372036854775807 := by omega
        have b2 : (s ++ (⟨#[32, 97, 110, 100, 32]⟩ : ByteArray)).size + (shS l[i]).size ≤ 9223372036854775807 := by rw [size_append]; show s.size + 5 + _ ≤ _; omega
        rw [if_pos (by rw [decide_eq_true (show 0 < i by omega), decide_eq_true d]; rfl), if_pos b1, if_pos b2]
        rw [if_pos d] at e2
        exact e2
      · have b1 : s.size + 2 ≤ 9223372036854775807 := by omega
        have b2 : (s ++ (⟨#[44, 32]⟩ : ByteArray)).size + (shS l[i]).size ≤ 9223372036854775807 := by rw [size_append]; show s.size + 2 + _ ≤ _; omega
        rw [if_neg (by rw [decide_eq_false d]; simp), if_pos (by omega), if_pos b1, if_pos b2]
        rw [if_neg d] at e2
        exact e2
  have j1 : spec_l2Names.j1 (k' + 2) l lim s (i : Int) false = some v := by
    simp only [spec_l2Names.j1]
    rw [if_neg (by simp)]
    by_cases c : i = 0
    · subst c
      rw [if_neg (by omega)]
      exact j2
    · rw [if_pos (by omega), hw1]
      rw [decide_eq_true (show 0 < i by omega), Bool.true_and] at j2
      by_cases d : i + 1 = l.length
      · rw [decide_eq_true d] at j2
        rw [show ((i : Int) == (l.length : Int) - 1) = true from beq_iff_eq.2 (by omega)]; exact j2
      · rw [decide_eq_false d] at j2
        rw [show ((i : Int) == (l.length : Int) - 1) = false from beq_eq_false_iff_ne.2 (by omega)]; exact j2
  show spec_l2Names.l0 (k' + 3) l lim s (i : Int) = some v
  simp only [spec_l2Names.l0]
  rw [if_pos a1]
  by_cases c : i = 1
  · have hd : decide ((l.length : Int) > lim) = false := decide_eq_false (fun h => hne ⟨c, h⟩)
    rw [if_pos (by omega), hd]; exact j1
  · rw [if_neg (by omega)]; exact j1
def runW (n : Nat) : List ByteArray → Nat → ByteArray → ByteArray
  | [], _, s => s
  | t :: ts, i, s => runW n ts (i + 1) (glueN n i s t)
theorem spec_run (l : List S34) (ho : LOk l) (lim : Int) (h : ¬ ((l.length : Int) > lim)) (d : Nat) : ∀ (i : Nat) (s : ByteArray), i ≤ l.length → l.length - i = d → s.size ≤ 2000000 * i →
    Ev (fun k => spec_l2Names.l0 k l lim s (i : Int)) (runW l.length ((l.drop i).map shS) i s) := by
  have h4 := ho.four
  induction d with
  | zero =>
    intro i s h1 h2 h3
    refine Ev.step (f := fun _ => some s) (fun k => ?_) (ev_eq (Ev.now _) ?_)
    · simp only [spec_l2Names.l0]; rw [if_neg (by omega)]
    · rw [List.drop_of_length_le (by omega)]; rfl
  | succ d ih =>
    intro i s h1 h2 h3
    have hi : i < l.length := by omega
    have hz := ho.size (List.getElem_mem hi)
    have hg := glueN_size l.length i s (shS l[i])
    rw [List.drop_eq_getElem_cons hi, List.map_cons]
    exact spec_next l ho lim s _ i hi (fun x => h x.2) (by omega) (ih (i + 1) _ (by omega) (by omega) (by omega))
def namD (ws : List ByteArray) (lim : Int) : ByteArray := if 1 < ws.length ∧ (ws.length : Int) > lim then ws.headD ByteArray.empty ++ etB else runW ws.length ws 0 ByteArray.empty
theorem spec_names (l : List S34) (ho : LOk l) (lim : Int) (hl : 1 ≤ lim) : Ev (fun k => spec_l2Names.f k l lim) (namD (l.map shS) lim) := by
  unfold spec_l2Names.f namD
  rw [List.length_map]
  by_cases c : (l.length : Int) > lim
  · have h1 : 1 < l.length := by omega
    have h0 : 0 < l.length := by omega
    have hz := ho.size (List.getElem_mem h0)
    have he := spec_et l lim (glueN l.length 0 ByteArray.empty (shS l[0])) h1 c (by have := glueN_size l.length 0 ByteArray.empty (shS l[0]); have e : ByteArray.empty.size = 0 := rfl; omega)
    have hn := spec_next l ho lim ByteArray.empty _ 0 h0 (by omega) (by show 0 ≤ _; omega) he
    refine ev_eq hn ?_
    rw [if_pos ⟨h1, c⟩]
    congr 1
    match l, h0 with
    | x :: xs, _ => unfold glueN; rw [if_pos rfl]; apply L_inj; rw [L_append]; rfl
  · have := spec_run l ho lim c _ 0 ByteArray.empty (by omega) rfl (by show 0 ≤ _; omega)
    rw [List.drop_zero] at this
    exact ev_eq this (if_neg (fun x => c x.2)).symm
def finD (ws : List ByteArray) (lim : Int) : ByteArray :=
  if ws.length = 0 then (⟨#[]⟩ : ByteArray) else if (ws.length : Int) > lim then ws.headD ByteArray.empty ++ etB else if ws.length = 1 then ws.headD ByteArray.empty
  else (mkB (Lib.join ((ws.take (ws.length - 1)).map L) [44, 32]) ++ andB) ++ ws.getLastD ByteArray.empty
theorem fin_nam (ws : List ByteArray) (lim : Int) (h4 : ws.length ≤ 4) (hl : 1 ≤ lim) : finD ws lim = namD ws lim := by
  unfold finD namD
  by_cases c : (ws.length : Int) > lim
  · rw [if_neg (by omega), if_pos c, if_pos ⟨by omega, c⟩]
  · have hR : (if 1 < ws.length ∧ (ws.length : Int) > lim then ws.headD ByteArray.empty ++ etB else runW ws.length ws 0 ByteArray.empty) = runW ws.length ws 0 ByteArray.empty := if_neg (fun x => c x.2)
    rw [hR]
    simp only [if_neg c]
    clear hR c
    match ws, h4 with
    | [], _ => rfl
    | [a], _ => rw [if_neg (by simp), if_pos (show [a].length = 1 from rfl)]; apply L_inj; simp [runW, glueN, L_append]
    | [a, b], _ =>
      rw [if_neg (by simp), if_neg (by simp)]; apply L_inj
      simp [runW, glueN, Lib.join_cons, Lib.joinTail, L_append, L_mk, andB, cmC]
    | [a, b, e], _ =>
      rw [if_neg (by simp), if_neg (by simp)]; apply L_inj
      simp [runW, glueN, Lib.join_cons, Lib.joinTail, L_append, L_mk, andB, cmC]
    | [a, b, e, f], _ =>
      rw [if_neg (by simp), if_neg (by simp)]; apply L_inj
      simp [runW, glueN, Lib.join_cons, Lib.joinTail, L_append, L_mk, andB, cmC]
    | a :: b :: e :: f :: g :: r, h => simp at h
theorem lens_le (B : Nat) (l : List (List UInt8)) (h : ∀ x ∈ l, x.length ≤ B) : Lib.lens l ≤ B * l.length := by
  induction l with
  | nil => exact Nat.le_refl _
  | cons a l ih =>
    have h1 := ih (fun x hx => h x (List.mem_cons_of_mem _ hx))
    have h2 := h a (List.mem_cons_self)
    simp only [Lib.lens, List.map_cons, List.sum_cons, List.length_cons] at h1 ⊢
    rw [Nat.mul_succ]; omega
theorem join_le (B : Nat) (sep : List UInt8) (l : List (List UInt8)) (h : ∀ x ∈ l, x.length ≤ B) : (Lib.join l sep).length ≤ (B + sep.length) * l.length := by
  cases l with
  | nil => simp [Lib.join_nil]
  | cons a l =>
    have h1 := lens_le B l (fun x hx => h x (List.mem_cons_of_mem _ hx))
    have h2 := h a (List.mem_cons_self)
    rw [Lib.join_cons, List.length_append, Lib.joinTail_length, List.length_cons, Nat.mul_succ, Nat.add_mul]
    omega
theorem impl_fin (l : List S34) (n : Nat) (lim : Int) (ws : List ByteArray) (h4 : ws.length ≤ 4) (hl : 1 ≤ lim) (hz : ∀ x ∈ ws, x.size ≤ 1048760) : Ev (fun k => impl_joinNames.l0 k lim ws l (n : Int) (n : Int)) (finD ws lim) := by
  refine Ev.step (f := fun _ => some (finD ws lim)) (fun k => ?_) (Ev.now _)
  simp only [impl_joinNames.l0]
  rw [if_neg (by omega)]
  unfold finD
  by_cases c0 : ws.length = 0
  · rw [if_pos (by omega), if_pos c0]
  · have h0 : 0 < ws.length := by omega
    have e0 : rdOf ByteArray.empty ws 0 = ws.headD ByteArray.empty := by
      have := rd_get ws 0 h0
      rw [show ((0 : Nat) : Int) = 0 from rfl] at this
      rw [this]
      match ws, h0 with
      | a :: r, _ => rfl
    have hz0 : (ws.headD ByteArray.empty).size ≤ 1048760 := by
      match ws, h0 with
      | a :: r, _ => exact hz a (List.mem_cons_self)
    rw [if_neg (by omega), if_neg c0]
    by_cases c1 : (ws.length : Int) > lim
    · rw [if_pos c1, if_pos c1, if_pos (by omega), e0, if_pos (by omega)]; rfl
    · rw [if_neg c1, if_neg c1]
      by_cases c2 : ws.length = 1
      · rw [if_pos (by omega), if_pos c2, if_pos (by omega), e0]
      · have hw : wrap64 ((ws.length : Int) - 1) = ((ws.length - 1 : Nat) : Int) := by rw [w64 (by omega) (by omega)]; omega
        have hlt : ws.length - 1 < ws.length := by omega
        have el : rdOf ByteArray.empty ws ((ws.length - 1 : Nat) : Int) = ws.getLastD ByteArray.empty := by
          rw [rd_get ws _ hlt]
          have hne : ws ≠ [] := fun e => by rw [e] at h0; cases h0
          rw [List.getLastD_eq_getLast?, List.getLast?_eq_some_getLast hne, Option.getD_some, List.getLast_eq_getElem hne]
        have hzl : (ws.getLastD ByteArray.empty).size ≤ 1048760 := by
          rw [← el, rd_get ws _ hlt]; exact hz _ (List.getElem_mem hlt)
        have hj := join_le 1048760 [44, 32] ((ws.take (ws.length - 1)).map (·.data.toList)) (fun x hx => by
          obtain ⟨y, hy, rfl⟩ := List.mem_map.1 hx
          have := hz y (List.mem_of_mem_take hy)
          have e := L_len y
          show (L y).length ≤ _
          omega)
        have hjl : ((ws.take (ws.length - 1)).map (·.data.toList)).length ≤ 4 := by rw [List.length_map, List.length_take]; omega
        have hjs : (Lib.join ((ws.take (ws.length - 1)).map (·.data.toList)) [44, 32]).length ≤ 5000000 := Nat.le_trans hj (Nat.le_trans (Nat.mul_le_mul_left _ hjl) (by decide))
        have hjj : strings_Join.f (ws.take (ws.length - 1)) (⟨#[44, 32]⟩ : ByteArray) = some (mkB (Lib.join ((ws.take (ws.length - 1)).map L) [44, 32])) := by
          unfold strings_Join.f
          rw [if_pos ⟨by rw [List.length_take]; omega, Nat.le_trans hjs (by omega)⟩]
          rfl
        have hms : (mkB (Lib.join ((ws.take (ws.length - 1)).map L) [44, 32])).size ≤ 5000000 := by rw [size_mk]; exact hjs
        rw [if_neg (by omega), if_neg c2, hw, if_pos (by omega), if_pos (by omega), Int.toNat_natCast, hjj]
        simp only [Option.bind_some]
        rw [if_pos (by omega), if_pos (by omega), el, if_pos (by rw [size_append]; show _ + 5 + _ ≤ _; omega)]
        rfl
theorem impl_loopN (l : List S34) (ho : LOk l) (lim : Int) (v : ByteArray) (hv : Ev (fun k => impl_joinNames.l0 k lim (l.map shS) l (l.length : Int) (l.length : Int)) v) (d : Nat) : ∀ i : Nat, i ≤ l.length → l.length - i = d →
    Ev (fun k => impl_joinNames.l0 k lim ((l.take i).map shS) l (l.length : Int) (i : Int)) v := by
  have h4 := ho.four
  induction d with
  | zero =>
    intro i h1 h2
    obtain rfl : i = l.length := by omega
    rw [List.take_length]; exact hv
  | succ d ih =>
    intro i h1 h2
    have hi : i < l.length := by omega
    have hm := List.getElem_mem hi
    have hw : wrap64 ((i : Int) + 1) = ((i + 1 : Nat) : Int) := by rw [w64 (by omega) (by omega)]; rfl
    have hr := rd27 l i hi
    have hn := ih (i + 1) (by omega) (by omega)
    rw [List.take_add_one, List.getElem?_eq_getElem hi] at hn
    simp only [Option.toList_some, List.map_append, List.map_cons, List.map_nil] at hn
    refine Ev.step (f := fun k => (impl_shortForm.f k (l[i]).f0 (l[i]).f1 (l[i]).f2 (l[i]).f3).bind fun t => impl_joinNames.l0 k lim ((l.take i).map shS ++ [t]) l (l.length : Int) ((i + 1 : Nat) : Int)) (fun k => ?_) (Ev.bind (ho.impl hm) hn)
    simp only [impl_joinNames.l0, hr, hw]
    have a1 : (i : Int) < (l.length : Int) := by omega
    have a2 : (0 : Int) ≤ (i : Int) := by omega
    have a3 : ((l.take i).map shS).length < 8796093022208 := by rw [List.length_map, List.length_take]; omega
    rw [if_pos a1, if_pos a2, if_pos a1]
    simp only [if_pos a3]
theorem impl_names (l : List S34) (ho : LOk l) (lim : Int) (hl : 1 ≤ lim) : Ev (fun k => impl_joinNames.f k l lim) (namD (l.map shS) lim) := by
  have h4 := ho.four
  have hf := impl_fin l l.length lim (l.map shS) (by rw [List.length_map]; exact h4) hl (fun x hx => by obtain ⟨y, hy, rfl⟩ := List.mem_map.1 hx; exact ho.size hy)
  rw [fin_nam _ lim (by rw [List.length_map]; exact h4) hl] at hf
  have := impl_loopN l ho lim _ hf _ 0 (by omega) rfl
  unfold impl_joinNames.f
  exact this
end Go.Proofs.YtcckamdpncbkoabDoor.G

namespace Go.Proofs.YtcckamdpncbkoabDoor.Pure
open Go.RowKit Go.Proofs.YtcckamdpncbkoabDoor.G Go.Proofs.YtcckamdpncbkoabDoorW.PrintWords Go.Proofs.YtcckamdpncbkoabDoorW.PrintLast Go.Proofs.YtcckamdpncbkoabDoor.B Go.Proofs.YtcckamdpncbkoabDoor.Opn
set_option linter.unusedVariables false
set_option linter.unusedSimpArgs false
def limD (m : Int) : Bool := decide (1 ≤ m) && decide (m ≤ 4)
theorem spec_lim (m : Int) : spec_l1In.f m 1 4 = some (limD m) := by
  unfold spec_l1In.f limD
  by_cases h : m ≥ 1
  · rw [if_pos h, decide_eq_true (show 1 ≤ m from h)]; rfl
  · rw [if_neg h, decide_eq_false (show ¬ 1 ≤ m from h)]; rfl
theorem impl_lim (m : Int) : impl_isLimit.f m = some (limD m) := by
  unfold impl_isLimit.f impl_inside.f limD
  by_cases h : m ≥ 1
  · rw [if_pos h, decide_eq_true (show 1 ≤ m from h)]; rfl
  · rw [if_neg h, decide_eq_false (show ¬ 1 ≤ m from h)]; rfl
def jnR (l : List S34) (m : Int) : ByteArray × Bool := if listD l = true then (if limD m = true then (namD (l.map shS) m, true) else ((⟨#[]⟩ : ByteArray), false)) else ((⟨#[]⟩ : ByteArray), false)
theorem l_ok {l : List S34} (h : listD l = true) (hb : ∀ x ∈ l, bulkS1 x ≤ 1048576) : LOk l := ⟨(list_good h).1, (list_good h).2, hb⟩
theorem lim_one {m : Int} (h : limD m = true) : 1 ≤ m := by
  unfold limD at h
  simp only [Bool.and_eq_true, decide_eq_true_eq] at h
  exact h.1
theorem spec_jn (l : List S34) (m : Int) (ho : ∀ x ∈ l, okS x) (hl : l.length ≤ 1048576) (hb : ∀ x ∈ l, bulkS1 x ≤ 1048576) : Ev (fun k => spec_JoinNames.f k l m) (jnR l m) := by
  unfold spec_JoinNames.f jnR
  exact Ev.bind (spec_list l ho hl) (ev_ite (fun h => ev_bind0 (spec_lim m) (ev_ite (fun h2 => Ev.bind (spec_names l (l_ok h hb) m (lim_one h2)) (Ev.now _)) (fun _ => Ev.now _))) (fun _ => Ev.now _))
theorem impl_jn (l : List S34) (m : Int) (ho : ∀ x ∈ l, okS x) (hl : l.length ≤ 1048576) (hb : ∀ x ∈ l, bulkS1 x ≤ 1048576) : Ev (fun k => impl_JoinNames.f k l m) (jnR l m) := by
  unfold impl_JoinNames.f jnR
  exact Ev.bind (impl_list l ho hl) (ev_ite (fun h => ev_bind0 (impl_lim m) (ev_ite (fun h2 => Ev.bind (impl_names l (l_ok h hb) m (lim_one h2)) (Ev.now _)) (fun _ => Ev.now _))) (fun _ => Ev.now _))
theorem FnExactJoinNames : laws_FnExactJoinNames.Pur := by
  intro a m ha hm
  apply Ev.rounds
  unfold laws_FnExactJoinNames.f
  refine Ev.bind (szL_ev a ha.2 ha.1 1048576 (by omega) (by omega)) ?_
  by_cases c : ((a.length + bulkL a : Nat) : Int) ≤ 1048576
  · have hl : lftOf 1048576 (a.length + bulkL a) = 1048576 - (a.length + bulkL a : Nat) := by unfold lftOf; rw [if_pos c]
    rw [hl]
    have oa := conv_ok (l := a) (by omega)
    have la : (a.map conv).length ≤ 1048576 := by rw [List.length_map]; omega
    have sa : ∀ x ∈ a, x.f0.length ≤ 1048576 := fun x hx => by have := bulkL_mem hx; unfold bulkN bulkS at this; omega
    have ba : ∀ x ∈ a.map conv, bulkS1 x ≤ 1048576 := fun x hx => by
      obtain ⟨y, hy, rfl⟩ := List.mem_map.1 hx
      have := bulkL_mem hy
      show bulkN y.f0 y.f1 y.f2 y.f3 ≤ _
      omega
    have ta := toL_ev a (by omega) sa
    have ea := eqL_same (a.map conv) oa la
    refine ev_neg (by omega) (Ev.bind ta (Ev.bind (spec_jn _ m oa la ba) (Ev.bind ta (Ev.bind (impl_jn _ m oa la ba) (ev_pos rfl ?_)))))
    have e : ((jnR (a.map conv) m).2 != (jnR (a.map conv) m).2) = false := by simp
    rw [e]
    refine Ev.step (f := fun k => (laws_toNameS.f k a).bind fun t327 => ((laws_eqNameS.f k (a.map conv) t327).bind fun t330 => (if t330 = true then (some true) else (some false)))) (fun k => by simp [laws_FnExactJoinNames.j0]) ?_
    exact Ev.bind ta (Ev.bind ea (ev_pos rfl (Ev.now _)))
  · have hl : lftOf 1048576 (a.length + bulkL a) = -1 := by unfold lftOf; rw [if_neg c]
    rw [hl]
    exact ev_pos (by omega) (Ev.now _)
end Go.Proofs.YtcckamdpncbkoabDoor.Pure
