/- Texts of this session for the law FnNameLists, put together by a program (merge.py): each ends with its namespace; conditions stand with each theorem. -/
import Derived.Test.YtieieapacepabaaDoorKFnNameLists2
import Derived.Test.YtieieapacepabaaDoorKFnNameLists4
import Derived.Test.YtieieapacepabaaDoorKFnNameLists3
import Derived.Test.YtieieapacepabaaDoorKFnNameLists1
import Derived.Deep.Slices
import Derived.Lib.Strings
import Derived.Laws.Bits64b
import Derived.Lib.SplitLaws
import Derived.Lib.IndexBytes
import Derived.Lib.IndexLaws
namespace Go.Proofs.YtieieapacepabaaDoor.G
open Go.RowKit Go.Proofs.YtieieapacepabaaDoorW.PrintWords Go.Proofs.YtieieapacepabaaDoorW.PrintLast Go.Proofs.YtieieapacepabaaDoorW.PrintMore
open Go.Proofs.YtieieapacepabaaDoor.Gl Go.Proofs.YtieieapacepabaaDoor.Ext
attribute [local go_sem] max2_int min2_int max_two min_two max_three min_three max_four min_four   -- for this text's walks alone
set_option linter.unusedVariables false
set_option linter.unusedSimpArgs false

/-! ### impl_mayBeSame: function 23 -/
mutual
def impl_mayBeSame.j0 : Nat → Bool → List ByteArray → ByteArray → ByteArray → ByteArray → List ByteArray → ByteArray → ByteArray → ByteArray → Option (Bool)
  | 0, _, _, _, _, _, _, _, _, _ => none
  | k + 1, x26, x375000, x375001, x375002, x375003, x376000, x376001, x376002, x376003 => if x26 = true then (some false) else (impl_mayBeSame.l0 k 0 x375000 x375001 x375002 x375003 x376000 x376001 x376002 x376003)
def impl_mayBeSame.l0 : Nat → Int → List ByteArray → ByteArray → ByteArray → ByteArray → List ByteArray → ByteArray → ByteArray → ByteArray → Option (Bool)
  | 0, _, _, _, _, _, _, _, _, _ => none
  | k + 1, x5, x375000, x375001, x375002, x375003, x376000, x376001, x376002, x376003 => if x5 < (mn (x375000.length : Int) (x376000.length : Int)) then (if 0 ≤ x5 then (if x5 < (x375000.length : Int) then (if x5 < (x376000.length : Int) then (if (rdOf ByteArray.empty x375000 x5).toList = (rdOf ByteArray.empty x376000 x5).toList then (impl_mayBeSame.l0 k (wrap64 (x5 + 1)) x375000 x375001 x375002 x375003 x376000 x376001 x376002 x376003) else (if ((rdOf ByteArray.empty x375000 x5).size : Int) = 1 then ((strings_HasPrefix.f (rdOf ByteArray.empty x376000 x5) (rdOf ByteArray.empty x375000 x5)).bind fun t378 => (if t378 = true then (impl_mayBeSame.l0 k (wrap64 (x5 + 1)) x375000 x375001 x375002 x375003 x376000 x376001 x376002 x376003) else (if ((rdOf ByteArray.empty x376000 x5).size : Int) = 1 then ((strings_HasPrefix.f (rdOf ByteArray.empty x375000 x5) (rdOf ByteArray.empty x376000 x5)).bind fun t379 => (if t379 = true then (impl_mayBeSame.l0 k (wrap64 (x5 + 1)) x375000 x375001 x375002 x375003 x376000 x376001 x376002 x376003) else (some false))) else (some false)))) else (if ((rdOf ByteArray.empty x376000 x5).size : Int) = 1 then ((strings_HasPrefix.f (rdOf ByteArray.empty x375000 x5) (rdOf ByteArray.empty x376000 x5)).bind fun t380 => (if t380 = true then (impl_mayBeSame.l0 k (wrap64 (x5 + 1)) x375000 x375001 x375002 x375003 x376000 x376001 x376002 x376003) else (some false))) else (some false)))) else (none)) else (none)) else (none)) else (some true)
end
def impl_mayBeSame.f (k : Nat) (l0_0 : List ByteArray) (a0_1 : ByteArray) (a0_2 : ByteArray) (a0_3 : ByteArray) (l1_0 : List ByteArray) (a1_1 : ByteArray) (a1_2 : ByteArray) (a1_3 : ByteArray) : Option (Bool) := if a0_1.toList = a1_1.toList then (if a0_2.toList = a1_2.toList then (impl_mayBeSame.j0 k (a0_3.toList != a1_3.toList) l0_0 a0_1 a0_2 a0_3 l1_0 a1_1 a1_2 a1_3) else (impl_mayBeSame.j0 k true l0_0 a0_1 a0_2 a0_3 l1_0 a1_1 a1_2 a1_3)) else (impl_mayBeSame.j0 k true l0_0 a0_1 a0_2 a0_3 l1_0 a1_1 a1_2 a1_3)
theorem impl_mayBeSame.mono_l : ∀ k, (∀ y0 y1 y2 y3 y4 y5 y6 y7 y8, LeO (impl_mayBeSame.j0 k y0 y1 y2 y3 y4 y5 y6 y7 y8) (impl_mayBeSame.j0 (k + 1) y0 y1 y2 y3 y4 y5 y6 y7 y8)) ∧ (∀ y0 y1 y2 y3 y4 y5 y6 y7 y8, LeO (impl_mayBeSame.l0 k y0 y1 y2 y3 y4 y5 y6 y7 y8) (impl_mayBeSame.l0 (k + 1) y0 y1 y2 y3 y4 y5 y6 y7 y8))
  | 0 => ⟨fun _ _ _ _ _ _ _ _ _ r h => by simp [impl_mayBeSame.j0] at h, fun _ _ _ _ _ _ _ _ _ r h => by simp [impl_mayBeSame.l0] at h⟩
  | k + 1 => by
    obtain ⟨ih0, ih1⟩ := impl_mayBeSame.mono_l k
    refine ⟨?_, ?_⟩
    · intro y0 y1 y2 y3 y4 y5 y6 y7 y8
      unfold impl_mayBeSame.j0
      repeat' first
      | (with_reducible exact ih0 _ _ _ _ _ _ _ _ _)
      | (with_reducible exact ih1 _ _ _ _ _ _ _ _ _)
      | (with_reducible exact LeO.refl _)
      | (with_reducible exact LeO.none _)
      | (with_reducible refine LeO.ite ?_ ?_)
      | (with_reducible refine LeO.bind ?_ (fun _ => ?_))
      | exact ih0 _ _ _ _ _ _ _ _ _
      | exact ih1 _ _ _ _ _ _ _ _ _
      | exact LeO.none _
      | refine LeO.ite ?_ ?_
      | refine LeO.bind ?_ (fun _ => ?_)
    · intro y0 y1 y2 y3 y4 y5 y6 y7 y8
      unfold impl_mayBeSame.l0
      repeat' first
      | (with_reducible exact ih0 _ _ _ _ _ _ _ _ _)
      | (with_reducible exact ih1 _ _ _ _ _ _ _ _ _)
      | (with_reducible exact LeO.refl _)
      | (with_reducible exact LeO.none _)
      | (with_reducible refine LeO.ite ?_ ?_)
      | (with_reducible refine LeO.bind ?_ (fun _ => ?_))
      | exact ih0 _ _ _ _ _ _ _ _ _
      | exact ih1 _ _ _ _ _ _ _ _ _
      | exact LeO.none _
      | refine LeO.ite ?_ ?_
      | refine LeO.bind ?_ (fun _ => ?_)
theorem impl_mayBeSame.mono : ∀ a0 a1 a2 a3 a4 a5 a6 a7 k, LeO (impl_mayBeSame.f k a0 a1 a2 a3 a4 a5 a6 a7) (impl_mayBeSame.f (k + 1) a0 a1 a2 a3 a4 a5 a6 a7) := by
  intro a0 a1 a2 a3 a4 a5 a6 a7 k
  obtain ⟨ih0, ih1⟩ := impl_mayBeSame.mono_l k
  unfold impl_mayBeSame.f
  repeat' first
      | (with_reducible exact ih0 _ _ _ _ _ _ _ _ _)
      | (with_reducible exact ih1 _ _ _ _ _ _ _ _ _)
      | (with_reducible exact LeO.refl _)
      | (with_reducible exact LeO.none _)
      | (with_reducible refine LeO.ite ?_ ?_)
      | (with_reducible refine LeO.bind ?_ (fun _ => ?_))
      | exact ih0 _ _ _ _ _ _ _ _ _
      | exact ih1 _ _ _ _ _ _ _ _ _
      | exact LeO.none _
      | refine LeO.ite ?_ ?_
      | refine LeO.bind ?_ (fun _ => ?_)
set_option maxRecDepth 100000 in
theorem impl_mayBeSame.L0 {P : Prop} (h : P := by
    have hnb8 := NB374_375.out
    have hnc8 := NB375_374.out
    have hcz9_0 : w5.cell? ⟨gb374, 0, none⟩ = some (.slice A0_0 l0_0.length c0_0) := (blk_cell BK374.out 0).trans rfl
    have hcz9_1 : w5.cell? ⟨gb374, 1, none⟩ = some (.string a0_1) := (blk_cell BK374.out 1).trans rfl
    have hcz9_2 : w5.cell? ⟨gb374, 2, none⟩ = some (.string a0_2) := (blk_cell BK374.out 2).trans rfl
    have hcz9_3 : w5.cell? ⟨gb374, 3, none⟩ = some (.string a0_3) := (blk_cell BK374.out 3).trans rfl
    have hfz9_0 := blk_frozen BK374.out 0
    have hfz9_1 := blk_frozen BK374.out 1
    have hfz9_2 := blk_frozen BK374.out 2
    have hfz9_3 := blk_frozen BK374.out 3
    have hcz10_0 : w5.cell? ⟨gb375, 0, none⟩ = some (.slice A1_0 l1_0.length c1_0) := (blk_cell BK375.out 0).trans rfl
    have hcz10_1 : w5.cell? ⟨gb375, 1, none⟩ = some (.string a1_1) := (blk_cell BK375.out 1).trans rfl
    have hcz10_2 : w5.cell? ⟨gb375, 2, none⟩ = some (.string a1_2) := (blk_cell BK375.out 2).trans rfl
    have hcz10_3 : w5.cell? ⟨gb375, 3, none⟩ = some (.string a1_3) := (blk_cell BK375.out 3).trans rfl
    have hfz10_0 := blk_frozen BK375.out 0
    have hfz10_1 := blk_frozen BK375.out 1
    have hfz10_2 := blk_frozen BK375.out 2
    have hfz10_3 := blk_frozen BK375.out 3
    go_wp2
    all_goals
      first
      | (exfalso; (try simp only [decide_eq_true_eq, decide_eq_false_iff_not] at *); first | done | omega)
      | repeat (go_quiet (fail); try go_wp2)
        go_meet
    case rel => first | (exact ⟨_, ((a0_3.toList != a1_3.toList)), au74, H', ⟨by first | omega | exact Nat.le_refl _⟩, ⟨by (with_reducible repeat (first | refine blk_drewN ?_ _ | refine blk_drew ?_ | refine blk_alloc ?_ _)); exact BK374.out⟩, ⟨by (with_reducible repeat (first | refine blk_drewN ?_ _ | refine blk_drew ?_ | refine blk_alloc ?_ _)); exact BK375.out⟩, ⟨by repeat (first | (with_reducible first | exact HB.out | apply below_alloc | apply pw_below_drewN | apply below_drew1 | refine below_set ?_ GE374.out | refine below_set ?_ GE375.out) | exact HB.out)⟩⟩) | (exact ⟨_, (true), au74, H', ⟨by first | omega | exact Nat.le_refl _⟩, ⟨by (with_reducible repeat (first | refine blk_drewN ?_ _ | refine blk_drew ?_ | refine blk_alloc ?_ _)); exact BK374.out⟩, ⟨by (with_reducible repeat (first | refine blk_drewN ?_ _ | refine blk_drew ?_ | refine blk_alloc ?_ _)); exact BK375.out⟩, ⟨by repeat (first | (with_reducible first | exact HB.out | apply below_alloc | apply pw_below_drewN | apply below_drew1 | refine below_set ?_ GE374.out | refine below_set ?_ GE375.out) | exact HB.out)⟩⟩)) : P := h
set_option maxHeartbeats 8000000 in
set_option maxRecDepth 100000 in
theorem impl_mayBeSame.calls (k : Nat) (A0_0 : Option Addr) (c0_0 : Nat) (l0_0 : List ByteArray) (a0_1 : ByteArray) (a0_2 : ByteArray) (a0_3 : ByteArray) (A1_0 : Option Addr) (c1_0 : Nat) (l1_0 : List ByteArray) (a1_1 : ByteArray) (a1_2 : ByteArray) (a1_3 : ByteArray) (r : Bool) (w : World) (hr0_0 : Kd.C Kd.string w A0_0 l0_0.length l0_0) (hc0_0 : l0_0.length ≤ c0_0) (hr1_0 : Kd.C Kd.string w A1_0 l1_0.length l1_0) (hc1_0 : l1_0.length ≤ c1_0) (h : impl_mayBeSame.f k l0_0 a0_1 a0_2 a0_3 l1_0 a1_1 a1_2 a1_3 = some r) :
    Calls Tryd.prog 23 #[.agg #[.slice A0_0 l0_0.length c0_0, .string a0_1, .string a0_2, .string a0_3], .agg #[.slice A1_0 l1_0.length c1_0, .string a1_1, .string a1_2, .string a1_3]] w fun e w' => e = .returned (.bool r) ∧ Below w.heap.size w w' := by
  have hu26 := Tryd.underlying26
  have HR0_0 := Aside0.mk hr0_0
  have HC0_0 := Aside0.mk hc0_0
  clear hr0_0 hc0_0
  have HR1_0 := Aside0.mk hr1_0
  have HC1_0 := Aside0.mk hc1_0
  clear hr1_0 hc1_0
  have HB := Aside0.mk (Below.refl w.heap.size w)
  have H : (if a0_1.toList = a1_1.toList then (if a0_2.toList = a1_2.toList then (impl_mayBeSame.j0 k (a0_3.toList != a1_3.toList) l0_0 a0_1 a0_2 a0_3 l1_0 a1_1 a1_2 a1_3) else (impl_mayBeSame.j0 k true l0_0 a0_1 a0_2 a0_3 l1_0 a1_1 a1_2 a1_3)) else (impl_mayBeSame.j0 k true l0_0 a0_1 a0_2 a0_3 l1_0 a1_1 a1_2 a1_3)) = some r := h
  clear h
  have HC3 := Aside0.mk H
  clear H
  go_enter Tryd.func23, Tryd.ntmps23
  go_upto_region 1 with (first | ((with_reducible refine gate_dst (N := 2) rfl ?_); (try (refine gate_guard (by rfl) ?_; dsimp only)); refine box_event ?hg (N := 2) ?hd (cs := #[.slice A0_0 l0_0.length c0_0, .string a0_1, .string a0_2, .string a0_3]) (t := 26) ?hr ?_; (case hd => rfl); (case hg => rfl); (case hr => first | (go_simp; done) | (go_simp; rfl)); intro gb374 hg w4 hbox hb; have n0_ := Aside0.mk (below_step au38 hb); have n1_ := Aside0.mk (hbox); have n2_ := Aside0.mk ((by rw [hg]; exact (below_size au38) : w.heap.size ≤ gb374)); have n3_ := Aside0.mk ((by rw [hg]; exact (below_size au38) : w.heap.size ≤ gb374)); clear HB; have HB := n0_; have BK374 := n1_; have GW374 := n2_; have GE374 := n3_; clear n0_ n1_ n2_ n3_; clear hb hbox hg) | ((with_reducible refine gate_dst (N := 3) rfl ?_); (try (refine gate_guard (by rfl) ?_; dsimp only)); refine box_event ?hg (N := 3) ?hd (cs := #[.slice A1_0 l1_0.length c1_0, .string a1_1, .string a1_2, .string a1_3]) (t := 26) ?hr ?_; (case hd => rfl); (case hg => rfl); (case hr => first | (go_simp; done) | (go_simp; rfl)); intro gb375 hg w5 hbox hb; have n0_ := Aside0.mk (blk_below (g := gb374) (o := .cells #[.slice A0_0 l0_0.length c0_0, .string a0_1, .string a0_2, .string a0_3] 26 (0, 0)) au51 hb); have n1_ := Aside0.mk (below_step au31 hb); have n2_ := Aside0.mk (hbox); have n3_ := Aside0.mk ((by rw [hg]; exact (below_size au31) : w.heap.size ≤ gb375)); have n4_ := Aside0.mk ((by rw [hg]; exact (below_size au31) : w.heap.size ≤ gb375)); have n5_ := Aside0.mk ((by rw [hg]; exact Nat.ne_of_lt (blk_lt (g := gb374) (o := .cells #[.slice A0_0 l0_0.length c0_0, .string a0_1, .string a0_2, .string a0_3] 26 (0, 0)) au51) : gb374 ≠ gb375)); have n6_ := Aside0.mk ((by rw [hg]; exact Nat.ne_of_gt (blk_lt (g := gb374) (o := .cells #[.slice A0_0 l0_0.length c0_0, .string a0_1, .string a0_2, .string a0_3] 26 (0, 0)) au51) : gb375 ≠ gb374)); clear BK374; clear HB; have BK374 := n0_; have HB := n1_; have BK375 := n2_; have GW375 := n3_; have GE375 := n4_; have NB374_375 := n5_; have NB375_374 := n6_; clear n0_ n1_ n2_ n3_ n4_ n5_ n6_; clear hb hbox hg))
  repeat (go_quiet (first | ((with_reducible refine gate_dst (N := 2) rfl ?_); (try (refine gate_guard (by rfl) ?_; dsimp only)); refine box_event ?hg (N := 2) ?hd (cs := #[.slice A0_0 l0_0.length c0_0, .string a0_1, .string a0_2, .string a0_3]) (t := 26) ?hr ?_; (case hd => rfl); (case hg => rfl); (case hr => first | (go_simp; done) | (go_simp; rfl)); intro gb374 hg w4 hbox hb; have n0_ := Aside0.mk (below_step au38 hb); have n1_ := Aside0.mk (hbox); have n2_ := Aside0.mk ((by rw [hg]; exact (below_size au38) : w.heap.size ≤ gb374)); have n3_ := Aside0.mk ((by rw [hg]; exact (below_size au38) : w.heap.size ≤ gb374)); clear HB; have HB := n0_; have BK374 := n1_; have GW374 := n2_; have GE374 := n3_; clear n0_ n1_ n2_ n3_; clear hb hbox hg) | ((with_reducible refine gate_dst (N := 3) rfl ?_); (try (refine gate_guard (by rfl) ?_; dsimp only)); refine box_event ?hg (N := 3) ?hd (cs := #[.slice A1_0 l1_0.length c1_0, .string a1_1, .string a1_2, .string a1_3]) (t := 26) ?hr ?_; (case hd => rfl); (case hg => rfl); (case hr => first | (go_simp; done) | (go_simp; rfl)); intro gb375 hg w5 hbox hb; have n0_ := Aside0.mk (blk_below (g := gb374) (o := .cells #[.slice A0_0 l0_0.length c0_0, .string a0_1, .string a0_2, .string a0_3] 26 (0, 0)) au51 hb); have n1_ := Aside0.mk (below_step au31 hb); have n2_ := Aside0.mk (hbox); have n3_ := Aside0.mk ((by rw [hg]; exact (below_size au31) : w.heap.size ≤ gb375)); have n4_ := Aside0.mk ((by rw [hg]; exact (below_size au31) : w.heap.size ≤ gb375)); have n5_ := Aside0.mk ((by rw [hg]; exact Nat.ne_of_lt (blk_lt (g := gb374) (o := .cells #[.slice A0_0 l0_0.length c0_0, .string a0_1, .string a0_2, .string a0_3] 26 (0, 0)) au51) : gb374 ≠ gb375)); have n6_ := Aside0.mk ((by rw [hg]; exact Nat.ne_of_gt (blk_lt (g := gb374) (o := .cells #[.slice A0_0 l0_0.length c0_0, .string a0_1, .string a0_2, .string a0_3] 26 (0, 0)) au51) : gb375 ≠ gb374)); clear BK374; clear HB; have BK374 := n0_; have HB := n1_; have BK375 := n2_; have GW375 := n3_; have GE375 := n4_; have NB374_375 := n5_; have NB375_374 := n6_; clear n0_ n1_ n2_ n3_ n4_ n5_ n6_; clear hb hbox hg)); go_upto_region 1 with (first | ((with_reducible refine gate_dst (N := 2) rfl ?_); (try (refine gate_guard (by rfl) ?_; dsimp only)); refine box_event ?hg (N := 2) ?hd (cs := #[.slice A0_0 l0_0.length c0_0, .string a0_1, .string a0_2, .string a0_3]) (t := 26) ?hr ?_; (case hd => rfl); (case hg => rfl); (case hr => first | (go_simp; done) | (go_simp; rfl)); intro gb374 hg w4 hbox hb; have n0_ := Aside0.mk (below_step au38 hb); have n1_ := Aside0.mk (hbox); have n2_ := Aside0.mk ((by rw [hg]; exact (below_size au38) : w.heap.size ≤ gb374)); have n3_ := Aside0.mk ((by rw [hg]; exact (below_size au38) : w.heap.size ≤ gb374)); clear HB; have HB := n0_; have BK374 := n1_; have GW374 := n2_; have GE374 := n3_; clear n0_ n1_ n2_ n3_; clear hb hbox hg) | ((with_reducible refine gate_dst (N := 3) rfl ?_); (try (refine gate_guard (by rfl) ?_; dsimp only)); refine box_event ?hg (N := 3) ?hd (cs := #[.slice A1_0 l1_0.length c1_0, .string a1_1, .string a1_2, .string a1_3]) (t := 26) ?hr ?_; (case hd => rfl); (case hg => rfl); (case hr => first | (go_simp; done) | (go_simp; rfl)); intro gb375 hg w5 hbox hb; have n0_ := Aside0.mk (blk_below (g := gb374) (o := .cells #[.slice A0_0 l0_0.length c0_0, .string a0_1, .string a0_2, .string a0_3] 26 (0, 0)) au51 hb); have n1_ := Aside0.mk (below_step au31 hb); have n2_ := Aside0.mk (hbox); have n3_ := Aside0.mk ((by rw [hg]; exact (below_size au31) : w.heap.size ≤ gb375)); have n4_ := Aside0.mk ((by rw [hg]; exact (below_size au31) : w.heap.size ≤ gb375)); have n5_ := Aside0.mk ((by rw [hg]; exact Nat.ne_of_lt (blk_lt (g := gb374) (o := .cells #[.slice A0_0 l0_0.length c0_0, .string a0_1, .string a0_2, .string a0_3] 26 (0, 0)) au51) : gb374 ≠ gb375)); have n6_ := Aside0.mk ((by rw [hg]; exact Nat.ne_of_gt (blk_lt (g := gb374) (o := .cells #[.slice A0_0 l0_0.length c0_0, .string a0_1, .string a0_2, .string a0_3] 26 (0, 0)) au51) : gb375 ≠ gb374)); clear BK374; clear HB; have BK374 := n0_; have HB := n1_; have BK375 := n2_; have GW375 := n3_; have GE375 := n4_; have NB374_375 := n5_; have NB375_374 := n6_; clear n0_ n1_ n2_ n3_ n4_ n5_ n6_; clear hb hbox hg)))
  (try simp only [Act.put, List.setIfInBounds_toArray, List.set_cons_zero, List.set_cons_succ])
  go_cut [26] (fun v26 wc => ∃ (kq : Nat) (x26_2 : Bool), v26 = .bool x26_2 ∧ Aside0 (impl_mayBeSame.j0 kq x26_2 l0_0 a0_1 a0_2 a0_3 l1_0 a1_1 a1_2 a1_3 = some r) ∧ Aside0 (kq ≤ k) ∧ Aside0 (wc.heap[gb374]? = some (.cells #[(.slice A0_0 l0_0.length c0_0), .string a0_1, .string a0_2, .string a0_3] 26 (0, 0))) ∧ Aside0 (wc.heap[gb375]? = some (.cells #[(.slice A1_0 l1_0.length c1_0), .string a1_1, .string a1_2, .string a1_3] 26 (0, 0))) ∧ Aside0 (Below w.heap.size w wc))
  case first =>
    have H := HC3.out
    clear HC3
    by_cases c6 : a0_1.toList = a1_1.toList
    · rw [if_pos c6] at H
      have c6b0 : (a0_1.toList == a1_1.toList) = true := beq_iff_eq.mpr c6
      have c6b1 : (a0_1.toList != a1_1.toList) = false := bne_eq_false_iff_eq.mpr c6
      clear c6
      (first | rw [c6b0] | (simp only [i64_w, i32_w]; rw [c6b0]) | skip)
      by_cases c7 : a0_2.toList = a1_2.toList
      · rw [if_pos c7] at H
        have c7b0 : (a0_2.toList == a1_2.toList) = true := beq_iff_eq.mpr c7
        have c7b1 : (a0_2.toList != a1_2.toList) = false := bne_eq_false_iff_eq.mpr c7
        clear c7
        have H' := Aside0.mk H
        clear H
        exact impl_mayBeSame.L0
      · rw [if_neg c7] at H
        have c7b0 : (a0_2.toList == a1_2.toList) = false := beq_eq_false_iff_ne.mpr c7
        have c7b1 : (a0_2.toList != a1_2.toList) = true := bne_iff_ne.mpr c7
        have H' := Aside0.mk H
        clear H
        exact impl_mayBeSame.L0
    · rw [if_neg c6] at H
      have c6b0 : (a0_1.toList == a1_1.toList) = false := beq_eq_false_iff_ne.mpr c6
      have c6b1 : (a0_1.toList != a1_1.toList) = true := bne_iff_ne.mpr c6
      (first | rw [c6b0] | (simp only [i64_w, i32_w]; rw [c6b0]) | skip)
      have H' := Aside0.mk H
      clear H
      exact impl_mayBeSame.L0
  case rest =>
    clear HC3
    try clear c1
    try clear c2
    try clear p2
    try clear c6
    try clear c6b0
    try clear c6b1
    try clear c7
    try clear c7b0
    try clear c7b1
    try clear c8
    try clear c11
    try clear c14
    try clear hcz10_0
    try clear hcz10_1
    try clear hcz10_2
    try clear hcz10_3
    try clear hcz12_0
    try clear hcz12_1
    try clear hcz12_2
    try clear hcz12_3
    try clear hcz13_0
    try clear hcz13_1
    try clear hcz13_2
    try clear hcz13_3
    try clear hcz15_0
    try clear hcz15_1
    try clear hcz15_2
    try clear hcz15_3
    try clear hcz16_0
    try clear hcz16_1
    try clear hcz16_2
    try clear hcz16_3
    try clear hcz9_0
    try clear hcz9_1
    try clear hcz9_2
    try clear hcz9_3
    try clear hfz10_0
    try clear hfz10_1
    try clear hfz10_2
    try clear hfz10_3
    try clear hfz12_0
    try clear hfz12_1
    try clear hfz12_2
    try clear hfz12_3
    try clear hfz13_0
    try clear hfz13_1
    try clear hfz13_2
    try clear hfz13_3
    try clear hfz15_0
    try clear hfz15_1
    try clear hfz15_2
    try clear hfz15_3
    try clear hfz16_0
    try clear hfz16_1
    try clear hfz16_2
    try clear hfz16_3
    try clear hfz9_0
    try clear hfz9_1
    try clear hfz9_2
    try clear hfz9_3
    obtain ⟨kq, x26_2, rfl, HA, HJ2, BK374, BK375, HB⟩ := hcut
    cases kq with
    | zero => exact absurd HA.out (by simp [impl_mayBeSame.j0])
    | succ kj2 =>
      have H := HA.out
      clear HA
      simp only [impl_mayBeSame.j0] at H
      by_cases c17 : x26_2 = true
      · subst c17
        replace H := (if_pos rfl).symm.trans H
        obtain rfl := Option.some.inj H
        go_wp2
        all_goals
          first
          | (exfalso; (try simp only [decide_eq_true_eq, decide_eq_false_iff_not] at *); first | done | omega)
          | repeat (go_quiet (fail); try go_wp2)
            go_ret
            exact ⟨by first | rfl | (simp [errW_none, errW_some] <;> rfl) | (simp [*, errW_none, errW_some] <;> rfl), by repeat (first | (with_reducible first | exact HB.out | apply below_alloc | apply pw_below_drewN | apply below_drew1 | refine below_set ?_ GE374.out | refine below_set ?_ GE375.out) | exact HB.out)⟩
      · replace c17 := Bool.eq_false_iff.mpr c17
        subst c17
        replace H := (if_neg (show ¬ (false = true) by decide)).symm.trans H
        have H' := Aside0.mk H
        clear H
        go_wp2
        all_goals
          first
          | (exfalso; (try simp only [decide_eq_true_eq, decide_eq_false_iff_not] at *); first | done | omega)
          | repeat (go_quiet (fail); try go_wp2)
            go_loopg [5] kj2 (fun kq v5 w' => ∃ (x5_2 : Int), v5 = .int .i64 x5_2 ∧ Aside0 (impl_mayBeSame.l0 kq x5_2 l0_0 a0_1 a0_2 a0_3 l1_0 a1_1 a1_2 a1_3 = some r) ∧ Aside0 (kq ≤ kj2) ∧ Aside0 (w'.heap[gb374]? = some (.cells #[(.slice A0_0 l0_0.length c0_0), .string a0_1, .string a0_2, .string a0_3] 26 (0, 0))) ∧ Aside0 (w'.heap[gb375]? = some (.cells #[(.slice A1_0 l1_0.length c1_0), .string a1_1, .string a1_2, .string a1_3] 26 (0, 0))) ∧ Aside0 (Below w.heap.size w w'))
            case atStart => exact ⟨(0), au74, H', ⟨Nat.le_refl _⟩, ⟨by (with_reducible repeat (first | refine blk_drewN ?_ _ | refine blk_drew ?_ | refine blk_alloc ?_ _)); exact BK374.out⟩, ⟨by (with_reducible repeat (first | refine blk_drewN ?_ _ | refine blk_drew ?_ | refine blk_alloc ?_ _)); exact BK375.out⟩, ⟨by repeat (first | (with_reducible first | exact HB.out | apply below_alloc | apply pw_below_drewN | apply below_drew1 | refine below_set ?_ GE374.out | refine below_set ?_ GE375.out) | exact HB.out)⟩⟩
            case round =>
              clear H'
              try clear c1
              try clear c2
              try clear p2
              try clear c6
              try clear c6b0
              try clear c6b1
              try clear c7
              try clear c7b0
              try clear c7b1
              try clear c8
              try clear c11
              try clear c14
              try clear c17
              try clear hcz10_0
              try clear hcz10_1
              try clear hcz10_2
              try clear hcz10_3
              try clear hcz12_0
              try clear hcz12_1
              try clear hcz12_2
              try clear hcz12_3
              try clear hcz13_0
              try clear hcz13_1
              try clear hcz13_2
              try clear hcz13_3
              try clear hcz15_0
              try clear hcz15_1
              try clear hcz15_2
              try clear hcz15_3
              try clear hcz16_0
              try clear hcz16_1
              try clear hcz16_2
              try clear hcz16_3
              try clear hcz9_0
              try clear hcz9_1
              try clear hcz9_2
              try clear hcz9_3
              try clear hfz10_0
              try clear hfz10_1
              try clear hfz10_2
              try clear hfz10_3
              try clear hfz12_0
              try clear hfz12_1
              try clear hfz12_2
              try clear hfz12_3
              try clear hfz13_0
              try clear hfz13_1
              try clear hfz13_2
              try clear hfz13_3
              try clear hfz15_0
              try clear hfz15_1
              try clear hfz15_2
              try clear hfz15_3
              try clear hfz16_0
              try clear hfz16_1
              try clear hfz16_2
              try clear hfz16_3
              try clear hfz9_0
              try clear hfz9_1
              try clear hfz9_2
              try clear hfz9_3
              try clear p2
              obtain ⟨x5_2, rfl, HA, HK2, BK374, BK375, HB⟩ := hrel
              cases gk with
              | zero => exact absurd HA.out (by simp [impl_mayBeSame.l0])
              | succ k2 =>
                have H := HA.out
                clear HA
                simp only [impl_mayBeSame.l0] at H
                obtain ⟨ji18, hji18⟩ : ∃ j_ : Int, (mn (l0_0.length : Int) (l1_0.length : Int)) = j_ := ⟨_, rfl⟩
                replace H : (if x5_2 < (ji18) then (if 0 ≤ x5_2 then (if x5_2 < (l0_0.length : Int) then (if x5_2 < (l1_0.length : Int) then (if (rdOf ByteArray.empty l0_0 x5_2).toList = (rdOf ByteArray.empty l1_0 x5_2).toList then (impl_mayBeSame.l0 k2 (wrap64 (x5_2 + 1)) l0_0 a0_1 a0_2 a0_3 l1_0 a1_1 a1_2 a1_3) else (if ((rdOf ByteArray.empty l0_0 x5_2).size : Int) = 1 then ((strings_HasPrefix.f (rdOf ByteArray.empty l1_0 x5_2) (rdOf ByteArray.empty l0_0 x5_2)).bind fun t378 => (if t378 = true then (impl_mayBeSame.l0 k2 (wrap64 (x5_2 + 1)) l0_0 a0_1 a0_2 a0_3 l1_0 a1_1 a1_2 a1_3) else (if ((rdOf ByteArray.empty l1_0 x5_2).size : Int) = 1 then ((strings_HasPrefix.f (rdOf ByteArray.empty l0_0 x5_2) (rdOf ByteArray.empty l1_0 x5_2)).bind fun t379 => (if t379 = true then (impl_mayBeSame.l0 k2 (wrap64 (x5_2 + 1)) l0_0 a0_1 a0_2 a0_3 l1_0 a1_1 a1_2 a1_3) else (some false))) else (some false)))) else (if ((rdOf ByteArray.empty l1_0 x5_2).size : Int) = 1 then ((strings_HasPrefix.f (rdOf ByteArray.empty l0_0 x5_2) (rdOf ByteArray.empty l1_0 x5_2)).bind fun t380 => (if t380 = true then (impl_mayBeSame.l0 k2 (wrap64 (x5_2 + 1)) l0_0 a0_1 a0_2 a0_3 l1_0 a1_1 a1_2 a1_3) else (some false))) else (some false)))) else (none)) else (none)) else (none)) else (some true)) = some r := by first | (rw [hji18] at H; exact H) | (simp only [hji18] at H ⊢; exact H)
                have hji18_ : (if (l1_0.length : Int) < (l0_0.length : Int) then (l1_0.length : Int) else (l0_0.length : Int)) = ji18 := hji18
                by_cases c19 : x5_2 < (ji18)
                · rw [if_pos c19] at H
                  have c19b0 : decide (x5_2 < (ji18)) = true := decide_eq_true c19
                  clear c19
                  by_cases c20 : 0 ≤ x5_2
                  · rw [if_pos c20] at H
                    have c20b0 : decide (0 ≤ x5_2) = true := decide_eq_true c20
                    clear c20
                    by_cases c21 : x5_2 < (l0_0.length : Int)
                    · rw [if_pos c21] at H
                      have c21b0 : decide (x5_2 < (l0_0.length : Int)) = true := decide_eq_true c21
                      clear c21
                      by_cases c22 : x5_2 < (l1_0.length : Int)
                      · rw [if_pos c22] at H
                        have c22b0 : decide (x5_2 < (l1_0.length : Int)) = true := decide_eq_true c22
                        clear c22
                        by_cases c23 : (rdOf ByteArray.empty l0_0 x5_2).toList = (rdOf ByteArray.empty l1_0 x5_2).toList
                        · rw [if_pos c23] at H
                          have c23b0 : ((rdOf ByteArray.empty l0_0 x5_2).toList == (rdOf ByteArray.empty l1_0 x5_2).toList) = true := beq_iff_eq.mpr c23
                          have c23b1 : ((rdOf ByteArray.empty l0_0 x5_2).toList != (rdOf ByteArray.empty l1_0 x5_2).toList) = false := bne_eq_false_iff_eq.mpr c23
                          clear c23
                          have H' := Aside0.mk H
                          clear H
                          have hnb24 := NB374_375.out
                          have hnc24 := NB375_374.out
                          have hcz25_0 : wr.cell? ⟨gb374, 0, none⟩ = some (.slice A0_0 l0_0.length c0_0) := (blk_cell BK374.out 0).trans rfl
                          have hcz25_1 : wr.cell? ⟨gb374, 1, none⟩ = some (.string a0_1) := (blk_cell BK374.out 1).trans rfl
                          have hcz25_2 : wr.cell? ⟨gb374, 2, none⟩ = some (.string a0_2) := (blk_cell BK374.out 2).trans rfl
                          have hcz25_3 : wr.cell? ⟨gb374, 3, none⟩ = some (.string a0_3) := (blk_cell BK374.out 3).trans rfl
                          have hfz25_0 := blk_frozen BK374.out 0
                          have hfz25_1 := blk_frozen BK374.out 1
                          have hfz25_2 := blk_frozen BK374.out 2
                          have hfz25_3 := blk_frozen BK374.out 3
                          have hcz26_0 : wr.cell? ⟨gb375, 0, none⟩ = some (.slice A1_0 l1_0.length c1_0) := (blk_cell BK375.out 0).trans rfl
                          have hcz26_1 : wr.cell? ⟨gb375, 1, none⟩ = some (.string a1_1) := (blk_cell BK375.out 1).trans rfl
                          have hcz26_2 : wr.cell? ⟨gb375, 2, none⟩ = some (.string a1_2) := (blk_cell BK375.out 2).trans rfl
                          have hcz26_3 : wr.cell? ⟨gb375, 3, none⟩ = some (.string a1_3) := (blk_cell BK375.out 3).trans rfl
                          have hfz26_0 := blk_frozen BK375.out 0
                          have hfz26_1 := blk_frozen BK375.out 1
                          have hfz26_2 := blk_frozen BK375.out 2
                          have hfz26_3 := blk_frozen BK375.out 3
                          have p376 : 0 ≤ (x5_2 : Int) := of_decide_eq_true au73
                          have q376 : x5_2 < (l0_0.length : Int) := of_decide_eq_true au73
                          obtain ⟨ad376, e376, hx376_0⟩ := Kd.at_string HR0_0.out x5_2 p376 q376
                          cases e376
                          replace hx376_0 := (HB.out.cell (World.block_lt_of_cell? w _ hx376_0)).trans hx376_0
                          replace p376 := eq_true p376
                          replace q376 := eq_true q376
                          have p377 : 0 ≤ (x5_2 : Int) := of_decide_eq_true au73
                          have q377 : x5_2 < (l1_0.length : Int) := of_decide_eq_true au73
                          obtain ⟨ad377, e377, hx377_0⟩ := Kd.at_string HR1_0.out x5_2 p377 q377
                          cases e377
                          replace hx377_0 := (HB.out.cell (World.block_lt_of_cell? w _ hx377_0)).trans hx377_0
                          replace p377 := eq_true p377
                          replace q377 := eq_true q377
                          go_wp2
                          all_goals
                            first
                            | (exfalso; (try simp only [decide_eq_true_eq, decide_eq_false_iff_not] at *); first | done | omega)
                            | repeat (go_quiet (fail); try go_wp2)
                              go_roundg k2
                              case measure => have := HJ2.out; have := HK2.out; omega
                              case rel => exact ⟨(wrap64 (x5_2 + 1)), au74, H', ⟨by have := HJ2.out; have := HK2.out; omega⟩, ⟨by (with_reducible repeat (first | refine blk_drewN ?_ _ | refine blk_drew ?_ | refine blk_alloc ?_ _)); exact BK374.out⟩, ⟨by (with_reducible repeat (first | refine blk_drewN ?_ _ | refine blk_drew ?_ | refine blk_alloc ?_ _)); exact BK375.out⟩, ⟨by repeat (first | (with_reducible first | exact HB.out | apply below_alloc | apply pw_below_drewN | apply below_drew1 | refine below_set ?_ GE374.out | refine below_set ?_ GE375.out) | exact HB.out)⟩⟩
                        · rw [if_neg c23] at H
                          have c23b0 : ((rdOf ByteArray.empty l0_0 x5_2).toList == (rdOf ByteArray.empty l1_0 x5_2).toList) = false := beq_eq_false_iff_ne.mpr c23
                          have c23b1 : ((rdOf ByteArray.empty l0_0 x5_2).toList != (rdOf ByteArray.empty l1_0 x5_2).toList) = true := bne_iff_ne.mpr c23
                          by_cases c27 : ((rdOf ByteArray.empty l0_0 x5_2).size : Int) = 1
                          · rw [if_pos c27] at H
                            have c27b0 : (((rdOf ByteArray.empty l0_0 x5_2).size : Int) == 1) = true := beq_iff_eq.mpr c27
                            have c27b1 : (((rdOf ByteArray.empty l0_0 x5_2).size : Int) != 1) = false := bne_eq_false_iff_eq.mpr c27
                            clear c27
                            replace H := Option.bind_eq_some_iff.mp H
                            obtain ⟨t378, A280, H⟩ := H
                            try dsimp only at H
                            have A28 := Aside0.mk A280
                            clear A280
                            by_cases c29 : t378 = true
                            · subst c29
                              replace H := (if_pos rfl).symm.trans H
                              have H' := Aside0.mk H
                              clear H
                              have hnb30 := NB374_375.out
                              have hnc30 := NB375_374.out
                              have hcz31_0 : wr.cell? ⟨gb374, 0, none⟩ = some (.slice A0_0 l0_0.length c0_0) := (blk_cell BK374.out 0).trans rfl
                              have hcz31_1 : wr.cell? ⟨gb374, 1, none⟩ = some (.string a0_1) := (blk_cell BK374.out 1).trans rfl
                              have hcz31_2 : wr.cell? ⟨gb374, 2, none⟩ = some (.string a0_2) := (blk_cell BK374.out 2).trans rfl
                              have hcz31_3 : wr.cell? ⟨gb374, 3, none⟩ = some (.string a0_3) := (blk_cell BK374.out 3).trans rfl
                              have hfz31_0 := blk_frozen BK374.out 0
                              have hfz31_1 := blk_frozen BK374.out 1
                              have hfz31_2 := blk_frozen BK374.out 2
                              have hfz31_3 := blk_frozen BK374.out 3
                              have hcz32_0 : wr.cell? ⟨gb375, 0, none⟩ = some (.slice A1_0 l1_0.length c1_0) := (blk_cell BK375.out 0).trans rfl
                              have hcz32_1 : wr.cell? ⟨gb375, 1, none⟩ = some (.string a1_1) := (blk_cell BK375.out 1).trans rfl
                              have hcz32_2 : wr.cell? ⟨gb375, 2, none⟩ = some (.string a1_2) := (blk_cell BK375.out 2).trans rfl
                              have hcz32_3 : wr.cell? ⟨gb375, 3, none⟩ = some (.string a1_3) := (blk_cell BK375.out 3).trans rfl
                              have hfz32_0 := blk_frozen BK375.out 0
                              have hfz32_1 := blk_frozen BK375.out 1
                              have hfz32_2 := blk_frozen BK375.out 2
                              have hfz32_3 := blk_frozen BK375.out 3
                              have p376 : 0 ≤ (x5_2 : Int) := of_decide_eq_true au73
                              have q376 : x5_2 < (l0_0.length : Int) := of_decide_eq_true au73
                              obtain ⟨ad376, e376, hx376_0⟩ := Kd.at_string HR0_0.out x5_2 p376 q376
                              cases e376
                              replace hx376_0 := (HB.out.cell (World.block_lt_of_cell? w _ hx376_0)).trans hx376_0
                              replace p376 := eq_true p376
                              replace q376 := eq_true q376
                              have p377 : 0 ≤ (x5_2 : Int) := of_decide_eq_true au73
                              have q377 : x5_2 < (l1_0.length : Int) := of_decide_eq_true au73
                              obtain ⟨ad377, e377, hx377_0⟩ := Kd.at_string HR1_0.out x5_2 p377 q377
                              cases e377
                              replace hx377_0 := (HB.out.cell (World.block_lt_of_cell? w _ hx377_0)).trans hx377_0
                              replace p377 := eq_true p377
                              replace q377 := eq_true q377
                              go_wp2_with (first | (go_at_call 58; (with_reducible refine (strings_HasPrefix.calls (rdOf ByteArray.empty l1_0 x5_2) (rdOf ByteArray.empty l0_0 x5_2) _ _ A28.out).mono ?_); rintro e w' ⟨rfl, ⟨nd, rfl⟩⟩; (try first | exact ⟨rfl, _, World.drewN_drewN _ _ _⟩ | exact ⟨rfl, _, Eq.trans (World.drewN_drewN _ _ _) (congrArg (World.drewN _) (Nat.add_assoc _ _ _))⟩)))
                              all_goals
                                first
                                | (exfalso; (try simp only [decide_eq_true_eq, decide_eq_false_iff_not] at *); first | done | omega)
                                | repeat (go_quiet (first | (go_at_call 58; (with_reducible refine (strings_HasPrefix.calls (rdOf ByteArray.empty l1_0 x5_2) (rdOf ByteArray.empty l0_0 x5_2) _ _ A28.out).mono ?_); rintro e w' ⟨rfl, ⟨nd, rfl⟩⟩; (try first | exact ⟨rfl, _, World.drewN_drewN _ _ _⟩ | exact ⟨rfl, _, Eq.trans (World.drewN_drewN _ _ _) (congrArg (World.drewN _) (Nat.add_assoc _ _ _))⟩))); try go_wp2_with (first | (go_at_call 58; (with_reducible refine (strings_HasPrefix.calls (rdOf ByteArray.empty l1_0 x5_2) (rdOf ByteArray.empty l0_0 x5_2) _ _ A28.out).mono ?_); rintro e w' ⟨rfl, ⟨nd, rfl⟩⟩; (try first | exact ⟨rfl, _, World.drewN_drewN _ _ _⟩ | exact ⟨rfl, _, Eq.trans (World.drewN_drewN _ _ _) (congrArg (World.drewN _) (Nat.add_assoc _ _ _))⟩))))
                                  go_roundg k2
                                  case measure => have := HJ2.out; have := HK2.out; omega
                                  case rel => exact ⟨(wrap64 (x5_2 + 1)), au74, H', ⟨by have := HJ2.out; have := HK2.out; omega⟩, ⟨by (with_reducible repeat (first | refine blk_drewN ?_ _ | refine blk_drew ?_ | refine blk_alloc ?_ _)); exact BK374.out⟩, ⟨by (with_reducible repeat (first | refine blk_drewN ?_ _ | refine blk_drew ?_ | refine blk_alloc ?_ _)); exact BK375.out⟩, ⟨by repeat (first | (with_reducible first | exact HB.out | apply below_alloc | apply pw_below_drewN | apply below_drew1 | refine below_set ?_ GE374.out | refine below_set ?_ GE375.out) | exact HB.out)⟩⟩
                            · replace c29 := Bool.eq_false_iff.mpr c29
                              subst c29
                              replace H := (if_neg (show ¬ (false = true) by decide)).symm.trans H
                              by_cases c33 : ((rdOf ByteArray.empty l1_0 x5_2).size : Int) = 1
                              · rw [if_pos c33] at H
                                have c33b0 : (((rdOf ByteArray.empty l1_0 x5_2).size : Int) == 1) = true := beq_iff_eq.mpr c33
                                have c33b1 : (((rdOf ByteArray.empty l1_0 x5_2).size : Int) != 1) = false := bne_eq_false_iff_eq.mpr c33
                                clear c33
                                replace H := Option.bind_eq_some_iff.mp H
                                obtain ⟨t379, A340, H⟩ := H
                                try dsimp only at H
                                have A34 := Aside0.mk A340
                                clear A340
                                by_cases c35 : t379 = true
                                · subst c35
                                  replace H := (if_pos rfl).symm.trans H
                                  have H' := Aside0.mk H
                                  clear H
                                  have hnb36 := NB374_375.out
                                  have hnc36 := NB375_374.out
                                  have hcz37_0 : wr.cell? ⟨gb374, 0, none⟩ = some (.slice A0_0 l0_0.length c0_0) := (blk_cell BK374.out 0).trans rfl
                                  have hcz37_1 : wr.cell? ⟨gb374, 1, none⟩ = some (.string a0_1) := (blk_cell BK374.out 1).trans rfl
                                  have hcz37_2 : wr.cell? ⟨gb374, 2, none⟩ = some (.string a0_2) := (blk_cell BK374.out 2).trans rfl
                                  have hcz37_3 : wr.cell? ⟨gb374, 3, none⟩ = some (.string a0_3) := (blk_cell BK374.out 3).trans rfl
                                  have hfz37_0 := blk_frozen BK374.out 0
                                  have hfz37_1 := blk_frozen BK374.out 1
                                  have hfz37_2 := blk_frozen BK374.out 2
                                  have hfz37_3 := blk_frozen BK374.out 3
                                  have hcz38_0 : wr.cell? ⟨gb375, 0, none⟩ = some (.slice A1_0 l1_0.length c1_0) := (blk_cell BK375.out 0).trans rfl
                                  have hcz38_1 : wr.cell? ⟨gb375, 1, none⟩ = some (.string a1_1) := (blk_cell BK375.out 1).trans rfl
                                  have hcz38_2 : wr.cell? ⟨gb375, 2, none⟩ = some (.string a1_2) := (blk_cell BK375.out 2).trans rfl
                                  have hcz38_3 : wr.cell? ⟨gb375, 3, none⟩ = some (.string a1_3) := (blk_cell BK375.out 3).trans rfl
                                  have hfz38_0 := blk_frozen BK375.out 0
                                  have hfz38_1 := blk_frozen BK375.out 1
                                  have hfz38_2 := blk_frozen BK375.out 2
                                  have hfz38_3 := blk_frozen BK375.out 3
                                  have p376 : 0 ≤ (x5_2 : Int) := of_decide_eq_true au73
                                  have q376 : x5_2 < (l0_0.length : Int) := of_decide_eq_true au73
                                  obtain ⟨ad376, e376, hx376_0⟩ := Kd.at_string HR0_0.out x5_2 p376 q376
                                  cases e376
                                  replace hx376_0 := (HB.out.cell (World.block_lt_of_cell? w _ hx376_0)).trans hx376_0
                                  replace p376 := eq_true p376
                                  replace q376 := eq_true q376
                                  have p377 : 0 ≤ (x5_2 : Int) := of_decide_eq_true au73
                                  have q377 : x5_2 < (l1_0.length : Int) := of_decide_eq_true au73
                                  obtain ⟨ad377, e377, hx377_0⟩ := Kd.at_string HR1_0.out x5_2 p377 q377
                                  cases e377
                                  replace hx377_0 := (HB.out.cell (World.block_lt_of_cell? w _ hx377_0)).trans hx377_0
                                  replace p377 := eq_true p377
                                  replace q377 := eq_true q377
                                  go_wp2_with (first | (go_at_call 58; (with_reducible refine (strings_HasPrefix.calls (rdOf ByteArray.empty l1_0 x5_2) (rdOf ByteArray.empty l0_0 x5_2) _ _ A28.out).mono ?_); rintro e w' ⟨rfl, ⟨nd, rfl⟩⟩; (try first | exact ⟨rfl, _, World.drewN_drewN _ _ _⟩ | exact ⟨rfl, _, Eq.trans (World.drewN_drewN _ _ _) (congrArg (World.drewN _) (Nat.add_assoc _ _ _))⟩)) | (go_at_call 58; (with_reducible refine (strings_HasPrefix.calls (rdOf ByteArray.empty l0_0 x5_2) (rdOf ByteArray.empty l1_0 x5_2) _ _ A34.out).mono ?_); rintro e w' ⟨rfl, ⟨nd, rfl⟩⟩; (try first | exact ⟨rfl, _, World.drewN_drewN _ _ _⟩ | exact ⟨rfl, _, Eq.trans (World.drewN_drewN _ _ _) (congrArg (World.drewN _) (Nat.add_assoc _ _ _))⟩)))
                                  all_goals
                                    first
                                    | (exfalso; (try simp only [decide_eq_true_eq, decide_eq_false_iff_not] at *); first | done | omega)
                                    | repeat (go_quiet (first | (go_at_call 58; (with_reducible refine (strings_HasPrefix.calls (rdOf ByteArray.empty l1_0 x5_2) (rdOf ByteArray.empty l0_0 x5_2) _ _ A28.out).mono ?_); rintro e w' ⟨rfl, ⟨nd, rfl⟩⟩; (try first | exact ⟨rfl, _, World.drewN_drewN _ _ _⟩ | exact ⟨rfl, _, Eq.trans (World.drewN_drewN _ _ _) (congrArg (World.drewN _) (Nat.add_assoc _ _ _))⟩)) | (go_at_call 58; (with_reducible refine (strings_HasPrefix.calls (rdOf ByteArray.empty l0_0 x5_2) (rdOf ByteArray.empty l1_0 x5_2) _ _ A34.out).mono ?_); rintro e w' ⟨rfl, ⟨nd, rfl⟩⟩; (try first | exact ⟨rfl, _, World.drewN_drewN _ _ _⟩ | exact ⟨rfl, _, Eq.trans (World.drewN_drewN _ _ _) (congrArg (World.drewN _) (Nat.add_assoc _ _ _))⟩))); try go_wp2_with (first | (go_at_call 58; (with_reducible refine (strings_HasPrefix.calls (rdOf ByteArray.empty l1_0 x5_2) (rdOf ByteArray.empty l0_0 x5_2) _ _ A28.out).mono ?_); rintro e w' ⟨rfl, ⟨nd, rfl⟩⟩; (try first | exact ⟨rfl, _, World.drewN_drewN _ _ _⟩ | exact ⟨rfl, _, Eq.trans (World.drewN_drewN _ _ _) (congrArg (World.drewN _) (Nat.add_assoc _ _ _))⟩)) | (go_at_call 58; (with_reducible refine (strings_HasPrefix.calls (rdOf ByteArray.empty l0_0 x5_2) (rdOf ByteArray.empty l1_0 x5_2) _ _ A34.out).mono ?_); rintro e w' ⟨rfl, ⟨nd, rfl⟩⟩; (try first | exact ⟨rfl, _, World.drewN_drewN _ _ _⟩ | exact ⟨rfl, _, Eq.trans (World.drewN_drewN _ _ _) (congrArg (World.drewN _) (Nat.add_assoc _ _ _))⟩))))
                                      go_roundg k2
                                      case measure => have := HJ2.out; have := HK2.out; omega
                                      case rel => exact ⟨(wrap64 (x5_2 + 1)), au74, H', ⟨by have := HJ2.out; have := HK2.out; omega⟩, ⟨by (with_reducible repeat (first | refine blk_drewN ?_ _ | refine blk_drew ?_ | refine blk_alloc ?_ _)); exact BK374.out⟩, ⟨by (with_reducible repeat (first | refine blk_drewN ?_ _ | refine blk_drew ?_ | refine blk_alloc ?_ _)); exact BK375.out⟩, ⟨by repeat (first | (with_reducible first | exact HB.out | apply below_alloc | apply pw_below_drewN | apply below_drew1 | refine below_set ?_ GE374.out | refine below_set ?_ GE375.out) | exact HB.out)⟩⟩
                                · replace c35 := Bool.eq_false_iff.mpr c35
                                  subst c35
                                  replace H := (if_neg (show ¬ (false = true) by decide)).symm.trans H
                                  obtain rfl := Option.some.inj H
                                  have hnb39 := NB374_375.out
                                  have hnc39 := NB375_374.out
                                  have hcz40_0 : wr.cell? ⟨gb374, 0, none⟩ = some (.slice A0_0 l0_0.length c0_0) := (blk_cell BK374.out 0).trans rfl
                                  have hcz40_1 : wr.cell? ⟨gb374, 1, none⟩ = some (.string a0_1) := (blk_cell BK374.out 1).trans rfl
                                  have hcz40_2 : wr.cell? ⟨gb374, 2, none⟩ = some (.string a0_2) := (blk_cell BK374.out 2).trans rfl
                                  have hcz40_3 : wr.cell? ⟨gb374, 3, none⟩ = some (.string a0_3) := (blk_cell BK374.out 3).trans rfl
                                  have hfz40_0 := blk_frozen BK374.out 0
                                  have hfz40_1 := blk_frozen BK374.out 1
                                  have hfz40_2 := blk_frozen BK374.out 2
                                  have hfz40_3 := blk_frozen BK374.out 3
                                  have hcz41_0 : wr.cell? ⟨gb375, 0, none⟩ = some (.slice A1_0 l1_0.length c1_0) := (blk_cell BK375.out 0).trans rfl
                                  have hcz41_1 : wr.cell? ⟨gb375, 1, none⟩ = some (.string a1_1) := (blk_cell BK375.out 1).trans rfl
                                  have hcz41_2 : wr.cell? ⟨gb375, 2, none⟩ = some (.string a1_2) := (blk_cell BK375.out 2).trans rfl
                                  have hcz41_3 : wr.cell? ⟨gb375, 3, none⟩ = some (.string a1_3) := (blk_cell BK375.out 3).trans rfl
                                  have hfz41_0 := blk_frozen BK375.out 0
                                  have hfz41_1 := blk_frozen BK375.out 1
                                  have hfz41_2 := blk_frozen BK375.out 2
                                  have hfz41_3 := blk_frozen BK375.out 3
                                  have p376 : 0 ≤ (x5_2 : Int) := of_decide_eq_true au73
                                  have q376 : x5_2 < (l0_0.length : Int) := of_decide_eq_true au73
                                  obtain ⟨ad376, e376, hx376_0⟩ := Kd.at_string HR0_0.out x5_2 p376 q376
                                  cases e376
                                  replace hx376_0 := (HB.out.cell (World.block_lt_of_cell? w _ hx376_0)).trans hx376_0
                                  replace p376 := eq_true p376
                                  replace q376 := eq_true q376
                                  have p377 : 0 ≤ (x5_2 : Int) := of_decide_eq_true au73
                                  have q377 : x5_2 < (l1_0.length : Int) := of_decide_eq_true au73
                                  obtain ⟨ad377, e377, hx377_0⟩ := Kd.at_string HR1_0.out x5_2 p377 q377
                                  cases e377
                                  replace hx377_0 := (HB.out.cell (World.block_lt_of_cell? w _ hx377_0)).trans hx377_0
                                  replace p377 := eq_true p377
                                  replace q377 := eq_true q377
                                  go_wp2_with (first | (go_at_call 58; (with_reducible refine (strings_HasPrefix.calls (rdOf ByteArray.empty l1_0 x5_2) (rdOf ByteArray.empty l0_0 x5_2) _ _ A28.out).mono ?_); rintro e w' ⟨rfl, ⟨nd, rfl⟩⟩; (try first | exact ⟨rfl, _, World.drewN_drewN _ _ _⟩ | exact ⟨rfl, _, Eq.trans (World.drewN_drewN _ _ _) (congrArg (World.drewN _) (Nat.add_assoc _ _ _))⟩)) | (go_at_call 58; (with_reducible refine (strings_HasPrefix.calls (rdOf ByteArray.empty l0_0 x5_2) (rdOf ByteArray.empty l1_0 x5_2) _ _ A34.out).mono ?_); rintro e w' ⟨rfl, ⟨nd, rfl⟩⟩; (try first | exact ⟨rfl, _, World.drewN_drewN _ _ _⟩ | exact ⟨rfl, _, Eq.trans (World.drewN_drewN _ _ _) (congrArg (World.drewN _) (Nat.add_assoc _ _ _))⟩)))
                                  all_goals
                                    first
                                    | (exfalso; (try simp only [decide_eq_true_eq, decide_eq_false_iff_not] at *); first | done | omega)
                                    | repeat (go_quiet (first | (go_at_call 58; (with_reducible refine (strings_HasPrefix.calls (rdOf ByteArray.empty l1_0 x5_2) (rdOf ByteArray.empty l0_0 x5_2) _ _ A28.out).mono ?_); rintro e w' ⟨rfl, ⟨nd, rfl⟩⟩; (try first | exact ⟨rfl, _, World.drewN_drewN _ _ _⟩ | exact ⟨rfl, _, Eq.trans (World.drewN_drewN _ _ _) (congrArg (World.drewN _) (Nat.add_assoc _ _ _))⟩)) | (go_at_call 58; (with_reducible refine (strings_HasPrefix.calls (rdOf ByteArray.empty l0_0 x5_2) (rdOf ByteArray.empty l1_0 x5_2) _ _ A34.out).mono ?_); rintro e w' ⟨rfl, ⟨nd, rfl⟩⟩; (try first | exact ⟨rfl, _, World.drewN_drewN _ _ _⟩ | exact ⟨rfl, _, Eq.trans (World.drewN_drewN _ _ _) (congrArg (World.drewN _) (Nat.add_assoc _ _ _))⟩))); try go_wp2_with (first | (go_at_call 58; (with_reducible refine (strings_HasPrefix.calls (rdOf ByteArray.empty l1_0 x5_2) (rdOf ByteArray.empty l0_0 x5_2) _ _ A28.out).mono ?_); rintro e w' ⟨rfl, ⟨nd, rfl⟩⟩; (try first | exact ⟨rfl, _, World.drewN_drewN _ _ _⟩ | exact ⟨rfl, _, Eq.trans (World.drewN_drewN _ _ _) (congrArg (World.drewN _) (Nat.add_assoc _ _ _))⟩)) | (go_at_call 58; (with_reducible refine (strings_HasPrefix.calls (rdOf ByteArray.empty l0_0 x5_2) (rdOf ByteArray.empty l1_0 x5_2) _ _ A34.out).mono ?_); rintro e w' ⟨rfl, ⟨nd, rfl⟩⟩; (try first | exact ⟨rfl, _, World.drewN_drewN _ _ _⟩ | exact ⟨rfl, _, Eq.trans (World.drewN_drewN _ _ _) (congrArg (World.drewN _) (Nat.add_assoc _ _ _))⟩))))
                                      go_ret
                                      exact ax6
                              · rw [if_neg c33] at H
                                have c33b0 : (((rdOf ByteArray.empty l1_0 x5_2).size : Int) == 1) = false := beq_eq_false_iff_ne.mpr c33
                                have c33b1 : (((rdOf ByteArray.empty l1_0 x5_2).size : Int) != 1) = true := bne_iff_ne.mpr c33
                                obtain rfl := Option.some.inj H
                                have hnb42 := NB374_375.out
                                have hnc42 := NB375_374.out
                                have hcz43_0 : wr.cell? ⟨gb374, 0, none⟩ = some (.slice A0_0 l0_0.length c0_0) := (blk_cell BK374.out 0).trans rfl
                                have hcz43_1 : wr.cell? ⟨gb374, 1, none⟩ = some (.string a0_1) := (blk_cell BK374.out 1).trans rfl
                                have hcz43_2 : wr.cell? ⟨gb374, 2, none⟩ = some (.string a0_2) := (blk_cell BK374.out 2).trans rfl
                                have hcz43_3 : wr.cell? ⟨gb374, 3, none⟩ = some (.string a0_3) := (blk_cell BK374.out 3).trans rfl
                                have hfz43_0 := blk_frozen BK374.out 0
                                have hfz43_1 := blk_frozen BK374.out 1
                                have hfz43_2 := blk_frozen BK374.out 2
                                have hfz43_3 := blk_frozen BK374.out 3
                                have hcz44_0 : wr.cell? ⟨gb375, 0, none⟩ = some (.slice A1_0 l1_0.length c1_0) := (blk_cell BK375.out 0).trans rfl
                                have hcz44_1 : wr.cell? ⟨gb375, 1, none⟩ = some (.string a1_1) := (blk_cell BK375.out 1).trans rfl
                                have hcz44_2 : wr.cell? ⟨gb375, 2, none⟩ = some (.string a1_2) := (blk_cell BK375.out 2).trans rfl
                                have hcz44_3 : wr.cell? ⟨gb375, 3, none⟩ = some (.string a1_3) := (blk_cell BK375.out 3).trans rfl
                                have hfz44_0 := blk_frozen BK375.out 0
                                have hfz44_1 := blk_frozen BK375.out 1
                                have hfz44_2 := blk_frozen BK375.out 2
                                have hfz44_3 := blk_frozen BK375.out 3
                                have p376 : 0 ≤ (x5_2 : Int) := of_decide_eq_true au73
                                have q376 : x5_2 < (l0_0.length : Int) := of_decide_eq_true au73
                                obtain ⟨ad376, e376, hx376_0⟩ := Kd.at_string HR0_0.out x5_2 p376 q376
                                cases e376
                                replace hx376_0 := (HB.out.cell (World.block_lt_of_cell? w _ hx376_0)).trans hx376_0
                                replace p376 := eq_true p376
                                replace q376 := eq_true q376
                                have p377 : 0 ≤ (x5_2 : Int) := of_decide_eq_true au73
                                have q377 : x5_2 < (l1_0.length : Int) := of_decide_eq_true au73
                                obtain ⟨ad377, e377, hx377_0⟩ := Kd.at_string HR1_0.out x5_2 p377 q377
                                cases e377
                                replace hx377_0 := (HB.out.cell (World.block_lt_of_cell? w _ hx377_0)).trans hx377_0
                                replace p377 := eq_true p377
                                replace q377 := eq_true q377
                                go_wp2_with (first | (go_at_call 58; (with_reducible refine (strings_HasPrefix.calls (rdOf ByteArray.empty l1_0 x5_2) (rdOf ByteArray.empty l0_0 x5_2) _ _ A28.out).mono ?_); rintro e w' ⟨rfl, ⟨nd, rfl⟩⟩; (try first | exact ⟨rfl, _, World.drewN_drewN _ _ _⟩ | exact ⟨rfl, _, Eq.trans (World.drewN_drewN _ _ _) (congrArg (World.drewN _) (Nat.add_assoc _ _ _))⟩)))
                                all_goals
                                  first
                                  | (exfalso; (try simp only [decide_eq_true_eq, decide_eq_false_iff_not] at *); first | done | omega)
                                  | repeat (go_quiet (first | (go_at_call 58; (with_reducible refine (strings_HasPrefix.calls (rdOf ByteArray.empty l1_0 x5_2) (rdOf ByteArray.empty l0_0 x5_2) _ _ A28.out).mono ?_); rintro e w' ⟨rfl, ⟨nd, rfl⟩⟩; (try first | exact ⟨rfl, _, World.drewN_drewN _ _ _⟩ | exact ⟨rfl, _, Eq.trans (World.drewN_drewN _ _ _) (congrArg (World.drewN _) (Nat.add_assoc _ _ _))⟩))); try go_wp2_with (first | (go_at_call 58; (with_reducible refine (strings_HasPrefix.calls (rdOf ByteArray.empty l1_0 x5_2) (rdOf ByteArray.empty l0_0 x5_2) _ _ A28.out).mono ?_); rintro e w' ⟨rfl, ⟨nd, rfl⟩⟩; (try first | exact ⟨rfl, _, World.drewN_drewN _ _ _⟩ | exact ⟨rfl, _, Eq.trans (World.drewN_drewN _ _ _) (congrArg (World.drewN _) (Nat.add_assoc _ _ _))⟩))))
                                    go_ret
                                    exact ax6
                          · rw [if_neg c27] at H
                            have c27b0 : (((rdOf ByteArray.empty l0_0 x5_2).size : Int) == 1) = false := beq_eq_false_iff_ne.mpr c27
                            have c27b1 : (((rdOf ByteArray.empty l0_0 x5_2).size : Int) != 1) = true := bne_iff_ne.mpr c27
                            by_cases c45 : ((rdOf ByteArray.empty l1_0 x5_2).size : Int) = 1
                            · rw [if_pos c45] at H
                              have c45b0 : (((rdOf ByteArray.empty l1_0 x5_2).size : Int) == 1) = true := beq_iff_eq.mpr c45
                              have c45b1 : (((rdOf ByteArray.empty l1_0 x5_2).size : Int) != 1) = false := bne_eq_false_iff_eq.mpr c45
                              clear c45
                              replace H := Option.bind_eq_some_iff.mp H
                              obtain ⟨t380, A460, H⟩ := H
                              try dsimp only at H
                              have A46 := Aside0.mk A460
                              clear A460
                              by_cases c47 : t380 = true
                              · subst c47
                                replace H := (if_pos rfl).symm.trans H
                                have H' := Aside0.mk H
                                clear H
                                have hnb48 := NB374_375.out
                                have hnc48 := NB375_374.out
                                have hcz49_0 : wr.cell? ⟨gb374, 0, none⟩ = some (.slice A0_0 l0_0.length c0_0) := (blk_cell BK374.out 0).trans rfl
                                have hcz49_1 : wr.cell? ⟨gb374, 1, none⟩ = some (.string a0_1) := (blk_cell BK374.out 1).trans rfl
                                have hcz49_2 : wr.cell? ⟨gb374, 2, none⟩ = some (.string a0_2) := (blk_cell BK374.out 2).trans rfl
                                have hcz49_3 : wr.cell? ⟨gb374, 3, none⟩ = some (.string a0_3) := (blk_cell BK374.out 3).trans rfl
                                have hfz49_0 := blk_frozen BK374.out 0
                                have hfz49_1 := blk_frozen BK374.out 1
                                have hfz49_2 := blk_frozen BK374.out 2
                                have hfz49_3 := blk_frozen BK374.out 3
                                have hcz50_0 : wr.cell? ⟨gb375, 0, none⟩ = some (.slice A1_0 l1_0.length c1_0) := (blk_cell BK375.out 0).trans rfl
                                have hcz50_1 : wr.cell? ⟨gb375, 1, none⟩ = some (.string a1_1) := (blk_cell BK375.out 1).trans rfl
                                have hcz50_2 : wr.cell? ⟨gb375, 2, none⟩ = some (.string a1_2) := (blk_cell BK375.out 2).trans rfl
                                have hcz50_3 : wr.cell? ⟨gb375, 3, none⟩ = some (.string a1_3) := (blk_cell BK375.out 3).trans rfl
                                have hfz50_0 := blk_frozen BK375.out 0
                                have hfz50_1 := blk_frozen BK375.out 1
                                have hfz50_2 := blk_frozen BK375.out 2
                                have hfz50_3 := blk_frozen BK375.out 3
                                have p376 : 0 ≤ (x5_2 : Int) := of_decide_eq_true au73
                                have q376 : x5_2 < (l0_0.length : Int) := of_decide_eq_true au73
                                obtain ⟨ad376, e376, hx376_0⟩ := Kd.at_string HR0_0.out x5_2 p376 q376
                                cases e376
                                replace hx376_0 := (HB.out.cell (World.block_lt_of_cell? w _ hx376_0)).trans hx376_0
                                replace p376 := eq_true p376
                                replace q376 := eq_true q376
                                have p377 : 0 ≤ (x5_2 : Int) := of_decide_eq_true au73
                                have q377 : x5_2 < (l1_0.length : Int) := of_decide_eq_true au73
                                obtain ⟨ad377, e377, hx377_0⟩ := Kd.at_string HR1_0.out x5_2 p377 q377
                                cases e377
                                replace hx377_0 := (HB.out.cell (World.block_lt_of_cell? w _ hx377_0)).trans hx377_0
                                replace p377 := eq_true p377
                                replace q377 := eq_true q377
                                go_wp2_with (first | (go_at_call 58; (with_reducible refine (strings_HasPrefix.calls (rdOf ByteArray.empty l0_0 x5_2) (rdOf ByteArray.empty l1_0 x5_2) _ _ A46.out).mono ?_); rintro e w' ⟨rfl, ⟨nd, rfl⟩⟩; (try first | exact ⟨rfl, _, World.drewN_drewN _ _ _⟩ | exact ⟨rfl, _, Eq.trans (World.drewN_drewN _ _ _) (congrArg (World.drewN _) (Nat.add_assoc _ _ _))⟩)))
                                all_goals
                                  first
                                  | (exfalso; (try simp only [decide_eq_true_eq, decide_eq_false_iff_not] at *); first | done | omega)
                                  | repeat (go_quiet (first | (go_at_call 58; (with_reducible refine (strings_HasPrefix.calls (rdOf ByteArray.empty l0_0 x5_2) (rdOf ByteArray.empty l1_0 x5_2) _ _ A46.out).mono ?_); rintro e w' ⟨rfl, ⟨nd, rfl⟩⟩; (try first | exact ⟨rfl, _, World.drewN_drewN _ _ _⟩ | exact ⟨rfl, _, Eq.trans (World.drewN_drewN _ _ _) (congrArg (World.drewN _) (Nat.add_assoc _ _ _))⟩))); try go_wp2_with (first | (go_at_call 58; (with_reducible refine (strings_HasPrefix.calls (rdOf ByteArray.empty l0_0 x5_2) (rdOf ByteArray.empty l1_0 x5_2) _ _ A46.out).mono ?_); rintro e w' ⟨rfl, ⟨nd, rfl⟩⟩; (try first | exact ⟨rfl, _, World.drewN_drewN _ _ _⟩ | exact ⟨rfl, _, Eq.trans (World.drewN_drewN _ _ _) (congrArg (World.drewN _) (Nat.add_assoc _ _ _))⟩))))
                                    go_roundg k2
                                    case measure => have := HJ2.out; have := HK2.out; omega
                                    case rel => exact ⟨(wrap64 (x5_2 + 1)), au74, H', ⟨by have := HJ2.out; have := HK2.out; omega⟩, ⟨by (with_reducible repeat (first | refine blk_drewN ?_ _ | refine blk_drew ?_ | refine blk_alloc ?_ _)); exact BK374.out⟩, ⟨by (with_reducible repeat (first | refine blk_drewN ?_ _ | refine blk_drew ?_ | refine blk_alloc ?_ _)); exact BK375.out⟩, ⟨by repeat (first | (with_reducible first | exact HB.out | apply below_alloc | apply pw_below_drewN | apply below_drew1 | refine below_set ?_ GE374.out | refine below_set ?_ GE375.out) | exact HB.out)⟩⟩
                              · replace c47 := Bool.eq_false_iff.mpr c47
                                subst c47
                                replace H := (if_neg (show ¬ (false = true) by decide)).symm.trans H
                                obtain rfl := Option.some.inj H
                                have hnb51 := NB374_375.out
                                have hnc51 := NB375_374.out
                                have hcz52_0 : wr.cell? ⟨gb374, 0, none⟩ = some (.slice A0_0 l0_0.length c0_0) := (blk_cell BK374.out 0).trans rfl
                                have hcz52_1 : wr.cell? ⟨gb374, 1, none⟩ = some (.string a0_1) := (blk_cell BK374.out 1).trans rfl
                                have hcz52_2 : wr.cell? ⟨gb374, 2, none⟩ = some (.string a0_2) := (blk_cell BK374.out 2).trans rfl
                                have hcz52_3 : wr.cell? ⟨gb374, 3, none⟩ = some (.string a0_3) := (blk_cell BK374.out 3).trans rfl
                                have hfz52_0 := blk_frozen BK374.out 0
                                have hfz52_1 := blk_frozen BK374.out 1
                                have hfz52_2 := blk_frozen BK374.out 2
                                have hfz52_3 := blk_frozen BK374.out 3
                                have hcz53_0 : wr.cell? ⟨gb375, 0, none⟩ = some (.slice A1_0 l1_0.length c1_0) := (blk_cell BK375.out 0).trans rfl
                                have hcz53_1 : wr.cell? ⟨gb375, 1, none⟩ = some (.string a1_1) := (blk_cell BK375.out 1).trans rfl
                                have hcz53_2 : wr.cell? ⟨gb375, 2, none⟩ = some (.string a1_2) := (blk_cell BK375.out 2).trans rfl
                                have hcz53_3 : wr.cell? ⟨gb375, 3, none⟩ = some (.string a1_3) := (blk_cell BK375.out 3).trans rfl
                                have hfz53_0 := blk_frozen BK375.out 0
                                have hfz53_1 := blk_frozen BK375.out 1
                                have hfz53_2 := blk_frozen BK375.out 2
                                have hfz53_3 := blk_frozen BK375.out 3
                                have p376 : 0 ≤ (x5_2 : Int) := of_decide_eq_true au73
                                have q376 : x5_2 < (l0_0.length : Int) := of_decide_eq_true au73
                                obtain ⟨ad376, e376, hx376_0⟩ := Kd.at_string HR0_0.out x5_2 p376 q376
                                cases e376
                                replace hx376_0 := (HB.out.cell (World.block_lt_of_cell? w _ hx376_0)).trans hx376_0
                                replace p376 := eq_true p376
                                replace q376 := eq_true q376
                                have p377 : 0 ≤ (x5_2 : Int) := of_decide_eq_true au73
                                have q377 : x5_2 < (l1_0.length : Int) := of_decide_eq_true au73
                                obtain ⟨ad377, e377, hx377_0⟩ := Kd.at_string HR1_0.out x5_2 p377 q377
                                cases e377
                                replace hx377_0 := (HB.out.cell (World.block_lt_of_cell? w _ hx377_0)).trans hx377_0
                                replace p377 := eq_true p377
                                replace q377 := eq_true q377
                                go_wp2_with (first | (go_at_call 58; (with_reducible refine (strings_HasPrefix.calls (rdOf ByteArray.empty l0_0 x5_2) (rdOf ByteArray.empty l1_0 x5_2) _ _ A46.out).mono ?_); rintro e w' ⟨rfl, ⟨nd, rfl⟩⟩; (try first | exact ⟨rfl, _, World.drewN_drewN _ _ _⟩ | exact ⟨rfl, _, Eq.trans (World.drewN_drewN _ _ _) (congrArg (World.drewN _) (Nat.add_assoc _ _ _))⟩)))
                                all_goals
                                  first
                                  | (exfalso; (try simp only [decide_eq_true_eq, decide_eq_false_iff_not] at *); first | done | omega)
                                  | repeat (go_quiet (first | (go_at_call 58; (with_reducible refine (strings_HasPrefix.calls (rdOf ByteArray.empty l0_0 x5_2) (rdOf ByteArray.empty l1_0 x5_2) _ _ A46.out).mono ?_); rintro e w' ⟨rfl, ⟨nd, rfl⟩⟩; (try first | exact ⟨rfl, _, World.drewN_drewN _ _ _⟩ | exact ⟨rfl, _, Eq.trans (World.drewN_drewN _ _ _) (congrArg (World.drewN _) (Nat.add_assoc _ _ _))⟩))); try go_wp2_with (first | (go_at_call 58; (with_reducible refine (strings_HasPrefix.calls (rdOf ByteArray.empty l0_0 x5_2) (rdOf ByteArray.empty l1_0 x5_2) _ _ A46.out).mono ?_); rintro e w' ⟨rfl, ⟨nd, rfl⟩⟩; (try first | exact ⟨rfl, _, World.drewN_drewN _ _ _⟩ | exact ⟨rfl, _, Eq.trans (World.drewN_drewN _ _ _) (congrArg (World.drewN _) (Nat.add_assoc _ _ _))⟩))))
                                    go_ret
                                    exact ax6
                            · rw [if_neg c45] at H
                              have c45b0 : (((rdOf ByteArray.empty l1_0 x5_2).size : Int) == 1) = false := beq_eq_false_iff_ne.mpr c45
                              have c45b1 : (((rdOf ByteArray.empty l1_0 x5_2).size : Int) != 1) = true := bne_iff_ne.mpr c45
                              obtain rfl := Option.some.inj H
                              have hnb54 := NB374_375.out
                              have hnc54 := NB375_374.out
                              have hcz55_0 : wr.cell? ⟨gb374, 0, none⟩ = some (.slice A0_0 l0_0.length c0_0) := (blk_cell BK374.out 0).trans rfl
                              have hcz55_1 : wr.cell? ⟨gb374, 1, none⟩ = some (.string a0_1) := (blk_cell BK374.out 1).trans rfl
                              have hcz55_2 : wr.cell? ⟨gb374, 2, none⟩ = some (.string a0_2) := (blk_cell BK374.out 2).trans rfl
                              have hcz55_3 : wr.cell? ⟨gb374, 3, none⟩ = some (.string a0_3) := (blk_cell BK374.out 3).trans rfl
                              have hfz55_0 := blk_frozen BK374.out 0
                              have hfz55_1 := blk_frozen BK374.out 1
                              have hfz55_2 := blk_frozen BK374.out 2
                              have hfz55_3 := blk_frozen BK374.out 3
                              have hcz56_0 : wr.cell? ⟨gb375, 0, none⟩ = some (.slice A1_0 l1_0.length c1_0) := (blk_cell BK375.out 0).trans rfl
                              have hcz56_1 : wr.cell? ⟨gb375, 1, none⟩ = some (.string a1_1) := (blk_cell BK375.out 1).trans rfl
                              have hcz56_2 : wr.cell? ⟨gb375, 2, none⟩ = some (.string a1_2) := (blk_cell BK375.out 2).trans rfl
                              have hcz56_3 : wr.cell? ⟨gb375, 3, none⟩ = some (.string a1_3) := (blk_cell BK375.out 3).trans rfl
                              have hfz56_0 := blk_frozen BK375.out 0
                              have hfz56_1 := blk_frozen BK375.out 1
                              have hfz56_2 := blk_frozen BK375.out 2
                              have hfz56_3 := blk_frozen BK375.out 3
                              have p376 : 0 ≤ (x5_2 : Int) := of_decide_eq_true au73
                              have q376 : x5_2 < (l0_0.length : Int) := of_decide_eq_true au73
                              obtain ⟨ad376, e376, hx376_0⟩ := Kd.at_string HR0_0.out x5_2 p376 q376
                              cases e376
                              replace hx376_0 := (HB.out.cell (World.block_lt_of_cell? w _ hx376_0)).trans hx376_0
                              replace p376 := eq_true p376
                              replace q376 := eq_true q376
                              have p377 : 0 ≤ (x5_2 : Int) := of_decide_eq_true au73
                              have q377 : x5_2 < (l1_0.length : Int) := of_decide_eq_true au73
                              obtain ⟨ad377, e377, hx377_0⟩ := Kd.at_string HR1_0.out x5_2 p377 q377
                              cases e377
                              replace hx377_0 := (HB.out.cell (World.block_lt_of_cell? w _ hx377_0)).trans hx377_0
                              replace p377 := eq_true p377
                              replace q377 := eq_true q377
                              go_wp2
                              all_goals
                                first
                                | (exfalso; (try simp only [decide_eq_true_eq, decide_eq_false_iff_not] at *); first | done | omega)
                                | repeat (go_quiet (fail); try go_wp2)
                                  go_ret
                                  exact ax6
                      · rw [if_neg c22] at H
                        exact absurd H (by simp)
                    · rw [if_neg c21] at H
                      exact absurd H (by simp)
                  · rw [if_neg c20] at H
                    exact absurd H (by simp)
                · rw [if_neg c19] at H
                  have c19b0 : decide (x5_2 < (ji18)) = false := decide_eq_false c19
                  clear c19
                  obtain rfl := Option.some.inj H
                  have hnb57 := NB374_375.out
                  have hnc57 := NB375_374.out
                  have hcz58_0 : wr.cell? ⟨gb374, 0, none⟩ = some (.slice A0_0 l0_0.length c0_0) := (blk_cell BK374.out 0).trans rfl
                  have hcz58_1 : wr.cell? ⟨gb374, 1, none⟩ = some (.string a0_1) := (blk_cell BK374.out 1).trans rfl
                  have hcz58_2 : wr.cell? ⟨gb374, 2, none⟩ = some (.string a0_2) := (blk_cell BK374.out 2).trans rfl
                  have hcz58_3 : wr.cell? ⟨gb374, 3, none⟩ = some (.string a0_3) := (blk_cell BK374.out 3).trans rfl
                  have hfz58_0 := blk_frozen BK374.out 0
                  have hfz58_1 := blk_frozen BK374.out 1
                  have hfz58_2 := blk_frozen BK374.out 2
                  have hfz58_3 := blk_frozen BK374.out 3
                  have hcz59_0 : wr.cell? ⟨gb375, 0, none⟩ = some (.slice A1_0 l1_0.length c1_0) := (blk_cell BK375.out 0).trans rfl
                  have hcz59_1 : wr.cell? ⟨gb375, 1, none⟩ = some (.string a1_1) := (blk_cell BK375.out 1).trans rfl
                  have hcz59_2 : wr.cell? ⟨gb375, 2, none⟩ = some (.string a1_2) := (blk_cell BK375.out 2).trans rfl
                  have hcz59_3 : wr.cell? ⟨gb375, 3, none⟩ = some (.string a1_3) := (blk_cell BK375.out 3).trans rfl
                  have hfz59_0 := blk_frozen BK375.out 0
                  have hfz59_1 := blk_frozen BK375.out 1
                  have hfz59_2 := blk_frozen BK375.out 2
                  have hfz59_3 := blk_frozen BK375.out 3
                  go_wp2
                  all_goals
                    first
                    | (exfalso; (try simp only [decide_eq_true_eq, decide_eq_false_iff_not] at *); first | done | omega)
                    | repeat (go_quiet (fail); try go_wp2)
                      go_ret
                      exact ax6


/-! ### impl_samePeople: function 38 -/
def impl_samePeople.l0 : Nat → List (S26) → List (S26) → Int → Int → Option (Bool)
 | 0, _, _, _, _ => none
 | k + 1, x0, x1, x7, x8 => if x8 < x7 then (if (x1.length : Int) = (x0.length : Int) then (if 0 ≤ x8 then (if x8 < (x0.length : Int) then (if x8 < (x1.length : Int) then ((impl_mayBeSame.f k ((rd_T26 x0 x8).f0) ((rd_T26 x0 x8).f1) ((rd_T26 x0 x8).f2) ((rd_T26 x0 x8).f3) ((rd_T26 x1 x8).f0) ((rd_T26 x1 x8).f1) ((rd_T26 x1 x8).f2) ((rd_T26 x1 x8).f3)).bind fun t618 => (if t618 = true then (impl_samePeople.l0 k x0 x1 x7 (wrap64 (x8 + 1))) else (some false))) else (none)) else (none)) else (none)) else (some false)) else (some ((x0.length : Int) == (x1.length : Int)))
def impl_samePeople.f (k : Nat) (l0 : List (S26)) (l1 : List (S26)) : Option (Bool) := impl_samePeople.l0 k l0 l1 (l0.length : Int) 0
theorem impl_samePeople.mono_l : ∀ k, (∀ y0 y1 y2 y3, LeO (impl_samePeople.l0 k y0 y1 y2 y3) (impl_samePeople.l0 (k + 1) y0 y1 y2 y3))
 | 0 => fun _ _ _ _ r h => by simp [impl_samePeople.l0] at h
 | k + 1 => by
  have ih0 := impl_samePeople.mono_l k
  ·
   intro y0 y1 y2 y3
   unfold impl_samePeople.l0
   repeat' first
   | (with_reducible exact ih0 _ _ _ _)
   | (with_reducible exact impl_mayBeSame.mono _ _ _ _ _ _ _ _ _)
   | (with_reducible exact LeO.refl _)
   | (with_reducible exact LeO.none _)
   | (with_reducible refine LeO.ite ?_ ?_)
   | (with_reducible refine LeO.bind ?_ (fun _ => ?_))
   | exact ih0 _ _ _ _
   | exact impl_mayBeSame.mono _ _ _ _ _ _ _ _ _
   | exact LeO.none _
   | refine LeO.ite ?_ ?_
   | refine LeO.bind ?_ (fun _ => ?_)
theorem impl_samePeople.mono : ∀ a0 a1 k, LeO (impl_samePeople.f k a0 a1) (impl_samePeople.f (k + 1) a0 a1) := by
 intro a0 a1 k
 have ih0 := impl_samePeople.mono_l k
 unfold impl_samePeople.f
 repeat' first
   | (with_reducible exact ih0 _ _ _ _)
   | (with_reducible exact impl_mayBeSame.mono _ _ _ _ _ _ _ _ _)
   | (with_reducible exact LeO.refl _)
   | (with_reducible exact LeO.none _)
   | (with_reducible refine LeO.ite ?_ ?_)
   | (with_reducible refine LeO.bind ?_ (fun _ => ?_))
   | exact ih0 _ _ _ _
   | exact impl_mayBeSame.mono _ _ _ _ _ _ _ _ _
   | exact LeO.none _
   | refine LeO.ite ?_ ?_
   | refine LeO.bind ?_ (fun _ => ?_)
def impl_samePeople.T4 : Bool × List (List Nat × List Nat) := (true, [([], []), ([0], [0]), ([], []), ([2], [2]), ([1, 3], [1, 3]), ([4], [4]), ([5], [5]), ([5], [5]), ([6, 7, 5], [5, 6, 7]), ([8, 5], [5, 8]), ([5], [5]), ([5], [5]), ([10, 11, 5], [5, 10, 11]), ([12, 5], [5, 12]), ([9, 13, 5, 5], [5, 9, 13]), ([14, 5], [5, 14]), ([5, 15], [5, 15])])
def impl_samePeople.B4 : List Nat := [0, 1, 0, 4, 15, 31, 63, 63, 255, 511, 63, 63, 3135, 7231, 16383, 32767, 65535]
theorem impl_samePeople.tab4 : rtab .any (opsOf Tryd.f38 4) = impl_samePeople.T4 := by kernel_rfl
theorem impl_samePeople.bits4 : waitsOk impl_samePeople.T4.2 impl_samePeople.B4 = true := by kernel_rfl
set_option maxRecDepth 100000 in
theorem impl_samePeople.L0 {P : Prop} (h : P := by
  try go_wp2
  have n0_ := Aside0.mk (below_drew1 HB.out)
  clear HB
  have HB := n0_
  clear n0_
  have p616 : 0 ≤ (x8_1 : Int) := of_decide_eq_true au73
  have q616 : x8_1 < (l0.length : Int) := of_decide_eq_true au73
  obtain ⟨ad616, A616_0, c616_0, e616, hx616_0, hx616_1, hx616_2, hx616_3, hl616_0, hi616_0⟩ := at_T26 HR0.out x8_1 p616 q616
  have hw616_3 := hx616_3
  have hw616_2 := hx616_2
  have hw616_1 := hx616_1
  have hw616_0 := hx616_0
  cases e616
  replace hx616_0 := (HB.out.cell (World.block_lt_of_cell? w _ hx616_0)).trans hx616_0
  replace hx616_1 := (HB.out.cell (World.block_lt_of_cell? w _ hx616_1)).trans hx616_1
  replace hx616_2 := (HB.out.cell (World.block_lt_of_cell? w _ hx616_2)).trans hx616_2
  replace hx616_3 := (HB.out.cell (World.block_lt_of_cell? w _ hx616_3)).trans hx616_3
  have HR616_0 := Aside0.mk hi616_0
  have HC616_0 := Aside0.mk hl616_0
  clear hi616_0 hl616_0
  replace p616 := eq_true p616
  replace q616 := eq_true q616
  have p617 : 0 ≤ (x8_1 : Int) := of_decide_eq_true au73
  have q617 : x8_1 < (l1.length : Int) := of_decide_eq_true au73
  obtain ⟨ad617, A617_0, c617_0, e617, hx617_0, hx617_1, hx617_2, hx617_3, hl617_0, hi617_0⟩ := at_T26 HR1.out x8_1 p617 q617
  have hw617_3 := hx617_3
  have hw617_2 := hx617_2
  have hw617_1 := hx617_1
  have hw617_0 := hx617_0
  cases e617
  replace hx617_0 := (HB.out.cell (World.block_lt_of_cell? w _ hx617_0)).trans hx617_0
  replace hx617_1 := (HB.out.cell (World.block_lt_of_cell? w _ hx617_1)).trans hx617_1
  replace hx617_2 := (HB.out.cell (World.block_lt_of_cell? w _ hx617_2)).trans hx617_2
  replace hx617_3 := (HB.out.cell (World.block_lt_of_cell? w _ hx617_3)).trans hx617_3
  have HR617_0 := Aside0.mk hi617_0
  have HC617_0 := Aside0.mk hl617_0
  clear hi617_0 hl617_0
  replace p617 := eq_true p617
  replace q617 := eq_true q617
  refine start_ (n := 17) (S := fun w' => w'.cell? (ad616.add ((x8_1).toNat * 4)) = some (.slice A616_0 ((rd_T26 l0 x8_1).f0).length c616_0) ∧ w'.cell? ⟨(ad616.add ((x8_1).toNat * 4)).block, (ad616.add ((x8_1).toNat * 4)).off + 1, none⟩ = some (.string ((rd_T26 l0 x8_1).f1)) ∧ w'.cell? ⟨(ad616.add ((x8_1).toNat * 4)).block, (ad616.add ((x8_1).toNat * 4)).off + 2, none⟩ = some (.string ((rd_T26 l0 x8_1).f2)) ∧ w'.cell? ⟨(ad616.add ((x8_1).toNat * 4)).block, (ad616.add ((x8_1).toNat * 4)).off + 3, none⟩ = some (.string ((rd_T26 l0 x8_1).f3)) ∧ w'.cell? (ad617.add ((x8_1).toNat * 4)) = some (.slice A617_0 ((rd_T26 l1 x8_1).f0).length c617_0) ∧ w'.cell? ⟨(ad617.add ((x8_1).toNat * 4)).block, (ad617.add ((x8_1).toNat * 4)).off + 1, none⟩ = some (.string ((rd_T26 l1 x8_1).f1)) ∧ w'.cell? ⟨(ad617.add ((x8_1).toNat * 4)).block, (ad617.add ((x8_1).toNat * 4)).off + 2, none⟩ = some (.string ((rd_T26 l1 x8_1).f2)) ∧ w'.cell? ⟨(ad617.add ((x8_1).toNat * 4)).block, (ad617.add ((x8_1).toNat * 4)).off + 3, none⟩ = some (.string ((rd_T26 l1 x8_1).f3))) (ds := []) #[false, false, false, false, false, false, false, false, false, false, false, false, false, false, false, false, false] (by kernel_rfl) rfl rfl ⟨((HB.out.cell (World.block_lt_of_cell? w _ hw616_0)).trans hw616_0), ((HB.out.cell (World.block_lt_of_cell? w _ hw616_1)).trans hw616_1), ((HB.out.cell (World.block_lt_of_cell? w _ hw616_2)).trans hw616_2), ((HB.out.cell (World.block_lt_of_cell? w _ hw616_3)).trans hw616_3), ((HB.out.cell (World.block_lt_of_cell? w _ hw617_0)).trans hw617_0), ((HB.out.cell (World.block_lt_of_cell? w _ hw617_1)).trans hw617_1), ((HB.out.cell (World.block_lt_of_cell? w _ hw617_2)).trans hw617_2), ((HB.out.cell (World.block_lt_of_cell? w _ hw617_3)).trans hw617_3)⟩ (fun hHeld => ?_); refine with_tabW impl_samePeople.tab4 impl_samePeople.bits4 (fun HT_ HW_ => ?_)
  generalize wr.drew = w10 at HB HR616_0 HR617_0 hx616_0 hx616_1 hx616_2 hx616_3 hx617_0 hx617_1 hx617_2 hx617_3 hHeld ⊢
  refine pure_ (i := 0) (N := some 11) (v := ?_) (a' := ?_) #[true, false, false, false, false, false, false, false, false, false, false, false, false, false, false, false, false] rfl rfl (any_of HT_.out (by kernel_rfl)) (fun _ _ _ h => h) (Or.inl ⟨by rfl, ?_⟩) ?_ ?_
  rotate_left
  ·
   intro w'
   go_simp
   with_reducible rfl
  rotate_left
  ·
   simp only [Act.put, List.setIfInBounds_toArray, List.set_cons_zero, List.set_cons_succ, i64_w, i32_w]
   rfl
  refine pure_ (i := 1) (N := some 12) (v := ?_) (a' := ?_) #[true, true, false, false, false, false, false, false, false, false, false, false, false, false, false, false, false] rfl rfl (any_of HT_.out (by kernel_rfl)) (fun _ _ _ h => h) (Or.inl ⟨by rfl, ?_⟩) ?_ ?_
  rotate_left
  ·
   intro w'
   go_simp
   with_reducible rfl
  rotate_left
  ·
   simp only [Act.put, List.setIfInBounds_toArray, List.set_cons_zero, List.set_cons_succ, i64_w, i32_w]
   rfl
  refine pure_ (i := 2) (N := some 13) (v := ?_) (a' := ?_) #[true, true, true, false, false, false, false, false, false, false, false, false, false, false, false, false, false] rfl rfl (any_of HT_.out (by kernel_rfl)) (fun _ _ _ h => h) (Or.inl ⟨by rfl, ?_⟩) ?_ ?_
  rotate_left
  ·
   intro w'
   go_simp
   with_reducible rfl
  rotate_left
  ·
   simp only [Act.put, List.setIfInBounds_toArray, List.set_cons_zero, List.set_cons_succ, i64_w, i32_w]
   rfl
  refine pure_ (i := 3) (N := some 14) (v := ?_) (a' := ?_) #[true, true, true, true, false, false, false, false, false, false, false, false, false, false, false, false, false] rfl rfl (any_of HT_.out (by kernel_rfl)) (fun _ _ _ h => h) (Or.inl ⟨by rfl, ?_⟩) ?_ ?_
  rotate_left
  ·
   intro w'
   go_simp
   with_reducible rfl
  rotate_left
  ·
   simp only [Act.put, List.setIfInBounds_toArray, List.set_cons_zero, List.set_cons_succ, i64_w, i32_w]
   rfl
  refine pure_ (i := 4) (N := some 15) (v := ?_) (a' := ?_) #[true, true, true, true, true, false, false, false, false, false, false, false, false, false, false, false, false] rfl rfl (any_of HT_.out (by kernel_rfl)) (fun _ _ _ h => h) (Or.inl ⟨by rfl, ?_⟩) ?_ ?_
  rotate_left
  ·
   intro w'
   go_simp
   with_reducible rfl
  rotate_left
  ·
   simp only [Act.put, List.setIfInBounds_toArray, List.set_cons_zero, List.set_cons_succ, i64_w, i32_w]
   rfl
  refine pure_ (i := 5) (N := some 16) (v := ?_) (a' := ?_) #[true, true, true, true, true, true, false, false, false, false, false, false, false, false, false, false, false] rfl rfl (any_of HT_.out (by kernel_rfl)) (fun _ _ _ h => h) (Or.inl ⟨by rfl, ?_⟩) ?_ ?_
  rotate_left
  ·
   intro w'
   go_simp
   with_reducible rfl
  rotate_left
  ·
   simp only [Act.put, List.setIfInBounds_toArray, List.set_cons_zero, List.set_cons_succ, i64_w, i32_w]
   rfl
  refine pure_ (i := 6) (N := some 17) (v := ?_) (a' := ?_) #[true, true, true, true, true, true, true, false, false, false, false, false, false, false, false, false, false] rfl rfl (any_of HT_.out (by kernel_rfl)) (fun _ _ _ h => h) (Or.inl ⟨by rfl, ?_⟩) ?_ ?_
  rotate_left
  ·
   intro w'
   go_simp
   with_reducible rfl
  rotate_left
  ·
   simp only [Act.put, List.setIfInBounds_toArray, List.set_cons_zero, List.set_cons_succ, i64_w, i32_w]
   rfl
  refine pure_ (i := 7) (N := some 18) (v := ?_) (a' := ?_) #[true, true, true, true, true, true, true, true, false, false, false, false, false, false, false, false, false] rfl rfl (any_of HT_.out (by kernel_rfl)) (fun _ _ _ h => h) (Or.inl ⟨by rfl, ?_⟩) ?_ ?_
  rotate_left
  ·
   intro w'
   go_simp
   with_reducible rfl
  rotate_left
  ·
   simp only [Act.put, List.setIfInBounds_toArray, List.set_cons_zero, List.set_cons_succ, i64_w, i32_w]
   rfl
  refine pure_ (i := 8) (N := some 19) (v := ?_) (a' := ?_) #[true, true, true, true, true, true, true, true, true, false, false, false, false, false, false, false, false] rfl rfl (any_of HT_.out (by kernel_rfl)) (fun _ _ _ h => h) (Or.inl ⟨by rfl, ?_⟩) ?_ ?_
  rotate_left
  ·
   intro w'
   go_simp
   with_reducible rfl
  rotate_left
  ·
   simp only [Act.put, List.setIfInBounds_toArray, List.set_cons_zero, List.set_cons_succ, i64_w, i32_w]
   rfl
  refine pure_ (i := 10) (N := some 21) (v := ?_) (a' := ?_) #[true, true, true, true, true, true, true, true, true, false, true, false, false, false, false, false, false] rfl rfl (any_of HT_.out (by kernel_rfl)) (fun _ _ _ h => h) (Or.inl ⟨by rfl, ?_⟩) ?_ ?_
  rotate_left
  ·
   intro w'
   go_simp
   with_reducible rfl
  rotate_left
  ·
   simp only [Act.put, List.setIfInBounds_toArray, List.set_cons_zero, List.set_cons_succ, i64_w, i32_w]
   rfl
  refine pure_ (i := 11) (N := some 22) (v := ?_) (a' := ?_) #[true, true, true, true, true, true, true, true, true, false, true, true, false, false, false, false, false] rfl rfl (any_of HT_.out (by kernel_rfl)) (fun _ _ _ h => h) (Or.inl ⟨by rfl, ?_⟩) ?_ ?_
  rotate_left
  ·
   intro w'
   go_simp
   with_reducible rfl
  rotate_left
  ·
   simp only [Act.put, List.setIfInBounds_toArray, List.set_cons_zero, List.set_cons_succ, i64_w, i32_w]
   rfl
  refine pure_ (i := 12) (N := some 23) (v := ?_) (a' := ?_) #[true, true, true, true, true, true, true, true, true, false, true, true, true, false, false, false, false] rfl rfl (any_of HT_.out (by kernel_rfl)) (fun _ _ _ h => h) (Or.inl ⟨by rfl, ?_⟩) ?_ ?_
  rotate_left
  ·
   intro w'
   go_simp
   with_reducible rfl
  rotate_left
  ·
   simp only [Act.put, List.setIfInBounds_toArray, List.set_cons_zero, List.set_cons_succ, i64_w, i32_w]
   rfl
  refine take_ (i := 9) (N := some 20) (v := ?_) (a' := ?_) #[true, true, true, true, true, true, true, true, true, true, true, true, true, false, false, false, false] rfl rfl (take_ofW HT_.out HW_.out (by kernel_rfl)) (fun _ _ _ h => h) (Or.inl ⟨by rfl, ?_⟩) hHeld ?_ ?_
  rotate_left
  ·
   rintro w' ⟨s0, s1, s2, s3, s4, s5, s6, s7⟩
   go_simp
   with_reducible rfl
  rotate_left
  ·
   simp only [Act.put, List.setIfInBounds_toArray, List.set_cons_zero, List.set_cons_succ, i64_w, i32_w]
   rfl
  refine take_ (i := 13) (N := some 24) (v := ?_) (a' := ?_) #[true, true, true, true, true, true, true, true, true, true, true, true, true, true, false, false, false] rfl rfl (take_ofW HT_.out HW_.out (by kernel_rfl)) (fun _ _ _ h => h) (Or.inl ⟨by rfl, ?_⟩) hHeld ?_ ?_
  rotate_left
  ·
   rintro w' ⟨s0, s1, s2, s3, s4, s5, s6, s7⟩
   go_simp
   with_reducible rfl
  rotate_left
  ·
   simp only [Act.put, List.setIfInBounds_toArray, List.set_cons_zero, List.set_cons_succ, i64_w, i32_w]
   rfl
  refine one_ (i := 14) (N := some 25) #[true, true, true, true, true, true, true, true, true, true, true, true, true, true, true, false, false] rfl rfl (one_of HT_.out (by kernel_rfl)) (by decide) (fun K hK => ?_)
  refine goes_ Tryd.func23 (by kernel_rfl) rfl #[.agg #[.slice A616_0 ((rd_T26 l0 x8_1).f0).length c616_0, .string ((rd_T26 l0 x8_1).f1), .string ((rd_T26 l0 x8_1).f2), .string ((rd_T26 l0 x8_1).f3)], .agg #[.slice A617_0 ((rd_T26 l1 x8_1).f0).length c617_0, .string ((rd_T26 l1 x8_1).f1), .string ((rd_T26 l1 x8_1).f2), .string ((rd_T26 l1 x8_1).f3)]] (by rfl) rfl rfl au37 ?_
  first
  |
   with_reducible refine (impl_mayBeSame.calls k1 _ _ ((rd_T26 l0 x8_1).f0) ((rd_T26 l0 x8_1).f1) ((rd_T26 l0 x8_1).f2) ((rd_T26 l0 x8_1).f3) _ _ ((rd_T26 l1 x8_1).f0) ((rd_T26 l1 x8_1).f1) ((rd_T26 l1 x8_1).f2) ((rd_T26 l1 x8_1).f3) _ _ ?side1 ?side2 ?side3 ?side4 A8.out).mono ?_
   (case side1 => repeat (first | exact (Kd.C_below HR616_0.out HB.out) | (with_reducible refine Kd.C_alloc ?_ _) | (with_reducible refine Kd.C_drewN ?_ _) | (with_reducible refine Kd.C_drew ?_)))
   (case side2 => exact HC616_0.out)
   (case side3 => repeat (first | exact (Kd.C_below HR617_0.out HB.out) | (with_reducible refine Kd.C_alloc ?_ _) | (with_reducible refine Kd.C_drewN ?_ _) | (with_reducible refine Kd.C_drew ?_)))
   (case side4 => exact HC617_0.out)
   rintro e w11 ⟨rfl, hb⟩
   refine ⟨_, rfl, ?_⟩
   have n0_ := Aside0.mk (below_step au38 hb)
   clear HB
   have HB := n0_
   clear n0_
   (try clear hb)
   (try clear hb2)
   (try clear hk)
   (try clear hi)
   refine hK.out _ _ ⟨((HB.out.cell (World.block_lt_of_cell? w _ hw616_0)).trans hw616_0), ((HB.out.cell (World.block_lt_of_cell? w _ hw616_1)).trans hw616_1), ((HB.out.cell (World.block_lt_of_cell? w _ hw616_2)).trans hw616_2), ((HB.out.cell (World.block_lt_of_cell? w _ hw616_3)).trans hw616_3), ((HB.out.cell (World.block_lt_of_cell? w _ hw617_0)).trans hw617_0), ((HB.out.cell (World.block_lt_of_cell? w _ hw617_1)).trans hw617_1), ((HB.out.cell (World.block_lt_of_cell? w _ hw617_2)).trans hw617_2), ((HB.out.cell (World.block_lt_of_cell? w _ hw617_3)).trans hw617_3)⟩ (fun hHeld => ?_)
   clear hK K
   refine norm_ (a' := ?_) ?_ ?_
   rotate_left
   ·
    show Act.put _ (some 25) _ = _
    simp only [Act.put, List.setIfInBounds_toArray, List.set_cons_zero, List.set_cons_succ, i64_w, i32_w]
    rfl
   refine pure_ (i := 15) (N := some 26) (v := ?_) (a' := ?_) #[true, true, true, true, true, true, true, true, true, true, true, true, true, true, true, true, false] rfl rfl (any_of HT_.out (by kernel_rfl)) (fun _ _ _ h => h) (Or.inl ⟨by rfl, ?_⟩) ?_ ?_
   rotate_left
   ·
    intro w'
    go_simp
    with_reducible rfl
   rotate_left
   ·
    simp only [Act.put, List.setIfInBounds_toArray, List.set_cons_zero, List.set_cons_succ, i64_w, i32_w]
    rfl
   refine pure_ (i := 16) (N := some 27) (v := ?_) (a' := ?_) #[true, true, true, true, true, true, true, true, true, true, true, true, true, true, true, true, true] rfl rfl (any_of HT_.out (by kernel_rfl)) (fun _ _ _ h => h) (Or.inl ⟨by rfl, ?_⟩) ?_ ?_
   rotate_left
   ·
    intro w'
    go_simp
    with_reducible rfl
   rotate_left
   ·
    simp only [Act.put, List.setIfInBounds_toArray, List.set_cons_zero, List.set_cons_succ, i64_w, i32_w]
    rfl
   refine done_ (done_of HT_.out (by kernel_rfl)) ?_
   try go_wp2
   go_roundg k1
   case measure => have := HK1.out; omega
   case rel => exact ⟨(wrap64 (x8_1 + 1)), au74, H', ⟨by have := HK1.out; omega⟩, ⟨by repeat (first | (with_reducible first | exact HB.out | apply below_alloc | apply pw_below_drewN | apply below_drew1) | exact HB.out)⟩⟩
  |
   with_reducible refine (impl_mayBeSame.calls k1 _ _ ((rd_T26 l0 x8_1).f0) ((rd_T26 l0 x8_1).f1) ((rd_T26 l0 x8_1).f2) ((rd_T26 l0 x8_1).f3) _ _ ((rd_T26 l1 x8_1).f0) ((rd_T26 l1 x8_1).f1) ((rd_T26 l1 x8_1).f2) ((rd_T26 l1 x8_1).f3) _ _ ?side1 ?side2 ?side3 ?side4 A8.out).mono ?_
   (case side1 => repeat (first | exact (Kd.C_below HR616_0.out HB.out) | (with_reducible refine Kd.C_alloc ?_ _) | (with_reducible refine Kd.C_drewN ?_ _) | (with_reducible refine Kd.C_drew ?_)))
   (case side2 => exact HC616_0.out)
   (case side3 => repeat (first | exact (Kd.C_below HR617_0.out HB.out) | (with_reducible refine Kd.C_alloc ?_ _) | (with_reducible refine Kd.C_drewN ?_ _) | (with_reducible refine Kd.C_drew ?_)))
   (case side4 => exact HC617_0.out)
   rintro e w13 ⟨rfl, hb⟩
   refine ⟨_, rfl, ?_⟩
   have n0_ := Aside0.mk (below_step au38 hb)
   clear HB
   have HB := n0_
   clear n0_
   (try clear hb)
   (try clear hb2)
   (try clear hk)
   (try clear hi)
   refine hK.out _ _ ⟨((HB.out.cell (World.block_lt_of_cell? w _ hw616_0)).trans hw616_0), ((HB.out.cell (World.block_lt_of_cell? w _ hw616_1)).trans hw616_1), ((HB.out.cell (World.block_lt_of_cell? w _ hw616_2)).trans hw616_2), ((HB.out.cell (World.block_lt_of_cell? w _ hw616_3)).trans hw616_3), ((HB.out.cell (World.block_lt_of_cell? w _ hw617_0)).trans hw617_0), ((HB.out.cell (World.block_lt_of_cell? w _ hw617_1)).trans hw617_1), ((HB.out.cell (World.block_lt_of_cell? w _ hw617_2)).trans hw617_2), ((HB.out.cell (World.block_lt_of_cell? w _ hw617_3)).trans hw617_3)⟩ (fun hHeld => ?_)
   clear hK K
   refine norm_ (a' := ?_) ?_ ?_
   rotate_left
   ·
    show Act.put _ (some 25) _ = _
    simp only [Act.put, List.setIfInBounds_toArray, List.set_cons_zero, List.set_cons_succ, i64_w, i32_w]
    rfl
   refine pure_ (i := 15) (N := some 26) (v := ?_) (a' := ?_) #[true, true, true, true, true, true, true, true, true, true, true, true, true, true, true, true, false] rfl rfl (any_of HT_.out (by kernel_rfl)) (fun _ _ _ h => h) (Or.inl ⟨by rfl, ?_⟩) ?_ ?_
   rotate_left
   ·
    intro w'
    go_simp
    with_reducible rfl
   rotate_left
   ·
    simp only [Act.put, List.setIfInBounds_toArray, List.set_cons_zero, List.set_cons_succ, i64_w, i32_w]
    rfl
   refine pure_ (i := 16) (N := some 27) (v := ?_) (a' := ?_) #[true, true, true, true, true, true, true, true, true, true, true, true, true, true, true, true, true] rfl rfl (any_of HT_.out (by kernel_rfl)) (fun _ _ _ h => h) (Or.inl ⟨by rfl, ?_⟩) ?_ ?_
   rotate_left
   ·
    intro w'
    go_simp
    with_reducible rfl
   rotate_left
   ·
    simp only [Act.put, List.setIfInBounds_toArray, List.set_cons_zero, List.set_cons_succ, i64_w, i32_w]
    rfl
   refine done_ (done_of HT_.out (by kernel_rfl)) ?_
   try go_wp2
   go_ret
   exact ax3) : P := h
set_option maxHeartbeats 8000000 in
set_option maxRecDepth 100000 in
theorem impl_samePeople.calls (k : Nat) (A0 : Option Addr) (c0 : Nat) (l0 : List (S26)) (A1 : Option Addr) (c1 : Nat) (l1 : List (S26)) (r : Bool) (w : World) (hr0 : Kd.C k26 w A0 l0.length l0) (hc0 : l0.length ≤ c0) (hr1 : Kd.C k26 w A1 l1.length l1) (hc1 : l1.length ≤ c1) (h : impl_samePeople.f k l0 l1 = some r) :
  Calls Tryd.prog 38 #[.slice A0 l0.length c0, .slice A1 l1.length c1] w fun e w' => e = .returned (.bool r) ∧ Below w.heap.size w w' := by
 have hu26 := Tryd.underlying26
 have HR0 := Aside0.mk hr0
 have HC0 := Aside0.mk hc0
 clear hr0 hc0
 have HR1 := Aside0.mk hr1
 have HC1 := Aside0.mk hc1
 clear hr1 hc1
 have HB := Aside0.mk (Below.refl w.heap.size w)
 have H : (impl_samePeople.l0 k l0 l1 (l0.length : Int) 0) = some r := h
 clear h
 have H' := Aside0.mk H
 clear H
 go_enter Tryd.func38, Tryd.ntmps38
 go_wp2
 go_loopg [8] k (fun kq v8 w' => ∃ (x8_1 : Int), v8 = .int .i64 x8_1 ∧ Aside0 (impl_samePeople.l0 kq l0 l1 (l0.length : Int) x8_1 = some r) ∧ Aside0 (kq ≤ k) ∧ Aside0 (Below w.heap.size w w'))
 case atStart => exact ⟨(0), au74, H', ⟨Nat.le_refl _⟩, ⟨by repeat (first | (with_reducible first | exact HB.out | apply below_alloc | apply pw_below_drewN | apply below_drew1) | exact HB.out)⟩⟩
 case round =>
  clear H'
  try clear c1
  try clear p2
  obtain ⟨x8_1, rfl, HA, HK1, HB⟩ := hrel
  cases gk with
  | zero => exact absurd HA.out (by simp [impl_samePeople.l0])
  | succ k1 =>
   have H := HA.out
   clear HA
   simp only [impl_samePeople.l0] at H
   by_cases c3 : x8_1 < (l0.length : Int)
   ·
    rw [if_pos c3] at H
    have c3b0 : decide (x8_1 < (l0.length : Int)) = true := decide_eq_true c3
    clear c3
    by_cases c4 : (l1.length : Int) = (l0.length : Int)
    ·
     rw [if_pos c4] at H
     have c4b0 : ((l1.length : Int) == (l0.length : Int)) = true := beq_iff_eq.mpr c4
     have c4b1 : ((l1.length : Int) != (l0.length : Int)) = false := bne_eq_false_iff_eq.mpr c4
     have c4b2 : (l1.length == l0.length) = true := by first | simpa using c4 | (simp at c4 ⊢; omega)
     clear c4
     by_cases c5 : 0 ≤ x8_1
     ·
      rw [if_pos c5] at H
      have c5b0 : decide (0 ≤ x8_1) = true := decide_eq_true c5
      clear c5
      by_cases c6 : x8_1 < (l0.length : Int)
      ·
       rw [if_pos c6] at H
       have c6b0 : decide (x8_1 < (l0.length : Int)) = true := decide_eq_true c6
       clear c6
       by_cases c7 : x8_1 < (l1.length : Int)
       ·
        rw [if_pos c7] at H
        have c7b0 : decide (x8_1 < (l1.length : Int)) = true := decide_eq_true c7
        clear c7
        replace H := Option.bind_eq_some_iff.mp H
        obtain ⟨t618, A80, H⟩ := H
        try dsimp only at H
        have A8 := Aside0.mk A80
        clear A80
        by_cases c9 : t618 = true
        ·
         subst c9
         replace H := (if_pos rfl).symm.trans H
         have H' := Aside0.mk H
         clear H
         exact impl_samePeople.L0
        ·
         replace c9 := Bool.eq_false_iff.mpr c9
         subst c9
         replace H := (if_neg (show ¬ (false = true) by decide)).symm.trans H
         obtain rfl := Option.some.inj H
         exact impl_samePeople.L0
       ·
        rw [if_neg c7] at H
        exact absurd H (by simp)
      ·
       rw [if_neg c6] at H
       exact absurd H (by simp)
     ·
      rw [if_neg c5] at H
      exact absurd H (by simp)
    ·
     rw [if_neg c4] at H
     have c4b0 : ((l1.length : Int) == (l0.length : Int)) = false := beq_eq_false_iff_ne.mpr c4
     have c4b1 : ((l1.length : Int) != (l0.length : Int)) = true := bne_iff_ne.mpr c4
     have c4b2 : (l1.length == l0.length) = false := by first | simpa using c4 | (simp at c4 ⊢; omega)
     obtain rfl := Option.some.inj H
     try go_wp2
     have n0_ := Aside0.mk (below_drew1 HB.out)
     clear HB
     have HB := n0_
     clear n0_
     refine start_ (n := 17) (S := fun w' => True) (ds := []) #[false, false, false, false, false, false, false, false, false, false, false, false, false, false, false, false, false] (by kernel_rfl) rfl rfl trivial (fun hHeld => ?_); refine with_tabW impl_samePeople.tab4 impl_samePeople.bits4 (fun HT_ HW_ => ?_)
     generalize wr.drew = w14 at HB hHeld ⊢
     refine pure_ (i := 0) (N := some 11) (v := ?_) (a' := ?_) #[true, false, false, false, false, false, false, false, false, false, false, false, false, false, false, false, false] rfl rfl (any_of HT_.out (by kernel_rfl)) (fun _ _ _ h => h) (Or.inl ⟨by rfl, ?_⟩) ?_ ?_
     rotate_left
     ·
      intro w'
      go_simp
      with_reducible rfl
     rotate_left
     ·
      simp only [Act.put, List.setIfInBounds_toArray, List.set_cons_zero, List.set_cons_succ, i64_w, i32_w]
      rfl
     refine pure_ (i := 1) (N := some 12) (v := ?_) (a' := ?_) #[true, true, false, false, false, false, false, false, false, false, false, false, false, false, false, false, false] rfl rfl (any_of HT_.out (by kernel_rfl)) (fun _ _ _ h => h) (Or.inl ⟨by rfl, ?_⟩) ?_ ?_
     rotate_left
     ·
      intro w'
      go_simp
      with_reducible rfl
     rotate_left
     ·
      simp only [Act.put, List.setIfInBounds_toArray, List.set_cons_zero, List.set_cons_succ, i64_w, i32_w]
      rfl
     refine pure_ (i := 2) (N := some 13) (v := ?_) (a' := ?_) #[true, true, true, false, false, false, false, false, false, false, false, false, false, false, false, false, false] rfl rfl (any_of HT_.out (by kernel_rfl)) (fun _ _ _ h => h) (Or.inl ⟨by rfl, ?_⟩) ?_ ?_
     rotate_left
     ·
      intro w'
      go_simp
      with_reducible rfl
     rotate_left
     ·
      simp only [Act.put, List.setIfInBounds_toArray, List.set_cons_zero, List.set_cons_succ, i64_w, i32_w]
      rfl
     refine pure_ (i := 3) (N := some 14) (v := ?_) (a' := ?_) #[true, true, true, true, false, false, false, false, false, false, false, false, false, false, false, false, false] rfl rfl (any_of HT_.out (by kernel_rfl)) (fun _ _ _ h => h) (Or.inl ⟨by rfl, ?_⟩) ?_ ?_
     rotate_left
     ·
      intro w'
      go_simp
      with_reducible rfl
     rotate_left
     ·
      simp only [Act.put, List.setIfInBounds_toArray, List.set_cons_zero, List.set_cons_succ, i64_w, i32_w]
      rfl
     refine pure_ (i := 4) (N := some 15) (v := ?_) (a' := ?_) #[true, true, true, true, true, false, false, false, false, false, false, false, false, false, false, false, false] rfl rfl (any_of HT_.out (by kernel_rfl)) (fun _ _ _ h => h) (Or.inl ⟨by rfl, ?_⟩) ?_ ?_
     rotate_left
     ·
      intro w'
      go_simp
      with_reducible rfl
     rotate_left
     ·
      simp only [Act.put, List.setIfInBounds_toArray, List.set_cons_zero, List.set_cons_succ, i64_w, i32_w]
      rfl
     refine pure_ (i := 5) (N := some 16) (v := ?_) (a' := ?_) #[true, true, true, true, true, true, false, false, false, false, false, false, false, false, false, false, false] rfl rfl (any_of HT_.out (by kernel_rfl)) (fun _ _ _ h => h) (Or.inl ⟨by rfl, ?_⟩) ?_ ?_
     rotate_left
     ·
      intro w'
      go_simp
      with_reducible rfl
     rotate_left
     ·
      simp only [Act.put, List.setIfInBounds_toArray, List.set_cons_zero, List.set_cons_succ, i64_w, i32_w]
      rfl
     refine pure_ (i := 6) (N := some 17) (v := undef) (a' := ?_) #[true, true, true, true, true, true, true, false, false, false, false, false, false, false, false, false, false] rfl rfl (any_of HT_.out (by kernel_rfl)) (fun _ _ _ h => h) (Or.inr ⟨by rfl, rfl⟩) ?_ ?_
     rotate_left
     ·
      simp only [Act.put, List.setIfInBounds_toArray, List.set_cons_zero, List.set_cons_succ, i64_w, i32_w]
      rfl
     refine pure_ (i := 7) (N := some 18) (v := undef) (a' := ?_) #[true, true, true, true, true, true, true, true, false, false, false, false, false, false, false, false, false] rfl rfl (any_of HT_.out (by kernel_rfl)) (fun _ _ _ h => h) (Or.inr ⟨by rfl, rfl⟩) ?_ ?_
     rotate_left
     ·
      simp only [Act.put, List.setIfInBounds_toArray, List.set_cons_zero, List.set_cons_succ, i64_w, i32_w]
      rfl
     refine pure_ (i := 8) (N := some 19) (v := undef) (a' := ?_) #[true, true, true, true, true, true, true, true, true, false, false, false, false, false, false, false, false] rfl rfl (any_of HT_.out (by kernel_rfl)) (fun _ _ _ h => h) (Or.inr ⟨by rfl, rfl⟩) ?_ ?_
     rotate_left
     ·
      simp only [Act.put, List.setIfInBounds_toArray, List.set_cons_zero, List.set_cons_succ, i64_w, i32_w]
      rfl
     refine pure_ (i := 9) (N := some 20) (v := undef) (a' := ?_) #[true, true, true, true, true, true, true, true, true, true, false, false, false, false, false, false, false] rfl rfl (any_of HT_.out (by kernel_rfl)) (fun _ _ _ h => h) (Or.inr ⟨by rfl, rfl⟩) ?_ ?_
     rotate_left
     ·
      simp only [Act.put, List.setIfInBounds_toArray, List.set_cons_zero, List.set_cons_succ, i64_w, i32_w]
      rfl
     refine pure_ (i := 10) (N := some 21) (v := undef) (a' := ?_) #[true, true, true, true, true, true, true, true, true, true, true, false, false, false, false, false, false] rfl rfl (any_of HT_.out (by kernel_rfl)) (fun _ _ _ h => h) (Or.inr ⟨by rfl, rfl⟩) ?_ ?_
     rotate_left
     ·
      simp only [Act.put, List.setIfInBounds_toArray, List.set_cons_zero, List.set_cons_succ, i64_w, i32_w]
      rfl
     refine pure_ (i := 11) (N := some 22) (v := undef) (a' := ?_) #[true, true, true, true, true, true, true, true, true, true, true, true, false, false, false, false, false] rfl rfl (any_of HT_.out (by kernel_rfl)) (fun _ _ _ h => h) (Or.inr ⟨by rfl, rfl⟩) ?_ ?_
     rotate_left
     ·
      simp only [Act.put, List.setIfInBounds_toArray, List.set_cons_zero, List.set_cons_succ, i64_w, i32_w]
      rfl
     refine pure_ (i := 12) (N := some 23) (v := undef) (a' := ?_) #[true, true, true, true, true, true, true, true, true, true, true, true, true, false, false, false, false] rfl rfl (any_of HT_.out (by kernel_rfl)) (fun _ _ _ h => h) (Or.inr ⟨by rfl, rfl⟩) ?_ ?_
     rotate_left
     ·
      simp only [Act.put, List.setIfInBounds_toArray, List.set_cons_zero, List.set_cons_succ, i64_w, i32_w]
      rfl
     refine pure_ (i := 13) (N := some 24) (v := undef) (a' := ?_) #[true, true, true, true, true, true, true, true, true, true, true, true, true, true, false, false, false] rfl rfl (any_of HT_.out (by kernel_rfl)) (fun _ _ _ h => h) (Or.inr ⟨by rfl, rfl⟩) ?_ ?_
     rotate_left
     ·
      simp only [Act.put, List.setIfInBounds_toArray, List.set_cons_zero, List.set_cons_succ, i64_w, i32_w]
      rfl
     refine pure_ (i := 14) (N := some 25) (v := undef) (a' := ?_) #[true, true, true, true, true, true, true, true, true, true, true, true, true, true, true, false, false] rfl rfl (any_of HT_.out (by kernel_rfl)) (fun _ _ _ h => h) (Or.inr ⟨by rfl, rfl⟩) ?_ ?_
     rotate_left
     ·
      simp only [Act.put, List.setIfInBounds_toArray, List.set_cons_zero, List.set_cons_succ, i64_w, i32_w]
      rfl
     refine pure_ (i := 15) (N := some 26) (v := undef) (a' := ?_) #[true, true, true, true, true, true, true, true, true, true, true, true, true, true, true, true, false] rfl rfl (any_of HT_.out (by kernel_rfl)) (fun _ _ _ h => h) (Or.inr ⟨by rfl, rfl⟩) ?_ ?_
     rotate_left
     ·
      simp only [Act.put, List.setIfInBounds_toArray, List.set_cons_zero, List.set_cons_succ, i64_w, i32_w]
      rfl
     refine pure_ (i := 16) (N := some 27) (v := ?_) (a' := ?_) #[true, true, true, true, true, true, true, true, true, true, true, true, true, true, true, true, true] rfl rfl (any_of HT_.out (by kernel_rfl)) (fun _ _ _ h => h) (Or.inl ⟨by rfl, ?_⟩) ?_ ?_
     rotate_left
     ·
      intro w'
      go_simp
      with_reducible rfl
     rotate_left
     ·
      simp only [Act.put, List.setIfInBounds_toArray, List.set_cons_zero, List.set_cons_succ, i64_w, i32_w]
      rfl
     refine done_ (done_of HT_.out (by kernel_rfl)) ?_
     try go_wp2
     go_ret
     exact ax3
   ·
    rw [if_neg c3] at H
    have c3b0 : decide (x8_1 < (l0.length : Int)) = false := decide_eq_false c3
    clear c3
    obtain rfl := Option.some.inj H
    go_wp2
    go_ret
    exact ax3


/-! ### impl_SamePeople: function 16 -/
def impl_SamePeople.f (k : Nat) (l0 : List (S26)) (l1 : List (S26)) : Option (Bool × Bool) := (impl_areNames.f k l0).bind fun t619 => (if t619 = true then ((impl_areNames.f k l1).bind fun t620 => (if t620 = true then ((impl_samePeople.f k l0 l1).bind fun t621 => (some (t621, true))) else (some (false, false)))) else (some (false, false)))
theorem impl_SamePeople.mono : ∀ a0 a1 k, LeO (impl_SamePeople.f k a0 a1) (impl_SamePeople.f (k + 1) a0 a1) := by
 intro a0 a1 k
 unfold impl_SamePeople.f
 repeat' first
   | (with_reducible exact impl_areNames.mono _ _)
   | (with_reducible exact impl_samePeople.mono _ _ _)
   | (with_reducible exact LeO.refl _)
   | (with_reducible exact LeO.none _)
   | (with_reducible refine LeO.ite ?_ ?_)
   | (with_reducible refine LeO.bind ?_ (fun _ => ?_))
   | exact impl_areNames.mono _ _
   | exact impl_samePeople.mono _ _ _
   | exact LeO.none _
   | refine LeO.ite ?_ ?_
   | refine LeO.bind ?_ (fun _ => ?_)
set_option maxRecDepth 100000 in
theorem impl_SamePeople.L0 {P : Prop} (h : P := by
  go_enter Tryd.func16, Tryd.ntmps16
  go_wp2_with (first | ((with_reducible refine gate_callee (f := 28) rfl ?_); refine goesL_ (some 7) rfl rfl Tryd.func28 (by kernel_rfl) rfl #[.slice A0 l0.length c0] rfl au37 ?_; (with_reducible refine (impl_areNames.calls (hG := au2) k _ _ l0 _ _ ?side1 ?side2 A3.out).mono ?_); (case side1 => repeat (first | exact HR0.out | (with_reducible refine Kd.C_alloc ?_ _) | (with_reducible refine Kd.C_drewN ?_ _) | (with_reducible refine Kd.C_drew ?_))); (case side2 => exact HC0.out); rintro e w8 ⟨rfl, hb⟩; refine ⟨_, rfl, ?_⟩; have n0_ := Aside0.mk (below_step au38 hb); clear HB; have HB := n0_; clear n0_; (try clear hb); (try clear hb2); (try clear hk); (try clear hi)) | (go_at_call 28; (with_reducible refine (impl_areNames.calls (hG := au2) k _ _ l1 _ _ ?side1 ?side2 A5.out).mono ?_); (case side1 => repeat (first | exact (Kd.C_below HR1.out HB.out) | (with_reducible refine Kd.C_alloc ?_ _) | (with_reducible refine Kd.C_drewN ?_ _) | (with_reducible refine Kd.C_drew ?_))); (case side2 => exact HC1.out); rintro e w9 ⟨rfl, hb⟩; have n0_ := Aside0.mk (below_step au38 hb); clear HB; have HB := n0_; clear n0_; (try clear hb); (try clear hb2); (try clear hk); (try clear hi)) | ((with_reducible refine gate_callee (f := 38) rfl ?_); refine goesL_ (some 16) rfl rfl Tryd.func38 (by kernel_rfl) rfl #[.slice A0 l0.length c0, .slice A1 l1.length c1] rfl au37 ?_; (with_reducible refine (impl_samePeople.calls k _ _ l0 _ _ l1 t621 _ ?side1 ?side2 ?side3 ?side4 A7.out).mono ?_); (case side1 => repeat (first | exact (Kd.C_below HR0.out HB.out) | (with_reducible refine Kd.C_alloc ?_ _) | (with_reducible refine Kd.C_drewN ?_ _) | (with_reducible refine Kd.C_drew ?_))); (case side2 => exact HC0.out); (case side3 => repeat (first | exact (Kd.C_below HR1.out HB.out) | (with_reducible refine Kd.C_alloc ?_ _) | (with_reducible refine Kd.C_drewN ?_ _) | (with_reducible refine Kd.C_drew ?_))); (case side4 => exact HC1.out); rintro e w10 ⟨rfl, hb⟩; refine ⟨_, rfl, ?_⟩; have n0_ := Aside0.mk (below_step au38 hb); clear HB; have HB := n0_; clear n0_; (try clear hb); (try clear hb2); (try clear hk); (try clear hi)))
  go_ret2
  exact ax3) : P := h
set_option maxHeartbeats 8000000 in
set_option maxRecDepth 100000 in
theorem impl_SamePeople.calls (k : Nat) (A0 : Option Addr) (c0 : Nat) (l0 : List (S26)) (A1 : Option Addr) (c1 : Nat) (l1 : List (S26)) (r1 : Bool) (r2 : Bool) (w : World) {gF1 gF2 gF3 : Bool} (hG : GL gF1 gF2 gF3 w) (hr0 : Kd.C k26 w A0 l0.length l0) (hc0 : l0.length ≤ c0) (hr1 : Kd.C k26 w A1 l1.length l1) (hc1 : l1.length ≤ c1) (h : impl_SamePeople.f k l0 l1 = some (r1, r2)) :
  Calls Tryd.prog 16 #[.slice A0 l0.length c0, .slice A1 l1.length c1] w fun e w' => e = .returned (.tuple #[.bool r1, .bool r2]) ∧ Below w.heap.size w w' := by
 have HG := Aside0.mk hG
 clear hG
 have HR0 := Aside0.mk hr0
 have HC0 := Aside0.mk hc0
 clear hr0 hc0
 have HR1 := Aside0.mk hr1
 have HC1 := Aside0.mk hc1
 clear hr1 hc1
 have HB := Aside0.mk (Below.refl w.heap.size w)
 have H : ((impl_areNames.f k l0).bind fun t619 => (if t619 = true then ((impl_areNames.f k l1).bind fun t620 => (if t620 = true then ((impl_samePeople.f k l0 l1).bind fun t621 => (some (t621, true))) else (some (false, false)))) else (some (false, false)))) = some (r1, r2) := h
 clear h
 replace H := Option.bind_eq_some_iff.mp H
 obtain ⟨t619, A30, H⟩ := H
 try dsimp only at H
 have A3 := Aside0.mk A30
 clear A30
 by_cases c4 : t619 = true
 ·
  subst c4
  replace H := (if_pos rfl).symm.trans H
  replace H := Option.bind_eq_some_iff.mp H
  obtain ⟨t620, A50, H⟩ := H
  try dsimp only at H
  have A5 := Aside0.mk A50
  clear A50
  by_cases c6 : t620 = true
  ·
   subst c6
   replace H := (if_pos rfl).symm.trans H
   replace H := Option.bind_eq_some_iff.mp H
   obtain ⟨t621, A70, H⟩ := H
   try dsimp only at H
   have A7 := Aside0.mk A70
   clear A70
   simp only [Option.some.injEq, Prod.mk.injEq] at H
   obtain ⟨rfl, rfl⟩ := H
   exact impl_SamePeople.L0
  ·
   replace c6 := Bool.eq_false_iff.mpr c6
   subst c6
   replace H := (if_neg (show ¬ (false = true) by decide)).symm.trans H
   simp only [Option.some.injEq, Prod.mk.injEq] at H
   obtain ⟨rfl, rfl⟩ := H
   exact impl_SamePeople.L0
 ·
  replace c4 := Bool.eq_false_iff.mpr c4
  subst c4
  replace H := (if_neg (show ¬ (false = true) by decide)).symm.trans H
  simp only [Option.some.injEq, Prod.mk.injEq] at H
  obtain ⟨rfl, rfl⟩ := H
  exact impl_SamePeople.L0


/-! ### spec_l2Fits: function 59 -/
def spec_l2Fits.f (a0 : ByteArray) (a1 : ByteArray) : Option (Bool) := if a0.toList = a1.toList then (some true) else (if (a0.size : Int) = 1 then (if 0 < (a0.size : Int) then (if 0 < (a1.size : Int) then (if (bt a0 0) = (bt a1 0) then (some true) else (if (a1.size : Int) = 1 then (some ((bt a0 0) == (bt a1 0))) else (some false))) else (none)) else (none)) else (if (a1.size : Int) = 1 then (if 0 < (a0.size : Int) then (if 0 < (a1.size : Int) then (some ((bt a0 0) == (bt a1 0))) else (none)) else (none)) else (some false)))
set_option maxHeartbeats 8000000 in
set_option maxRecDepth 100000 in
theorem spec_l2Fits.calls (a0 : ByteArray) (a1 : ByteArray) (r : Bool) (w : World) (h : spec_l2Fits.f a0 a1 = some r) :
  Calls Tryd.prog 59 #[.string a0, .string a1] w fun e w' => e = .returned (.bool r) ∧ Drawn0 w w' := by
 have H : (if a0.toList = a1.toList then (some true) else (if (a0.size : Int) = 1 then (if 0 < (a0.size : Int) then (if 0 < (a1.size : Int) then (if (bt a0 0) = (bt a1 0) then (some true) else (if (a1.size : Int) = 1 then (some ((bt a0 0) == (bt a1 0))) else (some false))) else (none)) else (none)) else (if (a1.size : Int) = 1 then (if 0 < (a0.size : Int) then (if 0 < (a1.size : Int) then (some ((bt a0 0) == (bt a1 0))) else (none)) else (none)) else (some false)))) = some r := h
 clear h
 by_cases c3 : a0.toList = a1.toList
 ·
  rw [if_pos c3] at H
  have c3b0 : (a0.toList == a1.toList) = true := beq_iff_eq.mpr c3
  have c3b1 : (a0.toList != a1.toList) = false := bne_eq_false_iff_eq.mpr c3
  clear c3
  obtain rfl := Option.some.inj H
  go_enter Tryd.func59, Tryd.ntmps59
  go_wp2
  repeat (go_quiet (fail); try go_wp2)
  go_ret
  exact ax1
 ·
  rw [if_neg c3] at H
  have c3b0 : (a0.toList == a1.toList) = false := beq_eq_false_iff_ne.mpr c3
  have c3b1 : (a0.toList != a1.toList) = true := bne_iff_ne.mpr c3
  by_cases c4 : (a0.size : Int) = 1
  ·
   rw [if_pos c4] at H
   have c4b0 : ((a0.size : Int) == 1) = true := beq_iff_eq.mpr c4
   have c4b1 : ((a0.size : Int) != 1) = false := bne_eq_false_iff_eq.mpr c4
   clear c4
   by_cases c5 : 0 < (a0.size : Int)
   ·
    rw [if_pos c5] at H
    have c5b0 : decide (0 < (a0.size : Int)) = true := decide_eq_true c5
    have c5b1 : decide (0 < a0.size) = true := decide_eq_true (by omega)
    clear c5
    by_cases c7 : 0 < (a1.size : Int)
    ·
     rw [if_pos c7] at H
     have c7b0 : decide (0 < (a1.size : Int)) = true := decide_eq_true c7
     have c7b1 : decide (0 < a1.size) = true := decide_eq_true (by omega)
     clear c7
     by_cases c9 : (bt a0 0) = (bt a1 0)
     ·
      rw [if_pos c9] at H
      have c9b0 : ((bt a0 0) == (bt a1 0)) = true := beq_iff_eq.mpr c9
      have c9b1 : ((bt a0 0) != (bt a1 0)) = false := bne_eq_false_iff_eq.mpr c9
      clear c9
      obtain rfl := Option.some.inj H
      have p6 : 0 ≤ (0 : Int) := (by omega)
      have q6 : 0 < a0.size := (by have : (0 : Int) < (a0.size : Int) := of_decide_eq_true au73; omega)
      have hx6 : ∀ h : 0 < a0.size, ((a0[0]'h).toNat : Int) = bt a0 0 := bt_at a0 0
      clear p6
      have qi6 : (0 < (a0.size : Int)) = True := eq_true (of_decide_eq_true au73)
      replace q6 := eq_true q6
      have p8 : 0 ≤ (0 : Int) := (by omega)
      have q8 : 0 < a1.size := (by have : (0 : Int) < (a1.size : Int) := of_decide_eq_true au73; omega)
      have hx8 : ∀ h : 0 < a1.size, ((a1[0]'h).toNat : Int) = bt a1 0 := bt_at a1 0
      clear p8
      have qi8 : (0 < (a1.size : Int)) = True := eq_true (of_decide_eq_true au73)
      replace q8 := eq_true q8
      go_enter Tryd.func59, Tryd.ntmps59
      go_wp2
      repeat (go_quiet (fail); try go_wp2)
      go_ret
      exact ax1
     ·
      rw [if_neg c9] at H
      have c9b0 : ((bt a0 0) == (bt a1 0)) = false := beq_eq_false_iff_ne.mpr c9
      have c9b1 : ((bt a0 0) != (bt a1 0)) = true := bne_iff_ne.mpr c9
      by_cases c10 : (a1.size : Int) = 1
      ·
       rw [if_pos c10] at H
       have c10b0 : ((a1.size : Int) == 1) = true := beq_iff_eq.mpr c10
       have c10b1 : ((a1.size : Int) != 1) = false := bne_eq_false_iff_eq.mpr c10
       clear c10
       obtain rfl := Option.some.inj H
       have p6 : 0 ≤ (0 : Int) := (by omega)
       have q6 : 0 < a0.size := (by have : (0 : Int) < (a0.size : Int) := of_decide_eq_true au73; omega)
       have hx6 : ∀ h : 0 < a0.size, ((a0[0]'h).toNat : Int) = bt a0 0 := bt_at a0 0
       clear p6
       have qi6 : (0 < (a0.size : Int)) = True := eq_true (of_decide_eq_true au73)
       replace q6 := eq_true q6
       have p8 : 0 ≤ (0 : Int) := (by omega)
       have q8 : 0 < a1.size := (by have : (0 : Int) < (a1.size : Int) := of_decide_eq_true au73; omega)
       have hx8 : ∀ h : 0 < a1.size, ((a1[0]'h).toNat : Int) = bt a1 0 := bt_at a1 0
       clear p8
       have qi8 : (0 < (a1.size : Int)) = True := eq_true (of_decide_eq_true au73)
       replace q8 := eq_true q8
       have p11 : 0 ≤ (0 : Int) := (by omega)
       have q11 : 0 < a0.size := (by have : (0 : Int) < (a0.size : Int) := of_decide_eq_true au73; omega)
       have hx11 : ∀ h : 0 < a0.size, ((a0[0]'h).toNat : Int) = bt a0 0 := bt_at a0 0
       clear p11
       have qi11 : (0 < (a0.size : Int)) = True := eq_true (of_decide_eq_true au73)
       replace q11 := eq_true q11
       have p12 : 0 ≤ (0 : Int) := (by omega)
       have q12 : 0 < a1.size := (by have : (0 : Int) < (a1.size : Int) := of_decide_eq_true au73; omega)
       have hx12 : ∀ h : 0 < a1.size, ((a1[0]'h).toNat : Int) = bt a1 0 := bt_at a1 0
       clear p12
       have qi12 : (0 < (a1.size : Int)) = True := eq_true (of_decide_eq_true au73)
       replace q12 := eq_true q12
       go_enter Tryd.func59, Tryd.ntmps59
       go_wp2
       repeat (go_quiet (fail); try go_wp2)
       go_ret
       exact ax1
      ·
       rw [if_neg c10] at H
       have c10b0 : ((a1.size : Int) == 1) = false := beq_eq_false_iff_ne.mpr c10
       have c10b1 : ((a1.size : Int) != 1) = true := bne_iff_ne.mpr c10
       obtain rfl := Option.some.inj H
       have p6 : 0 ≤ (0 : Int) := (by omega)
       have q6 : 0 < a0.size := (by have : (0 : Int) < (a0.size : Int) := of_decide_eq_true au73; omega)
       have hx6 : ∀ h : 0 < a0.size, ((a0[0]'h).toNat : Int) = bt a0 0 := bt_at a0 0
       clear p6
       have qi6 : (0 < (a0.size : Int)) = True := eq_true (of_decide_eq_true au73)
       replace q6 := eq_true q6
       have p8 : 0 ≤ (0 : Int) := (by omega)
       have q8 : 0 < a1.size := (by have : (0 : Int) < (a1.size : Int) := of_decide_eq_true au73; omega)
       have hx8 : ∀ h : 0 < a1.size, ((a1[0]'h).toNat : Int) = bt a1 0 := bt_at a1 0
       clear p8
       have qi8 : (0 < (a1.size : Int)) = True := eq_true (of_decide_eq_true au73)
       replace q8 := eq_true q8
       go_enter Tryd.func59, Tryd.ntmps59
       go_wp2
       repeat (go_quiet (fail); try go_wp2)
       go_ret
       exact ax1
    ·
     rw [if_neg c7] at H
     exact absurd H (by simp)
   ·
    rw [if_neg c5] at H
    exact absurd H (by simp)
  ·
   rw [if_neg c4] at H
   have c4b0 : ((a0.size : Int) == 1) = false := beq_eq_false_iff_ne.mpr c4
   have c4b1 : ((a0.size : Int) != 1) = true := bne_iff_ne.mpr c4
   by_cases c13 : (a1.size : Int) = 1
   ·
    rw [if_pos c13] at H
    have c13b0 : ((a1.size : Int) == 1) = true := beq_iff_eq.mpr c13
    have c13b1 : ((a1.size : Int) != 1) = false := bne_eq_false_iff_eq.mpr c13
    clear c13
    by_cases c14 : 0 < (a0.size : Int)
    ·
     rw [if_pos c14] at H
     have c14b0 : decide (0 < (a0.size : Int)) = true := decide_eq_true c14
     have c14b1 : decide (0 < a0.size) = true := decide_eq_true (by omega)
     clear c14
     by_cases c16 : 0 < (a1.size : Int)
     ·
      rw [if_pos c16] at H
      have c16b0 : decide (0 < (a1.size : Int)) = true := decide_eq_true c16
      have c16b1 : decide (0 < a1.size) = true := decide_eq_true (by omega)
      clear c16
      obtain rfl := Option.some.inj H
      have p15 : 0 ≤ (0 : Int) := (by omega)
      have q15 : 0 < a0.size := (by have : (0 : Int) < (a0.size : Int) := of_decide_eq_true au73; omega)
      have hx15 : ∀ h : 0 < a0.size, ((a0[0]'h).toNat : Int) = bt a0 0 := bt_at a0 0
      clear p15
      have qi15 : (0 < (a0.size : Int)) = True := eq_true (of_decide_eq_true au73)
      replace q15 := eq_true q15
      have p17 : 0 ≤ (0 : Int) := (by omega)
      have q17 : 0 < a1.size := (by have : (0 : Int) < (a1.size : Int) := of_decide_eq_true au73; omega)
      have hx17 : ∀ h : 0 < a1.size, ((a1[0]'h).toNat : Int) = bt a1 0 := bt_at a1 0
      clear p17
      have qi17 : (0 < (a1.size : Int)) = True := eq_true (of_decide_eq_true au73)
      replace q17 := eq_true q17
      go_enter Tryd.func59, Tryd.ntmps59
      go_wp2
      repeat (go_quiet (fail); try go_wp2)
      go_ret
      exact ax1
     ·
      rw [if_neg c16] at H
      exact absurd H (by simp)
    ·
     rw [if_neg c14] at H
     exact absurd H (by simp)
   ·
    rw [if_neg c13] at H
    have c13b0 : ((a1.size : Int) == 1) = false := beq_eq_false_iff_ne.mpr c13
    have c13b1 : ((a1.size : Int) != 1) = true := bne_iff_ne.mpr c13
    obtain rfl := Option.some.inj H
    go_enter Tryd.func59, Tryd.ntmps59
    go_wp2
    repeat (go_quiet (fail); try go_wp2)
    go_ret
    exact ax1


/-! ### spec_l2May: function 24 -/
mutual
def spec_l2May.l0 : Nat → Int → List ByteArray → ByteArray → ByteArray → ByteArray → List ByteArray → ByteArray → ByteArray → ByteArray → Option (Bool)
 | 0, _, _, _, _, _, _, _, _, _ => none
 | k + 1, x5, x387000, x387001, x387002, x387003, x388000, x388001, x388002, x388003 => if x5 < (x387000.length : Int) then (spec_l2May.j1 k x5 (decide (x5 < (x388000.length : Int))) x387000 x387001 x387002 x387003 x388000 x388001 x388002 x388003) else (spec_l2May.j1 k x5 false x387000 x387001 x387002 x387003 x388000 x388001 x388002 x388003)
def spec_l2May.j1 : Nat → Int → Bool → List ByteArray → ByteArray → ByteArray → ByteArray → List ByteArray → ByteArray → ByteArray → ByteArray → Option (Bool)
 | 0, _, _, _, _, _, _, _, _, _, _ => none
 | k + 1, x5, x17, x387000, x387001, x387002, x387003, x388000, x388001, x388002, x388003 => if x17 = true then (if 0 ≤ x5 then (if x5 < (x387000.length : Int) then (if x5 < (x388000.length : Int) then ((spec_l2Fits.f (rdOf ByteArray.empty x387000 x5) (rdOf ByteArray.empty x388000 x5)).bind fun t390 => (if t390 = true then (spec_l2May.l0 k (wrap64 (x5 + 1)) x387000 x387001 x387002 x387003 x388000 x388001 x388002 x388003) else (some false))) else (none)) else (none)) else (none)) else (if x387001.toList = x388001.toList then (if x387002.toList = x388002.toList then (some (x387003.toList == x388003.toList)) else (some false)) else (some false))
end
def spec_l2May.f (k : Nat) (l0_0 : List ByteArray) (a0_1 : ByteArray) (a0_2 : ByteArray) (a0_3 : ByteArray) (l1_0 : List ByteArray) (a1_1 : ByteArray) (a1_2 : ByteArray) (a1_3 : ByteArray) : Option (Bool) := spec_l2May.l0 k 0 l0_0 a0_1 a0_2 a0_3 l1_0 a1_1 a1_2 a1_3
theorem spec_l2May.mono_l : ∀ k, (∀ y0 y1 y2 y3 y4 y5 y6 y7 y8, LeO (spec_l2May.l0 k y0 y1 y2 y3 y4 y5 y6 y7 y8) (spec_l2May.l0 (k + 1) y0 y1 y2 y3 y4 y5 y6 y7 y8)) ∧ (∀ y0 y1 y2 y3 y4 y5 y6 y7 y8 y9, LeO (spec_l2May.j1 k y0 y1 y2 y3 y4 y5 y6 y7 y8 y9) (spec_l2May.j1 (k + 1) y0 y1 y2 y3 y4 y5 y6 y7 y8 y9))
 | 0 => ⟨fun _ _ _ _ _ _ _ _ _ r h => by simp [spec_l2May.l0] at h, fun _ _ _ _ _ _ _ _ _ _ r h => by simp [spec_l2May.j1] at h⟩
 | k + 1 => by
  obtain ⟨ih0, ih1⟩ := spec_l2May.mono_l k
  refine ⟨?_, ?_⟩
  ·
   intro y0 y1 y2 y3 y4 y5 y6 y7 y8
   unfold spec_l2May.l0
   repeat' first
   | (with_reducible exact ih0 _ _ _ _ _ _ _ _ _)
   | (with_reducible exact ih1 _ _ _ _ _ _ _ _ _ _)
   | (with_reducible exact LeO.refl _)
   | (with_reducible exact LeO.none _)
   | (with_reducible refine LeO.ite ?_ ?_)
   | (with_reducible refine LeO.bind ?_ (fun _ => ?_))
   | exact ih0 _ _ _ _ _ _ _ _ _
   | exact ih1 _ _ _ _ _ _ _ _ _ _
   | exact LeO.none _
   | refine LeO.ite ?_ ?_
   | refine LeO.bind ?_ (fun _ => ?_)
  ·
   intro y0 y1 y2 y3 y4 y5 y6 y7 y8 y9
   unfold spec_l2May.j1
   repeat' first
   | (with_reducible exact ih0 _ _ _ _ _ _ _ _ _)
   | (with_reducible exact ih1 _ _ _ _ _ _ _ _ _ _)
   | (with_reducible exact LeO.refl _)
   | (with_reducible exact LeO.none _)
   | (with_reducible refine LeO.ite ?_ ?_)
   | (with_reducible refine LeO.bind ?_ (fun _ => ?_))
   | exact ih0 _ _ _ _ _ _ _ _ _
   | exact ih1 _ _ _ _ _ _ _ _ _ _
   | exact LeO.none _
   | refine LeO.ite ?_ ?_
   | refine LeO.bind ?_ (fun _ => ?_)
theorem spec_l2May.mono : ∀ a0 a1 a2 a3 a4 a5 a6 a7 k, LeO (spec_l2May.f k a0 a1 a2 a3 a4 a5 a6 a7) (spec_l2May.f (k + 1) a0 a1 a2 a3 a4 a5 a6 a7) := by
 intro a0 a1 a2 a3 a4 a5 a6 a7 k
 obtain ⟨ih0, ih1⟩ := spec_l2May.mono_l k
 unfold spec_l2May.f
 repeat' first
   | (with_reducible exact ih0 _ _ _ _ _ _ _ _ _)
   | (with_reducible exact ih1 _ _ _ _ _ _ _ _ _ _)
   | (with_reducible exact LeO.refl _)
   | (with_reducible exact LeO.none _)
   | (with_reducible refine LeO.ite ?_ ?_)
   | (with_reducible refine LeO.bind ?_ (fun _ => ?_))
   | exact ih0 _ _ _ _ _ _ _ _ _
   | exact ih1 _ _ _ _ _ _ _ _ _ _
   | exact LeO.none _
   | refine LeO.ite ?_ ?_
   | refine LeO.bind ?_ (fun _ => ?_)
set_option maxRecDepth 100000 in
theorem spec_l2May.L0 {P : Prop} (h : P := by
  have hnb26 := NB386_387.out
  have hnc26 := NB387_386.out
  have hcz27_0 : wc.cell? ⟨gb386, 0, none⟩ = some (.slice A0_0 l0_0.length c0_0) := (blk_cell BK386.out 0).trans rfl
  have hcz27_1 : wc.cell? ⟨gb386, 1, none⟩ = some (.string a0_1) := (blk_cell BK386.out 1).trans rfl
  have hcz27_2 : wc.cell? ⟨gb386, 2, none⟩ = some (.string a0_2) := (blk_cell BK386.out 2).trans rfl
  have hcz27_3 : wc.cell? ⟨gb386, 3, none⟩ = some (.string a0_3) := (blk_cell BK386.out 3).trans rfl
  have hfz27_0 := blk_frozen BK386.out 0
  have hfz27_1 := blk_frozen BK386.out 1
  have hfz27_2 := blk_frozen BK386.out 2
  have hfz27_3 := blk_frozen BK386.out 3
  have hcz28_0 : wc.cell? ⟨gb387, 0, none⟩ = some (.slice A1_0 l1_0.length c1_0) := (blk_cell BK387.out 0).trans rfl
  have hcz28_1 : wc.cell? ⟨gb387, 1, none⟩ = some (.string a1_1) := (blk_cell BK387.out 1).trans rfl
  have hcz28_2 : wc.cell? ⟨gb387, 2, none⟩ = some (.string a1_2) := (blk_cell BK387.out 2).trans rfl
  have hcz28_3 : wc.cell? ⟨gb387, 3, none⟩ = some (.string a1_3) := (blk_cell BK387.out 3).trans rfl
  have hfz28_0 := blk_frozen BK387.out 0
  have hfz28_1 := blk_frozen BK387.out 1
  have hfz28_2 := blk_frozen BK387.out 2
  have hfz28_3 := blk_frozen BK387.out 3
  go_wp2
  repeat (go_quiet (fail); try go_wp2)
  go_ret
  exact ⟨by first | rfl | (simp [errW_none, errW_some] <;> rfl) | (simp [*, errW_none, errW_some] <;> rfl), by repeat (first | (with_reducible first | exact HB.out | apply below_alloc | apply pw_below_drewN | apply below_drew1 | refine below_set ?_ GE386.out | refine below_set ?_ GE387.out) | exact HB.out)⟩) : P := h
set_option maxHeartbeats 8000000 in
set_option maxRecDepth 100000 in
theorem spec_l2May.calls (k : Nat) (A0_0 : Option Addr) (c0_0 : Nat) (l0_0 : List ByteArray) (a0_1 : ByteArray) (a0_2 : ByteArray) (a0_3 : ByteArray) (A1_0 : Option Addr) (c1_0 : Nat) (l1_0 : List ByteArray) (a1_1 : ByteArray) (a1_2 : ByteArray) (a1_3 : ByteArray) (r : Bool) (w : World) (hr0_0 : Kd.C Kd.string w A0_0 l0_0.length l0_0) (hc0_0 : l0_0.length ≤ c0_0) (hr1_0 : Kd.C Kd.string w A1_0 l1_0.length l1_0) (hc1_0 : l1_0.length ≤ c1_0) (h : spec_l2May.f k l0_0 a0_1 a0_2 a0_3 l1_0 a1_1 a1_2 a1_3 = some r) :
  Calls Tryd.prog 24 #[.agg #[.slice A0_0 l0_0.length c0_0, .string a0_1, .string a0_2, .string a0_3], .agg #[.slice A1_0 l1_0.length c1_0, .string a1_1, .string a1_2, .string a1_3]] w fun e w' => e = .returned (.bool r) ∧ Below w.heap.size w w' := by
 have hu26 := Tryd.underlying26
 have HR0_0 := Aside0.mk hr0_0
 have HC0_0 := Aside0.mk hc0_0
 clear hr0_0 hc0_0
 have HR1_0 := Aside0.mk hr1_0
 have HC1_0 := Aside0.mk hc1_0
 clear hr1_0 hc1_0
 have HB := Aside0.mk (Below.refl w.heap.size w)
 have H : (spec_l2May.l0 k 0 l0_0 a0_1 a0_2 a0_3 l1_0 a1_1 a1_2 a1_3) = some r := h
 clear h
 have H' := Aside0.mk H
 clear H
 go_enter Tryd.func24, Tryd.ntmps24
 go_wp2_with (first | ((with_reducible refine gate_dst (N := 2) rfl ?_); (try (refine gate_guard (by rfl) ?_; dsimp only)); refine box_event ?hg (N := 2) ?hd (cs := #[.slice A0_0 l0_0.length c0_0, .string a0_1, .string a0_2, .string a0_3]) (t := 26) ?hr ?_; (case hd => rfl); (case hg => rfl); (case hr => first | (go_simp; done) | (go_simp; rfl)); intro gb386 hg w3 hbox hb; have n0_ := Aside0.mk (below_step au38 hb); have n1_ := Aside0.mk (hbox); have n2_ := Aside0.mk ((by rw [hg]; exact (below_size au38) : w.heap.size ≤ gb386)); have n3_ := Aside0.mk ((by rw [hg]; exact (below_size au38) : w.heap.size ≤ gb386)); clear HB; have HB := n0_; have BK386 := n1_; have GW386 := n2_; have GE386 := n3_; clear n0_ n1_ n2_ n3_; clear hb hbox hg) | ((with_reducible refine gate_dst (N := 3) rfl ?_); (try (refine gate_guard (by rfl) ?_; dsimp only)); refine box_event ?hg (N := 3) ?hd (cs := #[.slice A1_0 l1_0.length c1_0, .string a1_1, .string a1_2, .string a1_3]) (t := 26) ?hr ?_; (case hd => rfl); (case hg => rfl); (case hr => first | (go_simp; done) | (go_simp; rfl)); intro gb387 hg w4 hbox hb; have n0_ := Aside0.mk (blk_below (g := gb386) (o := .cells #[.slice A0_0 l0_0.length c0_0, .string a0_1, .string a0_2, .string a0_3] 26 (0, 0)) au52 hb); have n1_ := Aside0.mk (below_step au32 hb); have n2_ := Aside0.mk (hbox); have n3_ := Aside0.mk ((by rw [hg]; exact (below_size au32) : w.heap.size ≤ gb387)); have n4_ := Aside0.mk ((by rw [hg]; exact (below_size au32) : w.heap.size ≤ gb387)); have n5_ := Aside0.mk ((by rw [hg]; exact Nat.ne_of_lt (blk_lt (g := gb386) (o := .cells #[.slice A0_0 l0_0.length c0_0, .string a0_1, .string a0_2, .string a0_3] 26 (0, 0)) au52) : gb386 ≠ gb387)); have n6_ := Aside0.mk ((by rw [hg]; exact Nat.ne_of_gt (blk_lt (g := gb386) (o := .cells #[.slice A0_0 l0_0.length c0_0, .string a0_1, .string a0_2, .string a0_3] 26 (0, 0)) au52) : gb387 ≠ gb386)); clear BK386; clear HB; have BK386 := n0_; have HB := n1_; have BK387 := n2_; have GW387 := n3_; have GE387 := n4_; have NB386_387 := n5_; have NB387_386 := n6_; clear n0_ n1_ n2_ n3_ n4_ n5_ n6_; clear hb hbox hg))
 repeat (go_quiet (first | ((with_reducible refine gate_dst (N := 2) rfl ?_); (try (refine gate_guard (by rfl) ?_; dsimp only)); refine box_event ?hg (N := 2) ?hd (cs := #[.slice A0_0 l0_0.length c0_0, .string a0_1, .string a0_2, .string a0_3]) (t := 26) ?hr ?_; (case hd => rfl); (case hg => rfl); (case hr => first | (go_simp; done) | (go_simp; rfl)); intro gb386 hg w3 hbox hb; have n0_ := Aside0.mk (below_step au38 hb); have n1_ := Aside0.mk (hbox); have n2_ := Aside0.mk ((by rw [hg]; exact (below_size au38) : w.heap.size ≤ gb386)); have n3_ := Aside0.mk ((by rw [hg]; exact (below_size au38) : w.heap.size ≤ gb386)); clear HB; have HB := n0_; have BK386 := n1_; have GW386 := n2_; have GE386 := n3_; clear n0_ n1_ n2_ n3_; clear hb hbox hg) | ((with_reducible refine gate_dst (N := 3) rfl ?_); (try (refine gate_guard (by rfl) ?_; dsimp only)); refine box_event ?hg (N := 3) ?hd (cs := #[.slice A1_0 l1_0.length c1_0, .string a1_1, .string a1_2, .string a1_3]) (t := 26) ?hr ?_; (case hd => rfl); (case hg => rfl); (case hr => first | (go_simp; done) | (go_simp; rfl)); intro gb387 hg w4 hbox hb; have n0_ := Aside0.mk (blk_below (g := gb386) (o := .cells #[.slice A0_0 l0_0.length c0_0, .string a0_1, .string a0_2, .string a0_3] 26 (0, 0)) au52 hb); have n1_ := Aside0.mk (below_step au32 hb); have n2_ := Aside0.mk (hbox); have n3_ := Aside0.mk ((by rw [hg]; exact (below_size au32) : w.heap.size ≤ gb387)); have n4_ := Aside0.mk ((by rw [hg]; exact (below_size au32) : w.heap.size ≤ gb387)); have n5_ := Aside0.mk ((by rw [hg]; exact Nat.ne_of_lt (blk_lt (g := gb386) (o := .cells #[.slice A0_0 l0_0.length c0_0, .string a0_1, .string a0_2, .string a0_3] 26 (0, 0)) au52) : gb386 ≠ gb387)); have n6_ := Aside0.mk ((by rw [hg]; exact Nat.ne_of_gt (blk_lt (g := gb386) (o := .cells #[.slice A0_0 l0_0.length c0_0, .string a0_1, .string a0_2, .string a0_3] 26 (0, 0)) au52) : gb387 ≠ gb386)); clear BK386; clear HB; have BK386 := n0_; have HB := n1_; have BK387 := n2_; have GW387 := n3_; have GE387 := n4_; have NB386_387 := n5_; have NB387_386 := n6_; clear n0_ n1_ n2_ n3_ n4_ n5_ n6_; clear hb hbox hg)); try go_wp2_with (first | ((with_reducible refine gate_dst (N := 2) rfl ?_); (try (refine gate_guard (by rfl) ?_; dsimp only)); refine box_event ?hg (N := 2) ?hd (cs := #[.slice A0_0 l0_0.length c0_0, .string a0_1, .string a0_2, .string a0_3]) (t := 26) ?hr ?_; (case hd => rfl); (case hg => rfl); (case hr => first | (go_simp; done) | (go_simp; rfl)); intro gb386 hg w3 hbox hb; have n0_ := Aside0.mk (below_step au38 hb); have n1_ := Aside0.mk (hbox); have n2_ := Aside0.mk ((by rw [hg]; exact (below_size au38) : w.heap.size ≤ gb386)); have n3_ := Aside0.mk ((by rw [hg]; exact (below_size au38) : w.heap.size ≤ gb386)); clear HB; have HB := n0_; have BK386 := n1_; have GW386 := n2_; have GE386 := n3_; clear n0_ n1_ n2_ n3_; clear hb hbox hg) | ((with_reducible refine gate_dst (N := 3) rfl ?_); (try (refine gate_guard (by rfl) ?_; dsimp only)); refine box_event ?hg (N := 3) ?hd (cs := #[.slice A1_0 l1_0.length c1_0, .string a1_1, .string a1_2, .string a1_3]) (t := 26) ?hr ?_; (case hd => rfl); (case hg => rfl); (case hr => first | (go_simp; done) | (go_simp; rfl)); intro gb387 hg w4 hbox hb; have n0_ := Aside0.mk (blk_below (g := gb386) (o := .cells #[.slice A0_0 l0_0.length c0_0, .string a0_1, .string a0_2, .string a0_3] 26 (0, 0)) au52 hb); have n1_ := Aside0.mk (below_step au32 hb); have n2_ := Aside0.mk (hbox); have n3_ := Aside0.mk ((by rw [hg]; exact (below_size au32) : w.heap.size ≤ gb387)); have n4_ := Aside0.mk ((by rw [hg]; exact (below_size au32) : w.heap.size ≤ gb387)); have n5_ := Aside0.mk ((by rw [hg]; exact Nat.ne_of_lt (blk_lt (g := gb386) (o := .cells #[.slice A0_0 l0_0.length c0_0, .string a0_1, .string a0_2, .string a0_3] 26 (0, 0)) au52) : gb386 ≠ gb387)); have n6_ := Aside0.mk ((by rw [hg]; exact Nat.ne_of_gt (blk_lt (g := gb386) (o := .cells #[.slice A0_0 l0_0.length c0_0, .string a0_1, .string a0_2, .string a0_3] 26 (0, 0)) au52) : gb387 ≠ gb386)); clear BK386; clear HB; have BK386 := n0_; have HB := n1_; have BK387 := n2_; have GW387 := n3_; have GE387 := n4_; have NB386_387 := n5_; have NB387_386 := n6_; clear n0_ n1_ n2_ n3_ n4_ n5_ n6_; clear hb hbox hg)))
 go_loopg [5] k (fun kq v5 w' => ∃ (x5_1 : Int), v5 = .int .i64 x5_1 ∧ Aside0 (spec_l2May.l0 kq x5_1 l0_0 a0_1 a0_2 a0_3 l1_0 a1_1 a1_2 a1_3 = some r) ∧ Aside0 (kq ≤ k) ∧ Aside0 (w'.heap[gb386]? = some (.cells #[(.slice A0_0 l0_0.length c0_0), .string a0_1, .string a0_2, .string a0_3] 26 (0, 0))) ∧ Aside0 (w'.heap[gb387]? = some (.cells #[(.slice A1_0 l1_0.length c1_0), .string a1_1, .string a1_2, .string a1_3] 26 (0, 0))) ∧ Aside0 (Below w.heap.size w w'))
 case atStart => exact ⟨(0), au74, H', ⟨Nat.le_refl _⟩, ⟨by (with_reducible repeat (first | refine blk_drewN ?_ _ | refine blk_drew ?_ | refine blk_alloc ?_ _)); exact BK386.out⟩, ⟨by (with_reducible repeat (first | refine blk_drewN ?_ _ | refine blk_drew ?_ | refine blk_alloc ?_ _)); exact BK387.out⟩, ⟨by repeat (first | (with_reducible first | exact HB.out | apply below_alloc | apply pw_below_drewN | apply below_drew1 | refine below_set ?_ GE386.out | refine below_set ?_ GE387.out) | exact HB.out)⟩⟩
 case round =>
  clear H'
  try clear c1
  try clear c2
  try clear p2
  obtain ⟨x5_1, rfl, HA, HK1, BK386, BK387, HB⟩ := hrel
  cases gk with
  | zero => exact absurd HA.out (by simp [spec_l2May.l0])
  | succ k1 =>
   have H := HA.out
   clear HA
   simp only [spec_l2May.l0] at H
   have HC5 := Aside0.mk H
   clear H
   go_upto_region 2 with (fail)
   repeat (go_quiet (fail); go_upto_region 2 with (fail))
   go_cut [17] (fun v17 wc => ∃ (kq : Nat) (x17_4 : Bool), v17 = .bool x17_4 ∧ Aside0 (spec_l2May.j1 kq x5_1 x17_4 l0_0 a0_1 a0_2 a0_3 l1_0 a1_1 a1_2 a1_3 = some r) ∧ Aside0 (kq ≤ k1) ∧ Aside0 (wc.heap[gb386]? = some (.cells #[(.slice A0_0 l0_0.length c0_0), .string a0_1, .string a0_2, .string a0_3] 26 (0, 0))) ∧ Aside0 (wc.heap[gb387]? = some (.cells #[(.slice A1_0 l1_0.length c1_0), .string a1_1, .string a1_2, .string a1_3] 26 (0, 0))) ∧ Aside0 (Below w.heap.size w wc))
   case first =>
    have H := HC5.out
    clear HC5
    by_cases c6 : x5_1 < (l0_0.length : Int)
    ·
     rw [if_pos c6] at H
     have c6b0 : decide (x5_1 < (l0_0.length : Int)) = true := decide_eq_true c6
     clear c6
     (first | rw [c6b0] | (simp only [i64_w, i32_w]; rw [c6b0]) | skip)
     have H' := Aside0.mk H
     clear H
     have hnb7 := NB386_387.out
     have hnc7 := NB387_386.out
     have hcz8_0 : wr.cell? ⟨gb386, 0, none⟩ = some (.slice A0_0 l0_0.length c0_0) := (blk_cell BK386.out 0).trans rfl
     have hcz8_1 : wr.cell? ⟨gb386, 1, none⟩ = some (.string a0_1) := (blk_cell BK386.out 1).trans rfl
     have hcz8_2 : wr.cell? ⟨gb386, 2, none⟩ = some (.string a0_2) := (blk_cell BK386.out 2).trans rfl
     have hcz8_3 : wr.cell? ⟨gb386, 3, none⟩ = some (.string a0_3) := (blk_cell BK386.out 3).trans rfl
     have hfz8_0 := blk_frozen BK386.out 0
     have hfz8_1 := blk_frozen BK386.out 1
     have hfz8_2 := blk_frozen BK386.out 2
     have hfz8_3 := blk_frozen BK386.out 3
     have hcz9_0 : wr.cell? ⟨gb387, 0, none⟩ = some (.slice A1_0 l1_0.length c1_0) := (blk_cell BK387.out 0).trans rfl
     have hcz9_1 : wr.cell? ⟨gb387, 1, none⟩ = some (.string a1_1) := (blk_cell BK387.out 1).trans rfl
     have hcz9_2 : wr.cell? ⟨gb387, 2, none⟩ = some (.string a1_2) := (blk_cell BK387.out 2).trans rfl
     have hcz9_3 : wr.cell? ⟨gb387, 3, none⟩ = some (.string a1_3) := (blk_cell BK387.out 3).trans rfl
     have hfz9_0 := blk_frozen BK387.out 0
     have hfz9_1 := blk_frozen BK387.out 1
     have hfz9_2 := blk_frozen BK387.out 2
     have hfz9_3 := blk_frozen BK387.out 3
     go_wp2
     repeat (go_quiet (fail); try go_wp2)
     go_meet
     case rel => exact ⟨_, (decide (x5_1 < (l1_0.length : Int))), au74, H', ⟨by have := HK1.out; first | omega | exact Nat.le_refl _⟩, ⟨by (with_reducible repeat (first | refine blk_drewN ?_ _ | refine blk_drew ?_ | refine blk_alloc ?_ _)); exact BK386.out⟩, ⟨by (with_reducible repeat (first | refine blk_drewN ?_ _ | refine blk_drew ?_ | refine blk_alloc ?_ _)); exact BK387.out⟩, ⟨by repeat (first | (with_reducible first | exact HB.out | apply below_alloc | apply pw_below_drewN | apply below_drew1 | refine below_set ?_ GE386.out | refine below_set ?_ GE387.out) | exact HB.out)⟩⟩
    ·
     rw [if_neg c6] at H
     have c6b0 : decide (x5_1 < (l0_0.length : Int)) = false := decide_eq_false c6
     clear c6
     (first | rw [c6b0] | (simp only [i64_w, i32_w]; rw [c6b0]) | skip)
     have H' := Aside0.mk H
     clear H
     have hnb10 := NB386_387.out
     have hnc10 := NB387_386.out
     have hcz11_0 : wr.cell? ⟨gb386, 0, none⟩ = some (.slice A0_0 l0_0.length c0_0) := (blk_cell BK386.out 0).trans rfl
     have hcz11_1 : wr.cell? ⟨gb386, 1, none⟩ = some (.string a0_1) := (blk_cell BK386.out 1).trans rfl
     have hcz11_2 : wr.cell? ⟨gb386, 2, none⟩ = some (.string a0_2) := (blk_cell BK386.out 2).trans rfl
     have hcz11_3 : wr.cell? ⟨gb386, 3, none⟩ = some (.string a0_3) := (blk_cell BK386.out 3).trans rfl
     have hfz11_0 := blk_frozen BK386.out 0
     have hfz11_1 := blk_frozen BK386.out 1
     have hfz11_2 := blk_frozen BK386.out 2
     have hfz11_3 := blk_frozen BK386.out 3
     go_wp2
     repeat (go_quiet (fail); try go_wp2)
     go_meet
     case rel => exact ⟨_, (false), au74, H', ⟨by have := HK1.out; first | omega | exact Nat.le_refl _⟩, ⟨by (with_reducible repeat (first | refine blk_drewN ?_ _ | refine blk_drew ?_ | refine blk_alloc ?_ _)); exact BK386.out⟩, ⟨by (with_reducible repeat (first | refine blk_drewN ?_ _ | refine blk_drew ?_ | refine blk_alloc ?_ _)); exact BK387.out⟩, ⟨by repeat (first | (with_reducible first | exact HB.out | apply below_alloc | apply pw_below_drewN | apply below_drew1 | refine below_set ?_ GE386.out | refine below_set ?_ GE387.out) | exact HB.out)⟩⟩
   case rest =>
    clear HC5
    try clear c1
    try clear c2
    try clear p2
    try clear c6
    try clear c6b0
    try clear c7
    try clear c10
    try clear hcz11_0
    try clear hcz11_1
    try clear hcz11_2
    try clear hcz11_3
    try clear hcz8_0
    try clear hcz8_1
    try clear hcz8_2
    try clear hcz8_3
    try clear hcz9_0
    try clear hcz9_1
    try clear hcz9_2
    try clear hcz9_3
    try clear hfz11_0
    try clear hfz11_1
    try clear hfz11_2
    try clear hfz11_3
    try clear hfz8_0
    try clear hfz8_1
    try clear hfz8_2
    try clear hfz8_3
    try clear hfz9_0
    try clear hfz9_1
    try clear hfz9_2
    try clear hfz9_3
    try clear p2
    obtain ⟨kq, x17_4, rfl, HA, HJ4, BK386, BK387, HB⟩ := hcut
    cases kq with
    | zero => exact absurd HA.out (by simp [spec_l2May.j1])
    | succ kj4 =>
     have H := HA.out
     clear HA
     simp only [spec_l2May.j1] at H
     by_cases c12 : x17_4 = true
     ·
      subst c12
      replace H := (if_pos rfl).symm.trans H
      by_cases c13 : 0 ≤ x5_1
      ·
       rw [if_pos c13] at H
       have c13b0 : decide (0 ≤ x5_1) = true := decide_eq_true c13
       clear c13
       by_cases c14 : x5_1 < (l0_0.length : Int)
       ·
        rw [if_pos c14] at H
        have c14b0 : decide (x5_1 < (l0_0.length : Int)) = true := decide_eq_true c14
        clear c14
        by_cases c15 : x5_1 < (l1_0.length : Int)
        ·
         rw [if_pos c15] at H
         have c15b0 : decide (x5_1 < (l1_0.length : Int)) = true := decide_eq_true c15
         clear c15
         replace H := Option.bind_eq_some_iff.mp H
         obtain ⟨t390, A160, H⟩ := H
         try dsimp only at H
         have A16 := Aside0.mk A160
         clear A160
         by_cases c17 : t390 = true
         ·
          subst c17
          replace H := (if_pos rfl).symm.trans H
          have H' := Aside0.mk H
          clear H
          have hnb18 := NB386_387.out
          have hnc18 := NB387_386.out
          have hcz19_0 : wc.cell? ⟨gb386, 0, none⟩ = some (.slice A0_0 l0_0.length c0_0) := (blk_cell BK386.out 0).trans rfl
          have hcz19_1 : wc.cell? ⟨gb386, 1, none⟩ = some (.string a0_1) := (blk_cell BK386.out 1).trans rfl
          have hcz19_2 : wc.cell? ⟨gb386, 2, none⟩ = some (.string a0_2) := (blk_cell BK386.out 2).trans rfl
          have hcz19_3 : wc.cell? ⟨gb386, 3, none⟩ = some (.string a0_3) := (blk_cell BK386.out 3).trans rfl
          have hfz19_0 := blk_frozen BK386.out 0
          have hfz19_1 := blk_frozen BK386.out 1
          have hfz19_2 := blk_frozen BK386.out 2
          have hfz19_3 := blk_frozen BK386.out 3
          have p388 : 0 ≤ (x5_1 : Int) := of_decide_eq_true au73
          have q388 : x5_1 < (l0_0.length : Int) := of_decide_eq_true au73
          obtain ⟨ad388, e388, hx388_0⟩ := Kd.at_string HR0_0.out x5_1 p388 q388
          cases e388
          replace hx388_0 := (HB.out.cell (World.block_lt_of_cell? w _ hx388_0)).trans hx388_0
          replace p388 := eq_true p388
          replace q388 := eq_true q388
          have hcz20_0 : wc.cell? ⟨gb387, 0, none⟩ = some (.slice A1_0 l1_0.length c1_0) := (blk_cell BK387.out 0).trans rfl
          have hcz20_1 : wc.cell? ⟨gb387, 1, none⟩ = some (.string a1_1) := (blk_cell BK387.out 1).trans rfl
          have hcz20_2 : wc.cell? ⟨gb387, 2, none⟩ = some (.string a1_2) := (blk_cell BK387.out 2).trans rfl
          have hcz20_3 : wc.cell? ⟨gb387, 3, none⟩ = some (.string a1_3) := (blk_cell BK387.out 3).trans rfl
          have hfz20_0 := blk_frozen BK387.out 0
          have hfz20_1 := blk_frozen BK387.out 1
          have hfz20_2 := blk_frozen BK387.out 2
          have hfz20_3 := blk_frozen BK387.out 3
          have p389 : 0 ≤ (x5_1 : Int) := of_decide_eq_true au73
          have q389 : x5_1 < (l1_0.length : Int) := of_decide_eq_true au73
          obtain ⟨ad389, e389, hx389_0⟩ := Kd.at_string HR1_0.out x5_1 p389 q389
          cases e389
          replace hx389_0 := (HB.out.cell (World.block_lt_of_cell? w _ hx389_0)).trans hx389_0
          replace p389 := eq_true p389
          replace q389 := eq_true q389
          go_wp2_with (first | (go_at_call 59; (with_reducible refine (spec_l2Fits.calls (rdOf ByteArray.empty l0_0 x5_1) (rdOf ByteArray.empty l1_0 x5_1) _ _ A16.out).mono ?_); rintro e w' ⟨rfl, ⟨nd, rfl⟩⟩; (try first | exact ⟨rfl, _, World.drewN_drewN _ _ _⟩ | exact ⟨rfl, _, Eq.trans (World.drewN_drewN _ _ _) (congrArg (World.drewN _) (Nat.add_assoc _ _ _))⟩)))
          repeat (go_quiet (first | (go_at_call 59; (with_reducible refine (spec_l2Fits.calls (rdOf ByteArray.empty l0_0 x5_1) (rdOf ByteArray.empty l1_0 x5_1) _ _ A16.out).mono ?_); rintro e w' ⟨rfl, ⟨nd, rfl⟩⟩; (try first | exact ⟨rfl, _, World.drewN_drewN _ _ _⟩ | exact ⟨rfl, _, Eq.trans (World.drewN_drewN _ _ _) (congrArg (World.drewN _) (Nat.add_assoc _ _ _))⟩))); try go_wp2_with (first | (go_at_call 59; (with_reducible refine (spec_l2Fits.calls (rdOf ByteArray.empty l0_0 x5_1) (rdOf ByteArray.empty l1_0 x5_1) _ _ A16.out).mono ?_); rintro e w' ⟨rfl, ⟨nd, rfl⟩⟩; (try first | exact ⟨rfl, _, World.drewN_drewN _ _ _⟩ | exact ⟨rfl, _, Eq.trans (World.drewN_drewN _ _ _) (congrArg (World.drewN _) (Nat.add_assoc _ _ _))⟩))))
          go_roundg kj4
          case measure => have := HK1.out; have := HJ4.out; omega
          case rel => exact ⟨(wrap64 (x5_1 + 1)), au74, H', ⟨by have := HK1.out; have := HJ4.out; omega⟩, ⟨by (with_reducible repeat (first | refine blk_drewN ?_ _ | refine blk_drew ?_ | refine blk_alloc ?_ _)); exact BK386.out⟩, ⟨by (with_reducible repeat (first | refine blk_drewN ?_ _ | refine blk_drew ?_ | refine blk_alloc ?_ _)); exact BK387.out⟩, ⟨by repeat (first | (with_reducible first | exact HB.out | apply below_alloc | apply pw_below_drewN | apply below_drew1 | refine below_set ?_ GE386.out | refine below_set ?_ GE387.out) | exact HB.out)⟩⟩
         ·
          replace c17 := Bool.eq_false_iff.mpr c17
          subst c17
          replace H := (if_neg (show ¬ (false = true) by decide)).symm.trans H
          obtain rfl := Option.some.inj H
          have hnb21 := NB386_387.out
          have hnc21 := NB387_386.out
          have hcz22_0 : wc.cell? ⟨gb386, 0, none⟩ = some (.slice A0_0 l0_0.length c0_0) := (blk_cell BK386.out 0).trans rfl
          have hcz22_1 : wc.cell? ⟨gb386, 1, none⟩ = some (.string a0_1) := (blk_cell BK386.out 1).trans rfl
          have hcz22_2 : wc.cell? ⟨gb386, 2, none⟩ = some (.string a0_2) := (blk_cell BK386.out 2).trans rfl
          have hcz22_3 : wc.cell? ⟨gb386, 3, none⟩ = some (.string a0_3) := (blk_cell BK386.out 3).trans rfl
          have hfz22_0 := blk_frozen BK386.out 0
          have hfz22_1 := blk_frozen BK386.out 1
          have hfz22_2 := blk_frozen BK386.out 2
          have hfz22_3 := blk_frozen BK386.out 3
          have p388 : 0 ≤ (x5_1 : Int) := of_decide_eq_true au73
          have q388 : x5_1 < (l0_0.length : Int) := of_decide_eq_true au73
          obtain ⟨ad388, e388, hx388_0⟩ := Kd.at_string HR0_0.out x5_1 p388 q388
          cases e388
          replace hx388_0 := (HB.out.cell (World.block_lt_of_cell? w _ hx388_0)).trans hx388_0
          replace p388 := eq_true p388
          replace q388 := eq_true q388
          have hcz23_0 : wc.cell? ⟨gb387, 0, none⟩ = some (.slice A1_0 l1_0.length c1_0) := (blk_cell BK387.out 0).trans rfl
          have hcz23_1 : wc.cell? ⟨gb387, 1, none⟩ = some (.string a1_1) := (blk_cell BK387.out 1).trans rfl
          have hcz23_2 : wc.cell? ⟨gb387, 2, none⟩ = some (.string a1_2) := (blk_cell BK387.out 2).trans rfl
          have hcz23_3 : wc.cell? ⟨gb387, 3, none⟩ = some (.string a1_3) := (blk_cell BK387.out 3).trans rfl
          have hfz23_0 := blk_frozen BK387.out 0
          have hfz23_1 := blk_frozen BK387.out 1
          have hfz23_2 := blk_frozen BK387.out 2
          have hfz23_3 := blk_frozen BK387.out 3
          have p389 : 0 ≤ (x5_1 : Int) := of_decide_eq_true au73
          have q389 : x5_1 < (l1_0.length : Int) := of_decide_eq_true au73
          obtain ⟨ad389, e389, hx389_0⟩ := Kd.at_string HR1_0.out x5_1 p389 q389
          cases e389
          replace hx389_0 := (HB.out.cell (World.block_lt_of_cell? w _ hx389_0)).trans hx389_0
          replace p389 := eq_true p389
          replace q389 := eq_true q389
          go_wp2_with (first | (go_at_call 59; (with_reducible refine (spec_l2Fits.calls (rdOf ByteArray.empty l0_0 x5_1) (rdOf ByteArray.empty l1_0 x5_1) _ _ A16.out).mono ?_); rintro e w' ⟨rfl, ⟨nd, rfl⟩⟩; (try first | exact ⟨rfl, _, World.drewN_drewN _ _ _⟩ | exact ⟨rfl, _, Eq.trans (World.drewN_drewN _ _ _) (congrArg (World.drewN _) (Nat.add_assoc _ _ _))⟩)))
          repeat (go_quiet (first | (go_at_call 59; (with_reducible refine (spec_l2Fits.calls (rdOf ByteArray.empty l0_0 x5_1) (rdOf ByteArray.empty l1_0 x5_1) _ _ A16.out).mono ?_); rintro e w' ⟨rfl, ⟨nd, rfl⟩⟩; (try first | exact ⟨rfl, _, World.drewN_drewN _ _ _⟩ | exact ⟨rfl, _, Eq.trans (World.drewN_drewN _ _ _) (congrArg (World.drewN _) (Nat.add_assoc _ _ _))⟩))); try go_wp2_with (first | (go_at_call 59; (with_reducible refine (spec_l2Fits.calls (rdOf ByteArray.empty l0_0 x5_1) (rdOf ByteArray.empty l1_0 x5_1) _ _ A16.out).mono ?_); rintro e w' ⟨rfl, ⟨nd, rfl⟩⟩; (try first | exact ⟨rfl, _, World.drewN_drewN _ _ _⟩ | exact ⟨rfl, _, Eq.trans (World.drewN_drewN _ _ _) (congrArg (World.drewN _) (Nat.add_assoc _ _ _))⟩))))
          go_ret
          exact ⟨by first | rfl | (simp [errW_none, errW_some] <;> rfl) | (simp [*, errW_none, errW_some] <;> rfl), by repeat (first | (with_reducible first | exact HB.out | apply below_alloc | apply pw_below_drewN | apply below_drew1 | refine below_set ?_ GE386.out | refine below_set ?_ GE387.out) | exact HB.out)⟩
        ·
         rw [if_neg c15] at H
         exact absurd H (by simp)
       ·
        rw [if_neg c14] at H
        exact absurd H (by simp)
      ·
       rw [if_neg c13] at H
       exact absurd H (by simp)
     ·
      replace c12 := Bool.eq_false_iff.mpr c12
      subst c12
      replace H := (if_neg (show ¬ (false = true) by decide)).symm.trans H
      by_cases c24 : a0_1.toList = a1_1.toList
      ·
       rw [if_pos c24] at H
       have c24b0 : (a0_1.toList == a1_1.toList) = true := beq_iff_eq.mpr c24
       have c24b1 : (a0_1.toList != a1_1.toList) = false := bne_eq_false_iff_eq.mpr c24
       clear c24
       by_cases c25 : a0_2.toList = a1_2.toList
       ·
        rw [if_pos c25] at H
        have c25b0 : (a0_2.toList == a1_2.toList) = true := beq_iff_eq.mpr c25
        have c25b1 : (a0_2.toList != a1_2.toList) = false := bne_eq_false_iff_eq.mpr c25
        clear c25
        obtain rfl := Option.some.inj H
        exact spec_l2May.L0
       ·
        rw [if_neg c25] at H
        have c25b0 : (a0_2.toList == a1_2.toList) = false := beq_eq_false_iff_ne.mpr c25
        have c25b1 : (a0_2.toList != a1_2.toList) = true := bne_iff_ne.mpr c25
        obtain rfl := Option.some.inj H
        exact spec_l2May.L0
      ·
       rw [if_neg c24] at H
       have c24b0 : (a0_1.toList == a1_1.toList) = false := beq_eq_false_iff_ne.mpr c24
       have c24b1 : (a0_1.toList != a1_1.toList) = true := bne_iff_ne.mpr c24
       obtain rfl := Option.some.inj H
       exact spec_l2May.L0


/-! ### spec_l2People: function 39 -/
mutual
def spec_l2People.l0 : Nat → List (S26) → List (S26) → Int → Option (Bool)
 | 0, _, _, _ => none
 | k + 1, x0, x1, x5 => if x5 < (x0.length : Int) then (spec_l2People.j1 k x0 x1 x5 (decide (x5 < (x1.length : Int)))) else (spec_l2People.j1 k x0 x1 x5 false)
def spec_l2People.j1 : Nat → List (S26) → List (S26) → Int → Bool → Option (Bool)
 | 0, _, _, _, _ => none
 | k + 1, x0, x1, x5, x15 => if x15 = true then (if 0 ≤ x5 then (if x5 < (x0.length : Int) then (if x5 < (x1.length : Int) then ((spec_l2May.f k ((rd_T26 x0 x5).f0) ((rd_T26 x0 x5).f1) ((rd_T26 x0 x5).f2) ((rd_T26 x0 x5).f3) ((rd_T26 x1 x5).f0) ((rd_T26 x1 x5).f1) ((rd_T26 x1 x5).f2) ((rd_T26 x1 x5).f3)).bind fun t624 => (if t624 = true then (spec_l2People.l0 k x0 x1 (wrap64 (x5 + 1))) else (some false))) else (none)) else (none)) else (none)) else (some ((x0.length : Int) == (x1.length : Int)))
end
def spec_l2People.f (k : Nat) (l0 : List (S26)) (l1 : List (S26)) : Option (Bool) := spec_l2People.l0 k l0 l1 0
theorem spec_l2People.mono_l : ∀ k, (∀ y0 y1 y2, LeO (spec_l2People.l0 k y0 y1 y2) (spec_l2People.l0 (k + 1) y0 y1 y2)) ∧ (∀ y0 y1 y2 y3, LeO (spec_l2People.j1 k y0 y1 y2 y3) (spec_l2People.j1 (k + 1) y0 y1 y2 y3))
 | 0 => ⟨fun _ _ _ r h => by simp [spec_l2People.l0] at h, fun _ _ _ _ r h => by simp [spec_l2People.j1] at h⟩
 | k + 1 => by
  obtain ⟨ih0, ih1⟩ := spec_l2People.mono_l k
  refine ⟨?_, ?_⟩
  ·
   intro y0 y1 y2
   unfold spec_l2People.l0
   repeat' first
   | (with_reducible exact ih0 _ _ _)
   | (with_reducible exact ih1 _ _ _ _)
   | (with_reducible exact spec_l2May.mono _ _ _ _ _ _ _ _ _)
   | (with_reducible exact LeO.refl _)
   | (with_reducible exact LeO.none _)
   | (with_reducible refine LeO.ite ?_ ?_)
   | (with_reducible refine LeO.bind ?_ (fun _ => ?_))
   | exact ih0 _ _ _
   | exact ih1 _ _ _ _
   | exact spec_l2May.mono _ _ _ _ _ _ _ _ _
   | exact LeO.none _
   | refine LeO.ite ?_ ?_
   | refine LeO.bind ?_ (fun _ => ?_)
  ·
   intro y0 y1 y2 y3
   unfold spec_l2People.j1
   repeat' first
   | (with_reducible exact ih0 _ _ _)
   | (with_reducible exact ih1 _ _ _ _)
   | (with_reducible exact spec_l2May.mono _ _ _ _ _ _ _ _ _)
   | (with_reducible exact LeO.refl _)
   | (with_reducible exact LeO.none _)
   | (with_reducible refine LeO.ite ?_ ?_)
   | (with_reducible refine LeO.bind ?_ (fun _ => ?_))
   | exact ih0 _ _ _
   | exact ih1 _ _ _ _
   | exact spec_l2May.mono _ _ _ _ _ _ _ _ _
   | exact LeO.none _
   | refine LeO.ite ?_ ?_
   | refine LeO.bind ?_ (fun _ => ?_)
theorem spec_l2People.mono : ∀ a0 a1 k, LeO (spec_l2People.f k a0 a1) (spec_l2People.f (k + 1) a0 a1) := by
 intro a0 a1 k
 obtain ⟨ih0, ih1⟩ := spec_l2People.mono_l k
 unfold spec_l2People.f
 repeat' first
   | (with_reducible exact ih0 _ _ _)
   | (with_reducible exact ih1 _ _ _ _)
   | (with_reducible exact spec_l2May.mono _ _ _ _ _ _ _ _ _)
   | (with_reducible exact LeO.refl _)
   | (with_reducible exact LeO.none _)
   | (with_reducible refine LeO.ite ?_ ?_)
   | (with_reducible refine LeO.bind ?_ (fun _ => ?_))
   | exact ih0 _ _ _
   | exact ih1 _ _ _ _
   | exact spec_l2May.mono _ _ _ _ _ _ _ _ _
   | exact LeO.none _
   | refine LeO.ite ?_ ?_
   | refine LeO.bind ?_ (fun _ => ?_)
def spec_l2People.T4 : Bool × List (List Nat × List Nat) := (true, [([], []), ([], []), ([0, 1], [0, 1]), ([2], [2]), ([], []), ([], []), ([4, 5], [4, 5]), ([6], [6]), ([3, 7], [3, 7]), ([8], [8])])
def spec_l2People.B4 : List Nat := [0, 0, 3, 7, 0, 0, 48, 112, 255, 511]
theorem spec_l2People.tab4 : rtab .any (opsOf Tryd.f39 4) = spec_l2People.T4 := by kernel_rfl
theorem spec_l2People.bits4 : waitsOk spec_l2People.T4.2 spec_l2People.B4 = true := by kernel_rfl
set_option maxRecDepth 100000 in
theorem spec_l2People.L0 {P : Prop} (h : P := by
  try go_wp2
  have n0_ := Aside0.mk (below_drew1 HB.out)
  clear HB
  have HB := n0_
  clear n0_
  have p622 : 0 ≤ (x5_1 : Int) := of_decide_eq_true au73
  have q622 : x5_1 < (l0.length : Int) := of_decide_eq_true au73
  obtain ⟨ad622, A622_0, c622_0, e622, hx622_0, hx622_1, hx622_2, hx622_3, hl622_0, hi622_0⟩ := at_T26 HR0.out x5_1 p622 q622
  have hw622_3 := hx622_3
  have hw622_2 := hx622_2
  have hw622_1 := hx622_1
  have hw622_0 := hx622_0
  cases e622
  replace hx622_0 := (HB.out.cell (World.block_lt_of_cell? w _ hx622_0)).trans hx622_0
  replace hx622_1 := (HB.out.cell (World.block_lt_of_cell? w _ hx622_1)).trans hx622_1
  replace hx622_2 := (HB.out.cell (World.block_lt_of_cell? w _ hx622_2)).trans hx622_2
  replace hx622_3 := (HB.out.cell (World.block_lt_of_cell? w _ hx622_3)).trans hx622_3
  have HR622_0 := Aside0.mk hi622_0
  have HC622_0 := Aside0.mk hl622_0
  clear hi622_0 hl622_0
  replace p622 := eq_true p622
  replace q622 := eq_true q622
  have p623 : 0 ≤ (x5_1 : Int) := of_decide_eq_true au73
  have q623 : x5_1 < (l1.length : Int) := of_decide_eq_true au73
  obtain ⟨ad623, A623_0, c623_0, e623, hx623_0, hx623_1, hx623_2, hx623_3, hl623_0, hi623_0⟩ := at_T26 HR1.out x5_1 p623 q623
  have hw623_3 := hx623_3
  have hw623_2 := hx623_2
  have hw623_1 := hx623_1
  have hw623_0 := hx623_0
  cases e623
  replace hx623_0 := (HB.out.cell (World.block_lt_of_cell? w _ hx623_0)).trans hx623_0
  replace hx623_1 := (HB.out.cell (World.block_lt_of_cell? w _ hx623_1)).trans hx623_1
  replace hx623_2 := (HB.out.cell (World.block_lt_of_cell? w _ hx623_2)).trans hx623_2
  replace hx623_3 := (HB.out.cell (World.block_lt_of_cell? w _ hx623_3)).trans hx623_3
  have HR623_0 := Aside0.mk hi623_0
  have HC623_0 := Aside0.mk hl623_0
  clear hi623_0 hl623_0
  replace p623 := eq_true p623
  replace q623 := eq_true q623
  refine start_ (n := 10) (S := fun w' => w'.cell? (ad622.add ((x5_1).toNat * 4)) = some (.slice A622_0 ((rd_T26 l0 x5_1).f0).length c622_0) ∧ w'.cell? ⟨(ad622.add ((x5_1).toNat * 4)).block, (ad622.add ((x5_1).toNat * 4)).off + 1, none⟩ = some (.string ((rd_T26 l0 x5_1).f1)) ∧ w'.cell? ⟨(ad622.add ((x5_1).toNat * 4)).block, (ad622.add ((x5_1).toNat * 4)).off + 2, none⟩ = some (.string ((rd_T26 l0 x5_1).f2)) ∧ w'.cell? ⟨(ad622.add ((x5_1).toNat * 4)).block, (ad622.add ((x5_1).toNat * 4)).off + 3, none⟩ = some (.string ((rd_T26 l0 x5_1).f3)) ∧ w'.cell? (ad623.add ((x5_1).toNat * 4)) = some (.slice A623_0 ((rd_T26 l1 x5_1).f0).length c623_0) ∧ w'.cell? ⟨(ad623.add ((x5_1).toNat * 4)).block, (ad623.add ((x5_1).toNat * 4)).off + 1, none⟩ = some (.string ((rd_T26 l1 x5_1).f1)) ∧ w'.cell? ⟨(ad623.add ((x5_1).toNat * 4)).block, (ad623.add ((x5_1).toNat * 4)).off + 2, none⟩ = some (.string ((rd_T26 l1 x5_1).f2)) ∧ w'.cell? ⟨(ad623.add ((x5_1).toNat * 4)).block, (ad623.add ((x5_1).toNat * 4)).off + 3, none⟩ = some (.string ((rd_T26 l1 x5_1).f3))) (ds := []) #[false, false, false, false, false, false, false, false, false, false] (by kernel_rfl) rfl rfl ⟨((HB.out.cell (World.block_lt_of_cell? w _ hw622_0)).trans hw622_0), ((HB.out.cell (World.block_lt_of_cell? w _ hw622_1)).trans hw622_1), ((HB.out.cell (World.block_lt_of_cell? w _ hw622_2)).trans hw622_2), ((HB.out.cell (World.block_lt_of_cell? w _ hw622_3)).trans hw622_3), ((HB.out.cell (World.block_lt_of_cell? w _ hw623_0)).trans hw623_0), ((HB.out.cell (World.block_lt_of_cell? w _ hw623_1)).trans hw623_1), ((HB.out.cell (World.block_lt_of_cell? w _ hw623_2)).trans hw623_2), ((HB.out.cell (World.block_lt_of_cell? w _ hw623_3)).trans hw623_3)⟩ (fun hHeld => ?_); refine with_tabW spec_l2People.tab4 spec_l2People.bits4 (fun HT_ HW_ => ?_)
  generalize wc.drew = w11 at HB HR622_0 HR623_0 hx622_0 hx622_1 hx622_2 hx622_3 hx623_0 hx623_1 hx623_2 hx623_3 hHeld ⊢
  refine pure_ (i := 0) (N := some 18) (v := ?_) (a' := ?_) #[true, false, false, false, false, false, false, false, false, false] rfl rfl (any_of HT_.out (by kernel_rfl)) (fun _ _ _ h => h) (Or.inl ⟨by rfl, ?_⟩) ?_ ?_
  rotate_left
  ·
   intro w'
   go_simp
   with_reducible rfl
  rotate_left
  ·
   simp only [Act.put, List.setIfInBounds_toArray, List.set_cons_zero, List.set_cons_succ, i64_w, i32_w]
   rfl
  refine pure_ (i := 1) (N := some 19) (v := ?_) (a' := ?_) #[true, true, false, false, false, false, false, false, false, false] rfl rfl (any_of HT_.out (by kernel_rfl)) (fun _ _ _ h => h) (Or.inl ⟨by rfl, ?_⟩) ?_ ?_
  rotate_left
  ·
   intro w'
   go_simp
   with_reducible rfl
  rotate_left
  ·
   simp only [Act.put, List.setIfInBounds_toArray, List.set_cons_zero, List.set_cons_succ, i64_w, i32_w]
   rfl
  refine pure_ (i := 2) (N := some 20) (v := ?_) (a' := ?_) #[true, true, true, false, false, false, false, false, false, false] rfl rfl (any_of HT_.out (by kernel_rfl)) (fun _ _ _ h => h) (Or.inl ⟨by rfl, ?_⟩) ?_ ?_
  rotate_left
  ·
   intro w'
   go_simp
   with_reducible rfl
  rotate_left
  ·
   simp only [Act.put, List.setIfInBounds_toArray, List.set_cons_zero, List.set_cons_succ, i64_w, i32_w]
   rfl
  refine pure_ (i := 4) (N := some 22) (v := ?_) (a' := ?_) #[true, true, true, false, true, false, false, false, false, false] rfl rfl (any_of HT_.out (by kernel_rfl)) (fun _ _ _ h => h) (Or.inl ⟨by rfl, ?_⟩) ?_ ?_
  rotate_left
  ·
   intro w'
   go_simp
   with_reducible rfl
  rotate_left
  ·
   simp only [Act.put, List.setIfInBounds_toArray, List.set_cons_zero, List.set_cons_succ, i64_w, i32_w]
   rfl
  refine pure_ (i := 5) (N := some 23) (v := ?_) (a' := ?_) #[true, true, true, false, true, true, false, false, false, false] rfl rfl (any_of HT_.out (by kernel_rfl)) (fun _ _ _ h => h) (Or.inl ⟨by rfl, ?_⟩) ?_ ?_
  rotate_left
  ·
   intro w'
   go_simp
   with_reducible rfl
  rotate_left
  ·
   simp only [Act.put, List.setIfInBounds_toArray, List.set_cons_zero, List.set_cons_succ, i64_w, i32_w]
   rfl
  refine pure_ (i := 6) (N := some 24) (v := ?_) (a' := ?_) #[true, true, true, false, true, true, true, false, false, false] rfl rfl (any_of HT_.out (by kernel_rfl)) (fun _ _ _ h => h) (Or.inl ⟨by rfl, ?_⟩) ?_ ?_
  rotate_left
  ·
   intro w'
   go_simp
   with_reducible rfl
  rotate_left
  ·
   simp only [Act.put, List.setIfInBounds_toArray, List.set_cons_zero, List.set_cons_succ, i64_w, i32_w]
   rfl
  refine take_ (i := 3) (N := some 21) (v := ?_) (a' := ?_) #[true, true, true, true, true, true, true, false, false, false] rfl rfl (take_ofW HT_.out HW_.out (by kernel_rfl)) (fun _ _ _ h => h) (Or.inl ⟨by rfl, ?_⟩) hHeld ?_ ?_
  rotate_left
  ·
   rintro w' ⟨s0, s1, s2, s3, s4, s5, s6, s7⟩
   go_simp
   with_reducible rfl
  rotate_left
  ·
   simp only [Act.put, List.setIfInBounds_toArray, List.set_cons_zero, List.set_cons_succ, i64_w, i32_w]
   rfl
  refine take_ (i := 7) (N := some 25) (v := ?_) (a' := ?_) #[true, true, true, true, true, true, true, true, false, false] rfl rfl (take_ofW HT_.out HW_.out (by kernel_rfl)) (fun _ _ _ h => h) (Or.inl ⟨by rfl, ?_⟩) hHeld ?_ ?_
  rotate_left
  ·
   rintro w' ⟨s0, s1, s2, s3, s4, s5, s6, s7⟩
   go_simp
   with_reducible rfl
  rotate_left
  ·
   simp only [Act.put, List.setIfInBounds_toArray, List.set_cons_zero, List.set_cons_succ, i64_w, i32_w]
   rfl
  refine one_ (i := 8) (N := some 26) #[true, true, true, true, true, true, true, true, true, false] rfl rfl (one_of HT_.out (by kernel_rfl)) (by decide) (fun K hK => ?_)
  refine goes_ Tryd.func24 (by kernel_rfl) rfl #[.agg #[.slice A622_0 ((rd_T26 l0 x5_1).f0).length c622_0, .string ((rd_T26 l0 x5_1).f1), .string ((rd_T26 l0 x5_1).f2), .string ((rd_T26 l0 x5_1).f3)], .agg #[.slice A623_0 ((rd_T26 l1 x5_1).f0).length c623_0, .string ((rd_T26 l1 x5_1).f1), .string ((rd_T26 l1 x5_1).f2), .string ((rd_T26 l1 x5_1).f3)]] (by rfl) rfl rfl au37 ?_
  first
  |
   with_reducible refine (spec_l2May.calls kj2 _ _ ((rd_T26 l0 x5_1).f0) ((rd_T26 l0 x5_1).f1) ((rd_T26 l0 x5_1).f2) ((rd_T26 l0 x5_1).f3) _ _ ((rd_T26 l1 x5_1).f0) ((rd_T26 l1 x5_1).f1) ((rd_T26 l1 x5_1).f2) ((rd_T26 l1 x5_1).f3) _ _ ?side1 ?side2 ?side3 ?side4 A9.out).mono ?_
   (case side1 => repeat (first | exact (Kd.C_below HR622_0.out HB.out) | (with_reducible refine Kd.C_alloc ?_ _) | (with_reducible refine Kd.C_drewN ?_ _) | (with_reducible refine Kd.C_drew ?_)))
   (case side2 => exact HC622_0.out)
   (case side3 => repeat (first | exact (Kd.C_below HR623_0.out HB.out) | (with_reducible refine Kd.C_alloc ?_ _) | (with_reducible refine Kd.C_drewN ?_ _) | (with_reducible refine Kd.C_drew ?_)))
   (case side4 => exact HC623_0.out)
   rintro e w12 ⟨rfl, hb⟩
   refine ⟨_, rfl, ?_⟩
   have n0_ := Aside0.mk (below_step au38 hb)
   clear HB
   have HB := n0_
   clear n0_
   (try clear hb)
   (try clear hb2)
   (try clear hk)
   (try clear hi)
   refine hK.out _ _ ⟨((HB.out.cell (World.block_lt_of_cell? w _ hw622_0)).trans hw622_0), ((HB.out.cell (World.block_lt_of_cell? w _ hw622_1)).trans hw622_1), ((HB.out.cell (World.block_lt_of_cell? w _ hw622_2)).trans hw622_2), ((HB.out.cell (World.block_lt_of_cell? w _ hw622_3)).trans hw622_3), ((HB.out.cell (World.block_lt_of_cell? w _ hw623_0)).trans hw623_0), ((HB.out.cell (World.block_lt_of_cell? w _ hw623_1)).trans hw623_1), ((HB.out.cell (World.block_lt_of_cell? w _ hw623_2)).trans hw623_2), ((HB.out.cell (World.block_lt_of_cell? w _ hw623_3)).trans hw623_3)⟩ (fun hHeld => ?_)
   clear hK K
   refine norm_ (a' := ?_) ?_ ?_
   rotate_left
   ·
    show Act.put _ (some 26) _ = _
    simp only [Act.put, List.setIfInBounds_toArray, List.set_cons_zero, List.set_cons_succ, i64_w, i32_w]
    rfl
   refine pure_ (i := 9) (N := some 27) (v := ?_) (a' := ?_) #[true, true, true, true, true, true, true, true, true, true] rfl rfl (any_of HT_.out (by kernel_rfl)) (fun _ _ _ h => h) (Or.inl ⟨by rfl, ?_⟩) ?_ ?_
   rotate_left
   ·
    intro w'
    go_simp
    with_reducible rfl
   rotate_left
   ·
    simp only [Act.put, List.setIfInBounds_toArray, List.set_cons_zero, List.set_cons_succ, i64_w, i32_w]
    rfl
   refine done_ (done_of HT_.out (by kernel_rfl)) ?_
   try go_wp2
   go_roundg kj2
   case measure => have := HK1.out; have := HJ2.out; omega
   case rel => exact ⟨(wrap64 (x5_1 + 1)), au74, H', ⟨by have := HK1.out; have := HJ2.out; omega⟩, ⟨by repeat (first | (with_reducible first | exact HB.out | apply below_alloc | apply pw_below_drewN | apply below_drew1) | exact HB.out)⟩⟩
  |
   with_reducible refine (spec_l2May.calls kj2 _ _ ((rd_T26 l0 x5_1).f0) ((rd_T26 l0 x5_1).f1) ((rd_T26 l0 x5_1).f2) ((rd_T26 l0 x5_1).f3) _ _ ((rd_T26 l1 x5_1).f0) ((rd_T26 l1 x5_1).f1) ((rd_T26 l1 x5_1).f2) ((rd_T26 l1 x5_1).f3) _ _ ?side1 ?side2 ?side3 ?side4 A9.out).mono ?_
   (case side1 => repeat (first | exact (Kd.C_below HR622_0.out HB.out) | (with_reducible refine Kd.C_alloc ?_ _) | (with_reducible refine Kd.C_drewN ?_ _) | (with_reducible refine Kd.C_drew ?_)))
   (case side2 => exact HC622_0.out)
   (case side3 => repeat (first | exact (Kd.C_below HR623_0.out HB.out) | (with_reducible refine Kd.C_alloc ?_ _) | (with_reducible refine Kd.C_drewN ?_ _) | (with_reducible refine Kd.C_drew ?_)))
   (case side4 => exact HC623_0.out)
   rintro e w14 ⟨rfl, hb⟩
   refine ⟨_, rfl, ?_⟩
   have n0_ := Aside0.mk (below_step au38 hb)
   clear HB
   have HB := n0_
   clear n0_
   (try clear hb)
   (try clear hb2)
   (try clear hk)
   (try clear hi)
   refine hK.out _ _ ⟨((HB.out.cell (World.block_lt_of_cell? w _ hw622_0)).trans hw622_0), ((HB.out.cell (World.block_lt_of_cell? w _ hw622_1)).trans hw622_1), ((HB.out.cell (World.block_lt_of_cell? w _ hw622_2)).trans hw622_2), ((HB.out.cell (World.block_lt_of_cell? w _ hw622_3)).trans hw622_3), ((HB.out.cell (World.block_lt_of_cell? w _ hw623_0)).trans hw623_0), ((HB.out.cell (World.block_lt_of_cell? w _ hw623_1)).trans hw623_1), ((HB.out.cell (World.block_lt_of_cell? w _ hw623_2)).trans hw623_2), ((HB.out.cell (World.block_lt_of_cell? w _ hw623_3)).trans hw623_3)⟩ (fun hHeld => ?_)
   clear hK K
   refine norm_ (a' := ?_) ?_ ?_
   rotate_left
   ·
    show Act.put _ (some 26) _ = _
    simp only [Act.put, List.setIfInBounds_toArray, List.set_cons_zero, List.set_cons_succ, i64_w, i32_w]
    rfl
   refine pure_ (i := 9) (N := some 27) (v := ?_) (a' := ?_) #[true, true, true, true, true, true, true, true, true, true] rfl rfl (any_of HT_.out (by kernel_rfl)) (fun _ _ _ h => h) (Or.inl ⟨by rfl, ?_⟩) ?_ ?_
   rotate_left
   ·
    intro w'
    go_simp
    with_reducible rfl
   rotate_left
   ·
    simp only [Act.put, List.setIfInBounds_toArray, List.set_cons_zero, List.set_cons_succ, i64_w, i32_w]
    rfl
   refine done_ (done_of HT_.out (by kernel_rfl)) ?_
   try go_wp2
   go_ret
   exact ax3) : P := h
set_option maxHeartbeats 8000000 in
set_option maxRecDepth 100000 in
theorem spec_l2People.calls (k : Nat) (A0 : Option Addr) (c0 : Nat) (l0 : List (S26)) (A1 : Option Addr) (c1 : Nat) (l1 : List (S26)) (r : Bool) (w : World) (hr0 : Kd.C k26 w A0 l0.length l0) (hc0 : l0.length ≤ c0) (hr1 : Kd.C k26 w A1 l1.length l1) (hc1 : l1.length ≤ c1) (h : spec_l2People.f k l0 l1 = some r) :
  Calls Tryd.prog 39 #[.slice A0 l0.length c0, .slice A1 l1.length c1] w fun e w' => e = .returned (.bool r) ∧ Below w.heap.size w w' := by
 have hu26 := Tryd.underlying26
 have HR0 := Aside0.mk hr0
 have HC0 := Aside0.mk hc0
 clear hr0 hc0
 have HR1 := Aside0.mk hr1
 have HC1 := Aside0.mk hc1
 clear hr1 hc1
 have HB := Aside0.mk (Below.refl w.heap.size w)
 have H : (spec_l2People.l0 k l0 l1 0) = some r := h
 clear h
 have H' := Aside0.mk H
 clear H
 go_enter Tryd.func39, Tryd.ntmps39
 go_wp2
 go_loopg [5] k (fun kq v5 w' => ∃ (x5_1 : Int), v5 = .int .i64 x5_1 ∧ Aside0 (spec_l2People.l0 kq l0 l1 x5_1 = some r) ∧ Aside0 (kq ≤ k) ∧ Aside0 (Below w.heap.size w w'))
 case atStart => exact ⟨(0), au74, H', ⟨Nat.le_refl _⟩, ⟨by repeat (first | (with_reducible first | exact HB.out | apply below_alloc | apply pw_below_drewN | apply below_drew1) | exact HB.out)⟩⟩
 case round =>
  clear H'
  try clear c1
  try clear p2
  obtain ⟨x5_1, rfl, HA, HK1, HB⟩ := hrel
  cases gk with
  | zero => exact absurd HA.out (by simp [spec_l2People.l0])
  | succ k1 =>
   have H := HA.out
   clear HA
   simp only [spec_l2People.l0] at H
   have HC3 := Aside0.mk H
   clear H
   go_upto_region 2 with (fail)
   go_cut [15] (fun v15 wc => ∃ (kq : Nat) (x15_2 : Bool), v15 = .bool x15_2 ∧ Aside0 (spec_l2People.j1 kq l0 l1 x5_1 x15_2 = some r) ∧ Aside0 (kq ≤ k1) ∧ Aside0 (Below w.heap.size w wc))
   case first =>
    have H := HC3.out
    clear HC3
    by_cases c4 : x5_1 < (l0.length : Int)
    ·
     rw [if_pos c4] at H
     have c4b0 : decide (x5_1 < (l0.length : Int)) = true := decide_eq_true c4
     clear c4
     (first | rw [c4b0] | (simp only [i64_w, i32_w]; rw [c4b0]) | skip)
     have H' := Aside0.mk H
     clear H
     go_wp2
     go_meet
     case rel => exact ⟨_, (decide (x5_1 < (l1.length : Int))), au74, H', ⟨by have := HK1.out; first | omega | exact Nat.le_refl _⟩, ⟨by repeat (first | (with_reducible first | exact HB.out | apply below_alloc | apply pw_below_drewN | apply below_drew1) | exact HB.out)⟩⟩
    ·
     rw [if_neg c4] at H
     have c4b0 : decide (x5_1 < (l0.length : Int)) = false := decide_eq_false c4
     clear c4
     (first | rw [c4b0] | (simp only [i64_w, i32_w]; rw [c4b0]) | skip)
     have H' := Aside0.mk H
     clear H
     go_wp2
     go_meet
     case rel => exact ⟨_, (false), au74, H', ⟨by have := HK1.out; first | omega | exact Nat.le_refl _⟩, ⟨by repeat (first | (with_reducible first | exact HB.out | apply below_alloc | apply pw_below_drewN | apply below_drew1) | exact HB.out)⟩⟩
   case rest =>
    clear HC3
    try clear c1
    try clear p2
    try clear c3
    try clear c4
    try clear c4b0
    try clear p2
    obtain ⟨kq, x15_2, rfl, HA, HJ2, HB⟩ := hcut
    cases kq with
    | zero => exact absurd HA.out (by simp [spec_l2People.j1])
    | succ kj2 =>
     have H := HA.out
     clear HA
     simp only [spec_l2People.j1] at H
     by_cases c5 : x15_2 = true
     ·
      subst c5
      replace H := (if_pos rfl).symm.trans H
      by_cases c6 : 0 ≤ x5_1
      ·
       rw [if_pos c6] at H
       have c6b0 : decide (0 ≤ x5_1) = true := decide_eq_true c6
       clear c6
       by_cases c7 : x5_1 < (l0.length : Int)
       ·
        rw [if_pos c7] at H
        have c7b0 : decide (x5_1 < (l0.length : Int)) = true := decide_eq_true c7
        clear c7
        by_cases c8 : x5_1 < (l1.length : Int)
        ·
         rw [if_pos c8] at H
         have c8b0 : decide (x5_1 < (l1.length : Int)) = true := decide_eq_true c8
         clear c8
         replace H := Option.bind_eq_some_iff.mp H
         obtain ⟨t624, A90, H⟩ := H
         try dsimp only at H
         have A9 := Aside0.mk A90
         clear A90
         by_cases c10 : t624 = true
         ·
          subst c10
          replace H := (if_pos rfl).symm.trans H
          have H' := Aside0.mk H
          clear H
          exact spec_l2People.L0
         ·
          replace c10 := Bool.eq_false_iff.mpr c10
          subst c10
          replace H := (if_neg (show ¬ (false = true) by decide)).symm.trans H
          obtain rfl := Option.some.inj H
          exact spec_l2People.L0
        ·
         rw [if_neg c8] at H
         exact absurd H (by simp)
       ·
        rw [if_neg c7] at H
        exact absurd H (by simp)
      ·
       rw [if_neg c6] at H
       exact absurd H (by simp)
     ·
      replace c5 := Bool.eq_false_iff.mpr c5
      subst c5
      replace H := (if_neg (show ¬ (false = true) by decide)).symm.trans H
      obtain rfl := Option.some.inj H
      go_wp2
      go_ret
      exact ax3


/-! ### spec_SamePeople: function 17 -/
def spec_SamePeople.f (k : Nat) (l0 : List (S26)) (l1 : List (S26)) : Option (Bool × Bool) := (spec_l2List.f k l0).bind fun t625 => (if t625 = true then ((spec_l2List.f k l1).bind fun t626 => (if t626 = true then ((spec_l2People.f k l0 l1).bind fun t627 => (some (t627, true))) else (some (false, false)))) else (some (false, false)))
theorem spec_SamePeople.mono : ∀ a0 a1 k, LeO (spec_SamePeople.f k a0 a1) (spec_SamePeople.f (k + 1) a0 a1) := by
 intro a0 a1 k
 unfold spec_SamePeople.f
 repeat' first
   | (with_reducible exact spec_l2List.mono _ _)
   | (with_reducible exact spec_l2People.mono _ _ _)
   | (with_reducible exact LeO.refl _)
   | (with_reducible exact LeO.none _)
   | (with_reducible refine LeO.ite ?_ ?_)
   | (with_reducible refine LeO.bind ?_ (fun _ => ?_))
   | exact spec_l2List.mono _ _
   | exact spec_l2People.mono _ _ _
   | exact LeO.none _
   | refine LeO.ite ?_ ?_
   | refine LeO.bind ?_ (fun _ => ?_)
set_option maxHeartbeats 8000000 in
set_option maxRecDepth 100000 in
theorem spec_SamePeople.calls (k : Nat) (A0 : Option Addr) (c0 : Nat) (l0 : List (S26)) (A1 : Option Addr) (c1 : Nat) (l1 : List (S26)) (r1 : Bool) (r2 : Bool) (w : World) (hr0 : Kd.C k26 w A0 l0.length l0) (hc0 : l0.length ≤ c0) (hr1 : Kd.C k26 w A1 l1.length l1) (hc1 : l1.length ≤ c1) (h : spec_SamePeople.f k l0 l1 = some (r1, r2)) :
  Calls Tryd.prog 17 #[.slice A0 l0.length c0, .slice A1 l1.length c1] w fun e w' => e = .returned (.tuple #[.bool r1, .bool r2]) ∧ Below w.heap.size w w' := by
 have HR0 := Aside0.mk hr0
 have HC0 := Aside0.mk hc0
 clear hr0 hc0
 have HR1 := Aside0.mk hr1
 have HC1 := Aside0.mk hc1
 clear hr1 hc1
 have HB := Aside0.mk (Below.refl w.heap.size w)
 have H : ((spec_l2List.f k l0).bind fun t625 => (if t625 = true then ((spec_l2List.f k l1).bind fun t626 => (if t626 = true then ((spec_l2People.f k l0 l1).bind fun t627 => (some (t627, true))) else (some (false, false)))) else (some (false, false)))) = some (r1, r2) := h
 clear h
 replace H := Option.bind_eq_some_iff.mp H
 obtain ⟨t625, A30, H⟩ := H
 try dsimp only at H
 have A3 := Aside0.mk A30
 clear A30
 by_cases c4 : t625 = true
 ·
  subst c4
  replace H := (if_pos rfl).symm.trans H
  replace H := Option.bind_eq_some_iff.mp H
  obtain ⟨t626, A50, H⟩ := H
  try dsimp only at H
  have A5 := Aside0.mk A50
  clear A50
  by_cases c6 : t626 = true
  ·
   subst c6
   replace H := (if_pos rfl).symm.trans H
   replace H := Option.bind_eq_some_iff.mp H
   obtain ⟨t627, A70, H⟩ := H
   try dsimp only at H
   have A7 := Aside0.mk A70
   clear A70
   simp only [Option.some.injEq, Prod.mk.injEq] at H
   obtain ⟨rfl, rfl⟩ := H
   go_enter Tryd.func17, Tryd.ntmps17
   go_wp2_with (first | ((with_reducible refine gate_callee (f := 31) rfl ?_); refine goesL_ (some 7) rfl rfl Tryd.func31 (by kernel_rfl) rfl #[.slice A0 l0.length c0] rfl au37 ?_; (with_reducible refine (spec_l2List.calls k _ _ l0 true _ ?side1 ?side2 A3.out).mono ?_); (case side1 => repeat (first | exact HR0.out | (with_reducible refine Kd.C_alloc ?_ _) | (with_reducible refine Kd.C_drewN ?_ _) | (with_reducible refine Kd.C_drew ?_))); (case side2 => exact HC0.out); rintro e w8 ⟨rfl, hb⟩; refine ⟨_, rfl, ?_⟩; have n0_ := Aside0.mk (below_step au38 hb); clear HB; have HB := n0_; clear n0_; (try clear hb); (try clear hb2); (try clear hk); (try clear hi)) | (go_at_call 31; (with_reducible refine (spec_l2List.calls k _ _ l1 true _ ?side1 ?side2 A5.out).mono ?_); (case side1 => repeat (first | exact (Kd.C_below HR1.out HB.out) | (with_reducible refine Kd.C_alloc ?_ _) | (with_reducible refine Kd.C_drewN ?_ _) | (with_reducible refine Kd.C_drew ?_))); (case side2 => exact HC1.out); rintro e w9 ⟨rfl, hb⟩; have n0_ := Aside0.mk (below_step au38 hb); clear HB; have HB := n0_; clear n0_; (try clear hb); (try clear hb2); (try clear hk); (try clear hi)) | ((with_reducible refine gate_callee (f := 39) rfl ?_); refine goesL_ (some 16) rfl rfl Tryd.func39 (by kernel_rfl) rfl #[.slice A0 l0.length c0, .slice A1 l1.length c1] rfl au37 ?_; (with_reducible refine (spec_l2People.calls k _ _ l0 _ _ l1 t627 _ ?side1 ?side2 ?side3 ?side4 A7.out).mono ?_); (case side1 => repeat (first | exact (Kd.C_below HR0.out HB.out) | (with_reducible refine Kd.C_alloc ?_ _) | (with_reducible refine Kd.C_drewN ?_ _) | (with_reducible refine Kd.C_drew ?_))); (case side2 => exact HC0.out); (case side3 => repeat (first | exact (Kd.C_below HR1.out HB.out) | (with_reducible refine Kd.C_alloc ?_ _) | (with_reducible refine Kd.C_drewN ?_ _) | (with_reducible refine Kd.C_drew ?_))); (case side4 => exact HC1.out); rintro e w10 ⟨rfl, hb⟩; refine ⟨_, rfl, ?_⟩; have n0_ := Aside0.mk (below_step au38 hb); clear HB; have HB := n0_; clear n0_; (try clear hb); (try clear hb2); (try clear hk); (try clear hi)))
   go_ret2
   exact ax3
  ·
   replace c6 := Bool.eq_false_iff.mpr c6
   subst c6
   replace H := (if_neg (show ¬ (false = true) by decide)).symm.trans H
   simp only [Option.some.injEq, Prod.mk.injEq] at H
   obtain ⟨rfl, rfl⟩ := H
   go_enter Tryd.func17, Tryd.ntmps17
   go_wp2_with (first | ((with_reducible refine gate_callee (f := 31) rfl ?_); refine goesL_ (some 7) rfl rfl Tryd.func31 (by kernel_rfl) rfl #[.slice A0 l0.length c0] rfl au37 ?_; (with_reducible refine (spec_l2List.calls k _ _ l0 true _ ?side1 ?side2 A3.out).mono ?_); (case side1 => repeat (first | exact HR0.out | (with_reducible refine Kd.C_alloc ?_ _) | (with_reducible refine Kd.C_drewN ?_ _) | (with_reducible refine Kd.C_drew ?_))); (case side2 => exact HC0.out); rintro e w11 ⟨rfl, hb⟩; refine ⟨_, rfl, ?_⟩; have n0_ := Aside0.mk (below_step au38 hb); clear HB; have HB := n0_; clear n0_; (try clear hb); (try clear hb2); (try clear hk); (try clear hi)) | (go_at_call 31; (with_reducible refine (spec_l2List.calls k _ _ l1 false _ ?side1 ?side2 A5.out).mono ?_); (case side1 => repeat (first | exact (Kd.C_below HR1.out HB.out) | (with_reducible refine Kd.C_alloc ?_ _) | (with_reducible refine Kd.C_drewN ?_ _) | (with_reducible refine Kd.C_drew ?_))); (case side2 => exact HC1.out); rintro e w12 ⟨rfl, hb⟩; have n0_ := Aside0.mk (below_step au38 hb); clear HB; have HB := n0_; clear n0_; (try clear hb); (try clear hb2); (try clear hk); (try clear hi)))
   go_ret2
   exact ax3
 ·
  replace c4 := Bool.eq_false_iff.mpr c4
  subst c4
  replace H := (if_neg (show ¬ (false = true) by decide)).symm.trans H
  simp only [Option.some.injEq, Prod.mk.injEq] at H
  obtain ⟨rfl, rfl⟩ := H
  go_enter Tryd.func17, Tryd.ntmps17
  go_wp2_with (first | ((with_reducible refine gate_callee (f := 31) rfl ?_); refine goesL_ (some 7) rfl rfl Tryd.func31 (by kernel_rfl) rfl #[.slice A0 l0.length c0] rfl au37 ?_; (with_reducible refine (spec_l2List.calls k _ _ l0 false _ ?side1 ?side2 A3.out).mono ?_); (case side1 => repeat (first | exact HR0.out | (with_reducible refine Kd.C_alloc ?_ _) | (with_reducible refine Kd.C_drewN ?_ _) | (with_reducible refine Kd.C_drew ?_))); (case side2 => exact HC0.out); rintro e w13 ⟨rfl, hb⟩; refine ⟨_, rfl, ?_⟩; have n0_ := Aside0.mk (below_step au38 hb); clear HB; have HB := n0_; clear n0_; (try clear hb); (try clear hb2); (try clear hk); (try clear hi)))
  go_ret2
  exact ax3


/-! ### laws_vBig: function 5 -/
def laws_vBig.f (l0 : List Int) : Option (Bool) := some (decide ((l0.length : Int) > 65536))
set_option maxHeartbeats 8000000 in
set_option maxRecDepth 100000 in
theorem laws_vBig.calls (A0 : Option Addr) (c0 : Nat) (l0 : List Int) (r : Bool) (w : World) (hr0 : Kd.C (Kd.int .u8) w A0 l0.length l0) (hc0 : l0.length ≤ c0) (h : laws_vBig.f l0 = some r) :
  Calls Tryd.prog 5 #[.slice A0 l0.length c0] w fun e w' => e = .returned (.bool r) ∧ Drawn0 w w' := by
 have HR0 := Aside0.mk hr0
 have HC0 := Aside0.mk hc0
 clear hr0 hc0
 have H : (some (decide ((l0.length : Int) > 65536))) = some r := h
 clear h
 obtain rfl := Option.some.inj H
 go_enter Tryd.func5, Tryd.ntmps5
 go_wp2
 go_ret
 exact ax1


/-! ### laws_FnNameLists: function 4 -/
def laws_FnNameLists.j0 : Nat → List Int → List (S26) → Int → ByteArray → Bool → Bool → Option (Bool)
 | 0, _, _, _, _, _, _ => none
 | k + 1, x0, x3, x4, x5, x6, x43 => if x43 = true then (some false) else ((spec_DrawSamePeople.f k x0).bind fun bt637 => ((impl_SamePeople.f k bt637.1 bt637.2).bind fun bt643 => ((spec_SamePeople.f k bt637.1 bt637.2).bind fun bt645 => (if (bt643.1 != bt645.1) = true then (some false) else (if (bt643.2 != bt645.2) = true then (some false) else (if bt643.1 = true then (if (bt637.1.length : Int) = (bt637.2.length : Int) then ((impl_JoinNames.f k x3 4).bind fun bt647 => (if x6 = true then (if bt647.2 = true then (if (x3.length : Int) > x4 then (some ((decide ((x3.length : Int) > 0)) == (x5.toList != ([] : List UInt8)))) else (if bt647.1.toList = x5.toList then (some ((decide ((x3.length : Int) > 0)) == (x5.toList != ([] : List UInt8)))) else (some false))) else (some false)) else (some true))) else (some false)) else ((impl_JoinNames.f k x3 4).bind fun bt649 => (if x6 = true then (if bt649.2 = true then (if (x3.length : Int) > x4 then (some ((decide ((x3.length : Int) > 0)) == (x5.toList != ([] : List UInt8)))) else (if bt649.1.toList = x5.toList then (some ((decide ((x3.length : Int) > 0)) == (x5.toList != ([] : List UInt8)))) else (some false))) else (some false)) else (some true)))))))))
def laws_FnNameLists.f (k : Nat) (l0 : List Int) : Option (Bool) := (laws_vBig.f l0).bind fun t628 => (if t628 = true then (some true) else ((spec_DrawJoinNames.f k l0).bind fun bt629 => ((impl_JoinNames.f k bt629.1 bt629.2).bind fun bt633 => ((spec_JoinNames.f k bt629.1 bt629.2).bind fun bt635 => (if bt633.1.toList = bt635.1.toList then (laws_FnNameLists.j0 k l0 bt629.1 bt629.2 bt633.1 bt633.2 (bt633.2 != bt635.2)) else (laws_FnNameLists.j0 k l0 bt629.1 bt629.2 bt633.1 bt633.2 true))))))
theorem laws_FnNameLists.mono_l : ∀ k, (∀ y0 y1 y2 y3 y4 y5, LeO (laws_FnNameLists.j0 k y0 y1 y2 y3 y4 y5) (laws_FnNameLists.j0 (k + 1) y0 y1 y2 y3 y4 y5))
 | 0 => fun _ _ _ _ _ _ r h => by simp [laws_FnNameLists.j0] at h
 | k + 1 => by
  have ih0 := laws_FnNameLists.mono_l k
  ·
   intro y0 y1 y2 y3 y4 y5
   unfold laws_FnNameLists.j0
   repeat' first
   | (with_reducible exact ih0 _ _ _ _ _ _)
   | (with_reducible exact impl_JoinNames.mono _ _ _)
   | (with_reducible exact impl_SamePeople.mono _ _ _)
   | (with_reducible exact spec_DrawJoinNames.mono _ _)
   | (with_reducible exact spec_DrawSamePeople.mono _ _)
   | (with_reducible exact spec_JoinNames.mono _ _ _)
   | (with_reducible exact spec_SamePeople.mono _ _ _)
   | (with_reducible exact LeO.refl _)
   | (with_reducible exact LeO.none _)
   | (with_reducible refine LeO.ite ?_ ?_)
   | (with_reducible refine LeO.bind ?_ (fun _ => ?_))
   | exact ih0 _ _ _ _ _ _
   | exact impl_JoinNames.mono _ _ _
   | exact impl_SamePeople.mono _ _ _
   | exact spec_DrawJoinNames.mono _ _
   | exact spec_DrawSamePeople.mono _ _
   | exact spec_JoinNames.mono _ _ _
   | exact spec_SamePeople.mono _ _ _
   | exact LeO.none _
   | refine LeO.ite ?_ ?_
   | refine LeO.bind ?_ (fun _ => ?_)
theorem laws_FnNameLists.mono : ∀ a0 k, LeO (laws_FnNameLists.f k a0) (laws_FnNameLists.f (k + 1) a0) := by
 intro a0 k
 have ih0 := laws_FnNameLists.mono_l k
 unfold laws_FnNameLists.f
 repeat' first
   | (with_reducible exact ih0 _ _ _ _ _ _)
   | (with_reducible exact impl_JoinNames.mono _ _ _)
   | (with_reducible exact impl_SamePeople.mono _ _ _)
   | (with_reducible exact spec_DrawJoinNames.mono _ _)
   | (with_reducible exact spec_DrawSamePeople.mono _ _)
   | (with_reducible exact spec_JoinNames.mono _ _ _)
   | (with_reducible exact spec_SamePeople.mono _ _ _)
   | (with_reducible exact LeO.refl _)
   | (with_reducible exact LeO.none _)
   | (with_reducible refine LeO.ite ?_ ?_)
   | (with_reducible refine LeO.bind ?_ (fun _ => ?_))
   | exact ih0 _ _ _ _ _ _
   | exact impl_JoinNames.mono _ _ _
   | exact impl_SamePeople.mono _ _ _
   | exact spec_DrawJoinNames.mono _ _
   | exact spec_DrawSamePeople.mono _ _
   | exact spec_JoinNames.mono _ _ _
   | exact spec_SamePeople.mono _ _ _
   | exact LeO.none _
   | refine LeO.ite ?_ ?_
   | refine LeO.bind ?_ (fun _ => ?_)
set_option maxRecDepth 100000 in
theorem laws_FnNameLists.L0 {P : Prop} (h : P := by
  go_wp2_with (first | ((with_reducible refine gate_callee (f := 15) rfl ?_); refine goesL_ (some 46) rfl rfl Tryd.func15 (by kernel_rfl) rfl #[.slice A0 l0.length c0] rfl au37 ?_; (with_reducible refine (spec_DrawSamePeople.calls kj6 _ _ l0 t637 t638 _ ?side1 ?side2 A14.out).mono ?_); (case side1 => repeat (first | exact (Kd.C_below HR0.out HB.out) | (with_reducible refine Kd.C_alloc ?_ _) | (with_reducible refine Kd.C_drewN ?_ _) | (with_reducible refine Kd.C_drew ?_))); (case side2 => exact HC0.out); rintro e w100 ⟨v639, v641, rfl, ho0, ho1, hb⟩; refine ⟨_, rfl, ?_⟩; have n0_ := Aside0.mk (Kd.S_mono (Kd.S_told (Kd.S_told (Kd.S_old au69 hb) (Kd.S_base ho0)) (Kd.S_base ho1)) (fun _ h_ => h_.1)); have n1_ := Aside0.mk (Kd.S_lower (Kd.S_new' ho0 (Kd.S_lt au69)) (below_size au38)); have n2_ := Aside0.mk (Kd.S_lower (Kd.S_new' ho1 (Kd.S_lt au69)) (below_size au38)); have n3_ := Aside0.mk (below_step au38 hb); clear HO_3; clear HB; have HO_3 := n0_; have HO640 := n1_; have HO642 := n2_; have HB := n3_; clear n0_ n1_ n2_ n3_; (try clear hb); (try clear hb2); (try clear hk); (try clear hi); (try clear ho0); (try clear ho1); obtain ⟨Ao101, co101, eo101⟩ := Kd.S_slice HO640.out; subst eo101; obtain ⟨Ao102, co102, eo102⟩ := Kd.S_slice HO642.out; subst eo102) | ((with_reducible refine gate_callee (f := 16) rfl ?_); refine goesL_ (some 52) rfl rfl Tryd.func16 (by kernel_rfl) rfl #[.slice Ao101 t637.length co101, .slice Ao102 t638.length co102] rfl au37 ?_; (with_reducible refine (impl_SamePeople.calls (hG := au2) kj6 _ _ t637 _ _ t638 false t644 _ ?side1 ?side2 ?side3 ?side4 A15.out).mono ?_); (case side1 => repeat (first | exact (Kd.S_reads' HO640.out).2.2 | (with_reducible refine Kd.C_alloc ?_ _) | (with_reducible refine Kd.C_drewN ?_ _) | (with_reducible refine Kd.C_drew ?_))); (case side2 => exact (Kd.S_reads' HO640.out).2.1); (case side3 => repeat (first | exact (Kd.S_reads' HO642.out).2.2 | (with_reducible refine Kd.C_alloc ?_ _) | (with_reducible refine Kd.C_drewN ?_ _) | (with_reducible refine Kd.C_drew ?_))); (case side4 => exact (Kd.S_reads' HO642.out).2.1); rintro e w103 ⟨rfl, hb⟩; refine ⟨_, rfl, ?_⟩; have n0_ := Aside0.mk (Kd.S_below au69 hb); have n1_ := Aside0.mk (Kd.S_below au66 hb); have n2_ := Aside0.mk (Kd.S_below au67 hb); have n3_ := Aside0.mk (below_step au38 hb); clear HO_3; clear HO640; clear HO642; clear HB; have HO_3 := n0_; have HO640 := n1_; have HO642 := n2_; have HB := n3_; clear n0_ n1_ n2_ n3_; (try clear hb); (try clear hb2); (try clear hk); (try clear hi)) | ((with_reducible refine gate_callee (f := 17) rfl ?_); refine goesL_ (some 58) rfl rfl Tryd.func17 (by kernel_rfl) rfl #[.slice Ao101 t637.length co101, .slice Ao102 t638.length co102] rfl au37 ?_; (with_reducible refine (spec_SamePeople.calls kj6 _ _ t637 _ _ t638 t645 t646 _ ?side1 ?side2 ?side3 ?side4 A16.out).mono ?_); (case side1 => repeat (first | exact (Kd.S_reads' HO640.out).2.2 | (with_reducible refine Kd.C_alloc ?_ _) | (with_reducible refine Kd.C_drewN ?_ _) | (with_reducible refine Kd.C_drew ?_))); (case side2 => exact (Kd.S_reads' HO640.out).2.1); (case side3 => repeat (first | exact (Kd.S_reads' HO642.out).2.2 | (with_reducible refine Kd.C_alloc ?_ _) | (with_reducible refine Kd.C_drewN ?_ _) | (with_reducible refine Kd.C_drew ?_))); (case side4 => exact (Kd.S_reads' HO642.out).2.1); rintro e w104 ⟨rfl, hb⟩; refine ⟨_, rfl, ?_⟩; have n0_ := Aside0.mk (Kd.S_below au69 hb); have n1_ := Aside0.mk (Kd.S_below au66 hb); have n2_ := Aside0.mk (Kd.S_below au67 hb); have n3_ := Aside0.mk (below_step au38 hb); clear HO_3; clear HO640; clear HO642; clear HB; have HO_3 := n0_; have HO640 := n1_; have HO642 := n2_; have HB := n3_; clear n0_ n1_ n2_ n3_; (try clear hb); (try clear hb2); (try clear hk); (try clear hi)) | ((with_reducible refine gate_callee (f := 13) rfl ?_); refine goesL_ (some 81) rfl rfl Tryd.func13 (by kernel_rfl) rfl #[.slice Ao9 t629.length co9, .int .i64 4] rfl au37 ?_; (with_reducible refine (impl_JoinNames.calls (hG := au2) kj6 _ _ t629 4 t649 t650 _ ?side1 ?side2 A71.out).mono ?_); (case side1 => repeat (first | exact (Kd.S_reads' HO_3.out).2.2 | (with_reducible refine Kd.C_alloc ?_ _) | (with_reducible refine Kd.C_drewN ?_ _) | (with_reducible refine Kd.C_drew ?_))); (case side2 => exact (Kd.S_reads' HO_3.out).2.1); rintro e w105 ⟨rfl, hb⟩; refine ⟨_, rfl, ?_⟩; have n0_ := Aside0.mk (Kd.S_below au69 hb); have n1_ := Aside0.mk (Kd.S_below au66 hb); have n2_ := Aside0.mk (Kd.S_below au67 hb); have n3_ := Aside0.mk (below_step au38 hb); clear HO_3; clear HO640; clear HO642; clear HB; have HO_3 := n0_; have HO640 := n1_; have HO642 := n2_; have HB := n3_; clear n0_ n1_ n2_ n3_; (try clear hb); (try clear hb2); (try clear hk); (try clear hi)))
  go_ret
  exact ⟨by first | rfl | (simp [errW_none, errW_some] <;> rfl) | (simp [*, errW_none, errW_some] <;> rfl) | (simp [errW_none, errW_some]; simp only [show ∀ l_ : List UInt8, (!l_.isEmpty) = (l_ != ([] : List UInt8)) from fun l_ => by cases l_ <;> rfl]), by repeat (first | (with_reducible first | exact HB.out | apply below_alloc | apply pw_below_drewN | apply below_drew1) | exact HB.out)⟩) : P := h
set_option maxRecDepth 100000 in
theorem laws_FnNameLists.L1 {P : Prop} (h : P := by
  go_wp2_with (first | ((with_reducible refine gate_callee (f := 15) rfl ?_); refine goesL_ (some 46) rfl rfl Tryd.func15 (by kernel_rfl) rfl #[.slice A0 l0.length c0] rfl au37 ?_; (with_reducible refine (spec_DrawSamePeople.calls kj6 _ _ l0 t637 t638 _ ?side1 ?side2 A14.out).mono ?_); (case side1 => repeat (first | exact (Kd.C_below HR0.out HB.out) | (with_reducible refine Kd.C_alloc ?_ _) | (with_reducible refine Kd.C_drewN ?_ _) | (with_reducible refine Kd.C_drew ?_))); (case side2 => exact HC0.out); rintro e w60 ⟨v639, v641, rfl, ho0, ho1, hb⟩; refine ⟨_, rfl, ?_⟩; have n0_ := Aside0.mk (Kd.S_mono (Kd.S_told (Kd.S_told (Kd.S_old au69 hb) (Kd.S_base ho0)) (Kd.S_base ho1)) (fun _ h_ => h_.1)); have n1_ := Aside0.mk (Kd.S_lower (Kd.S_new' ho0 (Kd.S_lt au69)) (below_size au38)); have n2_ := Aside0.mk (Kd.S_lower (Kd.S_new' ho1 (Kd.S_lt au69)) (below_size au38)); have n3_ := Aside0.mk (below_step au38 hb); clear HO_3; clear HB; have HO_3 := n0_; have HO640 := n1_; have HO642 := n2_; have HB := n3_; clear n0_ n1_ n2_ n3_; (try clear hb); (try clear hb2); (try clear hk); (try clear hi); (try clear ho0); (try clear ho1); obtain ⟨Ao61, co61, eo61⟩ := Kd.S_slice HO640.out; subst eo61; obtain ⟨Ao62, co62, eo62⟩ := Kd.S_slice HO642.out; subst eo62) | ((with_reducible refine gate_callee (f := 16) rfl ?_); refine goesL_ (some 52) rfl rfl Tryd.func16 (by kernel_rfl) rfl #[.slice Ao61 t637.length co61, .slice Ao62 t638.length co62] rfl au37 ?_; (with_reducible refine (impl_SamePeople.calls (hG := au2) kj6 _ _ t637 _ _ t638 true t644 _ ?side1 ?side2 ?side3 ?side4 A15.out).mono ?_); (case side1 => repeat (first | exact (Kd.S_reads' HO640.out).2.2 | (with_reducible refine Kd.C_alloc ?_ _) | (with_reducible refine Kd.C_drewN ?_ _) | (with_reducible refine Kd.C_drew ?_))); (case side2 => exact (Kd.S_reads' HO640.out).2.1); (case side3 => repeat (first | exact (Kd.S_reads' HO642.out).2.2 | (with_reducible refine Kd.C_alloc ?_ _) | (with_reducible refine Kd.C_drewN ?_ _) | (with_reducible refine Kd.C_drew ?_))); (case side4 => exact (Kd.S_reads' HO642.out).2.1); rintro e w63 ⟨rfl, hb⟩; refine ⟨_, rfl, ?_⟩; have n0_ := Aside0.mk (Kd.S_below au69 hb); have n1_ := Aside0.mk (Kd.S_below au66 hb); have n2_ := Aside0.mk (Kd.S_below au67 hb); have n3_ := Aside0.mk (below_step au38 hb); clear HO_3; clear HO640; clear HO642; clear HB; have HO_3 := n0_; have HO640 := n1_; have HO642 := n2_; have HB := n3_; clear n0_ n1_ n2_ n3_; (try clear hb); (try clear hb2); (try clear hk); (try clear hi)) | ((with_reducible refine gate_callee (f := 17) rfl ?_); refine goesL_ (some 58) rfl rfl Tryd.func17 (by kernel_rfl) rfl #[.slice Ao61 t637.length co61, .slice Ao62 t638.length co62] rfl au37 ?_; (with_reducible refine (spec_SamePeople.calls kj6 _ _ t637 _ _ t638 t645 t646 _ ?side1 ?side2 ?side3 ?side4 A16.out).mono ?_); (case side1 => repeat (first | exact (Kd.S_reads' HO640.out).2.2 | (with_reducible refine Kd.C_alloc ?_ _) | (with_reducible refine Kd.C_drewN ?_ _) | (with_reducible refine Kd.C_drew ?_))); (case side2 => exact (Kd.S_reads' HO640.out).2.1); (case side3 => repeat (first | exact (Kd.S_reads' HO642.out).2.2 | (with_reducible refine Kd.C_alloc ?_ _) | (with_reducible refine Kd.C_drewN ?_ _) | (with_reducible refine Kd.C_drew ?_))); (case side4 => exact (Kd.S_reads' HO642.out).2.1); rintro e w64 ⟨rfl, hb⟩; refine ⟨_, rfl, ?_⟩; have n0_ := Aside0.mk (Kd.S_below au69 hb); have n1_ := Aside0.mk (Kd.S_below au66 hb); have n2_ := Aside0.mk (Kd.S_below au67 hb); have n3_ := Aside0.mk (below_step au38 hb); clear HO_3; clear HO640; clear HO642; clear HB; have HO_3 := n0_; have HO640 := n1_; have HO642 := n2_; have HB := n3_; clear n0_ n1_ n2_ n3_; (try clear hb); (try clear hb2); (try clear hk); (try clear hi)) | ((with_reducible refine gate_callee (f := 13) rfl ?_); refine goesL_ (some 81) rfl rfl Tryd.func13 (by kernel_rfl) rfl #[.slice Ao9 t629.length co9, .int .i64 4] rfl au37 ?_; (with_reducible refine (impl_JoinNames.calls (hG := au2) kj6 _ _ t629 4 t647 t648 _ ?side1 ?side2 A31.out).mono ?_); (case side1 => repeat (first | exact (Kd.S_reads' HO_3.out).2.2 | (with_reducible refine Kd.C_alloc ?_ _) | (with_reducible refine Kd.C_drewN ?_ _) | (with_reducible refine Kd.C_drew ?_))); (case side2 => exact (Kd.S_reads' HO_3.out).2.1); rintro e w65 ⟨rfl, hb⟩; refine ⟨_, rfl, ?_⟩; have n0_ := Aside0.mk (Kd.S_below au69 hb); have n1_ := Aside0.mk (Kd.S_below au66 hb); have n2_ := Aside0.mk (Kd.S_below au67 hb); have n3_ := Aside0.mk (below_step au38 hb); clear HO_3; clear HO640; clear HO642; clear HB; have HO_3 := n0_; have HO640 := n1_; have HO642 := n2_; have HB := n3_; clear n0_ n1_ n2_ n3_; (try clear hb); (try clear hb2); (try clear hk); (try clear hi)))
  go_ret
  exact ⟨by first | rfl | (simp [errW_none, errW_some] <;> rfl) | (simp [*, errW_none, errW_some] <;> rfl) | (simp [errW_none, errW_some]; simp only [show ∀ l_ : List UInt8, (!l_.isEmpty) = (l_ != ([] : List UInt8)) from fun l_ => by cases l_ <;> rfl]), by repeat (first | (with_reducible first | exact HB.out | apply below_alloc | apply pw_below_drewN | apply below_drew1) | exact HB.out)⟩) : P := h
set_option maxRecDepth 100000 in
theorem laws_FnNameLists.L2 {P : Prop} (h : P := by
  go_wp2_with (first | ((with_reducible refine gate_callee (f := 15) rfl ?_); refine goesL_ (some 46) rfl rfl Tryd.func15 (by kernel_rfl) rfl #[.slice A0 l0.length c0] rfl au37 ?_; (with_reducible refine (spec_DrawSamePeople.calls kj6 _ _ l0 t637 t638 _ ?side1 ?side2 A14.out).mono ?_); (case side1 => repeat (first | exact (Kd.C_below HR0.out HB.out) | (with_reducible refine Kd.C_alloc ?_ _) | (with_reducible refine Kd.C_drewN ?_ _) | (with_reducible refine Kd.C_drew ?_))); (case side2 => exact HC0.out); rintro e w75 ⟨v639, v641, rfl, ho0, ho1, hb⟩; refine ⟨_, rfl, ?_⟩; have n0_ := Aside0.mk (Kd.S_mono (Kd.S_told (Kd.S_told (Kd.S_old au69 hb) (Kd.S_base ho0)) (Kd.S_base ho1)) (fun _ h_ => h_.1)); have n1_ := Aside0.mk (Kd.S_lower (Kd.S_new' ho0 (Kd.S_lt au69)) (below_size au38)); have n2_ := Aside0.mk (Kd.S_lower (Kd.S_new' ho1 (Kd.S_lt au69)) (below_size au38)); have n3_ := Aside0.mk (below_step au38 hb); clear HO_3; clear HB; have HO_3 := n0_; have HO640 := n1_; have HO642 := n2_; have HB := n3_; clear n0_ n1_ n2_ n3_; (try clear hb); (try clear hb2); (try clear hk); (try clear hi); (try clear ho0); (try clear ho1); obtain ⟨Ao76, co76, eo76⟩ := Kd.S_slice HO640.out; subst eo76; obtain ⟨Ao77, co77, eo77⟩ := Kd.S_slice HO642.out; subst eo77) | ((with_reducible refine gate_callee (f := 16) rfl ?_); refine goesL_ (some 52) rfl rfl Tryd.func16 (by kernel_rfl) rfl #[.slice Ao76 t637.length co76, .slice Ao77 t638.length co77] rfl au37 ?_; (with_reducible refine (impl_SamePeople.calls (hG := au2) kj6 _ _ t637 _ _ t638 false t644 _ ?side1 ?side2 ?side3 ?side4 A15.out).mono ?_); (case side1 => repeat (first | exact (Kd.S_reads' HO640.out).2.2 | (with_reducible refine Kd.C_alloc ?_ _) | (with_reducible refine Kd.C_drewN ?_ _) | (with_reducible refine Kd.C_drew ?_))); (case side2 => exact (Kd.S_reads' HO640.out).2.1); (case side3 => repeat (first | exact (Kd.S_reads' HO642.out).2.2 | (with_reducible refine Kd.C_alloc ?_ _) | (with_reducible refine Kd.C_drewN ?_ _) | (with_reducible refine Kd.C_drew ?_))); (case side4 => exact (Kd.S_reads' HO642.out).2.1); rintro e w78 ⟨rfl, hb⟩; refine ⟨_, rfl, ?_⟩; have n0_ := Aside0.mk (Kd.S_below au69 hb); have n1_ := Aside0.mk (Kd.S_below au66 hb); have n2_ := Aside0.mk (Kd.S_below au67 hb); have n3_ := Aside0.mk (below_step au38 hb); clear HO_3; clear HO640; clear HO642; clear HB; have HO_3 := n0_; have HO640 := n1_; have HO642 := n2_; have HB := n3_; clear n0_ n1_ n2_ n3_; (try clear hb); (try clear hb2); (try clear hk); (try clear hi)) | ((with_reducible refine gate_callee (f := 17) rfl ?_); refine goesL_ (some 58) rfl rfl Tryd.func17 (by kernel_rfl) rfl #[.slice Ao76 t637.length co76, .slice Ao77 t638.length co77] rfl au37 ?_; (with_reducible refine (spec_SamePeople.calls kj6 _ _ t637 _ _ t638 t645 t646 _ ?side1 ?side2 ?side3 ?side4 A16.out).mono ?_); (case side1 => repeat (first | exact (Kd.S_reads' HO640.out).2.2 | (with_reducible refine Kd.C_alloc ?_ _) | (with_reducible refine Kd.C_drewN ?_ _) | (with_reducible refine Kd.C_drew ?_))); (case side2 => exact (Kd.S_reads' HO640.out).2.1); (case side3 => repeat (first | exact (Kd.S_reads' HO642.out).2.2 | (with_reducible refine Kd.C_alloc ?_ _) | (with_reducible refine Kd.C_drewN ?_ _) | (with_reducible refine Kd.C_drew ?_))); (case side4 => exact (Kd.S_reads' HO642.out).2.1); rintro e w79 ⟨rfl, hb⟩; refine ⟨_, rfl, ?_⟩; have n0_ := Aside0.mk (Kd.S_below au69 hb); have n1_ := Aside0.mk (Kd.S_below au66 hb); have n2_ := Aside0.mk (Kd.S_below au67 hb); have n3_ := Aside0.mk (below_step au38 hb); clear HO_3; clear HO640; clear HO642; clear HB; have HO_3 := n0_; have HO640 := n1_; have HO642 := n2_; have HB := n3_; clear n0_ n1_ n2_ n3_; (try clear hb); (try clear hb2); (try clear hk); (try clear hi)) | ((with_reducible refine gate_callee (f := 13) rfl ?_); refine goesL_ (some 81) rfl rfl Tryd.func13 (by kernel_rfl) rfl #[.slice Ao9 t629.length co9, .int .i64 4] rfl au37 ?_; (with_reducible refine (impl_JoinNames.calls (hG := au2) kj6 _ _ t629 4 t649 _ _ ?side1 ?side2 A71.out).mono ?_); (case side1 => repeat (first | exact (Kd.S_reads' HO_3.out).2.2 | (with_reducible refine Kd.C_alloc ?_ _) | (with_reducible refine Kd.C_drewN ?_ _) | (with_reducible refine Kd.C_drew ?_))); (case side2 => exact (Kd.S_reads' HO_3.out).2.1); rintro e w80 ⟨rfl, hb⟩; refine ⟨_, rfl, ?_⟩; have n0_ := Aside0.mk (Kd.S_below au69 hb); have n1_ := Aside0.mk (Kd.S_below au66 hb); have n2_ := Aside0.mk (Kd.S_below au67 hb); have n3_ := Aside0.mk (below_step au38 hb); clear HO_3; clear HO640; clear HO642; clear HB; have HO_3 := n0_; have HO640 := n1_; have HO642 := n2_; have HB := n3_; clear n0_ n1_ n2_ n3_; (try clear hb); (try clear hb2); (try clear hk); (try clear hi)))
  go_ret
  exact ⟨by first | rfl | (simp [errW_none, errW_some] <;> rfl) | (simp [*, errW_none, errW_some] <;> rfl) | (simp [errW_none, errW_some]; simp only [show ∀ l_ : List UInt8, (!l_.isEmpty) = (l_ != ([] : List UInt8)) from fun l_ => by cases l_ <;> rfl]), by repeat (first | (with_reducible first | exact HB.out | apply below_alloc | apply pw_below_drewN | apply below_drew1) | exact HB.out)⟩) : P := h
set_option maxRecDepth 100000 in
theorem laws_FnNameLists.L3 {P : Prop} (h : P := by
  go_wp2_with (first | ((with_reducible refine gate_callee (f := 15) rfl ?_); refine goesL_ (some 46) rfl rfl Tryd.func15 (by kernel_rfl) rfl #[.slice A0 l0.length c0] rfl au37 ?_; (with_reducible refine (spec_DrawSamePeople.calls kj6 _ _ l0 t637 t638 _ ?side1 ?side2 A14.out).mono ?_); (case side1 => repeat (first | exact (Kd.C_below HR0.out HB.out) | (with_reducible refine Kd.C_alloc ?_ _) | (with_reducible refine Kd.C_drewN ?_ _) | (with_reducible refine Kd.C_drew ?_))); (case side2 => exact HC0.out); rintro e w35 ⟨v639, v641, rfl, ho0, ho1, hb⟩; refine ⟨_, rfl, ?_⟩; have n0_ := Aside0.mk (Kd.S_mono (Kd.S_told (Kd.S_told (Kd.S_old au69 hb) (Kd.S_base ho0)) (Kd.S_base ho1)) (fun _ h_ => h_.1)); have n1_ := Aside0.mk (Kd.S_lower (Kd.S_new' ho0 (Kd.S_lt au69)) (below_size au38)); have n2_ := Aside0.mk (Kd.S_lower (Kd.S_new' ho1 (Kd.S_lt au69)) (below_size au38)); have n3_ := Aside0.mk (below_step au38 hb); clear HO_3; clear HB; have HO_3 := n0_; have HO640 := n1_; have HO642 := n2_; have HB := n3_; clear n0_ n1_ n2_ n3_; (try clear hb); (try clear hb2); (try clear hk); (try clear hi); (try clear ho0); (try clear ho1); obtain ⟨Ao36, co36, eo36⟩ := Kd.S_slice HO640.out; subst eo36; obtain ⟨Ao37, co37, eo37⟩ := Kd.S_slice HO642.out; subst eo37) | ((with_reducible refine gate_callee (f := 16) rfl ?_); refine goesL_ (some 52) rfl rfl Tryd.func16 (by kernel_rfl) rfl #[.slice Ao36 t637.length co36, .slice Ao37 t638.length co37] rfl au37 ?_; (with_reducible refine (impl_SamePeople.calls (hG := au2) kj6 _ _ t637 _ _ t638 true t644 _ ?side1 ?side2 ?side3 ?side4 A15.out).mono ?_); (case side1 => repeat (first | exact (Kd.S_reads' HO640.out).2.2 | (with_reducible refine Kd.C_alloc ?_ _) | (with_reducible refine Kd.C_drewN ?_ _) | (with_reducible refine Kd.C_drew ?_))); (case side2 => exact (Kd.S_reads' HO640.out).2.1); (case side3 => repeat (first | exact (Kd.S_reads' HO642.out).2.2 | (with_reducible refine Kd.C_alloc ?_ _) | (with_reducible refine Kd.C_drewN ?_ _) | (with_reducible refine Kd.C_drew ?_))); (case side4 => exact (Kd.S_reads' HO642.out).2.1); rintro e w38 ⟨rfl, hb⟩; refine ⟨_, rfl, ?_⟩; have n0_ := Aside0.mk (Kd.S_below au69 hb); have n1_ := Aside0.mk (Kd.S_below au66 hb); have n2_ := Aside0.mk (Kd.S_below au67 hb); have n3_ := Aside0.mk (below_step au38 hb); clear HO_3; clear HO640; clear HO642; clear HB; have HO_3 := n0_; have HO640 := n1_; have HO642 := n2_; have HB := n3_; clear n0_ n1_ n2_ n3_; (try clear hb); (try clear hb2); (try clear hk); (try clear hi)) | ((with_reducible refine gate_callee (f := 17) rfl ?_); refine goesL_ (some 58) rfl rfl Tryd.func17 (by kernel_rfl) rfl #[.slice Ao36 t637.length co36, .slice Ao37 t638.length co37] rfl au37 ?_; (with_reducible refine (spec_SamePeople.calls kj6 _ _ t637 _ _ t638 t645 t646 _ ?side1 ?side2 ?side3 ?side4 A16.out).mono ?_); (case side1 => repeat (first | exact (Kd.S_reads' HO640.out).2.2 | (with_reducible refine Kd.C_alloc ?_ _) | (with_reducible refine Kd.C_drewN ?_ _) | (with_reducible refine Kd.C_drew ?_))); (case side2 => exact (Kd.S_reads' HO640.out).2.1); (case side3 => repeat (first | exact (Kd.S_reads' HO642.out).2.2 | (with_reducible refine Kd.C_alloc ?_ _) | (with_reducible refine Kd.C_drewN ?_ _) | (with_reducible refine Kd.C_drew ?_))); (case side4 => exact (Kd.S_reads' HO642.out).2.1); rintro e w39 ⟨rfl, hb⟩; refine ⟨_, rfl, ?_⟩; have n0_ := Aside0.mk (Kd.S_below au69 hb); have n1_ := Aside0.mk (Kd.S_below au66 hb); have n2_ := Aside0.mk (Kd.S_below au67 hb); have n3_ := Aside0.mk (below_step au38 hb); clear HO_3; clear HO640; clear HO642; clear HB; have HO_3 := n0_; have HO640 := n1_; have HO642 := n2_; have HB := n3_; clear n0_ n1_ n2_ n3_; (try clear hb); (try clear hb2); (try clear hk); (try clear hi)) | ((with_reducible refine gate_callee (f := 13) rfl ?_); refine goesL_ (some 81) rfl rfl Tryd.func13 (by kernel_rfl) rfl #[.slice Ao9 t629.length co9, .int .i64 4] rfl au37 ?_; (with_reducible refine (impl_JoinNames.calls (hG := au2) kj6 _ _ t629 4 t647 _ _ ?side1 ?side2 A31.out).mono ?_); (case side1 => repeat (first | exact (Kd.S_reads' HO_3.out).2.2 | (with_reducible refine Kd.C_alloc ?_ _) | (with_reducible refine Kd.C_drewN ?_ _) | (with_reducible refine Kd.C_drew ?_))); (case side2 => exact (Kd.S_reads' HO_3.out).2.1); rintro e w40 ⟨rfl, hb⟩; refine ⟨_, rfl, ?_⟩; have n0_ := Aside0.mk (Kd.S_below au69 hb); have n1_ := Aside0.mk (Kd.S_below au66 hb); have n2_ := Aside0.mk (Kd.S_below au67 hb); have n3_ := Aside0.mk (below_step au38 hb); clear HO_3; clear HO640; clear HO642; clear HB; have HO_3 := n0_; have HO640 := n1_; have HO642 := n2_; have HB := n3_; clear n0_ n1_ n2_ n3_; (try clear hb); (try clear hb2); (try clear hk); (try clear hi)))
  go_ret
  exact ⟨by first | rfl | (simp [errW_none, errW_some] <;> rfl) | (simp [*, errW_none, errW_some] <;> rfl) | (simp [errW_none, errW_some]; simp only [show ∀ l_ : List UInt8, (!l_.isEmpty) = (l_ != ([] : List UInt8)) from fun l_ => by cases l_ <;> rfl]), by repeat (first | (with_reducible first | exact HB.out | apply below_alloc | apply pw_below_drewN | apply below_drew1) | exact HB.out)⟩) : P := h
set_option maxRecDepth 100000 in
theorem laws_FnNameLists.L4 {P : Prop} (h : P := by
  go_wp2_with (first | ((with_reducible refine gate_callee (f := 15) rfl ?_); refine goesL_ (some 46) rfl rfl Tryd.func15 (by kernel_rfl) rfl #[.slice A0 l0.length c0] rfl au37 ?_; (with_reducible refine (spec_DrawSamePeople.calls kj6 _ _ l0 t637 t638 _ ?side1 ?side2 A14.out).mono ?_); (case side1 => repeat (first | exact (Kd.C_below HR0.out HB.out) | (with_reducible refine Kd.C_alloc ?_ _) | (with_reducible refine Kd.C_drewN ?_ _) | (with_reducible refine Kd.C_drew ?_))); (case side2 => exact HC0.out); rintro e w18 ⟨v639, v641, rfl, ho0, ho1, hb⟩; refine ⟨_, rfl, ?_⟩; have n0_ := Aside0.mk (Kd.S_mono (Kd.S_told (Kd.S_told (Kd.S_old au69 hb) (Kd.S_base ho0)) (Kd.S_base ho1)) (fun _ h_ => h_.1)); have n1_ := Aside0.mk (Kd.S_lower (Kd.S_new' ho0 (Kd.S_lt au69)) (below_size au38)); have n2_ := Aside0.mk (Kd.S_lower (Kd.S_new' ho1 (Kd.S_lt au69)) (below_size au38)); have n3_ := Aside0.mk (below_step au38 hb); clear HO_3; clear HB; have HO_3 := n0_; have HO640 := n1_; have HO642 := n2_; have HB := n3_; clear n0_ n1_ n2_ n3_; (try clear hb); (try clear hb2); (try clear hk); (try clear hi); (try clear ho0); (try clear ho1); obtain ⟨Ao19, co19, eo19⟩ := Kd.S_slice HO640.out; subst eo19; obtain ⟨Ao20, co20, eo20⟩ := Kd.S_slice HO642.out; subst eo20) | ((with_reducible refine gate_callee (f := 16) rfl ?_); refine goesL_ (some 52) rfl rfl Tryd.func16 (by kernel_rfl) rfl #[.slice Ao19 t637.length co19, .slice Ao20 t638.length co20] rfl au37 ?_; (with_reducible refine (impl_SamePeople.calls (hG := au2) kj6 _ _ t637 _ _ t638 t643 t644 _ ?side1 ?side2 ?side3 ?side4 A15.out).mono ?_); (case side1 => repeat (first | exact (Kd.S_reads' HO640.out).2.2 | (with_reducible refine Kd.C_alloc ?_ _) | (with_reducible refine Kd.C_drewN ?_ _) | (with_reducible refine Kd.C_drew ?_))); (case side2 => exact (Kd.S_reads' HO640.out).2.1); (case side3 => repeat (first | exact (Kd.S_reads' HO642.out).2.2 | (with_reducible refine Kd.C_alloc ?_ _) | (with_reducible refine Kd.C_drewN ?_ _) | (with_reducible refine Kd.C_drew ?_))); (case side4 => exact (Kd.S_reads' HO642.out).2.1); rintro e w21 ⟨rfl, hb⟩; refine ⟨_, rfl, ?_⟩; have n0_ := Aside0.mk (Kd.S_below au69 hb); have n1_ := Aside0.mk (Kd.S_below au66 hb); have n2_ := Aside0.mk (Kd.S_below au67 hb); have n3_ := Aside0.mk (below_step au38 hb); clear HO_3; clear HO640; clear HO642; clear HB; have HO_3 := n0_; have HO640 := n1_; have HO642 := n2_; have HB := n3_; clear n0_ n1_ n2_ n3_; (try clear hb); (try clear hb2); (try clear hk); (try clear hi)) | ((with_reducible refine gate_callee (f := 17) rfl ?_); refine goesL_ (some 58) rfl rfl Tryd.func17 (by kernel_rfl) rfl #[.slice Ao19 t637.length co19, .slice Ao20 t638.length co20] rfl au37 ?_; (with_reducible refine (spec_SamePeople.calls kj6 _ _ t637 _ _ t638 t645 t646 _ ?side1 ?side2 ?side3 ?side4 A16.out).mono ?_); (case side1 => repeat (first | exact (Kd.S_reads' HO640.out).2.2 | (with_reducible refine Kd.C_alloc ?_ _) | (with_reducible refine Kd.C_drewN ?_ _) | (with_reducible refine Kd.C_drew ?_))); (case side2 => exact (Kd.S_reads' HO640.out).2.1); (case side3 => repeat (first | exact (Kd.S_reads' HO642.out).2.2 | (with_reducible refine Kd.C_alloc ?_ _) | (with_reducible refine Kd.C_drewN ?_ _) | (with_reducible refine Kd.C_drew ?_))); (case side4 => exact (Kd.S_reads' HO642.out).2.1); rintro e w22 ⟨rfl, hb⟩; refine ⟨_, rfl, ?_⟩; have n0_ := Aside0.mk (Kd.S_below au69 hb); have n1_ := Aside0.mk (Kd.S_below au66 hb); have n2_ := Aside0.mk (Kd.S_below au67 hb); have n3_ := Aside0.mk (below_step au38 hb); clear HO_3; clear HO640; clear HO642; clear HB; have HO_3 := n0_; have HO640 := n1_; have HO642 := n2_; have HB := n3_; clear n0_ n1_ n2_ n3_; (try clear hb); (try clear hb2); (try clear hk); (try clear hi)))
  go_ret
  exact ⟨by first | rfl | (simp [errW_none, errW_some] <;> rfl) | (simp [*, errW_none, errW_some] <;> rfl) | (simp [errW_none, errW_some]; simp only [show ∀ l_ : List UInt8, (!l_.isEmpty) = (l_ != ([] : List UInt8)) from fun l_ => by cases l_ <;> rfl]), by repeat (first | (with_reducible first | exact HB.out | apply below_alloc | apply pw_below_drewN | apply below_drew1) | exact HB.out)⟩) : P := h
set_option maxHeartbeats 8000000 in
set_option maxRecDepth 100000 in
theorem laws_FnNameLists.calls (k : Nat) (A0 : Option Addr) (c0 : Nat) (l0 : List Int) (r : Bool) (w : World) {gF1 gF2 gF3 : Bool} (hG : GL gF1 gF2 gF3 w) (hr0 : Kd.C (Kd.int .u8) w A0 l0.length l0) (hc0 : l0.length ≤ c0) (h : laws_FnNameLists.f k l0 = some r) :
  Calls Tryd.prog 4 #[.slice A0 l0.length c0] w fun e w' => e = .returned (.bool r) ∧ Below w.heap.size w w' := by
 have HG := Aside0.mk hG
 clear hG
 have HR0 := Aside0.mk hr0
 have HC0 := Aside0.mk hc0
 clear hr0 hc0
 have HB := Aside0.mk (Below.refl w.heap.size w)
 have H : ((laws_vBig.f l0).bind fun t628 => (if t628 = true then (some true) else ((spec_DrawJoinNames.f k l0).bind fun bt629 => ((impl_JoinNames.f k bt629.1 bt629.2).bind fun bt633 => ((spec_JoinNames.f k bt629.1 bt629.2).bind fun bt635 => (if bt633.1.toList = bt635.1.toList then (laws_FnNameLists.j0 k l0 bt629.1 bt629.2 bt633.1 bt633.2 (bt633.2 != bt635.2)) else (laws_FnNameLists.j0 k l0 bt629.1 bt629.2 bt633.1 bt633.2 true))))))) = some r := h
 clear h
 replace H := Option.bind_eq_some_iff.mp H
 obtain ⟨t628, A20, H⟩ := H
 try dsimp only at H
 have A2 := Aside0.mk A20
 clear A20
 by_cases c3 : t628 = true
 ·
  subst c3
  replace H := (if_pos rfl).symm.trans H
  obtain rfl := Option.some.inj H
  go_enter Tryd.func4, Tryd.ntmps4
  go_wp2_with (first | ((with_reducible refine gate_callee (f := 5) rfl ?_); refine goesL_ (some 18) rfl rfl Tryd.func5 (by kernel_rfl) rfl #[.slice A0 l0.length c0] rfl au37 ?_; (with_reducible refine (laws_vBig.calls _ _ l0 _ _ ?side1 ?side2 A2.out).mono ?_); (case side1 => repeat (first | exact HR0.out | (with_reducible refine Kd.C_alloc ?_ _) | (with_reducible refine Kd.C_drewN ?_ _) | (with_reducible refine Kd.C_drew ?_))); (case side2 => exact HC0.out); rintro e w' ⟨rfl, ⟨nd, rfl⟩⟩; refine ⟨_, rfl, ?_⟩))
  go_ret
  exact ⟨by first | rfl | (simp [errW_none, errW_some] <;> rfl) | (simp [*, errW_none, errW_some] <;> rfl) | (simp [errW_none, errW_some]; simp only [show ∀ l_ : List UInt8, (!l_.isEmpty) = (l_ != ([] : List UInt8)) from fun l_ => by cases l_ <;> rfl]), by repeat (first | (with_reducible first | exact HB.out | apply below_alloc | apply pw_below_drewN | apply below_drew1) | exact HB.out)⟩
 ·
  replace c3 := Bool.eq_false_iff.mpr c3
  subst c3
  replace H := (if_neg (show ¬ (false = true) by decide)).symm.trans H
  replace H := Option.bind_eq_some_iff.mp H
  obtain ⟨⟨t629, t630⟩, A40, H⟩ := H
  replace H : ((impl_JoinNames.f k t629 t630).bind fun bt633 => ((spec_JoinNames.f k t629 t630).bind fun bt635 => (if bt633.1.toList = bt635.1.toList then (laws_FnNameLists.j0 k l0 t629 t630 bt633.1 bt633.2 (bt633.2 != bt635.2)) else (laws_FnNameLists.j0 k l0 t629 t630 bt633.1 bt633.2 true)))) = some r := H
  have A4 := Aside0.mk A40
  clear A40
  replace H := Option.bind_eq_some_iff.mp H
  obtain ⟨⟨t633, t634⟩, A50, H⟩ := H
  replace H : ((spec_JoinNames.f k t629 t630).bind fun bt635 => (if t633.toList = bt635.1.toList then (laws_FnNameLists.j0 k l0 t629 t630 t633 t634 (t634 != bt635.2)) else (laws_FnNameLists.j0 k l0 t629 t630 t633 t634 true))) = some r := H
  have A5 := Aside0.mk A50
  clear A50
  replace H := Option.bind_eq_some_iff.mp H
  obtain ⟨⟨t635, t636⟩, A60, H⟩ := H
  replace H : (if t633.toList = t635.toList then (laws_FnNameLists.j0 k l0 t629 t630 t633 t634 (t634 != t636)) else (laws_FnNameLists.j0 k l0 t629 t630 t633 t634 true)) = some r := H
  have A6 := Aside0.mk A60
  clear A60
  have HC7 := Aside0.mk H
  clear H
  go_enter Tryd.func4, Tryd.ntmps4
  go_upto_region 6 with (first | ((with_reducible refine gate_callee (f := 5) rfl ?_); refine goesL_ (some 18) rfl rfl Tryd.func5 (by kernel_rfl) rfl #[.slice A0 l0.length c0] rfl au37 ?_; (with_reducible refine (laws_vBig.calls _ _ l0 _ _ ?side1 ?side2 A2.out).mono ?_); (case side1 => repeat (first | exact HR0.out | (with_reducible refine Kd.C_alloc ?_ _) | (with_reducible refine Kd.C_drewN ?_ _) | (with_reducible refine Kd.C_drew ?_))); (case side2 => exact HC0.out); rintro e w' ⟨rfl, ⟨nd, rfl⟩⟩; refine ⟨_, rfl, ?_⟩) | ((with_reducible refine gate_callee (f := 12) rfl ?_); refine goesL_ (some 21) rfl rfl Tryd.func12 (by kernel_rfl) rfl #[.slice A0 l0.length c0] rfl au37 ?_; (with_reducible refine (spec_DrawJoinNames.calls k _ _ l0 t629 t630 _ ?side1 ?side2 A4.out).mono ?_); (case side1 => repeat (first | exact HR0.out | (with_reducible refine Kd.C_alloc ?_ _) | (with_reducible refine Kd.C_drewN ?_ _) | (with_reducible refine Kd.C_drew ?_))); (case side2 => exact HC0.out); rintro e w8 ⟨v631, rfl, ho0, hb⟩; refine ⟨_, rfl, ?_⟩; have n0_ := Aside0.mk (Kd.S_lower ho0 (below_size au38)); have n1_ := Aside0.mk (below_step au38 hb); clear HB; have HO632 := n0_; have HB := n1_; clear n0_ n1_; (try clear hb); (try clear hb2); (try clear hk); (try clear hi); (try clear ho0); obtain ⟨Ao9, co9, eo9⟩ := Kd.S_slice HO632.out; subst eo9) | ((with_reducible refine gate_callee (f := 13) rfl ?_); refine goesL_ (some 27) rfl rfl Tryd.func13 (by kernel_rfl) rfl #[.slice Ao9 t629.length co9, .int .i64 t630] rfl au37 ?_; (with_reducible refine (impl_JoinNames.calls (hG := au2) k _ _ t629 t630 t633 t634 _ ?side1 ?side2 A5.out).mono ?_); (case side1 => repeat (first | exact (Kd.S_reads' HO632.out).2.2 | (with_reducible refine Kd.C_alloc ?_ _) | (with_reducible refine Kd.C_drewN ?_ _) | (with_reducible refine Kd.C_drew ?_))); (case side2 => exact (Kd.S_reads' HO632.out).2.1); rintro e w10 ⟨rfl, hb⟩; refine ⟨_, rfl, ?_⟩; have n0_ := Aside0.mk (Kd.S_below au68 hb); have n1_ := Aside0.mk (below_step au38 hb); clear HO632; clear HB; have HO632 := n0_; have HB := n1_; clear n0_ n1_; (try clear hb); (try clear hb2); (try clear hk); (try clear hi)) | ((with_reducible refine gate_callee (f := 14) rfl ?_); refine goesL_ (some 33) rfl rfl Tryd.func14 (by kernel_rfl) rfl #[.slice Ao9 t629.length co9, .int .i64 t630] rfl au37 ?_; (with_reducible refine (spec_JoinNames.calls k _ _ t629 t630 t635 t636 _ ?side1 ?side2 A6.out).mono ?_); (case side1 => repeat (first | exact (Kd.S_reads' HO632.out).2.2 | (with_reducible refine Kd.C_alloc ?_ _) | (with_reducible refine Kd.C_drewN ?_ _) | (with_reducible refine Kd.C_drew ?_))); (case side2 => exact (Kd.S_reads' HO632.out).2.1); rintro e w11 ⟨rfl, hb⟩; refine ⟨_, rfl, ?_⟩; have n0_ := Aside0.mk (Kd.S_below au68 hb); have n1_ := Aside0.mk (below_step au38 hb); clear HO632; clear HB; have HO632 := n0_; have HB := n1_; clear n0_ n1_; (try clear hb); (try clear hb2); (try clear hk); (try clear hi)))
  (try simp only [Act.put, List.setIfInBounds_toArray, List.set_cons_zero, List.set_cons_succ])
  go_cut [43] (fun v43 wc => ∃ (kq : Nat) (x43_6 : Bool), v43 = .bool x43_6 ∧ Aside0 (laws_FnNameLists.j0 kq l0 t629 t630 t633 t634 x43_6 = some r) ∧ Aside0 (kq ≤ k) ∧ Aside0 (Kd.S k26 26 wc w.heap.size (fun _ => True) (.slice Ao9 t629.length co9) t629) ∧ Aside0 (Below w.heap.size w wc))
  case first =>
   have H := HC7.out
   clear HC7
   by_cases c12 : t633.toList = t635.toList
   ·
    rw [if_pos c12] at H
    have c12b0 : (t633.toList == t635.toList) = true := beq_iff_eq.mpr c12
    have c12b1 : (t633.toList != t635.toList) = false := bne_eq_false_iff_eq.mpr c12
    clear c12
    (first | rw [c12b0] | (simp only [i64_w, i32_w]; rw [c12b0]) | skip)
    have H' := Aside0.mk H
    clear H
    go_wp2
    go_meet
    case rel => exact ⟨_, ((t634 != t636)), au74, H', ⟨by first | omega | exact Nat.le_refl _⟩, ⟨by (with_reducible repeat (first | apply Kd.S_alloc | apply Kd.S_drewN | apply Kd.S_drew)); exact HO632.out⟩, ⟨by repeat (first | (with_reducible first | exact HB.out | apply below_alloc | apply pw_below_drewN | apply below_drew1) | exact HB.out)⟩⟩
   ·
    rw [if_neg c12] at H
    have c12b0 : (t633.toList == t635.toList) = false := beq_eq_false_iff_ne.mpr c12
    have c12b1 : (t633.toList != t635.toList) = true := bne_iff_ne.mpr c12
    (first | rw [c12b0] | (simp only [i64_w, i32_w]; rw [c12b0]) | skip)
    have H' := Aside0.mk H
    clear H
    go_wp2
    go_meet
    case rel => exact ⟨_, (true), au74, H', ⟨by first | omega | exact Nat.le_refl _⟩, ⟨by (with_reducible repeat (first | apply Kd.S_alloc | apply Kd.S_drewN | apply Kd.S_drew)); exact HO632.out⟩, ⟨by repeat (first | (with_reducible first | exact HB.out | apply below_alloc | apply pw_below_drewN | apply below_drew1) | exact HB.out)⟩⟩
  case rest =>
   clear HC7
   try clear c1
   try clear p2
   try clear c3
   try clear c4
   try clear c5
   try clear c12
   try clear c12b0
   try clear c12b1
   obtain ⟨kq, x43_6, rfl, HA, HJ6, HO_3, HB⟩ := hcut
   cases kq with
   | zero => exact absurd HA.out (by simp [laws_FnNameLists.j0])
   | succ kj6 =>
    have H := HA.out
    clear HA
    simp only [laws_FnNameLists.j0] at H
    by_cases c13 : x43_6 = true
    ·
     subst c13
     replace H := (if_pos rfl).symm.trans H
     obtain rfl := Option.some.inj H
     exact laws_FnNameLists.L0
    ·
     replace c13 := Bool.eq_false_iff.mpr c13
     subst c13
     replace H := (if_neg (show ¬ (false = true) by decide)).symm.trans H
     replace H := Option.bind_eq_some_iff.mp H
     obtain ⟨⟨t637, t638⟩, A140, H⟩ := H
     replace H : ((impl_SamePeople.f kj6 t637 t638).bind fun bt643 => ((spec_SamePeople.f kj6 t637 t638).bind fun bt645 => (if (bt643.1 != bt645.1) = true then (some false) else (if (bt643.2 != bt645.2) = true then (some false) else (if bt643.1 = true then (if (t637.length : Int) = (t638.length : Int) then ((impl_JoinNames.f kj6 t629 4).bind fun bt647 => (if t634 = true then (if bt647.2 = true then (if (t629.length : Int) > t630 then (some ((decide ((t629.length : Int) > 0)) == (t633.toList != ([] : List UInt8)))) else (if bt647.1.toList = t633.toList then (some ((decide ((t629.length : Int) > 0)) == (t633.toList != ([] : List UInt8)))) else (some false))) else (some false)) else (some true))) else (some false)) else ((impl_JoinNames.f kj6 t629 4).bind fun bt649 => (if t634 = true then (if bt649.2 = true then (if (t629.length : Int) > t630 then (some ((decide ((t629.length : Int) > 0)) == (t633.toList != ([] : List UInt8)))) else (if bt649.1.toList = t633.toList then (some ((decide ((t629.length : Int) > 0)) == (t633.toList != ([] : List UInt8)))) else (some false))) else (some false)) else (some true)))))))) = some r := H
     have A14 := Aside0.mk A140
     clear A140
     replace H := Option.bind_eq_some_iff.mp H
     obtain ⟨⟨t643, t644⟩, A150, H⟩ := H
     replace H : ((spec_SamePeople.f kj6 t637 t638).bind fun bt645 => (if (t643 != bt645.1) = true then (some false) else (if (t644 != bt645.2) = true then (some false) else (if t643 = true then (if (t637.length : Int) = (t638.length : Int) then ((impl_JoinNames.f kj6 t629 4).bind fun bt647 => (if t634 = true then (if bt647.2 = true then (if (t629.length : Int) > t630 then (some ((decide ((t629.length : Int) > 0)) == (t633.toList != ([] : List UInt8)))) else (if bt647.1.toList = t633.toList then (some ((decide ((t629.length : Int) > 0)) == (t633.toList != ([] : List UInt8)))) else (some false))) else (some false)) else (some true))) else (some false)) else ((impl_JoinNames.f kj6 t629 4).bind fun bt649 => (if t634 = true then (if bt649.2 = true then (if (t629.length : Int) > t630 then (some ((decide ((t629.length : Int) > 0)) == (t633.toList != ([] : List UInt8)))) else (if bt649.1.toList = t633.toList then (some ((decide ((t629.length : Int) > 0)) == (t633.toList != ([] : List UInt8)))) else (some false))) else (some false)) else (some true))))))) = some r := H
     have A15 := Aside0.mk A150
     clear A150
     replace H := Option.bind_eq_some_iff.mp H
     obtain ⟨⟨t645, t646⟩, A160, H⟩ := H
     replace H : (if (t643 != t645) = true then (some false) else (if (t644 != t646) = true then (some false) else (if t643 = true then (if (t637.length : Int) = (t638.length : Int) then ((impl_JoinNames.f kj6 t629 4).bind fun bt647 => (if t634 = true then (if bt647.2 = true then (if (t629.length : Int) > t630 then (some ((decide ((t629.length : Int) > 0)) == (t633.toList != ([] : List UInt8)))) else (if bt647.1.toList = t633.toList then (some ((decide ((t629.length : Int) > 0)) == (t633.toList != ([] : List UInt8)))) else (some false))) else (some false)) else (some true))) else (some false)) else ((impl_JoinNames.f kj6 t629 4).bind fun bt649 => (if t634 = true then (if bt649.2 = true then (if (t629.length : Int) > t630 then (some ((decide ((t629.length : Int) > 0)) == (t633.toList != ([] : List UInt8)))) else (if bt649.1.toList = t633.toList then (some ((decide ((t629.length : Int) > 0)) == (t633.toList != ([] : List UInt8)))) else (some false))) else (some false)) else (some true)))))) = some r := H
     have A16 := Aside0.mk A160
     clear A160
     by_cases c17 : (t643 != t645) = true
     ·
      rw [if_pos c17] at H
      have c17b0 : (t643 != t645) = true := c17
      (try (have c17b1 : decide (t643 = t645) = false := by simpa using c17))
      (try (have c17b2 : (t643 == t645) = false := by simpa using c17))
      (try (have c17b3 : ¬ (t643 = t645) := by simpa using c17))
      clear c17
      obtain rfl := Option.some.inj H
      exact laws_FnNameLists.L4
     ·
      rw [if_neg c17] at H
      have c17b0 : (t643 != t645) = false := by simpa using c17
      (try (have c17b1 : decide (t643 = t645) = true := by simpa using c17))
      (try (have c17b2 : (t643 == t645) = true := by simpa using c17))
      clear c17
      by_cases c23 : (t644 != t646) = true
      ·
       rw [if_pos c23] at H
       have c23b0 : (t644 != t646) = true := c23
       (try (have c23b1 : decide (t644 = t646) = false := by simpa using c23))
       (try (have c23b2 : (t644 == t646) = false := by simpa using c23))
       (try (have c23b3 : ¬ (t644 = t646) := by simpa using c23))
       clear c23
       obtain rfl := Option.some.inj H
       exact laws_FnNameLists.L4
      ·
       rw [if_neg c23] at H
       have c23b0 : (t644 != t646) = false := by simpa using c23
       (try (have c23b1 : decide (t644 = t646) = true := by simpa using c23))
       (try (have c23b2 : (t644 == t646) = true := by simpa using c23))
       clear c23
       by_cases c29 : t643 = true
       ·
        subst c29
        replace H := (if_pos rfl).symm.trans H
        by_cases c30 : (t637.length : Int) = (t638.length : Int)
        ·
         rw [if_pos c30] at H
         have c30b0 : ((t637.length : Int) == (t638.length : Int)) = true := beq_iff_eq.mpr c30
         have c30b1 : ((t637.length : Int) != (t638.length : Int)) = false := bne_eq_false_iff_eq.mpr c30
         have c30b2 : (t637.length == t638.length) = true := by first | simpa using c30 | (simp at c30 ⊢; omega)
         clear c30
         replace H := Option.bind_eq_some_iff.mp H
         obtain ⟨⟨t647, t648⟩, A310, H⟩ := H
         replace H : (if t634 = true then (if t648 = true then (if (t629.length : Int) > t630 then (some ((decide ((t629.length : Int) > 0)) == (t633.toList != ([] : List UInt8)))) else (if t647.toList = t633.toList then (some ((decide ((t629.length : Int) > 0)) == (t633.toList != ([] : List UInt8)))) else (some false))) else (some false)) else (some true)) = some r := H
         have A31 := Aside0.mk A310
         clear A310
         by_cases c32 : t634 = true
         ·
          subst c32
          replace H := (if_pos rfl).symm.trans H
          by_cases c33 : t648 = true
          ·
           subst c33
           replace H := (if_pos rfl).symm.trans H
           by_cases c34 : (t629.length : Int) > t630
           ·
            rw [if_pos c34] at H
            have c34b0 : decide (t630 < (t629.length : Int)) = true := decide_eq_true c34
            clear c34
            obtain rfl := Option.some.inj H
            exact laws_FnNameLists.L3
           ·
            rw [if_neg c34] at H
            have c34b0 : decide (t630 < (t629.length : Int)) = false := decide_eq_false c34
            clear c34
            by_cases c41 : t647.toList = t633.toList
            ·
             rw [if_pos c41] at H
             have c41b0 : (t647.toList == t633.toList) = true := beq_iff_eq.mpr c41
             have c41b1 : (t647.toList != t633.toList) = false := bne_eq_false_iff_eq.mpr c41
             clear c41
             obtain rfl := Option.some.inj H
             exact laws_FnNameLists.L3
            ·
             rw [if_neg c41] at H
             have c41b0 : (t647.toList == t633.toList) = false := beq_eq_false_iff_ne.mpr c41
             have c41b1 : (t647.toList != t633.toList) = true := bne_iff_ne.mpr c41
             obtain rfl := Option.some.inj H
             exact laws_FnNameLists.L3
          ·
           replace c33 := Bool.eq_false_iff.mpr c33
           subst c33
           replace H := (if_neg (show ¬ (false = true) by decide)).symm.trans H
           obtain rfl := Option.some.inj H
           exact laws_FnNameLists.L3
         ·
          replace c32 := Bool.eq_false_iff.mpr c32
          subst c32
          replace H := (if_neg (show ¬ (false = true) by decide)).symm.trans H
          obtain rfl := Option.some.inj H
          exact laws_FnNameLists.L1
        ·
         rw [if_neg c30] at H
         have c30b0 : ((t637.length : Int) == (t638.length : Int)) = false := beq_eq_false_iff_ne.mpr c30
         have c30b1 : ((t637.length : Int) != (t638.length : Int)) = true := bne_iff_ne.mpr c30
         have c30b2 : (t637.length == t638.length) = false := by first | simpa using c30 | (simp at c30 ⊢; omega)
         obtain rfl := Option.some.inj H
         exact laws_FnNameLists.L1
       ·
        replace c29 := Bool.eq_false_iff.mpr c29
        subst c29
        replace H := (if_neg (show ¬ (false = true) by decide)).symm.trans H
        replace H := Option.bind_eq_some_iff.mp H
        obtain ⟨⟨t649, t650⟩, A710, H⟩ := H
        replace H : (if t634 = true then (if t650 = true then (if (t629.length : Int) > t630 then (some ((decide ((t629.length : Int) > 0)) == (t633.toList != ([] : List UInt8)))) else (if t649.toList = t633.toList then (some ((decide ((t629.length : Int) > 0)) == (t633.toList != ([] : List UInt8)))) else (some false))) else (some false)) else (some true)) = some r := H
        have A71 := Aside0.mk A710
        clear A710
        by_cases c72 : t634 = true
        ·
         subst c72
         replace H := (if_pos rfl).symm.trans H
         by_cases c73 : t650 = true
         ·
          subst c73
          replace H := (if_pos rfl).symm.trans H
          by_cases c74 : (t629.length : Int) > t630
          ·
           rw [if_pos c74] at H
           have c74b0 : decide (t630 < (t629.length : Int)) = true := decide_eq_true c74
           clear c74
           obtain rfl := Option.some.inj H
           exact laws_FnNameLists.L2
          ·
           rw [if_neg c74] at H
           have c74b0 : decide (t630 < (t629.length : Int)) = false := decide_eq_false c74
           clear c74
           by_cases c81 : t649.toList = t633.toList
           ·
            rw [if_pos c81] at H
            have c81b0 : (t649.toList == t633.toList) = true := beq_iff_eq.mpr c81
            have c81b1 : (t649.toList != t633.toList) = false := bne_eq_false_iff_eq.mpr c81
            clear c81
            obtain rfl := Option.some.inj H
            exact laws_FnNameLists.L2
           ·
            rw [if_neg c81] at H
            have c81b0 : (t649.toList == t633.toList) = false := beq_eq_false_iff_ne.mpr c81
            have c81b1 : (t649.toList != t633.toList) = true := bne_iff_ne.mpr c81
            obtain rfl := Option.some.inj H
            exact laws_FnNameLists.L2
         ·
          replace c73 := Bool.eq_false_iff.mpr c73
          subst c73
          replace H := (if_neg (show ¬ (false = true) by decide)).symm.trans H
          obtain rfl := Option.some.inj H
          exact laws_FnNameLists.L2
        ·
         replace c72 := Bool.eq_false_iff.mpr c72
         subst c72
         replace H := (if_neg (show ¬ (false = true) by decide)).symm.trans H
         obtain rfl := Option.some.inj H
         exact laws_FnNameLists.L0



end Go.Proofs.YtieieapacepabaaDoor.G

namespace Go.Proofs.YtieieapacepabaaDoor.Opn
open Go.RowKit Go.Proofs.YtieieapacepabaaDoorW.PrintWords
set_option linter.unusedVariables false
set_option linter.unusedSimpArgs false
variable {H : Type} {enc : TypeId × Value → H} {P : Program} {w : World} {base : Nat} {spare : Nat → Bool} {held : Bool}
def okInt (k : IntKind) (n : Int) : Prop := (Lit.int k n).wf = true
def okList {α : Type} (p : α → Prop) (xs : List α) : Prop := xs.length ≤ 9223372036854775807 ∧ ∀ x ∈ xs, p x
theorem of_int {t : TypeId} {k : IntKind} {fuel : Nat} {cs : List Value} {x : DataW H × List MemPlace} (ht : P.underlying t = some (.int k)) (h : DataW.trod enc P w base spare held fuel t cs = some x) :
    ∃ n, (Kd.int k).K w n cs ∧ okInt k n := by
  obtain ⟨n, rfl, rfl, hw⟩ := DataW.trod_int ht h
  exact ⟨n, rfl, hw⟩
theorem add_add (a : Addr) (k i : Nat) : (a.add k).add i = a.add (k + i) := by
  unfold Addr.add
  by_cases hk : k = 0 <;> by_cases hi : i = 0 <;> simp [hk, hi, Nat.add_assoc]
theorem of_slice {α : Type} {d : Kd α} {ok : α → Prop} {t e : TypeId} {fuel : Nat} {cs : List Value} {x : DataW H × List MemPlace} (ht : P.underlying t = some (.slice e)) (hc : P.cellsOf e = d.sz)
    (ih : ∀ n cs x, DataW.trod enc P w base spare held n e cs = some x → ∃ y, d.K w y cs ∧ ok y) (h : DataW.trod enc P w base spare held fuel t cs = some x) :
    ∃ ys, (Kd.slice e d).K w ys cs ∧ okList ok ys := by
  rcases Go.Deep.open_slice ht h with ⟨rfl, _⟩ | ⟨a, len, cap, m, n, D, Pl, rfl, hb, hl, hm, hmm, hxe, hel⟩
  · exact ⟨[], ⟨none, 0, rfl, by simp, rfl, by simp, fun h => absurd h (by simp)⟩, by simp, fun x hx => by simp at hx⟩
  · have hlm : len ≤ m := by rw [hmm]; split <;> omega
    have hm' : len ≤ 9223372036854775807 := by unfold maxLen at hm; omega
    have key : ∀ i, i < len → ∃ cs' y, w.cells? base (a.add (i * P.cellsOf e)) (P.cellsOf e) = some cs' ∧ d.K w y cs' ∧ ok y := by
      intro i hi
      obtain ⟨cs', h1, h2⟩ := hel i (by omega)
      obtain ⟨y, hy, ho⟩ := ih _ _ _ h2
      exact ⟨cs', y, h1, hy, ho⟩
    obtain ⟨ys, hlen, hys⟩ : ∃ ys : List α, ys.length = len ∧ ∀ i (hi : i < ys.length), ∃ cs', w.cells? base (a.add (i * P.cellsOf e)) (P.cellsOf e) = some cs' ∧ d.K w ys[i] cs' ∧ ok ys[i] := by
      clear h hxe hel hmm hlm hl hm hm'
      induction len with
      | zero => exact ⟨[], rfl, fun i hi => by simp at hi⟩
      | succ len ihl =>
        obtain ⟨ys, h1, h2⟩ := ihl (fun i hi => key i (by omega))
        obtain ⟨cs', y, h3, h4, h5⟩ := key len (by omega)
        refine ⟨ys ++ [y], by simp [h1], fun i hi => ?_⟩
        by_cases hi' : i < ys.length
        · rw [List.getElem_append_left hi']; exact h2 i hi'
        · have : i = len := by simp at hi; omega
          subst this
          refine ⟨cs', h3, ?_, ?_⟩ <;> rw [List.getElem_append_right (by omega)] <;> simpa [h1]
    refine ⟨ys, ⟨some a, cap, by rw [hlen], by omega, rfl, by omega, fun _ => ⟨a, rfl, fun j p hj => ?_⟩⟩, by omega, fun y hy => ?_⟩
    · obtain ⟨hj', rfl⟩ := List.getElem?_eq_some_iff.1 hj
      obtain ⟨cs', h1, h2, _⟩ := hys j hj'
      rw [hc] at h1
      refine ⟨cs', d.K_len h2, h2, fun i u hu => ?_⟩
      obtain ⟨_, hl', hcell⟩ := World.cells?_some h1
      have hi : i < d.sz := by have := (List.getElem?_eq_some_iff.1 hu).1; omega
      have := hcell i hi
      rw [hu, add_add] at this
      exact this
    · obtain ⟨i, hi, rfl⟩ := List.getElem_of_mem hy
      obtain ⟨_, _, _, h3⟩ := hys i hi
      exact h3
end Go.Proofs.YtieieapacepabaaDoor.Opn

namespace Go.Proofs.YtieieapacepabaaDoor.G
open Go.Proofs.YtieieapacepabaaDoor.Opn
open Go.RowKit Go.Proofs.YtieieapacepabaaDoorW.PrintWords Go.Proofs.YtieieapacepabaaDoorW.PrintLast Go.Proofs.YtieieapacepabaaDoorW.PrintMore
open Go.Proofs.YtieieapacepabaaDoor.Gl Go.Proofs.YtieieapacepabaaDoor.Ext
attribute [local go_sem] max2_int min2_int max_two min_two max_three min_three max_four min_four   -- for this text's walks alone
set_option linter.unusedVariables false
set_option linter.unusedSimpArgs false

theorem cells5 : Tryd.prog.cellsOf 5 = 1 := by kernel_rfl

def laws_FnNameLists.Pur : Prop := ∀ (l0 : List Int), okList (okInt .u8) l0 → ∃ k, laws_FnNameLists.f k l0 = some true
theorem laws_FnNameLists.wlk (P : laws_FnNameLists.Pur) (A0 : Option Addr) (c0 : Nat) (l0 : List Int) (w : World) (hr0 : Kd.C (Kd.int .u8) w A0 l0.length l0) (hc0 : l0.length ≤ c0) {gF1 gF2 gF3 : Bool} (hG : GL gF1 gF2 gF3 w) (bl0 : okList (okInt .u8) l0) :
    Calls Tryd.prog 4 #[.slice A0 l0.length c0] w fun e w' => e = .returned (.bool true) ∧ Below w.heap.size w w' := by
  obtain ⟨k, h⟩ := P l0 bl0
  refine (laws_FnNameLists.calls k A0 c0 l0 true w hG hr0 hc0 h).mono ?_
  rintro e w' ⟨rfl, hd⟩
  exact ⟨rfl, hd⟩

end Go.Proofs.YtieieapacepabaaDoor.G

namespace Go.Proofs.YtieieapacepabaaDoor.B
open Go.RowKit Go.Proofs.YtieieapacepabaaDoorW.PrintWords Go.Proofs.YtieieapacepabaaDoorW.PrintLast
set_option linter.unusedVariables false
set_option linter.unusedSimpArgs false
theorem w64 {x : Int} (h : -9223372036854775808 ≤ x) (h' : x ≤ 9223372036854775807) : wrap64 x = x := by unfold wrap64; omega
theorem ev_pos {α : Type} {c : Prop} [Decidable c] {g f : Nat → Option α} {r : α} (h : c) (e : Ev g r) : Ev (fun k => if c then g k else f k) r := Ev.congr (fun _ => if_pos h) e
theorem ev_neg {α : Type} {c : Prop} [Decidable c] {g f : Nat → Option α} {r : α} (h : ¬ c) (e : Ev f r) : Ev (fun k => if c then g k else f k) r := Ev.congr (fun _ => if_neg h) e
theorem ev_ite {α : Type} {c : Prop} [Decidable c] {g f : Nat → Option α} {a b : α} (h : c → Ev g a) (h' : ¬ c → Ev f b) : Ev (fun k => if c then g k else f k) (if c then a else b) := by
  by_cases hc : c
  · rw [if_pos hc]; exact ev_pos hc (h hc)
  · rw [if_neg hc]; exact ev_neg hc (h' hc)
theorem ev_bind0 {α β : Type} {o : Option α} {f : Nat → α → Option β} {a : α} {r : β} (h : o = some a) (k : Ev (fun n => f n a) r) : Ev (fun n => o.bind (f n)) r := Ev.congr (fun _ => by rw [h]; rfl) k
theorem ev_eq {α : Type} {g : Nat → Option α} {a b : α} (h : Ev g a) (e : a = b) : Ev g b := e ▸ h
abbrev L (s : ByteArray) : List UInt8 := s.data.toList
def mkB (l : List UInt8) : ByteArray := ⟨l.toArray⟩
theorem L_mk (l : List UInt8) : L (mkB l) = l := by simp [mkB]
theorem mk_L (s : ByteArray) : mkB (L s) = s := by cases s; simp [mkB, L]
theorem L_inj {a b : ByteArray} (h : L a = L b) : a = b := by rw [← mk_L a, h, mk_L]
theorem L_len (s : ByteArray) : (L s).length = s.size := (Lib.size_eq s).symm
theorem size_mk (l : List UInt8) : (mkB l).size = l.length := by rw [← L_len, L_mk]
theorem toList_L (s : ByteArray) : s.toList = L s := Lib.toList_data s
theorem L_extract (s : ByteArray) (a b : Nat) : L (s.extract a b) = ((L s).drop a).take (b - a) := Lib.extract_data s a b
theorem L_append (a b : ByteArray) : L (a ++ b) = L a ++ L b := by simp [L, ByteArray.data_append]
theorem size_append (a b : ByteArray) : (a ++ b).size = a.size + b.size := by rw [← L_len, L_append, List.length_append, L_len, L_len]
theorem bt_get (s : ByteArray) (i : Nat) (h : i < s.size) : bt s (i : Int) = (((L s)[i]'(by rw [L_len]; exact h)).toNat : Int) := by
  unfold bt
  simp only [Int.toNat_natCast, h, dif_pos]
  rfl
theorem bt_getD (s : ByteArray) (i : Nat) (h : i < s.size) : bt s (i : Int) = (((L s).getD i 0).toNat : Int) := by
  rw [bt_get s i h, List.getD_eq_getElem?_getD, List.getElem?_eq_getElem (by rw [L_len]; exact h)]; rfl
theorem size_pos_iff (s : ByteArray) : s.size = 0 ↔ L s = [] := by rw [← L_len, List.length_eq_zero_iff]
theorem u8_inj {a b : UInt8} (h : (a.toNat : Int) = (b.toNat : Int)) : a = b := UInt8.toNat_inj.1 (by omega)
end Go.Proofs.YtieieapacepabaaDoor.B

namespace Go.Proofs.YtieieapacepabaaDoor.G
open Go.RowKit Go.Proofs.YtieieapacepabaaDoorW.PrintWords Go.Proofs.YtieieapacepabaaDoorW.PrintLast Go.Proofs.YtieieapacepabaaDoor.B Go.Proofs.YtieieapacepabaaDoor.Opn
set_option linter.unusedVariables false
set_option linter.unusedSimpArgs false
def BtL (l : List Int) : Prop := l.length ≤ 65536 ∧ ∀ x ∈ l, 0 ≤ x ∧ x ≤ 255
theorem bt_of {l : List Int} (h : okList (okInt .u8) l) (hl : l.length ≤ 65536) : BtL l := by
  refine ⟨hl, fun x hx => ?_⟩
  have := h.2 x hx
  simp only [okInt, Lit.wf, Bool.and_eq_true, decide_eq_true_eq] at this
  have h1 : IntKind.u8.min = 0 := rfl
  have h2 : IntKind.u8.max = 255 := rfl
  omega
theorem rd_bd {l : List Int} (h : BtL l) (i : Int) : 0 ≤ rd l i ∧ rd l i ≤ 255 := by
  unfold rd
  by_cases c : i.toNat < l.length
  · rw [List.getD_eq_getElem?_getD, List.getElem?_eq_getElem c]
    exact h.2 _ (List.getElem_mem c)
  · rw [List.getD_eq_getElem?_getD, List.getElem?_eq_none (by omega)]
    exact ⟨by decide, by decide⟩
theorem and_bd (x : Int) : 0 ≤ wrap64 (Go.bits .and .u64 ((IntKind.u64.wrap x) / 1099511627776) 255) ∧ wrap64 (Go.bits .and .u64 ((IntKind.u64.wrap x) / 1099511627776) 255) ≤ 255 := by
  rw [IntKind.wrap_u64]
  obtain ⟨n, hn, hl⟩ : ∃ n : Nat, (x % 18446744073709551616) / 1099511627776 = (n : Int) ∧ n < 18446744073709551616 := ⟨((x % 18446744073709551616) / 1099511627776).toNat, by omega, by omega⟩
  rw [hn, show (255 : Int) = ((255 : Nat) : Int) from rfl, bits_and_u64_nat n 255 hl (by omega)]
  have := Nat.and_le_right (n := n) (m := 255)
  rw [w64 (by omega) (by omega)]
  omega
theorem next_ex {l : List Int} (h : BtL l) (a s : Int) (h0 : 0 ≤ a) (h1 : a ≤ 2305843009213693952) : ∃ x s', spec_l1Cur_next.f l a s = some (x, a + 1, s') ∧ 0 ≤ x ∧ x ≤ 255 := by
  unfold spec_l1Cur_next.f
  have hw : wrap64 (a + 1) = a + 1 := w64 (by omega) (by omega)
  rw [hw]
  have hr := rd_bd h a
  by_cases c : a < (l.length : Int)
  · rw [if_pos c, if_pos h0]
    by_cases c2 : a + 1 ≤ (l.length : Int)
    · rw [if_pos c2]; exact ⟨_, _, rfl, by rw [w64 (by omega) (by omega)]; exact hr⟩
    · rw [if_neg c2]; exact ⟨_, _, rfl, and_bd _⟩
  · rw [if_neg c]
    by_cases c2 : a + 1 ≤ (l.length : Int)
    · rw [if_pos c2]; exact ⟨_, _, rfl, by omega, by omega⟩
    · rw [if_neg c2]; exact ⟨_, _, rfl, and_bd _⟩
theorem tmod_bd {x n : Int} (h : 0 ≤ x) (hn : 1 ≤ n) : 0 ≤ Int.tmod x n ∧ Int.tmod x n < n := ⟨Int.tmod_nonneg n h, Int.tmod_lt_of_pos x (by omega)⟩
theorem pick_ex {l : List Int} (h : BtL l) (a s n : Int) (h0 : 0 ≤ a) (h1 : a ≤ 2305843009213693000) (hn : 1 ≤ n) : ∃ x a' s', spec_l1Cur_pick.f l a s n = some (x, a', s') ∧ 0 ≤ x ∧ x < n ∧ a ≤ a' ∧ a' ≤ a + 2 := by
  unfold spec_l1Cur_pick.f
  by_cases c : n ≤ 1
  · rw [if_pos c]; exact ⟨_, _, _, rfl, by omega, by omega, by omega, by omega⟩
  · rw [if_neg c]
    obtain ⟨x, s', e, b0, b1⟩ := next_ex h a s h0 (by omega)
    rw [e]
    by_cases c2 : n > 200
    · obtain ⟨x2, s2, e2, b2, b3⟩ := next_ex h (a + 1) s' (by omega) (by omega)
      refine ⟨Int.tmod (x * 256 + x2) n, a + 1 + 1, s2, ?_, (tmod_bd (x := x * 256 + x2) (n := n) (by omega) hn).1, (tmod_bd (x := x * 256 + x2) (n := n) (by omega) hn).2, ?_, ?_⟩
      · simp only [Option.bind_some]
        rw [if_pos c2, e2]
        simp only [Option.bind_some]
        rw [if_neg (by omega), w64 (x := x * 256) (by omega) (by omega), w64 (x := x * 256 + x2) (by omega) (by omega)]
      · omega
      · omega
    · refine ⟨Int.tmod x n, a + 1, s', ?_, (tmod_bd (x := x) (n := n) b0 hn).1, (tmod_bd (x := x) (n := n) b0 hn).2, ?_, ?_⟩
      · simp only [Option.bind_some]
        rw [if_neg c2, if_neg (by omega)]
      · omega
      · omega
theorem of_ex {l : List Int} (h : BtL l) (a s : Int) (ts : List ByteArray) (h0 : 0 ≤ a) (h1 : a ≤ 2305843009213693000) (hn : 1 ≤ ts.length) : ∃ x a' s', spec_l1Cur_of.f l a s ts = some (x, a', s') ∧ x ∈ ts ∧ a ≤ a' ∧ a' ≤ a + 2 := by
  unfold spec_l1Cur_of.f
  obtain ⟨x, a', s', e, b0, b1, b2, b3⟩ := pick_ex h a s (ts.length : Int) h0 h1 (by omega)
  rw [e]
  simp only [Option.bind_some]
  rw [if_pos b0, if_pos b1]
  refine ⟨_, _, _, rfl, ?_, b2, b3⟩
  unfold rdOf
  rw [List.getD_eq_getElem?_getD, List.getElem?_eq_getElem (by omega)]
  exact List.getElem_mem (by omega)
end Go.Proofs.YtieieapacepabaaDoor.G

namespace Go.Proofs.YtieieapacepabaaDoor.G
open Go.RowKit Go.Proofs.YtieieapacepabaaDoorW.PrintWords Go.Proofs.YtieieapacepabaaDoorW.PrintLast Go.Proofs.YtieieapacepabaaDoor.B
set_option linter.unusedVariables false
set_option linter.unusedSimpArgs false
def bytesS (l : List ByteArray) : Nat := (l.map (·.size)).sum
def bulkS (l : List ByteArray) : Nat := l.length + bytesS l
end Go.Proofs.YtieieapacepabaaDoor.G

namespace Go.Proofs.YtieieapacepabaaDoor.B
open Go.RowKit Go.Proofs.YtieieapacepabaaDoorW.PrintWords Go.Proofs.YtieieapacepabaaDoorW.PrintLast
set_option linter.unusedVariables false
set_option linter.unusedSimpArgs false
def ahd (seg : List UInt8) : List (List UInt8) → List (List UInt8)
  | [] => [seg]
  | h :: t => (seg ++ h) :: t
def spl (b : UInt8) : List UInt8 → List (List UInt8)
  | [] => [[]]
  | c :: cs => if c = b then [] :: spl b cs else ahd [c] (spl b cs)
theorem spl_cons (b c : UInt8) (cs : List UInt8) : spl b (c :: cs) = if c = b then [] :: spl b cs else ahd [c] (spl b cs) := rfl
theorem spl_ne (b : UInt8) (l : List UInt8) : spl b l ≠ [] := by
  cases l with
  | nil => simp [spl]
  | cons c cs => unfold spl; split <;> simp; unfold ahd; split <;> simp
theorem ahd_nil (p : List (List UInt8)) (h : p ≠ []) : ahd [] p = p := by cases p <;> simp_all [ahd]
theorem ahd_ahd (a b : List UInt8) (p : List (List UInt8)) : ahd a (ahd b p) = ahd (a ++ b) p := by cases p <;> simp [ahd]
theorem spl_length (b : UInt8) (l : List UInt8) : (spl b l).length ≤ l.length + 1 := by
  induction l with
  | nil => simp [spl]
  | cons c cs ih =>
    unfold spl
    split
    · simp; omega
    · cases h : spl b cs with
      | nil => exact absurd h (spl_ne b cs)
      | cons p q => rw [h] at ih; simp [ahd] at ih ⊢; omega
theorem spl_step (b : UInt8) (l : List UInt8) (from_ i : Nat) (hi : i < l.length) (hf : from_ ≤ i) :
    ahd ((l.drop from_).take (i - from_)) (spl b (l.drop i)) =
      if l[i] = b then ((l.drop from_).take (i - from_)) :: spl b (l.drop (i + 1)) else ahd ((l.drop from_).take (i + 1 - from_)) (spl b (l.drop (i + 1))) := by
  rw [List.drop_eq_getElem_cons hi, spl_cons]
  by_cases h : l[i] = b
  · rw [if_pos h, if_pos h]
    simp [ahd]
  · rw [if_neg h, if_neg h]
    have e : (l.drop from_).take (i + 1 - from_) = (l.drop from_).take (i - from_) ++ [l[i]] := by
      rw [show i + 1 - from_ = (i - from_) + 1 by omega, List.take_succ_eq_append_getElem (by rw [List.length_drop]; omega)]
      congr 2
      rw [List.getElem_drop]
      congr 1
      omega
    rw [e]
    exact ahd_ahd _ _ _
theorem spl_none (c : UInt8) : ∀ l : List UInt8, (∀ k : Nat, l[k]? ≠ some c) → spl c l = [l]
  | [], _ => rfl
  | a :: l, h => by
    have h0 : a ≠ c := fun e => h 0 (by simp [e])
    rw [spl_cons, if_neg h0, spl_none c l (fun k => by simpa using h (k + 1))]; rfl
theorem spl_first (c : UInt8) : ∀ (i : Nat) (l : List UInt8), l[i]? = some c → (∀ k : Nat, k < i → l[k]? ≠ some c) → spl c l = l.take i :: spl c (l.drop (i + 1))
  | 0, [], h, _ => by simp at h
  | 0, a :: l, h, _ => by
    have h0 : a = c := by simpa using h
    rw [spl_cons, if_pos h0]; rfl
  | i + 1, [], h, _ => by simp at h
  | i + 1, a :: l, h, hk => by
    have h0 : a ≠ c := fun e => hk 0 (by omega) (by simp [e])
    rw [spl_cons, if_neg h0, spl_first c i l (by simpa using h) (fun k hk' => by simpa using hk (k + 1) (by omega))]
    rfl
theorem indexB_one (s : ByteArray) (c : UInt8) : Lib.indexB s (mkB [c]) = Lib.indexByte (L s) c := by
  unfold Lib.indexB
  have : (mkB [c]).data.toList = [c] := L_mk [c]
  rw [this]
  exact Lib.index_one _ _
theorem splitB_spl (c : UInt8) (n : Nat) : ∀ s : ByteArray, s.size ≤ n → (Lib.splitB (mkB [c]) 0 (Lib.countB s (mkB [c])) s).map L = spl c (L s) := by
  have h1 : (mkB [c]).size = 1 := by rw [size_mk]; rfl
  induction n with
  | zero =>
    intro s hs
    rcases Lib.indexB_cases s (mkB [c]) with hm | ⟨i, hi, hr⟩
    · rw [Lib.splitB_miss _ _ _ _ hm]
      have := Lib.indexByte_none (by rw [← indexB_one]; exact hm : Lib.indexByte (L s) c = -1)
      rw [spl_none c (L s) this]; rfl
    · omega
  | succ n ih =>
    intro s hs
    rcases Lib.indexB_cases s (mkB [c]) with hm | ⟨i, hi, hr⟩
    · rw [Lib.splitB_miss _ _ _ _ hm]
      have := Lib.indexByte_none (by rw [← indexB_one]; exact hm : Lib.indexByte (L s) c = -1)
      rw [spl_none c (L s) this]; rfl
    · rw [h1] at hr
      have hc := Lib.countB_hit s (mkB [c]) i (by omega) hi
      rw [h1] at hc
      rw [hc, Nat.add_comm 1, Lib.splitB_hit _ _ _ _ i hi, h1, List.map_cons, ih (s.extract (i + 1) s.size) (by rw [ByteArray.size_extract]; omega)]
      obtain ⟨a, b⟩ := Lib.indexByte_some (by rw [← indexB_one]; exact hi : Lib.indexByte (L s) c = i)
      rw [spl_first c i (L s) a b, L_extract, L_extract]
      congr 1
      congr 1
      rw [List.take_of_length_le (by rw [List.length_drop, L_len]; omega)]
theorem splitB_eq (c : UInt8) (s : ByteArray) : Lib.splitB (mkB [c]) 0 (Lib.countB s (mkB [c])) s = (spl c (L s)).map mkB := by
  rw [← splitB_spl c s.size s (Nat.le_refl _), List.map_map]
  have : (mkB ∘ L) = id := by funext x; exact mk_L x
  rw [this, List.map_id]
end Go.Proofs.YtieieapacepabaaDoor.B

namespace Go.Proofs.YtieieapacepabaaDoor.G
open Go.RowKit Go.Proofs.YtieieapacepabaaDoorW.PrintWords Go.Proofs.YtieieapacepabaaDoorW.PrintLast Go.Proofs.YtieieapacepabaaDoor.B
set_option linter.unusedVariables false
set_option linter.unusedSimpArgs false
theorem split_loop (s : ByteArray) (b : UInt8) (hs : s.size ≤ 8796093022000) (d : Nat) : ∀ (out : List ByteArray) (f i : Nat), out.length ≤ i → f ≤ i → i ≤ s.size → s.size - i = d →
    Ev (fun k => spec_l1Split.l0 k s (b.toNat : Int) out f i) (out ++ (ahd (((L s).drop f).take (i - f)) (spl b ((L s).drop i))).map mkB) := by
  have hL : (L s).length = s.size := L_len s
  induction d with
  | zero =>
    intro out f i h0 h1 h2 hd
    have e : i = s.size := by omega
    refine Ev.step (f := fun _ => some (out ++ [s.extract f s.size])) (fun k => ?_) (ev_eq (Ev.now _) ?_)
    · simp only [spec_l1Split.l0]
      rw [if_neg (by omega), if_pos (by omega), if_pos (by omega), if_pos (by omega)]
      simp
    · rw [List.drop_of_length_le (l := L s) (i := i) (by omega)]
      simp [spl, ahd]
      apply L_inj
      rw [L_extract, L_mk, e]
  | succ d ih =>
    intro out f i h0 h1 h2 hd
    have hlt : i < s.size := by omega
    have hlt' : i < (L s).length := by omega
    rw [spl_step b (L s) f i hlt' h1]
    have hw : wrap64 ((i : Int) + 1) = ((i + 1 : Nat) : Int) := by rw [w64 (by omega) (by omega)]; rfl
    by_cases e : (L s)[i] = b
    · rw [if_pos e]
      refine Ev.step (f := fun k => spec_l1Split.l0 k s (b.toNat : Int) (out ++ [s.extract f i]) ((i + 1 : Nat) : Int) ((i + 1 : Nat) : Int)) (fun k => ?_) (ev_eq (ih (out ++ [s.extract f i]) (i + 1) (i + 1) (by simp; omega) (by omega) (by omega) (by omega)) ?_)
      · simp only [spec_l1Split.l0]
        rw [if_pos (by omega), if_pos (by omega), if_pos (by rw [bt_get s i hlt, e]), if_pos (by omega), if_pos (by omega), if_pos (by omega), if_pos (by omega), hw]
        simp
      · rw [Nat.sub_self, List.take_zero, ahd_nil _ (spl_ne b _), List.append_assoc]
        congr 1
        simp
        apply L_inj
        rw [L_extract, L_mk]
    · rw [if_neg e]
      refine Ev.step (f := fun k => spec_l1Split.l0 k s (b.toNat : Int) out f ((i + 1 : Nat) : Int)) (fun k => ?_) (ih out f (i + 1) (by omega) (by omega) (by omega) (by omega))
      simp only [spec_l1Split.l0]
      rw [if_pos (by omega), if_pos (by omega), if_neg (by rw [bt_get s i hlt]; exact fun h => e (u8_inj h)), hw]
theorem split_ev (s : ByteArray) (b : UInt8) (hs : s.size ≤ 8796093022000) : Ev (fun k => spec_l1Split.f k s (b.toNat : Int)) ((spl b (L s)).map mkB) := by
  have := split_loop s b hs s.size [] 0 0 (by simp) (by omega) (by omega) (by omega)
  unfold spec_l1Split.f
  simpa [ahd_nil _ (spl_ne b _)] using this
def upD (c : Int) : Bool := decide (65 ≤ c) && decide (c ≤ 90)
def loD (c : Int) : Bool := decide (97 ≤ c) && decide (c ≤ 122)
def leD (c : Int) : Bool := upD c || loD c
def inD (n : Nat) : Bool := decide (1 ≤ n) && decide (n ≤ 12)
theorem spec_up (c : Int) : spec_l2Upper.f c = some (upD c) := by unfold spec_l2Upper.f upD; by_cases h : 65 ≤ c <;> simp [h]
theorem spec_lo (c : Int) : spec_l2Lower.f c = some (loD c) := by unfold spec_l2Lower.f loD; by_cases h : 97 ≤ c <;> simp [h]
theorem impl_up (c : Int) : impl_isUpper.f c = some (upD c) := by unfold impl_isUpper.f upD; by_cases h : 65 ≤ c <;> simp [h]
theorem impl_lo (c : Int) : impl_isLower.f c = some (loD c) := by unfold impl_isLower.f loD; by_cases h : 97 ≤ c <;> simp [h]
theorem spec_le (c : Int) : spec_l2Letter.f c = some (leD c) := by unfold spec_l2Letter.f leD; rw [spec_up, spec_lo]; cases upD c <;> simp
theorem impl_le (c : Int) : impl_isLetter.f c = some (leD c) := by unfold impl_isLetter.f leD; rw [impl_up, impl_lo]; cases upD c <;> simp
theorem in12 (n : Nat) : (if (n : Int) ≥ 1 then some (decide ((n : Int) ≤ 12)) else some false) = some (inD n) := by
  unfold inD
  by_cases h : 1 ≤ n
  · rw [if_pos (by omega)]
    congr 1
    rw [decide_eq_true h, Bool.true_and, decide_eq_decide]; omega
  · rw [if_neg (by omega)]; simp [h]
theorem spec_in (s : ByteArray) : spec_l1In.f (s.size : Int) 1 12 = some (inD s.size) := in12 s.size
theorem impl_in (s : ByteArray) : impl_inside.f (s.size : Int) 1 12 = some (inD s.size) := in12 s.size
theorem inD_iff {n : Nat} : inD n = true ↔ 1 ≤ n ∧ n ≤ 12 := by simp [inD]
def okD (s : ByteArray) (i : Nat) : Bool := leD (bt s i) || ((decide (bt s i = 45) || decide (bt s i = 39)) && leD (bt s ((i : Int) - 1)))
def wlD (s : ByteArray) : Nat → Nat → Bool
  | 0, _ => true
  | d + 1, i => okD s i && wlD s d (i + 1)
def wordD (s : ByteArray) : Bool := inD s.size && ((leD (bt s 0) && leD (bt s ((s.size : Int) - 1))) && wlD s (s.size - 1) 1)
def greatD (s : ByteArray) : Bool := wordD s && upD (bt s 0)
theorem word_step (s : ByteArray) (i k : Nat) (h1 : 1 ≤ i) (h2 : i < s.size) (h3 : s.size ≤ 12) : spec_l2Word.l0 (k + 1) s (i : Int) = if okD s i = true then spec_l2Word.l0 k s ((i + 1 : Nat) : Int) else some false := by
  have hw : wrap64 ((i : Int) + 1) = ((i + 1 : Nat) : Int) := by rw [w64 (by omega) (by omega)]; rfl
  have hw' : wrap64 ((i : Int) - 1) = (i : Int) - 1 := w64 (by omega) (by omega)
  have a1 : (0 : Int) ≤ (i : Int) - 1 := by omega
  have a2 : (i : Int) - 1 < (s.size : Int) := by omega
  simp only [spec_l2Word.l0]
  rw [if_pos (show (i : Int) < (s.size : Int) by omega), if_pos (show (0 : Int) ≤ (i : Int) by omega), spec_le, hw, hw']
  simp only [Option.bind_some, if_pos a1, if_pos a2, spec_le]
  unfold okD
  generalize ((i + 1 : Nat) : Int) = j
  cases leD (bt s i) <;> cases leD (bt s ((i : Int) - 1)) <;> by_cases c : bt s i = 45 <;> by_cases d : bt s i = 39 <;> simp [c, d]
theorem word_loop (s : ByteArray) (hs : s.size ≤ 12) (d : Nat) : ∀ i : Nat, 1 ≤ i → i ≤ s.size → s.size - i = d → Ev (fun k => spec_l2Word.l0 k s (i : Int)) (wlD s d i) := by
  induction d with
  | zero =>
    intro i h1 h2 hd
    refine Ev.step (f := fun _ => some true) (fun k => ?_) (Ev.now _)
    simp only [spec_l2Word.l0]; rw [if_neg (by omega)]
  | succ d ih =>
    intro i h1 h2 hd
    refine Ev.step (f := fun k => if okD s i = true then spec_l2Word.l0 k s ((i + 1 : Nat) : Int) else some false) (fun k => word_step s i k h1 (by omega) hs) ?_
    unfold wlD
    cases h : okD s i with
    | true => exact ev_pos rfl (ev_eq (ih (i + 1) (by omega) (by omega) (by omega)) (by simp))
    | false => exact ev_neg (by simp) (ev_eq (Ev.now _) (by simp))
theorem loops_eq (s : ByteArray) (k : Nat) : ∀ i : Int, impl_isNameWord.l0 k s i = spec_l2Word.l0 k s i := by
  induction k with
  | zero => intro i; simp [impl_isNameWord.l0, spec_l2Word.l0]
  | succ k ih => intro i; simp only [impl_isNameWord.l0, spec_l2Word.l0, impl_le, spec_le, ih]
theorem spec_word (s : ByteArray) : Ev (fun k => spec_l2Word.f k s) (wordD s) := by
  unfold spec_l2Word.f wordD
  cases h : inD s.size with
  | false =>
    refine Ev.step (f := fun _ => some false) (fun k => ?_) (ev_eq (Ev.now _) (by simp))
    simp only [spec_in, h, Option.bind_some, spec_l2Word.j0]; simp
  | true =>
    obtain ⟨h1, h2⟩ := inD_iff.1 h
    have hw : wrap64 ((s.size : Int) - 1) = (s.size : Int) - 1 := w64 (by omega) (by omega)
    refine Ev.step (f := fun k => if (leD (bt s 0) && leD (bt s ((s.size : Int) - 1))) = true then spec_l2Word.l0 k s ((1 : Nat) : Int) else some false) (fun k => ?_) ?_
    · have a1 : (0 : Int) < (s.size : Int) := by omega
      have a2 : (0 : Int) ≤ (s.size : Int) - 1 := by omega
      have a3 : (s.size : Int) - 1 < (s.size : Int) := by omega
      simp only [spec_in, h, Option.bind_some, if_pos a1, if_pos a2, if_pos a3, hw, spec_le, spec_l2Word.j0]
      cases leD (bt s 0) <;> cases leD (bt s ((s.size : Int) - 1)) <;> simp
    · cases h3 : (leD (bt s 0) && leD (bt s ((s.size : Int) - 1))) with
      | true => exact ev_pos rfl (ev_eq (word_loop s h2 (s.size - 1) 1 (by omega) (by omega) rfl) (by simp))
      | false => exact ev_neg (by simp) (ev_eq (Ev.now _) (by simp))
theorem impl_word (s : ByteArray) : Ev (fun k => impl_isNameWord.f k s) (wordD s) := by
  unfold impl_isNameWord.f wordD
  cases h : inD s.size with
  | false =>
    refine Ev.step (f := fun _ => some false) (fun k => ?_) (ev_eq (Ev.now _) (by simp))
    simp only [impl_in, h, Option.bind_some, impl_isNameWord.j0]; simp
  | true =>
    obtain ⟨h1, h2⟩ := inD_iff.1 h
    have hw : wrap64 ((s.size : Int) - 1) = (s.size : Int) - 1 := w64 (by omega) (by omega)
    refine Ev.step (f := fun k => if (leD (bt s 0) && leD (bt s ((s.size : Int) - 1))) = true then spec_l2Word.l0 k s ((0 : Nat) : Int) else some false) (fun k => ?_) ?_
    · have a1 : (0 : Int) < (s.size : Int) := by omega
      have a2 : (0 : Int) ≤ (s.size : Int) - 1 := by omega
      have a3 : (s.size : Int) - 1 < (s.size : Int) := by omega
      simp only [impl_in, h, Option.bind_some, if_pos a1, if_pos a2, if_pos a3, hw, impl_le, impl_isNameWord.j0, loops_eq]
      cases leD (bt s 0) <;> cases leD (bt s ((s.size : Int) - 1)) <;> simp
    · cases h3 : (leD (bt s 0) && leD (bt s ((s.size : Int) - 1))) with
      | true =>
        refine ev_pos rfl (Ev.step (f := fun k => spec_l2Word.l0 k s ((1 : Nat) : Int)) (fun k => ?_) (ev_eq (word_loop s h2 (s.size - 1) 1 (by omega) (by omega) rfl) (by simp)))
        have h0 : leD (bt s 0) = true := by simp at h3; exact h3.1
        simp only [spec_l2Word.l0]
        rw [if_pos (by omega), if_pos (by omega), spec_le, show ((0 : Nat) : Int) = 0 from rfl, h0, w64 (by omega) (by omega)]
        simp
      | false => exact ev_neg (by simp) (ev_eq (Ev.now _) (by simp))
theorem word_in {s : ByteArray} (h : wordD s = true) : 1 ≤ s.size ∧ s.size ≤ 12 := by
  unfold wordD at h
  cases hi : inD s.size with
  | true => exact inD_iff.1 hi
  | false => rw [hi] at h; simp at h
theorem impl_great (s : ByteArray) : Ev (fun k => impl_isGreatWord.f k s) (greatD s) := by
  unfold impl_isGreatWord.f greatD
  refine Ev.bind (impl_word s) ?_
  cases h : wordD s with
  | true =>
    have := word_in h
    refine ev_pos rfl (ev_pos (by omega) (ev_eq (Ev.congr (f := fun _ => some (upD (bt s 0))) (fun k => by rw [impl_up]; rfl) (Ev.now _)) (by simp)))
  | false => exact ev_neg (by simp) (ev_eq (Ev.now _) (by simp))
def lowF (s : ByteArray) (j : Nat) : Bool := ((L s).drop j).all fun b => loD (b.toNat : Int)
def lowD (s : ByteArray) : Bool := lowF s 0
def wsD (l : List ByteArray) : Bool := l.all fun w => inD w.size && lowD w
theorem lowF_step (s : ByteArray) (j : Nat) (h : j < s.size) : lowF s j = (loD (bt s j) && lowF s (j + 1)) := by
  unfold lowF
  have hl : j < (L s).length := by rw [L_len]; exact h
  rw [List.drop_eq_getElem_cons hl, List.all_cons, bt_get s j h]
theorem lowF_end (s : ByteArray) (j : Nat) (h : s.size ≤ j) : lowF s j = true := by
  unfold lowF
  rw [List.drop_of_length_le (by rw [L_len]; exact h)]; rfl
theorem low_all (s : ByteArray) (h : lowD s = true) (j : Nat) (hj : j < s.size) : leD (bt s j) = true := by
  have hl : j < (L s).length := by rw [L_len]; exact hj
  have := List.all_eq_true.1 h _ (by rw [List.drop_zero]; exact List.getElem_mem hl)
  rw [bt_get s j hj]
  unfold leD
  rw [this]; simp
theorem wl_low (s : ByteArray) (h : lowD s = true) (d : Nat) : ∀ i, i + d ≤ s.size → wlD s d i = true := by
  induction d with
  | zero => intro i _; rfl
  | succ d ih =>
    intro i hi
    unfold wlD okD
    rw [low_all s h i (by omega), ih (i + 1) (by omega)]; rfl
theorem word_low (s : ByteArray) : (wordD s && lowD s) = (inD s.size && lowD s) := by
  cases h : lowD s with
  | false => simp
  | true =>
    unfold wordD
    cases hi : inD s.size with
    | false => simp
    | true =>
      obtain ⟨h1, h2⟩ := inD_iff.1 hi
      have e1 := low_all s h 0 (by omega)
      have e2 := low_all s h (s.size - 1) (by omega)
      rw [show ((s.size - 1 : Nat) : Int) = (s.size : Int) - 1 by omega] at e2
      rw [show ((0 : Nat) : Int) = 0 from rfl] at e1
      rw [e1, e2, wl_low s h (s.size - 1) 1 (by omega)]; rfl
theorem rd_get (l : List ByteArray) (i : Nat) (h : i < l.length) : rdOf ByteArray.empty l (i : Int) = l[i] := by simp [rdOf, h]
theorem spec_inner (ws : List ByteArray) (i : Nat) (hi : i < ws.length) (hs : (ws[i]).size ≤ 12) (hl : ws.length ≤ 4611686018427387904) (T : Bool) (hT : Ev (fun k => spec_l2Particle.l0 k ws ((i + 1 : Nat) : Int)) T) (d : Nat) : ∀ j : Nat, j ≤ (ws[i]).size → (ws[i]).size - j = d →
    Ev (fun k => spec_l2Particle.l1 k ws (i : Int) (j : Int)) (lowF ws[i] j && T) := by
  have hw : wrap64 ((i : Int) + 1) = ((i + 1 : Nat) : Int) := by rw [w64 (by omega) (by omega)]; rfl
  induction d with
  | zero =>
    intro j h1 hd
    refine Ev.step (f := fun k => spec_l2Particle.l0 k ws ((i + 1 : Nat) : Int)) (fun k => ?_) (ev_eq hT (by rw [lowF_end _ _ (by omega)]; simp))
    simp only [spec_l2Particle.l1, rd_get ws i hi]
    rw [if_pos (by omega), if_pos (by omega), if_neg (by omega), hw]
  | succ d ih =>
    intro j h1 hd
    rw [lowF_step _ j (by omega)]
    have hw' : wrap64 ((j : Int) + 1) = ((j + 1 : Nat) : Int) := by rw [w64 (by omega) (by omega)]; rfl
    refine Ev.step (f := fun k => if loD (bt ws[i] (j : Int)) = true then spec_l2Particle.l1 k ws (i : Int) ((j + 1 : Nat) : Int) else some false) (fun k => ?_) ?_
    · simp only [spec_l2Particle.l1, rd_get ws i hi]
      rw [if_pos (by omega), if_pos (by omega), if_pos (by omega), if_pos (by omega), hw', spec_lo]; rfl
    · cases h : loD (bt ws[i] (j : Int)) with
      | true => exact ev_pos rfl (ev_eq (ih (j + 1) (by omega) (by omega)) (by simp))
      | false => exact ev_neg (by simp) (ev_eq (Ev.now _) (by simp))
theorem spec_outer (ws : List ByteArray) (hl : ws.length ≤ 4611686018427387904) (d : Nat) : ∀ i : Nat, i ≤ ws.length → ws.length - i = d →
    Ev (fun k => spec_l2Particle.l0 k ws (i : Int)) (wsD (ws.drop i) && decide (ws.length ≤ 2)) := by
  induction d with
  | zero =>
    intro i h1 hd
    refine Ev.step (f := fun k => some (decide ((ws.length : Int) ≤ 2))) (fun k => ?_) (ev_eq (Ev.now _) ?_)
    · simp only [spec_l2Particle.l0]; rw [if_neg (by omega)]
    · rw [List.drop_of_length_le (by omega)]
      show decide _ = (true && decide _)
      rw [Bool.true_and, decide_eq_decide]; omega
  | succ d ih =>
    intro i h1 hd
    have hi : i < ws.length := by omega
    refine Ev.step (f := fun k => (spec_l2Word.f k ws[i]).bind fun t => if t = true then spec_l2Particle.l1 k ws (i : Int) ((0 : Nat) : Int) else some false) (fun k => ?_) ?_
    · simp only [spec_l2Particle.l0, rd_get ws i hi]
      rw [if_pos (by omega), if_pos (by omega)]; rfl
    · refine Ev.bind (spec_word _) ?_
      have e : (wsD (ws.drop i) && decide (ws.length ≤ 2)) = ((wordD ws[i] && lowD ws[i]) && (wsD (ws.drop (i + 1)) && decide (ws.length ≤ 2))) := by
        rw [word_low, List.drop_eq_getElem_cons hi]
        simp only [wsD, List.all_cons, Bool.and_assoc]
      rw [e]
      cases h : wordD ws[i] with
      | true => exact ev_pos rfl (ev_eq (spec_inner ws i hi (word_in h).2 hl _ (ih (i + 1) (by omega) (by omega)) _ 0 (by omega) rfl) (by simp [lowD]))
      | false => exact ev_neg (by simp) (ev_eq (Ev.now _) (by simp))
theorem impl_inner (ws ws' : List ByteArray) (n i : Nat) (w : ByteArray) (hi : i < 4611686018427387904) (hs : w.size ≤ 12) (T : Bool) (hT : Ev (fun k => impl_isParticle.l0 k ws ws' (n : Int) ((i + 1 : Nat) : Int)) T) (d : Nat) : ∀ j : Nat, j ≤ w.size → w.size - j = d →
    Ev (fun k => impl_isParticle.l1 k ws w (j : Int) ws' (n : Int) (i : Int)) (lowF w j && T) := by
  have hw : wrap64 ((i : Int) + 1) = ((i + 1 : Nat) : Int) := by rw [w64 (by omega) (by omega)]; rfl
  induction d with
  | zero =>
    intro j h1 hd
    refine Ev.step (f := fun k => impl_isParticle.l0 k ws ws' (n : Int) ((i + 1 : Nat) : Int)) (fun k => ?_) (ev_eq hT (by rw [lowF_end _ _ (by omega)]; simp))
    simp only [impl_isParticle.l1]
    rw [if_neg (by omega), hw]
  | succ d ih =>
    intro j h1 hd
    rw [lowF_step _ j (by omega)]
    have hw' : wrap64 ((j : Int) + 1) = ((j + 1 : Nat) : Int) := by rw [w64 (by omega) (by omega)]; rfl
    refine Ev.step (f := fun k => if loD (bt w (j : Int)) = true then impl_isParticle.l1 k ws w ((j + 1 : Nat) : Int) ws' (n : Int) (i : Int) else some false) (fun k => ?_) ?_
    · simp only [impl_isParticle.l1]
      rw [if_pos (by omega), if_pos (by omega), hw', impl_lo]; rfl
    · cases h : loD (bt w (j : Int)) with
      | true => exact ev_pos rfl (ev_eq (ih (j + 1) (by omega) (by omega)) (by simp))
      | false => exact ev_neg (by simp) (ev_eq (Ev.now _) (by simp))
theorem impl_outer (ws : List ByteArray) (hl : ws.length ≤ 4611686018427387904) (d : Nat) : ∀ i : Nat, i ≤ ws.length → ws.length - i = d →
    Ev (fun k => impl_isParticle.l0 k ws ws (ws.length : Int) (i : Int)) (wsD (ws.drop i) && decide (ws.length ≤ 2)) := by
  induction d with
  | zero =>
    intro i h1 hd
    refine Ev.step (f := fun k => some (decide ((ws.length : Int) ≤ 2))) (fun k => ?_) (ev_eq (Ev.now _) ?_)
    · simp only [impl_isParticle.l0]; rw [if_neg (by omega)]
    · rw [List.drop_of_length_le (by omega)]
      show decide _ = (true && decide _)
      rw [Bool.true_and, decide_eq_decide]; omega
  | succ d ih =>
    intro i h1 hd
    have hi : i < ws.length := by omega
    have e : (wsD (ws.drop i) && decide (ws.length ≤ 2)) = (inD (ws[i]).size && (lowD ws[i] && (wsD (ws.drop (i + 1)) && decide (ws.length ≤ 2)))) := by
      rw [List.drop_eq_getElem_cons hi]
      simp only [wsD, List.all_cons, Bool.and_assoc]
    rw [e]
    refine Ev.step (f := fun k => if inD (ws[i]).size = true then impl_isParticle.l1 k ws ws[i] ((0 : Nat) : Int) ws (ws.length : Int) (i : Int) else some false) (fun k => ?_) ?_
    · simp only [impl_isParticle.l0, rd_get ws i hi]
      rw [if_pos (by omega), if_pos (by omega), if_pos (by omega), impl_in]; rfl
    · cases h : inD (ws[i]).size with
      | true => exact ev_pos rfl (ev_eq (impl_inner ws ws ws.length i ws[i] (by omega) (inD_iff.1 h).2 _ (ih (i + 1) (by omega) (by omega)) _ 0 (by omega) rfl) (by simp [lowD]))
      | false => exact ev_neg (by simp) (ev_eq (Ev.now _) (by simp))
def wordsOf (s : ByteArray) : List ByteArray := (spl 32 (L s)).map mkB
def partD (s : ByteArray) : Bool := decide (s.size = 0) || (wsD (wordsOf s) && decide ((wordsOf s).length ≤ 2))
theorem wordsOf_len (s : ByteArray) : (wordsOf s).length ≤ s.size + 1 := by
  have := spl_length 32 (L s)
  rw [L_len] at this
  unfold wordsOf
  rw [List.length_map]; exact this
theorem nil_iff (s : ByteArray) : s.toList = ([] : List UInt8) ↔ s.size = 0 := by rw [toList_L, size_pos_iff]
theorem split_sp (s : ByteArray) (c : UInt8) (hs : s.size ≤ 4294967280) : strings_Split.f s (⟨#[c]⟩ : ByteArray) = some ((spl c (L s)).map mkB) := by
  have e : (⟨#[c]⟩ : ByteArray) = mkB [c] := rfl
  have h1 : (mkB [c]).size = 1 := by rw [size_mk]; rfl
  have hc := Lib.countB_le (mkB [c]) (by omega) s.size s (Nat.le_refl _)
  unfold strings_Split.f
  rw [e, if_pos ⟨by omega, by omega, Lib.splitB_all (mkB [c]) (by omega) 0 _ s rfl, by omega⟩, splitB_eq]
theorem spec_part (s : ByteArray) (hs : s.size ≤ 4294967280) : Ev (fun k => spec_l2Particle.f k s) (partD s) := by
  unfold spec_l2Particle.f partD
  by_cases h : s.size = 0
  · exact ev_pos ((nil_iff s).2 h) (ev_eq (Ev.now _) (by simp [h]))
  · refine ev_neg (fun e => h ((nil_iff s).1 e)) (Ev.bind (split_ev s 32 (by omega)) (ev_eq (spec_outer (wordsOf s) (by have := wordsOf_len s; omega) _ 0 (by omega) rfl) ?_))
    simp [h]
theorem impl_part (s : ByteArray) (hs : s.size ≤ 4294967280) : Ev (fun k => impl_isParticle.f k s) (partD s) := by
  unfold impl_isParticle.f partD
  by_cases h : s.size = 0
  · exact ev_pos ((nil_iff s).2 h) (ev_eq (Ev.now _) (by simp [h]))
  · refine ev_neg (fun e => h ((nil_iff s).1 e)) (ev_bind0 (split_sp s 32 hs) (ev_eq (impl_outer (wordsOf s) (by have := wordsOf_len s; omega) _ 0 (by omega) rfl) ?_))
    simp [h]
end Go.Proofs.YtieieapacepabaaDoor.G
