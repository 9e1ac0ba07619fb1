/- Texts of this session for the law FnExactCompareNames, put together by a program (merge.py): each ends with its namespace; conditions stand with each theorem. -/
import Derived.Test.YtcckamdpncbkoaaDoorKFnExactCompareNames2
import Derived.Test.YtcckamdpncbkoaaDoorKFnExactCompareNames5
import Derived.Test.YtcckamdpncbkoaaDoorKFnExactCompareNames4
import Derived.Test.YtcckamdpncbkoaaDoorKFnExactCompareNames3
namespace Go.Proofs.YtcckamdpncbkoaaDoor.G
open Go.RowKit Go.Proofs.YtcckamdpncbkoaaDoorW.PrintWords Go.Proofs.YtcckamdpncbkoaaDoorW.PrintLast Go.Proofs.YtcckamdpncbkoaaDoorW.PrintMore
open Go.Proofs.YtcckamdpncbkoaaDoor.Gl Go.Proofs.YtcckamdpncbkoaaDoor.Ext
attribute [local go_sem] max2_int min2_int max_two min_two max_three min_three max_four min_four   -- for this text's walks alone
set_option linter.unusedVariables false
set_option linter.unusedSimpArgs false

/-! ### strings_HasPrefix: function 77 -/
def strings_HasPrefix.f (a0 : ByteArray) (a1 : ByteArray) : Option (Bool) := (stringslite_HasPrefix.f a0 a1).bind fun t214 => (some t214)
set_option maxHeartbeats 8000000 in
set_option maxRecDepth 100000 in
theorem strings_HasPrefix.calls (a0 : ByteArray) (a1 : ByteArray) (r : Bool) (w : World) (h : strings_HasPrefix.f a0 a1 = some r) :
    Calls Tryd.prog 77 #[.string a0, .string a1] w fun e w' => e = .returned (.bool r) ∧ Drawn0 w w' := by
  have H : ((stringslite_HasPrefix.f a0 a1).bind fun t214 => (some t214)) = some r := h
  clear h
  replace H := Option.bind_eq_some_iff.mp H
  obtain ⟨t214, A30, H⟩ := H
  replace H : (some t214) = some r := H
  have A3 := Aside0.mk A30
  clear A30
  obtain rfl := Option.some.inj H
  go_enter Tryd.func77, Tryd.ntmps77
  go_wp2_with (first | ((with_reducible refine gate_callee (f := 98) rfl ?_); refine goesL_ (some 7) rfl rfl Tryd.func98 (by kernel_rfl) rfl #[.string a0, .string a1] rfl (by (try simp only [List.map_toArray, List.map_cons, List.map_nil]); first | done | rfl | (simp only [List.length_drop, List.length_take]; rfl)) ?_; (with_reducible refine (stringslite_HasPrefix.calls a0 a1 t214 _ A3.out).mono ?_); rintro e w' ⟨rfl, ⟨nd, rfl⟩⟩; refine ⟨_, rfl, ?_⟩))
  go_ret
  exact ⟨by first | rfl | (simp; done) | (simp [*]; done), by repeat (first | exact Drawn0.refl _ | apply Drawn0.step)⟩

end Go.Proofs.YtcckamdpncbkoaaDoor.G

namespace Go.Proofs.YtcckamdpncbkoaaDoor.G
open Go.RowKit Go.Proofs.YtcckamdpncbkoaaDoorW.PrintWords Go.Proofs.YtcckamdpncbkoaaDoorW.PrintLast Go.Proofs.YtcckamdpncbkoaaDoorW.PrintMore
open Go.Proofs.YtcckamdpncbkoaaDoor.Gl Go.Proofs.YtcckamdpncbkoaaDoor.Ext
attribute [local go_sem] max2_int min2_int max_two min_two max_three min_three max_four min_four   -- for this text's walks alone
set_option linter.unusedVariables false
set_option linter.unusedSimpArgs false

/-! ### impl_mayBeSame: function 48 -/
mutual
def impl_mayBeSame.j0 : Nat → Bool → List ByteArray → ByteArray → ByteArray → ByteArray → List ByteArray → ByteArray → ByteArray → ByteArray → Option (Bool)
  | 0, _, _, _, _, _, _, _, _, _ => none
  | k + 1, x26, x216000, x216001, x216002, x216003, x217000, x217001, x217002, x217003 => if x26 = true then (some false) else (impl_mayBeSame.l0 k 0 x216000 x216001 x216002 x216003 x217000 x217001 x217002 x217003)
def impl_mayBeSame.l0 : Nat → Int → List ByteArray → ByteArray → ByteArray → ByteArray → List ByteArray → ByteArray → ByteArray → ByteArray → Option (Bool)
  | 0, _, _, _, _, _, _, _, _, _ => none
  | k + 1, x5, x216000, x216001, x216002, x216003, x217000, x217001, x217002, x217003 => if x5 < (mn (x216000.length : Int) (x217000.length : Int)) then (if 0 ≤ x5 then (if x5 < (x216000.length : Int) then (if x5 < (x217000.length : Int) then (if (rdOf ByteArray.empty x216000 x5).toList = (rdOf ByteArray.empty x217000 x5).toList then (impl_mayBeSame.l0 k (wrap64 (x5 + 1)) x216000 x216001 x216002 x216003 x217000 x217001 x217002 x217003) else (if ((rdOf ByteArray.empty x216000 x5).size : Int) = 1 then ((strings_HasPrefix.f (rdOf ByteArray.empty x217000 x5) (rdOf ByteArray.empty x216000 x5)).bind fun t219 => (if t219 = true then (impl_mayBeSame.l0 k (wrap64 (x5 + 1)) x216000 x216001 x216002 x216003 x217000 x217001 x217002 x217003) else (if ((rdOf ByteArray.empty x217000 x5).size : Int) = 1 then ((strings_HasPrefix.f (rdOf ByteArray.empty x216000 x5) (rdOf ByteArray.empty x217000 x5)).bind fun t220 => (if t220 = true then (impl_mayBeSame.l0 k (wrap64 (x5 + 1)) x216000 x216001 x216002 x216003 x217000 x217001 x217002 x217003) else (some false))) else (some false)))) else (if ((rdOf ByteArray.empty x217000 x5).size : Int) = 1 then ((strings_HasPrefix.f (rdOf ByteArray.empty x216000 x5) (rdOf ByteArray.empty x217000 x5)).bind fun t221 => (if t221 = true then (impl_mayBeSame.l0 k (wrap64 (x5 + 1)) x216000 x216001 x216002 x216003 x217000 x217001 x217002 x217003) else (some false))) else (some false)))) else (none)) else (none)) else (none)) else (some true)
end
def impl_mayBeSame.f (k : Nat) (l0_0 : List ByteArray) (a0_1 : ByteArray) (a0_2 : ByteArray) (a0_3 : ByteArray) (l1_0 : List ByteArray) (a1_1 : ByteArray) (a1_2 : ByteArray) (a1_3 : ByteArray) : Option (Bool) := if a0_1.toList = a1_1.toList then (if a0_2.toList = a1_2.toList then (impl_mayBeSame.j0 k (a0_3.toList != a1_3.toList) l0_0 a0_1 a0_2 a0_3 l1_0 a1_1 a1_2 a1_3) else (impl_mayBeSame.j0 k true l0_0 a0_1 a0_2 a0_3 l1_0 a1_1 a1_2 a1_3)) else (impl_mayBeSame.j0 k true l0_0 a0_1 a0_2 a0_3 l1_0 a1_1 a1_2 a1_3)
theorem impl_mayBeSame.mono_l : ∀ k, (∀ y0 y1 y2 y3 y4 y5 y6 y7 y8, LeO (impl_mayBeSame.j0 k y0 y1 y2 y3 y4 y5 y6 y7 y8) (impl_mayBeSame.j0 (k + 1) y0 y1 y2 y3 y4 y5 y6 y7 y8)) ∧ (∀ y0 y1 y2 y3 y4 y5 y6 y7 y8, LeO (impl_mayBeSame.l0 k y0 y1 y2 y3 y4 y5 y6 y7 y8) (impl_mayBeSame.l0 (k + 1) y0 y1 y2 y3 y4 y5 y6 y7 y8))
  | 0 => ⟨fun _ _ _ _ _ _ _ _ _ r h => by simp [impl_mayBeSame.j0] at h, fun _ _ _ _ _ _ _ _ _ r h => by simp [impl_mayBeSame.l0] at h⟩
  | k + 1 => by
    obtain ⟨ih0, ih1⟩ := impl_mayBeSame.mono_l k
    refine ⟨?_, ?_⟩
    · intro y0 y1 y2 y3 y4 y5 y6 y7 y8
      unfold impl_mayBeSame.j0
      repeat' first
      | (with_reducible exact ih0 _ _ _ _ _ _ _ _ _)
      | (with_reducible exact ih1 _ _ _ _ _ _ _ _ _)
      | (with_reducible exact LeO.refl _)
      | (with_reducible exact LeO.none _)
      | (with_reducible refine LeO.ite ?_ ?_)
      | (with_reducible refine LeO.bind ?_ (fun _ => ?_))
      | exact ih0 _ _ _ _ _ _ _ _ _
      | exact ih1 _ _ _ _ _ _ _ _ _
      | exact LeO.none _
      | refine LeO.ite ?_ ?_
      | refine LeO.bind ?_ (fun _ => ?_)
    · intro y0 y1 y2 y3 y4 y5 y6 y7 y8
      unfold impl_mayBeSame.l0
      repeat' first
      | (with_reducible exact ih0 _ _ _ _ _ _ _ _ _)
      | (with_reducible exact ih1 _ _ _ _ _ _ _ _ _)
      | (with_reducible exact LeO.refl _)
      | (with_reducible exact LeO.none _)
      | (with_reducible refine LeO.ite ?_ ?_)
      | (with_reducible refine LeO.bind ?_ (fun _ => ?_))
      | exact ih0 _ _ _ _ _ _ _ _ _
      | exact ih1 _ _ _ _ _ _ _ _ _
      | exact LeO.none _
      | refine LeO.ite ?_ ?_
      | refine LeO.bind ?_ (fun _ => ?_)
theorem impl_mayBeSame.mono : ∀ a0 a1 a2 a3 a4 a5 a6 a7 k, LeO (impl_mayBeSame.f k a0 a1 a2 a3 a4 a5 a6 a7) (impl_mayBeSame.f (k + 1) a0 a1 a2 a3 a4 a5 a6 a7) := by
  intro a0 a1 a2 a3 a4 a5 a6 a7 k
  obtain ⟨ih0, ih1⟩ := impl_mayBeSame.mono_l k
  unfold impl_mayBeSame.f
  repeat' first
      | (with_reducible exact ih0 _ _ _ _ _ _ _ _ _)
      | (with_reducible exact ih1 _ _ _ _ _ _ _ _ _)
      | (with_reducible exact LeO.refl _)
      | (with_reducible exact LeO.none _)
      | (with_reducible refine LeO.ite ?_ ?_)
      | (with_reducible refine LeO.bind ?_ (fun _ => ?_))
      | exact ih0 _ _ _ _ _ _ _ _ _
      | exact ih1 _ _ _ _ _ _ _ _ _
      | exact LeO.none _
      | refine LeO.ite ?_ ?_
      | refine LeO.bind ?_ (fun _ => ?_)
set_option maxHeartbeats 8000000 in
set_option maxRecDepth 100000 in
theorem impl_mayBeSame.calls (k : Nat) (A0_0 : Option Addr) (c0_0 : Nat) (l0_0 : List ByteArray) (a0_1 : ByteArray) (a0_2 : ByteArray) (a0_3 : ByteArray) (A1_0 : Option Addr) (c1_0 : Nat) (l1_0 : List ByteArray) (a1_1 : ByteArray) (a1_2 : ByteArray) (a1_3 : ByteArray) (r : Bool) (w : World) (hr0_0 : Kd.C Kd.string w A0_0 l0_0.length l0_0) (hc0_0 : l0_0.length ≤ c0_0) (hr1_0 : Kd.C Kd.string w A1_0 l1_0.length l1_0) (hc1_0 : l1_0.length ≤ c1_0) (h : impl_mayBeSame.f k l0_0 a0_1 a0_2 a0_3 l1_0 a1_1 a1_2 a1_3 = some r) :
    Calls Tryd.prog 48 #[.agg #[.slice A0_0 l0_0.length c0_0, .string a0_1, .string a0_2, .string a0_3], .agg #[.slice A1_0 l1_0.length c1_0, .string a1_1, .string a1_2, .string a1_3]] w fun e w' => e = .returned (.bool r) ∧ Below w.heap.size w w' := by
  have hu27 := Tryd.underlying27
  have HR0_0 := Aside0.mk hr0_0
  have HC0_0 := Aside0.mk hc0_0
  clear hr0_0 hc0_0
  have HR1_0 := Aside0.mk hr1_0
  have HC1_0 := Aside0.mk hc1_0
  clear hr1_0 hc1_0
  have HB := Aside0.mk (Below.refl w.heap.size w)
  have H : (if a0_1.toList = a1_1.toList then (if a0_2.toList = a1_2.toList then (impl_mayBeSame.j0 k (a0_3.toList != a1_3.toList) l0_0 a0_1 a0_2 a0_3 l1_0 a1_1 a1_2 a1_3) else (impl_mayBeSame.j0 k true l0_0 a0_1 a0_2 a0_3 l1_0 a1_1 a1_2 a1_3)) else (impl_mayBeSame.j0 k true l0_0 a0_1 a0_2 a0_3 l1_0 a1_1 a1_2 a1_3)) = some r := h
  clear h
  have HC3 := Aside0.mk H
  clear H
  go_enter Tryd.func48, Tryd.ntmps48
  go_upto_region 1 with (first | ((with_reducible refine gate_dst (N := 2) rfl ?_); (try (refine gate_guard (by rfl) ?_; dsimp only)); refine box_event ?hg (N := 2) ?hd (cs := #[.slice A0_0 l0_0.length c0_0, .string a0_1, .string a0_2, .string a0_3]) (t := 27) ?hr ?_; (case hd => rfl); (case hg => rfl); (case hr => first | (go_simp; done) | (go_simp; rfl)); intro gb215 hg w4 hbox hb; have n0_ := Aside0.mk (below_step (by repeat (first | (with_reducible first | exact HB.out | apply below_alloc | apply pw_below_drewN | apply below_drew1) | exact HB.out)) hb); have n1_ := Aside0.mk (hbox); have n2_ := Aside0.mk ((by rw [hg]; exact (below_size (by repeat (first | (with_reducible first | exact HB.out | apply below_alloc | apply pw_below_drewN | apply below_drew1) | exact HB.out))) : w.heap.size ≤ gb215)); have n3_ := Aside0.mk ((by rw [hg]; exact (below_size (by repeat (first | (with_reducible first | exact HB.out | apply below_alloc | apply pw_below_drewN | apply below_drew1) | exact HB.out))) : w.heap.size ≤ gb215)); clear HB; have HB := n0_; have BK215 := n1_; have GW215 := n2_; have GE215 := n3_; clear n0_ n1_ n2_ n3_; clear hb hbox hg) | ((with_reducible refine gate_dst (N := 3) rfl ?_); (try (refine gate_guard (by rfl) ?_; dsimp only)); refine box_event ?hg (N := 3) ?hd (cs := #[.slice A1_0 l1_0.length c1_0, .string a1_1, .string a1_2, .string a1_3]) (t := 27) ?hr ?_; (case hd => rfl); (case hg => rfl); (case hr => first | (go_simp; done) | (go_simp; rfl)); intro gb216 hg w5 hbox hb; have n0_ := Aside0.mk (blk_below (g := gb215) (o := .cells #[.slice A0_0 l0_0.length c0_0, .string a0_1, .string a0_2, .string a0_3] 27 (0, 0)) (by (with_reducible repeat (first | refine blk_drewN ?_ _ | refine blk_drew ?_ | refine blk_alloc ?_ _)); exact BK215.out) hb); have n1_ := Aside0.mk (below_step (by repeat (first | (with_reducible first | exact HB.out | apply below_alloc | apply pw_below_drewN | apply below_drew1 | refine below_set ?_ GE215.out) | exact HB.out)) hb); have n2_ := Aside0.mk (hbox); have n3_ := Aside0.mk ((by rw [hg]; exact (below_size (by repeat (first | (with_reducible first | exact HB.out | apply below_alloc | apply pw_below_drewN | apply below_drew1 | refine below_set ?_ GE215.out) | exact HB.out))) : w.heap.size ≤ gb216)); have n4_ := Aside0.mk ((by rw [hg]; exact (below_size (by repeat (first | (with_reducible first | exact HB.out | apply below_alloc | apply pw_below_drewN | apply below_drew1 | refine below_set ?_ GE215.out) | exact HB.out))) : w.heap.size ≤ gb216)); have n5_ := Aside0.mk ((by rw [hg]; exact Nat.ne_of_lt (blk_lt (g := gb215) (o := .cells #[.slice A0_0 l0_0.length c0_0, .string a0_1, .string a0_2, .string a0_3] 27 (0, 0)) (by (with_reducible repeat (first | refine blk_drewN ?_ _ | refine blk_drew ?_ | refine blk_alloc ?_ _)); exact BK215.out)) : gb215 ≠ gb216)); have n6_ := Aside0.mk ((by rw [hg]; exact Nat.ne_of_gt (blk_lt (g := gb215) (o := .cells #[.slice A0_0 l0_0.length c0_0, .string a0_1, .string a0_2, .string a0_3] 27 (0, 0)) (by (with_reducible repeat (first | refine blk_drewN ?_ _ | refine blk_drew ?_ | refine blk_alloc ?_ _)); exact BK215.out)) : gb216 ≠ gb215)); clear BK215; clear HB; have BK215 := n0_; have HB := n1_; have BK216 := n2_; have GW216 := n3_; have GE216 := n4_; have NB215_216 := n5_; have NB216_215 := n6_; clear n0_ n1_ n2_ n3_ n4_ n5_ n6_; clear hb hbox hg))
  repeat (go_quiet (first | ((with_reducible refine gate_dst (N := 2) rfl ?_); (try (refine gate_guard (by rfl) ?_; dsimp only)); refine box_event ?hg (N := 2) ?hd (cs := #[.slice A0_0 l0_0.length c0_0, .string a0_1, .string a0_2, .string a0_3]) (t := 27) ?hr ?_; (case hd => rfl); (case hg => rfl); (case hr => first | (go_simp; done) | (go_simp; rfl)); intro gb215 hg w4 hbox hb; have n0_ := Aside0.mk (below_step (by repeat (first | (with_reducible first | exact HB.out | apply below_alloc | apply pw_below_drewN | apply below_drew1) | exact HB.out)) hb); have n1_ := Aside0.mk (hbox); have n2_ := Aside0.mk ((by rw [hg]; exact (below_size (by repeat (first | (with_reducible first | exact HB.out | apply below_alloc | apply pw_below_drewN | apply below_drew1) | exact HB.out))) : w.heap.size ≤ gb215)); have n3_ := Aside0.mk ((by rw [hg]; exact (below_size (by repeat (first | (with_reducible first | exact HB.out | apply below_alloc | apply pw_below_drewN | apply below_drew1) | exact HB.out))) : w.heap.size ≤ gb215)); clear HB; have HB := n0_; have BK215 := n1_; have GW215 := n2_; have GE215 := n3_; clear n0_ n1_ n2_ n3_; clear hb hbox hg) | ((with_reducible refine gate_dst (N := 3) rfl ?_); (try (refine gate_guard (by rfl) ?_; dsimp only)); refine box_event ?hg (N := 3) ?hd (cs := #[.slice A1_0 l1_0.length c1_0, .string a1_1, .string a1_2, .string a1_3]) (t := 27) ?hr ?_; (case hd => rfl); (case hg => rfl); (case hr => first | (go_simp; done) | (go_simp; rfl)); intro gb216 hg w5 hbox hb; have n0_ := Aside0.mk (blk_below (g := gb215) (o := .cells #[.slice A0_0 l0_0.length c0_0, .string a0_1, .string a0_2, .string a0_3] 27 (0, 0)) (by (with_reducible repeat (first | refine blk_drewN ?_ _ | refine blk_drew ?_ | refine blk_alloc ?_ _)); exact BK215.out) hb); have n1_ := Aside0.mk (below_step (by repeat (first | (with_reducible first | exact HB.out | apply below_alloc | apply pw_below_drewN | apply below_drew1 | refine below_set ?_ GE215.out) | exact HB.out)) hb); have n2_ := Aside0.mk (hbox); have n3_ := Aside0.mk ((by rw [hg]; exact (below_size (by repeat (first | (with_reducible first | exact HB.out | apply below_alloc | apply pw_below_drewN | apply below_drew1 | refine below_set ?_ GE215.out) | exact HB.out))) : w.heap.size ≤ gb216)); have n4_ := Aside0.mk ((by rw [hg]; exact (below_size (by repeat (first | (with_reducible first | exact HB.out | apply below_alloc | apply pw_below_drewN | apply below_drew1 | refine below_set ?_ GE215.out) | exact HB.out))) : w.heap.size ≤ gb216)); have n5_ := Aside0.mk ((by rw [hg]; exact Nat.ne_of_lt (blk_lt (g := gb215) (o := .cells #[.slice A0_0 l0_0.length c0_0, .string a0_1, .string a0_2, .string a0_3] 27 (0, 0)) (by (with_reducible repeat (first | refine blk_drewN ?_ _ | refine blk_drew ?_ | refine blk_alloc ?_ _)); exact BK215.out)) : gb215 ≠ gb216)); have n6_ := Aside0.mk ((by rw [hg]; exact Nat.ne_of_gt (blk_lt (g := gb215) (o := .cells #[.slice A0_0 l0_0.length c0_0, .string a0_1, .string a0_2, .string a0_3] 27 (0, 0)) (by (with_reducible repeat (first | refine blk_drewN ?_ _ | refine blk_drew ?_ | refine blk_alloc ?_ _)); exact BK215.out)) : gb216 ≠ gb215)); clear BK215; clear HB; have BK215 := n0_; have HB := n1_; have BK216 := n2_; have GW216 := n3_; have GE216 := n4_; have NB215_216 := n5_; have NB216_215 := n6_; clear n0_ n1_ n2_ n3_ n4_ n5_ n6_; clear hb hbox hg)); go_upto_region 1 with (first | ((with_reducible refine gate_dst (N := 2) rfl ?_); (try (refine gate_guard (by rfl) ?_; dsimp only)); refine box_event ?hg (N := 2) ?hd (cs := #[.slice A0_0 l0_0.length c0_0, .string a0_1, .string a0_2, .string a0_3]) (t := 27) ?hr ?_; (case hd => rfl); (case hg => rfl); (case hr => first | (go_simp; done) | (go_simp; rfl)); intro gb215 hg w4 hbox hb; have n0_ := Aside0.mk (below_step (by repeat (first | (with_reducible first | exact HB.out | apply below_alloc | apply pw_below_drewN | apply below_drew1) | exact HB.out)) hb); have n1_ := Aside0.mk (hbox); have n2_ := Aside0.mk ((by rw [hg]; exact (below_size (by repeat (first | (with_reducible first | exact HB.out | apply below_alloc | apply pw_below_drewN | apply below_drew1) | exact HB.out))) : w.heap.size ≤ gb215)); have n3_ := Aside0.mk ((by rw [hg]; exact (below_size (by repeat (first | (with_reducible first | exact HB.out | apply below_alloc | apply pw_below_drewN | apply below_drew1) | exact HB.out))) : w.heap.size ≤ gb215)); clear HB; have HB := n0_; have BK215 := n1_; have GW215 := n2_; have GE215 := n3_; clear n0_ n1_ n2_ n3_; clear hb hbox hg) | ((with_reducible refine gate_dst (N := 3) rfl ?_); (try (refine gate_guard (by rfl) ?_; dsimp only)); refine box_event ?hg (N := 3) ?hd (cs := #[.slice A1_0 l1_0.length c1_0, .string a1_1, .string a1_2, .string a1_3]) (t := 27) ?hr ?_; (case hd => rfl); (case hg => rfl); (case hr => first | (go_simp; done) | (go_simp; rfl)); intro gb216 hg w5 hbox hb; have n0_ := Aside0.mk (blk_below (g := gb215) (o := .cells #[.slice A0_0 l0_0.length c0_0, .string a0_1, .string a0_2, .string a0_3] 27 (0, 0)) (by (with_reducible repeat (first | refine blk_drewN ?_ _ | refine blk_drew ?_ | refine blk_alloc ?_ _)); exact BK215.out) hb); have n1_ := Aside0.mk (below_step (by repeat (first | (with_reducible first | exact HB.out | apply below_alloc | apply pw_below_drewN | apply below_drew1 | refine below_set ?_ GE215.out) | exact HB.out)) hb); have n2_ := Aside0.mk (hbox); have n3_ := Aside0.mk ((by rw [hg]; exact (below_size (by repeat (first | (with_reducible first | exact HB.out | apply below_alloc | apply pw_below_drewN | apply below_drew1 | refine below_set ?_ GE215.out) | exact HB.out))) : w.heap.size ≤ gb216)); have n4_ := Aside0.mk ((by rw [hg]; exact (below_size (by repeat (first | (with_reducible first | exact HB.out | apply below_alloc | apply pw_below_drewN | apply below_drew1 | refine below_set ?_ GE215.out) | exact HB.out))) : w.heap.size ≤ gb216)); have n5_ := Aside0.mk ((by rw [hg]; exact Nat.ne_of_lt (blk_lt (g := gb215) (o := .cells #[.slice A0_0 l0_0.length c0_0, .string a0_1, .string a0_2, .string a0_3] 27 (0, 0)) (by (with_reducible repeat (first | refine blk_drewN ?_ _ | refine blk_drew ?_ | refine blk_alloc ?_ _)); exact BK215.out)) : gb215 ≠ gb216)); have n6_ := Aside0.mk ((by rw [hg]; exact Nat.ne_of_gt (blk_lt (g := gb215) (o := .cells #[.slice A0_0 l0_0.length c0_0, .string a0_1, .string a0_2, .string a0_3] 27 (0, 0)) (by (with_reducible repeat (first | refine blk_drewN ?_ _ | refine blk_drew ?_ | refine blk_alloc ?_ _)); exact BK215.out)) : gb216 ≠ gb215)); clear BK215; clear HB; have BK215 := n0_; have HB := n1_; have BK216 := n2_; have GW216 := n3_; have GE216 := n4_; have NB215_216 := n5_; have NB216_215 := n6_; clear n0_ n1_ n2_ n3_ n4_ n5_ n6_; clear hb hbox hg)))
  (try simp only [Act.put, List.setIfInBounds_toArray, List.set_cons_zero, List.set_cons_succ])
  go_cut [26] (fun v26 wc => ∃ (kq : Nat) (x26_2 : Bool), v26 = .bool x26_2 ∧ Aside0 (impl_mayBeSame.j0 kq x26_2 l0_0 a0_1 a0_2 a0_3 l1_0 a1_1 a1_2 a1_3 = some r) ∧ Aside0 (kq ≤ k) ∧ Aside0 (wc.heap[gb215]? = some (.cells #[(.slice A0_0 l0_0.length c0_0), .string a0_1, .string a0_2, .string a0_3] 27 (0, 0))) ∧ Aside0 (wc.heap[gb216]? = some (.cells #[(.slice A1_0 l1_0.length c1_0), .string a1_1, .string a1_2, .string a1_3] 27 (0, 0))) ∧ Aside0 (Below w.heap.size w wc))
  case first =>
    have H := HC3.out
    clear HC3
    by_cases c6 : a0_1.toList = a1_1.toList
    · rw [if_pos c6] at H
      have c6b0 : (a0_1.toList == a1_1.toList) = true := beq_iff_eq.mpr c6
      have c6b1 : (a0_1.toList != a1_1.toList) = false := bne_eq_false_iff_eq.mpr c6
      clear c6
      (first | rw [c6b0] | (simp only [i64_w, i32_w]; rw [c6b0]) | skip)
      by_cases c7 : a0_2.toList = a1_2.toList
      · rw [if_pos c7] at H
        have c7b0 : (a0_2.toList == a1_2.toList) = true := beq_iff_eq.mpr c7
        have c7b1 : (a0_2.toList != a1_2.toList) = false := bne_eq_false_iff_eq.mpr c7
        clear c7
        have H' := Aside0.mk H
        clear H
        have hnb8 := NB215_216.out
        have hnc8 := NB216_215.out
        have hcz9_0 : w5.cell? ⟨gb215, 0, none⟩ = some (.slice A0_0 l0_0.length c0_0) := (blk_cell BK215.out 0).trans rfl
        have hcz9_1 : w5.cell? ⟨gb215, 1, none⟩ = some (.string a0_1) := (blk_cell BK215.out 1).trans rfl
        have hcz9_2 : w5.cell? ⟨gb215, 2, none⟩ = some (.string a0_2) := (blk_cell BK215.out 2).trans rfl
        have hcz9_3 : w5.cell? ⟨gb215, 3, none⟩ = some (.string a0_3) := (blk_cell BK215.out 3).trans rfl
        have hfz9_0 := blk_frozen BK215.out 0
        have hfz9_1 := blk_frozen BK215.out 1
        have hfz9_2 := blk_frozen BK215.out 2
        have hfz9_3 := blk_frozen BK215.out 3
        have hcz10_0 : w5.cell? ⟨gb216, 0, none⟩ = some (.slice A1_0 l1_0.length c1_0) := (blk_cell BK216.out 0).trans rfl
        have hcz10_1 : w5.cell? ⟨gb216, 1, none⟩ = some (.string a1_1) := (blk_cell BK216.out 1).trans rfl
        have hcz10_2 : w5.cell? ⟨gb216, 2, none⟩ = some (.string a1_2) := (blk_cell BK216.out 2).trans rfl
        have hcz10_3 : w5.cell? ⟨gb216, 3, none⟩ = some (.string a1_3) := (blk_cell BK216.out 3).trans rfl
        have hfz10_0 := blk_frozen BK216.out 0
        have hfz10_1 := blk_frozen BK216.out 1
        have hfz10_2 := blk_frozen BK216.out 2
        have hfz10_3 := blk_frozen BK216.out 3
        go_wp2
        all_goals
          first
          | (exfalso; (try simp only [decide_eq_true_eq, decide_eq_false_iff_not] at *); first | done | omega)
          | repeat (go_quiet (fail); try go_wp2)
            go_meet
            case rel => exact ⟨_, ((a0_3.toList != a1_3.toList)), (by first | rfl | (simp; done) | (simp [*]; done)), H', ⟨by first | omega | exact Nat.le_refl _⟩, ⟨by (with_reducible repeat (first | refine blk_drewN ?_ _ | refine blk_drew ?_ | refine blk_alloc ?_ _)); exact BK215.out⟩, ⟨by (with_reducible repeat (first | refine blk_drewN ?_ _ | refine blk_drew ?_ | refine blk_alloc ?_ _)); exact BK216.out⟩, ⟨by repeat (first | (with_reducible first | exact HB.out | apply below_alloc | apply pw_below_drewN | apply below_drew1 | refine below_set ?_ GE215.out | refine below_set ?_ GE216.out) | exact HB.out)⟩⟩
      · rw [if_neg c7] at H
        have c7b0 : (a0_2.toList == a1_2.toList) = false := beq_eq_false_iff_ne.mpr c7
        have c7b1 : (a0_2.toList != a1_2.toList) = true := bne_iff_ne.mpr c7
        have H' := Aside0.mk H
        clear H
        have hnb11 := NB215_216.out
        have hnc11 := NB216_215.out
        have hcz12_0 : w5.cell? ⟨gb215, 0, none⟩ = some (.slice A0_0 l0_0.length c0_0) := (blk_cell BK215.out 0).trans rfl
        have hcz12_1 : w5.cell? ⟨gb215, 1, none⟩ = some (.string a0_1) := (blk_cell BK215.out 1).trans rfl
        have hcz12_2 : w5.cell? ⟨gb215, 2, none⟩ = some (.string a0_2) := (blk_cell BK215.out 2).trans rfl
        have hcz12_3 : w5.cell? ⟨gb215, 3, none⟩ = some (.string a0_3) := (blk_cell BK215.out 3).trans rfl
        have hfz12_0 := blk_frozen BK215.out 0
        have hfz12_1 := blk_frozen BK215.out 1
        have hfz12_2 := blk_frozen BK215.out 2
        have hfz12_3 := blk_frozen BK215.out 3
        have hcz13_0 : w5.cell? ⟨gb216, 0, none⟩ = some (.slice A1_0 l1_0.length c1_0) := (blk_cell BK216.out 0).trans rfl
        have hcz13_1 : w5.cell? ⟨gb216, 1, none⟩ = some (.string a1_1) := (blk_cell BK216.out 1).trans rfl
        have hcz13_2 : w5.cell? ⟨gb216, 2, none⟩ = some (.string a1_2) := (blk_cell BK216.out 2).trans rfl
        have hcz13_3 : w5.cell? ⟨gb216, 3, none⟩ = some (.string a1_3) := (blk_cell BK216.out 3).trans rfl
        have hfz13_0 := blk_frozen BK216.out 0
        have hfz13_1 := blk_frozen BK216.out 1
        have hfz13_2 := blk_frozen BK216.out 2
        have hfz13_3 := blk_frozen BK216.out 3
        go_wp2
        all_goals
          first
          | (exfalso; (try simp only [decide_eq_true_eq, decide_eq_false_iff_not] at *); first | done | omega)
          | repeat (go_quiet (fail); try go_wp2)
            go_meet
            case rel => exact ⟨_, (true), (by first | rfl | (simp; done) | (simp [*]; done)), H', ⟨by first | omega | exact Nat.le_refl _⟩, ⟨by (with_reducible repeat (first | refine blk_drewN ?_ _ | refine blk_drew ?_ | refine blk_alloc ?_ _)); exact BK215.out⟩, ⟨by (with_reducible repeat (first | refine blk_drewN ?_ _ | refine blk_drew ?_ | refine blk_alloc ?_ _)); exact BK216.out⟩, ⟨by repeat (first | (with_reducible first | exact HB.out | apply below_alloc | apply pw_below_drewN | apply below_drew1 | refine below_set ?_ GE215.out | refine below_set ?_ GE216.out) | exact HB.out)⟩⟩
    · rw [if_neg c6] at H
      have c6b0 : (a0_1.toList == a1_1.toList) = false := beq_eq_false_iff_ne.mpr c6
      have c6b1 : (a0_1.toList != a1_1.toList) = true := bne_iff_ne.mpr c6
      (first | rw [c6b0] | (simp only [i64_w, i32_w]; rw [c6b0]) | skip)
      have H' := Aside0.mk H
      clear H
      have hnb14 := NB215_216.out
      have hnc14 := NB216_215.out
      have hcz15_0 : w5.cell? ⟨gb215, 0, none⟩ = some (.slice A0_0 l0_0.length c0_0) := (blk_cell BK215.out 0).trans rfl
      have hcz15_1 : w5.cell? ⟨gb215, 1, none⟩ = some (.string a0_1) := (blk_cell BK215.out 1).trans rfl
      have hcz15_2 : w5.cell? ⟨gb215, 2, none⟩ = some (.string a0_2) := (blk_cell BK215.out 2).trans rfl
      have hcz15_3 : w5.cell? ⟨gb215, 3, none⟩ = some (.string a0_3) := (blk_cell BK215.out 3).trans rfl
      have hfz15_0 := blk_frozen BK215.out 0
      have hfz15_1 := blk_frozen BK215.out 1
      have hfz15_2 := blk_frozen BK215.out 2
      have hfz15_3 := blk_frozen BK215.out 3
      have hcz16_0 : w5.cell? ⟨gb216, 0, none⟩ = some (.slice A1_0 l1_0.length c1_0) := (blk_cell BK216.out 0).trans rfl
      have hcz16_1 : w5.cell? ⟨gb216, 1, none⟩ = some (.string a1_1) := (blk_cell BK216.out 1).trans rfl
      have hcz16_2 : w5.cell? ⟨gb216, 2, none⟩ = some (.string a1_2) := (blk_cell BK216.out 2).trans rfl
      have hcz16_3 : w5.cell? ⟨gb216, 3, none⟩ = some (.string a1_3) := (blk_cell BK216.out 3).trans rfl
      have hfz16_0 := blk_frozen BK216.out 0
      have hfz16_1 := blk_frozen BK216.out 1
      have hfz16_2 := blk_frozen BK216.out 2
      have hfz16_3 := blk_frozen BK216.out 3
      go_wp2
      all_goals
        first
        | (exfalso; (try simp only [decide_eq_true_eq, decide_eq_false_iff_not] at *); first | done | omega)
        | repeat (go_quiet (fail); try go_wp2)
          go_meet
          case rel => exact ⟨_, (true), (by first | rfl | (simp; done) | (simp [*]; done)), H', ⟨by first | omega | exact Nat.le_refl _⟩, ⟨by (with_reducible repeat (first | refine blk_drewN ?_ _ | refine blk_drew ?_ | refine blk_alloc ?_ _)); exact BK215.out⟩, ⟨by (with_reducible repeat (first | refine blk_drewN ?_ _ | refine blk_drew ?_ | refine blk_alloc ?_ _)); exact BK216.out⟩, ⟨by repeat (first | (with_reducible first | exact HB.out | apply below_alloc | apply pw_below_drewN | apply below_drew1 | refine below_set ?_ GE215.out | refine below_set ?_ GE216.out) | exact HB.out)⟩⟩
  case rest =>
    clear HC3
    try clear c1
    try clear p2
    try clear c4
    try clear c6
    try clear c6b0
    try clear c6b1
    try clear c7
    try clear c7b0
    try clear c7b1
    try clear c8
    try clear c11
    try clear c14
    try clear hcz10_0
    try clear hcz10_1
    try clear hcz10_2
    try clear hcz10_3
    try clear hcz12_0
    try clear hcz12_1
    try clear hcz12_2
    try clear hcz12_3
    try clear hcz13_0
    try clear hcz13_1
    try clear hcz13_2
    try clear hcz13_3
    try clear hcz15_0
    try clear hcz15_1
    try clear hcz15_2
    try clear hcz15_3
    try clear hcz16_0
    try clear hcz16_1
    try clear hcz16_2
    try clear hcz16_3
    try clear hcz9_0
    try clear hcz9_1
    try clear hcz9_2
    try clear hcz9_3
    try clear hfz10_0
    try clear hfz10_1
    try clear hfz10_2
    try clear hfz10_3
    try clear hfz12_0
    try clear hfz12_1
    try clear hfz12_2
    try clear hfz12_3
    try clear hfz13_0
    try clear hfz13_1
    try clear hfz13_2
    try clear hfz13_3
    try clear hfz15_0
    try clear hfz15_1
    try clear hfz15_2
    try clear hfz15_3
    try clear hfz16_0
    try clear hfz16_1
    try clear hfz16_2
    try clear hfz16_3
    try clear hfz9_0
    try clear hfz9_1
    try clear hfz9_2
    try clear hfz9_3
    obtain ⟨kq, x26_2, rfl, HA, HJ2, BK215, BK216, HB⟩ := hcut
    cases kq with
    | zero => exact absurd HA.out (by simp [impl_mayBeSame.j0])
    | succ kj2 =>
      have H := HA.out
      clear HA
      simp only [impl_mayBeSame.j0] at H
      by_cases c17 : x26_2 = true
      · subst c17
        have H1 : (some false) = some r := by rw [if_pos rfl] at H; exact H
        clear H
        have H := H1
        clear H1
        obtain rfl := Option.some.inj H
        go_wp2
        all_goals
          first
          | (exfalso; (try simp only [decide_eq_true_eq, decide_eq_false_iff_not] at *); first | done | omega)
          | repeat (go_quiet (fail); try go_wp2)
            go_ret
            exact ⟨by first | rfl | (simp [errW_none, errW_some] <;> rfl) | (simp [*, errW_none, errW_some] <;> rfl), by repeat (first | (with_reducible first | exact HB.out | apply below_alloc | apply pw_below_drewN | apply below_drew1 | refine below_set ?_ GE215.out | refine below_set ?_ GE216.out) | exact HB.out)⟩
      · replace c17 := Bool.eq_false_iff.mpr c17
        subst c17
        have H1 : (impl_mayBeSame.l0 kj2 0 l0_0 a0_1 a0_2 a0_3 l1_0 a1_1 a1_2 a1_3) = some r := by rw [if_neg (show ¬ (false = true) by decide)] at H; exact H
        clear H
        have H := H1
        clear H1
        have H' := Aside0.mk H
        clear H
        go_wp2
        all_goals
          first
          | (exfalso; (try simp only [decide_eq_true_eq, decide_eq_false_iff_not] at *); first | done | omega)
          | repeat (go_quiet (fail); try go_wp2)
            go_loopg [5] kj2 (fun kq v5 w' => ∃ (x5_2 : Int), v5 = .int .i64 x5_2 ∧ Aside0 (impl_mayBeSame.l0 kq x5_2 l0_0 a0_1 a0_2 a0_3 l1_0 a1_1 a1_2 a1_3 = some r) ∧ Aside0 (kq ≤ kj2) ∧ Aside0 (w'.heap[gb215]? = some (.cells #[(.slice A0_0 l0_0.length c0_0), .string a0_1, .string a0_2, .string a0_3] 27 (0, 0))) ∧ Aside0 (w'.heap[gb216]? = some (.cells #[(.slice A1_0 l1_0.length c1_0), .string a1_1, .string a1_2, .string a1_3] 27 (0, 0))) ∧ Aside0 (Below w.heap.size w w'))
            case atStart => exact ⟨(0), (by first | rfl | (simp; done) | (simp [*]; done)), H', ⟨Nat.le_refl _⟩, ⟨by (with_reducible repeat (first | refine blk_drewN ?_ _ | refine blk_drew ?_ | refine blk_alloc ?_ _)); exact BK215.out⟩, ⟨by (with_reducible repeat (first | refine blk_drewN ?_ _ | refine blk_drew ?_ | refine blk_alloc ?_ _)); exact BK216.out⟩, ⟨by repeat (first | (with_reducible first | exact HB.out | apply below_alloc | apply pw_below_drewN | apply below_drew1 | refine below_set ?_ GE215.out | refine below_set ?_ GE216.out) | exact HB.out)⟩⟩
            case round =>
              clear H'
              try clear c1
              try clear p2
              try clear c4
              try clear c6
              try clear c6b0
              try clear c6b1
              try clear c7
              try clear c7b0
              try clear c7b1
              try clear c8
              try clear c11
              try clear c14
              try clear c17
              try clear hcz10_0
              try clear hcz10_1
              try clear hcz10_2
              try clear hcz10_3
              try clear hcz12_0
              try clear hcz12_1
              try clear hcz12_2
              try clear hcz12_3
              try clear hcz13_0
              try clear hcz13_1
              try clear hcz13_2
              try clear hcz13_3
              try clear hcz15_0
              try clear hcz15_1
              try clear hcz15_2
              try clear hcz15_3
              try clear hcz16_0
              try clear hcz16_1
              try clear hcz16_2
              try clear hcz16_3
              try clear hcz9_0
              try clear hcz9_1
              try clear hcz9_2
              try clear hcz9_3
              try clear hfz10_0
              try clear hfz10_1
              try clear hfz10_2
              try clear hfz10_3
              try clear hfz12_0
              try clear hfz12_1
              try clear hfz12_2
              try clear hfz12_3
              try clear hfz13_0
              try clear hfz13_1
              try clear hfz13_2
              try clear hfz13_3
              try clear hfz15_0
              try clear hfz15_1
              try clear hfz15_2
              try clear hfz15_3
              try clear hfz16_0
              try clear hfz16_1
              try clear hfz16_2
              try clear hfz16_3
              try clear hfz9_0
              try clear hfz9_1
              try clear hfz9_2
              try clear hfz9_3
              try clear p2
              obtain ⟨x5_2, rfl, HA, HK2, BK215, BK216, HB⟩ := hrel
              cases gk with
              | zero => exact absurd HA.out (by simp [impl_mayBeSame.l0])
              | succ k2 =>
                have H := HA.out
                clear HA
                simp only [impl_mayBeSame.l0] at H
                obtain ⟨ji18, hji18⟩ : ∃ j_ : Int, (mn (l0_0.length : Int) (l1_0.length : Int)) = j_ := ⟨_, rfl⟩
                replace H : (if x5_2 < (ji18) then (if 0 ≤ x5_2 then (if x5_2 < (l0_0.length : Int) then (if x5_2 < (l1_0.length : Int) then (if (rdOf ByteArray.empty l0_0 x5_2).toList = (rdOf ByteArray.empty l1_0 x5_2).toList then (impl_mayBeSame.l0 k2 (wrap64 (x5_2 + 1)) l0_0 a0_1 a0_2 a0_3 l1_0 a1_1 a1_2 a1_3) else (if ((rdOf ByteArray.empty l0_0 x5_2).size : Int) = 1 then ((strings_HasPrefix.f (rdOf ByteArray.empty l1_0 x5_2) (rdOf ByteArray.empty l0_0 x5_2)).bind fun t219 => (if t219 = true then (impl_mayBeSame.l0 k2 (wrap64 (x5_2 + 1)) l0_0 a0_1 a0_2 a0_3 l1_0 a1_1 a1_2 a1_3) else (if ((rdOf ByteArray.empty l1_0 x5_2).size : Int) = 1 then ((strings_HasPrefix.f (rdOf ByteArray.empty l0_0 x5_2) (rdOf ByteArray.empty l1_0 x5_2)).bind fun t220 => (if t220 = true then (impl_mayBeSame.l0 k2 (wrap64 (x5_2 + 1)) l0_0 a0_1 a0_2 a0_3 l1_0 a1_1 a1_2 a1_3) else (some false))) else (some false)))) else (if ((rdOf ByteArray.empty l1_0 x5_2).size : Int) = 1 then ((strings_HasPrefix.f (rdOf ByteArray.empty l0_0 x5_2) (rdOf ByteArray.empty l1_0 x5_2)).bind fun t221 => (if t221 = true then (impl_mayBeSame.l0 k2 (wrap64 (x5_2 + 1)) l0_0 a0_1 a0_2 a0_3 l1_0 a1_1 a1_2 a1_3) else (some false))) else (some false)))) else (none)) else (none)) else (none)) else (some true)) = some r := by first | (rw [hji18] at H; exact H) | (simp only [hji18] at H ⊢; exact H)
                have hji18_ : (if (l1_0.length : Int) < (l0_0.length : Int) then (l1_0.length : Int) else (l0_0.length : Int)) = ji18 := hji18
                by_cases c19 : x5_2 < (ji18)
                · rw [if_pos c19] at H
                  have c19b0 : decide (x5_2 < (ji18)) = true := decide_eq_true c19
                  clear c19
                  by_cases c20 : 0 ≤ x5_2
                  · rw [if_pos c20] at H
                    have c20b0 : decide (0 ≤ x5_2) = true := decide_eq_true c20
                    clear c20
                    by_cases c21 : x5_2 < (l0_0.length : Int)
                    · rw [if_pos c21] at H
                      have c21b0 : decide (x5_2 < (l0_0.length : Int)) = true := decide_eq_true c21
                      clear c21
                      by_cases c22 : x5_2 < (l1_0.length : Int)
                      · rw [if_pos c22] at H
                        have c22b0 : decide (x5_2 < (l1_0.length : Int)) = true := decide_eq_true c22
                        clear c22
                        by_cases c23 : (rdOf ByteArray.empty l0_0 x5_2).toList = (rdOf ByteArray.empty l1_0 x5_2).toList
                        · rw [if_pos c23] at H
                          have c23b0 : ((rdOf ByteArray.empty l0_0 x5_2).toList == (rdOf ByteArray.empty l1_0 x5_2).toList) = true := beq_iff_eq.mpr c23
                          have c23b1 : ((rdOf ByteArray.empty l0_0 x5_2).toList != (rdOf ByteArray.empty l1_0 x5_2).toList) = false := bne_eq_false_iff_eq.mpr c23
                          clear c23
                          have H' := Aside0.mk H
                          clear H
                          have hnb24 := NB215_216.out
                          have hnc24 := NB216_215.out
                          have hcz25_0 : wr.cell? ⟨gb215, 0, none⟩ = some (.slice A0_0 l0_0.length c0_0) := (blk_cell BK215.out 0).trans rfl
                          have hcz25_1 : wr.cell? ⟨gb215, 1, none⟩ = some (.string a0_1) := (blk_cell BK215.out 1).trans rfl
                          have hcz25_2 : wr.cell? ⟨gb215, 2, none⟩ = some (.string a0_2) := (blk_cell BK215.out 2).trans rfl
                          have hcz25_3 : wr.cell? ⟨gb215, 3, none⟩ = some (.string a0_3) := (blk_cell BK215.out 3).trans rfl
                          have hfz25_0 := blk_frozen BK215.out 0
                          have hfz25_1 := blk_frozen BK215.out 1
                          have hfz25_2 := blk_frozen BK215.out 2
                          have hfz25_3 := blk_frozen BK215.out 3
                          have hcz26_0 : wr.cell? ⟨gb216, 0, none⟩ = some (.slice A1_0 l1_0.length c1_0) := (blk_cell BK216.out 0).trans rfl
                          have hcz26_1 : wr.cell? ⟨gb216, 1, none⟩ = some (.string a1_1) := (blk_cell BK216.out 1).trans rfl
                          have hcz26_2 : wr.cell? ⟨gb216, 2, none⟩ = some (.string a1_2) := (blk_cell BK216.out 2).trans rfl
                          have hcz26_3 : wr.cell? ⟨gb216, 3, none⟩ = some (.string a1_3) := (blk_cell BK216.out 3).trans rfl
                          have hfz26_0 := blk_frozen BK216.out 0
                          have hfz26_1 := blk_frozen BK216.out 1
                          have hfz26_2 := blk_frozen BK216.out 2
                          have hfz26_3 := blk_frozen BK216.out 3
                          have p217 : 0 ≤ (x5_2 : Int) := of_decide_eq_true (by first | (with_reducible assumption) | assumption)
                          have q217 : x5_2 < (l0_0.length : Int) := of_decide_eq_true (by first | (with_reducible assumption) | assumption)
                          obtain ⟨ad217, e217, hx217_0⟩ := Kd.at_string HR0_0.out x5_2 p217 q217
                          cases e217
                          replace hx217_0 := (HB.out.cell (World.block_lt_of_cell? w _ hx217_0)).trans hx217_0
                          replace p217 := eq_true p217
                          replace q217 := eq_true q217
                          have p218 : 0 ≤ (x5_2 : Int) := of_decide_eq_true (by first | (with_reducible assumption) | assumption)
                          have q218 : x5_2 < (l1_0.length : Int) := of_decide_eq_true (by first | (with_reducible assumption) | assumption)
                          obtain ⟨ad218, e218, hx218_0⟩ := Kd.at_string HR1_0.out x5_2 p218 q218
                          cases e218
                          replace hx218_0 := (HB.out.cell (World.block_lt_of_cell? w _ hx218_0)).trans hx218_0
                          replace p218 := eq_true p218
                          replace q218 := eq_true q218
                          go_wp2
                          all_goals
                            first
                            | (exfalso; (try simp only [decide_eq_true_eq, decide_eq_false_iff_not] at *); first | done | omega)
                            | repeat (go_quiet (fail); try go_wp2)
                              go_roundg k2
                              case measure => have := HJ2.out; have := HK2.out; omega
                              case rel => exact ⟨(wrap64 (x5_2 + 1)), (by first | rfl | (simp; done) | (simp [*]; done)), H', ⟨by have := HJ2.out; have := HK2.out; omega⟩, ⟨by (with_reducible repeat (first | refine blk_drewN ?_ _ | refine blk_drew ?_ | refine blk_alloc ?_ _)); exact BK215.out⟩, ⟨by (with_reducible repeat (first | refine blk_drewN ?_ _ | refine blk_drew ?_ | refine blk_alloc ?_ _)); exact BK216.out⟩, ⟨by repeat (first | (with_reducible first | exact HB.out | apply below_alloc | apply pw_below_drewN | apply below_drew1 | refine below_set ?_ GE215.out | refine below_set ?_ GE216.out) | exact HB.out)⟩⟩
                        · rw [if_neg c23] at H
                          have c23b0 : ((rdOf ByteArray.empty l0_0 x5_2).toList == (rdOf ByteArray.empty l1_0 x5_2).toList) = false := beq_eq_false_iff_ne.mpr c23
                          have c23b1 : ((rdOf ByteArray.empty l0_0 x5_2).toList != (rdOf ByteArray.empty l1_0 x5_2).toList) = true := bne_iff_ne.mpr c23
                          by_cases c27 : ((rdOf ByteArray.empty l0_0 x5_2).size : Int) = 1
                          · rw [if_pos c27] at H
                            have c27b0 : (((rdOf ByteArray.empty l0_0 x5_2).size : Int) == 1) = true := beq_iff_eq.mpr c27
                            have c27b1 : (((rdOf ByteArray.empty l0_0 x5_2).size : Int) != 1) = false := bne_eq_false_iff_eq.mpr c27
                            clear c27
                            replace H := Option.bind_eq_some_iff.mp H
                            obtain ⟨t219, A280, H⟩ := H
                            replace H : (if t219 = true then (impl_mayBeSame.l0 k2 (wrap64 (x5_2 + 1)) l0_0 a0_1 a0_2 a0_3 l1_0 a1_1 a1_2 a1_3) else (if ((rdOf ByteArray.empty l1_0 x5_2).size : Int) = 1 then ((strings_HasPrefix.f (rdOf ByteArray.empty l0_0 x5_2) (rdOf ByteArray.empty l1_0 x5_2)).bind fun t220 => (if t220 = true then (impl_mayBeSame.l0 k2 (wrap64 (x5_2 + 1)) l0_0 a0_1 a0_2 a0_3 l1_0 a1_1 a1_2 a1_3) else (some false))) else (some false))) = some r := H
                            have A28 := Aside0.mk A280
                            clear A280
                            by_cases c29 : t219 = true
                            · subst c29
                              have H1 : (impl_mayBeSame.l0 k2 (wrap64 (x5_2 + 1)) l0_0 a0_1 a0_2 a0_3 l1_0 a1_1 a1_2 a1_3) = some r := by rw [if_pos rfl] at H; exact H
                              clear H
                              have H := H1
                              clear H1
                              have H' := Aside0.mk H
                              clear H
                              have hnb30 := NB215_216.out
                              have hnc30 := NB216_215.out
                              have hcz31_0 : wr.cell? ⟨gb215, 0, none⟩ = some (.slice A0_0 l0_0.length c0_0) := (blk_cell BK215.out 0).trans rfl
                              have hcz31_1 : wr.cell? ⟨gb215, 1, none⟩ = some (.string a0_1) := (blk_cell BK215.out 1).trans rfl
                              have hcz31_2 : wr.cell? ⟨gb215, 2, none⟩ = some (.string a0_2) := (blk_cell BK215.out 2).trans rfl
                              have hcz31_3 : wr.cell? ⟨gb215, 3, none⟩ = some (.string a0_3) := (blk_cell BK215.out 3).trans rfl
                              have hfz31_0 := blk_frozen BK215.out 0
                              have hfz31_1 := blk_frozen BK215.out 1
                              have hfz31_2 := blk_frozen BK215.out 2
                              have hfz31_3 := blk_frozen BK215.out 3
                              have hcz32_0 : wr.cell? ⟨gb216, 0, none⟩ = some (.slice A1_0 l1_0.length c1_0) := (blk_cell BK216.out 0).trans rfl
                              have hcz32_1 : wr.cell? ⟨gb216, 1, none⟩ = some (.string a1_1) := (blk_cell BK216.out 1).trans rfl
                              have hcz32_2 : wr.cell? ⟨gb216, 2, none⟩ = some (.string a1_2) := (blk_cell BK216.out 2).trans rfl
                              have hcz32_3 : wr.cell? ⟨gb216, 3, none⟩ = some (.string a1_3) := (blk_cell BK216.out 3).trans rfl
                              have hfz32_0 := blk_frozen BK216.out 0
                              have hfz32_1 := blk_frozen BK216.out 1
                              have hfz32_2 := blk_frozen BK216.out 2
                              have hfz32_3 := blk_frozen BK216.out 3
                              have p217 : 0 ≤ (x5_2 : Int) := of_decide_eq_true (by first | (with_reducible assumption) | assumption)
                              have q217 : x5_2 < (l0_0.length : Int) := of_decide_eq_true (by first | (with_reducible assumption) | assumption)
                              obtain ⟨ad217, e217, hx217_0⟩ := Kd.at_string HR0_0.out x5_2 p217 q217
                              cases e217
                              replace hx217_0 := (HB.out.cell (World.block_lt_of_cell? w _ hx217_0)).trans hx217_0
                              replace p217 := eq_true p217
                              replace q217 := eq_true q217
                              have p218 : 0 ≤ (x5_2 : Int) := of_decide_eq_true (by first | (with_reducible assumption) | assumption)
                              have q218 : x5_2 < (l1_0.length : Int) := of_decide_eq_true (by first | (with_reducible assumption) | assumption)
                              obtain ⟨ad218, e218, hx218_0⟩ := Kd.at_string HR1_0.out x5_2 p218 q218
                              cases e218
                              replace hx218_0 := (HB.out.cell (World.block_lt_of_cell? w _ hx218_0)).trans hx218_0
                              replace p218 := eq_true p218
                              replace q218 := eq_true q218
                              go_wp2_with (first | (go_at_call 77; (with_reducible refine (strings_HasPrefix.calls (rdOf ByteArray.empty l1_0 x5_2) (rdOf ByteArray.empty l0_0 x5_2) true _ A28.out).mono ?_); rintro e w' ⟨rfl, ⟨nd, rfl⟩⟩; (try first | exact ⟨rfl, _, World.drewN_drewN _ _ _⟩ | exact ⟨rfl, _, Eq.trans (World.drewN_drewN _ _ _) (congrArg (World.drewN _) (Nat.add_assoc _ _ _))⟩)))
                              all_goals
                                first
                                | (exfalso; (try simp only [decide_eq_true_eq, decide_eq_false_iff_not] at *); first | done | omega)
                                | repeat (go_quiet (first | (go_at_call 77; (with_reducible refine (strings_HasPrefix.calls (rdOf ByteArray.empty l1_0 x5_2) (rdOf ByteArray.empty l0_0 x5_2) true _ A28.out).mono ?_); rintro e w' ⟨rfl, ⟨nd, rfl⟩⟩; (try first | exact ⟨rfl, _, World.drewN_drewN _ _ _⟩ | exact ⟨rfl, _, Eq.trans (World.drewN_drewN _ _ _) (congrArg (World.drewN _) (Nat.add_assoc _ _ _))⟩))); try go_wp2_with (first | (go_at_call 77; (with_reducible refine (strings_HasPrefix.calls (rdOf ByteArray.empty l1_0 x5_2) (rdOf ByteArray.empty l0_0 x5_2) true _ A28.out).mono ?_); rintro e w' ⟨rfl, ⟨nd, rfl⟩⟩; (try first | exact ⟨rfl, _, World.drewN_drewN _ _ _⟩ | exact ⟨rfl, _, Eq.trans (World.drewN_drewN _ _ _) (congrArg (World.drewN _) (Nat.add_assoc _ _ _))⟩))))
                                  go_roundg k2
                                  case measure => have := HJ2.out; have := HK2.out; omega
                                  case rel => exact ⟨(wrap64 (x5_2 + 1)), (by first | rfl | (simp; done) | (simp [*]; done)), H', ⟨by have := HJ2.out; have := HK2.out; omega⟩, ⟨by (with_reducible repeat (first | refine blk_drewN ?_ _ | refine blk_drew ?_ | refine blk_alloc ?_ _)); exact BK215.out⟩, ⟨by (with_reducible repeat (first | refine blk_drewN ?_ _ | refine blk_drew ?_ | refine blk_alloc ?_ _)); exact BK216.out⟩, ⟨by repeat (first | (with_reducible first | exact HB.out | apply below_alloc | apply pw_below_drewN | apply below_drew1 | refine below_set ?_ GE215.out | refine below_set ?_ GE216.out) | exact HB.out)⟩⟩
                            · replace c29 := Bool.eq_false_iff.mpr c29
                              subst c29
                              have H1 : (if ((rdOf ByteArray.empty l1_0 x5_2).size : Int) = 1 then ((strings_HasPrefix.f (rdOf ByteArray.empty l0_0 x5_2) (rdOf ByteArray.empty l1_0 x5_2)).bind fun t220 => (if t220 = true then (impl_mayBeSame.l0 k2 (wrap64 (x5_2 + 1)) l0_0 a0_1 a0_2 a0_3 l1_0 a1_1 a1_2 a1_3) else (some false))) else (some false)) = some r := by rw [if_neg (show ¬ (false = true) by decide)] at H; exact H
                              clear H
                              have H := H1
                              clear H1
                              by_cases c33 : ((rdOf ByteArray.empty l1_0 x5_2).size : Int) = 1
                              · rw [if_pos c33] at H
                                have c33b0 : (((rdOf ByteArray.empty l1_0 x5_2).size : Int) == 1) = true := beq_iff_eq.mpr c33
                                have c33b1 : (((rdOf ByteArray.empty l1_0 x5_2).size : Int) != 1) = false := bne_eq_false_iff_eq.mpr c33
                                clear c33
                                replace H := Option.bind_eq_some_iff.mp H
                                obtain ⟨t220, A340, H⟩ := H
                                replace H : (if t220 = true then (impl_mayBeSame.l0 k2 (wrap64 (x5_2 + 1)) l0_0 a0_1 a0_2 a0_3 l1_0 a1_1 a1_2 a1_3) else (some false)) = some r := H
                                have A34 := Aside0.mk A340
                                clear A340
                                by_cases c35 : t220 = true
                                · subst c35
                                  have H1 : (impl_mayBeSame.l0 k2 (wrap64 (x5_2 + 1)) l0_0 a0_1 a0_2 a0_3 l1_0 a1_1 a1_2 a1_3) = some r := by rw [if_pos rfl] at H; exact H
                                  clear H
                                  have H := H1
                                  clear H1
                                  have H' := Aside0.mk H
                                  clear H
                                  have hnb36 := NB215_216.out
                                  have hnc36 := NB216_215.out
                                  have hcz37_0 : wr.cell? ⟨gb215, 0, none⟩ = some (.slice A0_0 l0_0.length c0_0) := (blk_cell BK215.out 0).trans rfl
                                  have hcz37_1 : wr.cell? ⟨gb215, 1, none⟩ = some (.string a0_1) := (blk_cell BK215.out 1).trans rfl
                                  have hcz37_2 : wr.cell? ⟨gb215, 2, none⟩ = some (.string a0_2) := (blk_cell BK215.out 2).trans rfl
                                  have hcz37_3 : wr.cell? ⟨gb215, 3, none⟩ = some (.string a0_3) := (blk_cell BK215.out 3).trans rfl
                                  have hfz37_0 := blk_frozen BK215.out 0
                                  have hfz37_1 := blk_frozen BK215.out 1
                                  have hfz37_2 := blk_frozen BK215.out 2
                                  have hfz37_3 := blk_frozen BK215.out 3
                                  have hcz38_0 : wr.cell? ⟨gb216, 0, none⟩ = some (.slice A1_0 l1_0.length c1_0) := (blk_cell BK216.out 0).trans rfl
                                  have hcz38_1 : wr.cell? ⟨gb216, 1, none⟩ = some (.string a1_1) := (blk_cell BK216.out 1).trans rfl
                                  have hcz38_2 : wr.cell? ⟨gb216, 2, none⟩ = some (.string a1_2) := (blk_cell BK216.out 2).trans rfl
                                  have hcz38_3 : wr.cell? ⟨gb216, 3, none⟩ = some (.string a1_3) := (blk_cell BK216.out 3).trans rfl
                                  have hfz38_0 := blk_frozen BK216.out 0
                                  have hfz38_1 := blk_frozen BK216.out 1
                                  have hfz38_2 := blk_frozen BK216.out 2
                                  have hfz38_3 := blk_frozen BK216.out 3
                                  have p217 : 0 ≤ (x5_2 : Int) := of_decide_eq_true (by first | (with_reducible assumption) | assumption)
                                  have q217 : x5_2 < (l0_0.length : Int) := of_decide_eq_true (by first | (with_reducible assumption) | assumption)
                                  obtain ⟨ad217, e217, hx217_0⟩ := Kd.at_string HR0_0.out x5_2 p217 q217
                                  cases e217
                                  replace hx217_0 := (HB.out.cell (World.block_lt_of_cell? w _ hx217_0)).trans hx217_0
                                  replace p217 := eq_true p217
                                  replace q217 := eq_true q217
                                  have p218 : 0 ≤ (x5_2 : Int) := of_decide_eq_true (by first | (with_reducible assumption) | assumption)
                                  have q218 : x5_2 < (l1_0.length : Int) := of_decide_eq_true (by first | (with_reducible assumption) | assumption)
                                  obtain ⟨ad218, e218, hx218_0⟩ := Kd.at_string HR1_0.out x5_2 p218 q218
                                  cases e218
                                  replace hx218_0 := (HB.out.cell (World.block_lt_of_cell? w _ hx218_0)).trans hx218_0
                                  replace p218 := eq_true p218
                                  replace q218 := eq_true q218
                                  go_wp2_with (first | (go_at_call 77; (with_reducible refine (strings_HasPrefix.calls (rdOf ByteArray.empty l1_0 x5_2) (rdOf ByteArray.empty l0_0 x5_2) false _ A28.out).mono ?_); rintro e w' ⟨rfl, ⟨nd, rfl⟩⟩; (try first | exact ⟨rfl, _, World.drewN_drewN _ _ _⟩ | exact ⟨rfl, _, Eq.trans (World.drewN_drewN _ _ _) (congrArg (World.drewN _) (Nat.add_assoc _ _ _))⟩)) | (go_at_call 77; (with_reducible refine (strings_HasPrefix.calls (rdOf ByteArray.empty l0_0 x5_2) (rdOf ByteArray.empty l1_0 x5_2) true _ A34.out).mono ?_); rintro e w' ⟨rfl, ⟨nd, rfl⟩⟩; (try first | exact ⟨rfl, _, World.drewN_drewN _ _ _⟩ | exact ⟨rfl, _, Eq.trans (World.drewN_drewN _ _ _) (congrArg (World.drewN _) (Nat.add_assoc _ _ _))⟩)))
                                  all_goals
                                    first
                                    | (exfalso; (try simp only [decide_eq_true_eq, decide_eq_false_iff_not] at *); first | done | omega)
                                    | repeat (go_quiet (first | (go_at_call 77; (with_reducible refine (strings_HasPrefix.calls (rdOf ByteArray.empty l1_0 x5_2) (rdOf ByteArray.empty l0_0 x5_2) false _ A28.out).mono ?_); rintro e w' ⟨rfl, ⟨nd, rfl⟩⟩; (try first | exact ⟨rfl, _, World.drewN_drewN _ _ _⟩ | exact ⟨rfl, _, Eq.trans (World.drewN_drewN _ _ _) (congrArg (World.drewN _) (Nat.add_assoc _ _ _))⟩)) | (go_at_call 77; (with_reducible refine (strings_HasPrefix.calls (rdOf ByteArray.empty l0_0 x5_2) (rdOf ByteArray.empty l1_0 x5_2) true _ A34.out).mono ?_); rintro e w' ⟨rfl, ⟨nd, rfl⟩⟩; (try first | exact ⟨rfl, _, World.drewN_drewN _ _ _⟩ | exact ⟨rfl, _, Eq.trans (World.drewN_drewN _ _ _) (congrArg (World.drewN _) (Nat.add_assoc _ _ _))⟩))); try go_wp2_with (first | (go_at_call 77; (with_reducible refine (strings_HasPrefix.calls (rdOf ByteArray.empty l1_0 x5_2) (rdOf ByteArray.empty l0_0 x5_2) false _ A28.out).mono ?_); rintro e w' ⟨rfl, ⟨nd, rfl⟩⟩; (try first | exact ⟨rfl, _, World.drewN_drewN _ _ _⟩ | exact ⟨rfl, _, Eq.trans (World.drewN_drewN _ _ _) (congrArg (World.drewN _) (Nat.add_assoc _ _ _))⟩)) | (go_at_call 77; (with_reducible refine (strings_HasPrefix.calls (rdOf ByteArray.empty l0_0 x5_2) (rdOf ByteArray.empty l1_0 x5_2) true _ A34.out).mono ?_); rintro e w' ⟨rfl, ⟨nd, rfl⟩⟩; (try first | exact ⟨rfl, _, World.drewN_drewN _ _ _⟩ | exact ⟨rfl, _, Eq.trans (World.drewN_drewN _ _ _) (congrArg (World.drewN _) (Nat.add_assoc _ _ _))⟩))))
                                      go_roundg k2
                                      case measure => have := HJ2.out; have := HK2.out; omega
                                      case rel => exact ⟨(wrap64 (x5_2 + 1)), (by first | rfl | (simp; done) | (simp [*]; done)), H', ⟨by have := HJ2.out; have := HK2.out; omega⟩, ⟨by (with_reducible repeat (first | refine blk_drewN ?_ _ | refine blk_drew ?_ | refine blk_alloc ?_ _)); exact BK215.out⟩, ⟨by (with_reducible repeat (first | refine blk_drewN ?_ _ | refine blk_drew ?_ | refine blk_alloc ?_ _)); exact BK216.out⟩, ⟨by repeat (first | (with_reducible first | exact HB.out | apply below_alloc | apply pw_below_drewN | apply below_drew1 | refine below_set ?_ GE215.out | refine below_set ?_ GE216.out) | exact HB.out)⟩⟩
                                · replace c35 := Bool.eq_false_iff.mpr c35
                                  subst c35
                                  have H1 : (some false) = some r := by rw [if_neg (show ¬ (false = true) by decide)] at H; exact H
                                  clear H
                                  have H := H1
                                  clear H1
                                  obtain rfl := Option.some.inj H
                                  have hnb39 := NB215_216.out
                                  have hnc39 := NB216_215.out
                                  have hcz40_0 : wr.cell? ⟨gb215, 0, none⟩ = some (.slice A0_0 l0_0.length c0_0) := (blk_cell BK215.out 0).trans rfl
                                  have hcz40_1 : wr.cell? ⟨gb215, 1, none⟩ = some (.string a0_1) := (blk_cell BK215.out 1).trans rfl
                                  have hcz40_2 : wr.cell? ⟨gb215, 2, none⟩ = some (.string a0_2) := (blk_cell BK215.out 2).trans rfl
                                  have hcz40_3 : wr.cell? ⟨gb215, 3, none⟩ = some (.string a0_3) := (blk_cell BK215.out 3).trans rfl
                                  have hfz40_0 := blk_frozen BK215.out 0
                                  have hfz40_1 := blk_frozen BK215.out 1
                                  have hfz40_2 := blk_frozen BK215.out 2
                                  have hfz40_3 := blk_frozen BK215.out 3
                                  have hcz41_0 : wr.cell? ⟨gb216, 0, none⟩ = some (.slice A1_0 l1_0.length c1_0) := (blk_cell BK216.out 0).trans rfl
                                  have hcz41_1 : wr.cell? ⟨gb216, 1, none⟩ = some (.string a1_1) := (blk_cell BK216.out 1).trans rfl
                                  have hcz41_2 : wr.cell? ⟨gb216, 2, none⟩ = some (.string a1_2) := (blk_cell BK216.out 2).trans rfl
                                  have hcz41_3 : wr.cell? ⟨gb216, 3, none⟩ = some (.string a1_3) := (blk_cell BK216.out 3).trans rfl
                                  have hfz41_0 := blk_frozen BK216.out 0
                                  have hfz41_1 := blk_frozen BK216.out 1
                                  have hfz41_2 := blk_frozen BK216.out 2
                                  have hfz41_3 := blk_frozen BK216.out 3
                                  have p217 : 0 ≤ (x5_2 : Int) := of_decide_eq_true (by first | (with_reducible assumption) | assumption)
                                  have q217 : x5_2 < (l0_0.length : Int) := of_decide_eq_true (by first | (with_reducible assumption) | assumption)
                                  obtain ⟨ad217, e217, hx217_0⟩ := Kd.at_string HR0_0.out x5_2 p217 q217
                                  cases e217
                                  replace hx217_0 := (HB.out.cell (World.block_lt_of_cell? w _ hx217_0)).trans hx217_0
                                  replace p217 := eq_true p217
                                  replace q217 := eq_true q217
                                  have p218 : 0 ≤ (x5_2 : Int) := of_decide_eq_true (by first | (with_reducible assumption) | assumption)
                                  have q218 : x5_2 < (l1_0.length : Int) := of_decide_eq_true (by first | (with_reducible assumption) | assumption)
                                  obtain ⟨ad218, e218, hx218_0⟩ := Kd.at_string HR1_0.out x5_2 p218 q218
                                  cases e218
                                  replace hx218_0 := (HB.out.cell (World.block_lt_of_cell? w _ hx218_0)).trans hx218_0
                                  replace p218 := eq_true p218
                                  replace q218 := eq_true q218
                                  go_wp2_with (first | (go_at_call 77; (with_reducible refine (strings_HasPrefix.calls (rdOf ByteArray.empty l1_0 x5_2) (rdOf ByteArray.empty l0_0 x5_2) false _ A28.out).mono ?_); rintro e w' ⟨rfl, ⟨nd, rfl⟩⟩; (try first | exact ⟨rfl, _, World.drewN_drewN _ _ _⟩ | exact ⟨rfl, _, Eq.trans (World.drewN_drewN _ _ _) (congrArg (World.drewN _) (Nat.add_assoc _ _ _))⟩)) | (go_at_call 77; (with_reducible refine (strings_HasPrefix.calls (rdOf ByteArray.empty l0_0 x5_2) (rdOf ByteArray.empty l1_0 x5_2) false _ A34.out).mono ?_); rintro e w' ⟨rfl, ⟨nd, rfl⟩⟩; (try first | exact ⟨rfl, _, World.drewN_drewN _ _ _⟩ | exact ⟨rfl, _, Eq.trans (World.drewN_drewN _ _ _) (congrArg (World.drewN _) (Nat.add_assoc _ _ _))⟩)))
                                  all_goals
                                    first
                                    | (exfalso; (try simp only [decide_eq_true_eq, decide_eq_false_iff_not] at *); first | done | omega)
                                    | repeat (go_quiet (first | (go_at_call 77; (with_reducible refine (strings_HasPrefix.calls (rdOf ByteArray.empty l1_0 x5_2) (rdOf ByteArray.empty l0_0 x5_2) false _ A28.out).mono ?_); rintro e w' ⟨rfl, ⟨nd, rfl⟩⟩; (try first | exact ⟨rfl, _, World.drewN_drewN _ _ _⟩ | exact ⟨rfl, _, Eq.trans (World.drewN_drewN _ _ _) (congrArg (World.drewN _) (Nat.add_assoc _ _ _))⟩)) | (go_at_call 77; (with_reducible refine (strings_HasPrefix.calls (rdOf ByteArray.empty l0_0 x5_2) (rdOf ByteArray.empty l1_0 x5_2) false _ A34.out).mono ?_); rintro e w' ⟨rfl, ⟨nd, rfl⟩⟩; (try first | exact ⟨rfl, _, World.drewN_drewN _ _ _⟩ | exact ⟨rfl, _, Eq.trans (World.drewN_drewN _ _ _) (congrArg (World.drewN _) (Nat.add_assoc _ _ _))⟩))); try go_wp2_with (first | (go_at_call 77; (with_reducible refine (strings_HasPrefix.calls (rdOf ByteArray.empty l1_0 x5_2) (rdOf ByteArray.empty l0_0 x5_2) false _ A28.out).mono ?_); rintro e w' ⟨rfl, ⟨nd, rfl⟩⟩; (try first | exact ⟨rfl, _, World.drewN_drewN _ _ _⟩ | exact ⟨rfl, _, Eq.trans (World.drewN_drewN _ _ _) (congrArg (World.drewN _) (Nat.add_assoc _ _ _))⟩)) | (go_at_call 77; (with_reducible refine (strings_HasPrefix.calls (rdOf ByteArray.empty l0_0 x5_2) (rdOf ByteArray.empty l1_0 x5_2) false _ A34.out).mono ?_); rintro e w' ⟨rfl, ⟨nd, rfl⟩⟩; (try first | exact ⟨rfl, _, World.drewN_drewN _ _ _⟩ | exact ⟨rfl, _, Eq.trans (World.drewN_drewN _ _ _) (congrArg (World.drewN _) (Nat.add_assoc _ _ _))⟩))))
                                      go_ret
                                      exact ⟨by first | rfl | (simp [errW_none, errW_some] <;> rfl) | (simp only [← hji18]; first | rfl | (simp [errW_none, errW_some] <;> rfl)) | (simp [*, errW_none, errW_some] <;> rfl), by repeat (first | (with_reducible first | exact HB.out | apply below_alloc | apply pw_below_drewN | apply below_drew1 | refine below_set ?_ GE215.out | refine below_set ?_ GE216.out) | exact HB.out)⟩
                              · rw [if_neg c33] at H
                                have c33b0 : (((rdOf ByteArray.empty l1_0 x5_2).size : Int) == 1) = false := beq_eq_false_iff_ne.mpr c33
                                have c33b1 : (((rdOf ByteArray.empty l1_0 x5_2).size : Int) != 1) = true := bne_iff_ne.mpr c33
                                obtain rfl := Option.some.inj H
                                have hnb42 := NB215_216.out
                                have hnc42 := NB216_215.out
                                have hcz43_0 : wr.cell? ⟨gb215, 0, none⟩ = some (.slice A0_0 l0_0.length c0_0) := (blk_cell BK215.out 0).trans rfl
                                have hcz43_1 : wr.cell? ⟨gb215, 1, none⟩ = some (.string a0_1) := (blk_cell BK215.out 1).trans rfl
                                have hcz43_2 : wr.cell? ⟨gb215, 2, none⟩ = some (.string a0_2) := (blk_cell BK215.out 2).trans rfl
                                have hcz43_3 : wr.cell? ⟨gb215, 3, none⟩ = some (.string a0_3) := (blk_cell BK215.out 3).trans rfl
                                have hfz43_0 := blk_frozen BK215.out 0
                                have hfz43_1 := blk_frozen BK215.out 1
                                have hfz43_2 := blk_frozen BK215.out 2
                                have hfz43_3 := blk_frozen BK215.out 3
                                have hcz44_0 : wr.cell? ⟨gb216, 0, none⟩ = some (.slice A1_0 l1_0.length c1_0) := (blk_cell BK216.out 0).trans rfl
                                have hcz44_1 : wr.cell? ⟨gb216, 1, none⟩ = some (.string a1_1) := (blk_cell BK216.out 1).trans rfl
                                have hcz44_2 : wr.cell? ⟨gb216, 2, none⟩ = some (.string a1_2) := (blk_cell BK216.out 2).trans rfl
                                have hcz44_3 : wr.cell? ⟨gb216, 3, none⟩ = some (.string a1_3) := (blk_cell BK216.out 3).trans rfl
                                have hfz44_0 := blk_frozen BK216.out 0
                                have hfz44_1 := blk_frozen BK216.out 1
                                have hfz44_2 := blk_frozen BK216.out 2
                                have hfz44_3 := blk_frozen BK216.out 3
                                have p217 : 0 ≤ (x5_2 : Int) := of_decide_eq_true (by first | (with_reducible assumption) | assumption)
                                have q217 : x5_2 < (l0_0.length : Int) := of_decide_eq_true (by first | (with_reducible assumption) | assumption)
                                obtain ⟨ad217, e217, hx217_0⟩ := Kd.at_string HR0_0.out x5_2 p217 q217
                                cases e217
                                replace hx217_0 := (HB.out.cell (World.block_lt_of_cell? w _ hx217_0)).trans hx217_0
                                replace p217 := eq_true p217
                                replace q217 := eq_true q217
                                have p218 : 0 ≤ (x5_2 : Int) := of_decide_eq_true (by first | (with_reducible assumption) | assumption)
                                have q218 : x5_2 < (l1_0.length : Int) := of_decide_eq_true (by first | (with_reducible assumption) | assumption)
                                obtain ⟨ad218, e218, hx218_0⟩ := Kd.at_string HR1_0.out x5_2 p218 q218
                                cases e218
                                replace hx218_0 := (HB.out.cell (World.block_lt_of_cell? w _ hx218_0)).trans hx218_0
                                replace p218 := eq_true p218
                                replace q218 := eq_true q218
                                go_wp2_with (first | (go_at_call 77; (with_reducible refine (strings_HasPrefix.calls (rdOf ByteArray.empty l1_0 x5_2) (rdOf ByteArray.empty l0_0 x5_2) false _ A28.out).mono ?_); rintro e w' ⟨rfl, ⟨nd, rfl⟩⟩; (try first | exact ⟨rfl, _, World.drewN_drewN _ _ _⟩ | exact ⟨rfl, _, Eq.trans (World.drewN_drewN _ _ _) (congrArg (World.drewN _) (Nat.add_assoc _ _ _))⟩)))
                                all_goals
                                  first
                                  | (exfalso; (try simp only [decide_eq_true_eq, decide_eq_false_iff_not] at *); first | done | omega)
                                  | repeat (go_quiet (first | (go_at_call 77; (with_reducible refine (strings_HasPrefix.calls (rdOf ByteArray.empty l1_0 x5_2) (rdOf ByteArray.empty l0_0 x5_2) false _ A28.out).mono ?_); rintro e w' ⟨rfl, ⟨nd, rfl⟩⟩; (try first | exact ⟨rfl, _, World.drewN_drewN _ _ _⟩ | exact ⟨rfl, _, Eq.trans (World.drewN_drewN _ _ _) (congrArg (World.drewN _) (Nat.add_assoc _ _ _))⟩))); try go_wp2_with (first | (go_at_call 77; (with_reducible refine (strings_HasPrefix.calls (rdOf ByteArray.empty l1_0 x5_2) (rdOf ByteArray.empty l0_0 x5_2) false _ A28.out).mono ?_); rintro e w' ⟨rfl, ⟨nd, rfl⟩⟩; (try first | exact ⟨rfl, _, World.drewN_drewN _ _ _⟩ | exact ⟨rfl, _, Eq.trans (World.drewN_drewN _ _ _) (congrArg (World.drewN _) (Nat.add_assoc _ _ _))⟩))))
                                    go_ret
                                    exact ⟨by first | rfl | (simp [errW_none, errW_some] <;> rfl) | (simp only [← hji18]; first | rfl | (simp [errW_none, errW_some] <;> rfl)) | (simp [*, errW_none, errW_some] <;> rfl), by repeat (first | (with_reducible first | exact HB.out | apply below_alloc | apply pw_below_drewN | apply below_drew1 | refine below_set ?_ GE215.out | refine below_set ?_ GE216.out) | exact HB.out)⟩
                          · rw [if_neg c27] at H
                            have c27b0 : (((rdOf ByteArray.empty l0_0 x5_2).size : Int) == 1) = false := beq_eq_false_iff_ne.mpr c27
                            have c27b1 : (((rdOf ByteArray.empty l0_0 x5_2).size : Int) != 1) = true := bne_iff_ne.mpr c27
                            by_cases c45 : ((rdOf ByteArray.empty l1_0 x5_2).size : Int) = 1
                            · rw [if_pos c45] at H
                              have c45b0 : (((rdOf ByteArray.empty l1_0 x5_2).size : Int) == 1) = true := beq_iff_eq.mpr c45
                              have c45b1 : (((rdOf ByteArray.empty l1_0 x5_2).size : Int) != 1) = false := bne_eq_false_iff_eq.mpr c45
                              clear c45
                              replace H := Option.bind_eq_some_iff.mp H
                              obtain ⟨t221, A460, H⟩ := H
                              replace H : (if t221 = true then (impl_mayBeSame.l0 k2 (wrap64 (x5_2 + 1)) l0_0 a0_1 a0_2 a0_3 l1_0 a1_1 a1_2 a1_3) else (some false)) = some r := H
                              have A46 := Aside0.mk A460
                              clear A460
                              by_cases c47 : t221 = true
                              · subst c47
                                have H1 : (impl_mayBeSame.l0 k2 (wrap64 (x5_2 + 1)) l0_0 a0_1 a0_2 a0_3 l1_0 a1_1 a1_2 a1_3) = some r := by rw [if_pos rfl] at H; exact H
                                clear H
                                have H := H1
                                clear H1
                                have H' := Aside0.mk H
                                clear H
                                have hnb48 := NB215_216.out
                                have hnc48 := NB216_215.out
                                have hcz49_0 : wr.cell? ⟨gb215, 0, none⟩ = some (.slice A0_0 l0_0.length c0_0) := (blk_cell BK215.out 0).trans rfl
                                have hcz49_1 : wr.cell? ⟨gb215, 1, none⟩ = some (.string a0_1) := (blk_cell BK215.out 1).trans rfl
                                have hcz49_2 : wr.cell? ⟨gb215, 2, none⟩ = some (.string a0_2) := (blk_cell BK215.out 2).trans rfl
                                have hcz49_3 : wr.cell? ⟨gb215, 3, none⟩ = some (.string a0_3) := (blk_cell BK215.out 3).trans rfl
                                have hfz49_0 := blk_frozen BK215.out 0
                                have hfz49_1 := blk_frozen BK215.out 1
                                have hfz49_2 := blk_frozen BK215.out 2
                                have hfz49_3 := blk_frozen BK215.out 3
                                have hcz50_0 : wr.cell? ⟨gb216, 0, none⟩ = some (.slice A1_0 l1_0.length c1_0) := (blk_cell BK216.out 0).trans rfl
                                have hcz50_1 : wr.cell? ⟨gb216, 1, none⟩ = some (.string a1_1) := (blk_cell BK216.out 1).trans rfl
                                have hcz50_2 : wr.cell? ⟨gb216, 2, none⟩ = some (.string a1_2) := (blk_cell BK216.out 2).trans rfl
                                have hcz50_3 : wr.cell? ⟨gb216, 3, none⟩ = some (.string a1_3) := (blk_cell BK216.out 3).trans rfl
                                have hfz50_0 := blk_frozen BK216.out 0
                                have hfz50_1 := blk_frozen BK216.out 1
                                have hfz50_2 := blk_frozen BK216.out 2
                                have hfz50_3 := blk_frozen BK216.out 3
                                have p217 : 0 ≤ (x5_2 : Int) := of_decide_eq_true (by first | (with_reducible assumption) | assumption)
                                have q217 : x5_2 < (l0_0.length : Int) := of_decide_eq_true (by first | (with_reducible assumption) | assumption)
                                obtain ⟨ad217, e217, hx217_0⟩ := Kd.at_string HR0_0.out x5_2 p217 q217
                                cases e217
                                replace hx217_0 := (HB.out.cell (World.block_lt_of_cell? w _ hx217_0)).trans hx217_0
                                replace p217 := eq_true p217
                                replace q217 := eq_true q217
                                have p218 : 0 ≤ (x5_2 : Int) := of_decide_eq_true (by first | (with_reducible assumption) | assumption)
                                have q218 : x5_2 < (l1_0.length : Int) := of_decide_eq_true (by first | (with_reducible assumption) | assumption)
                                obtain ⟨ad218, e218, hx218_0⟩ := Kd.at_string HR1_0.out x5_2 p218 q218
                                cases e218
                                replace hx218_0 := (HB.out.cell (World.block_lt_of_cell? w _ hx218_0)).trans hx218_0
                                replace p218 := eq_true p218
                                replace q218 := eq_true q218
                                go_wp2_with (first | (go_at_call 77; (with_reducible refine (strings_HasPrefix.calls (rdOf ByteArray.empty l0_0 x5_2) (rdOf ByteArray.empty l1_0 x5_2) true _ A46.out).mono ?_); rintro e w' ⟨rfl, ⟨nd, rfl⟩⟩; (try first | exact ⟨rfl, _, World.drewN_drewN _ _ _⟩ | exact ⟨rfl, _, Eq.trans (World.drewN_drewN _ _ _) (congrArg (World.drewN _) (Nat.add_assoc _ _ _))⟩)))
                                all_goals
                                  first
                                  | (exfalso; (try simp only [decide_eq_true_eq, decide_eq_false_iff_not] at *); first | done | omega)
                                  | repeat (go_quiet (first | (go_at_call 77; (with_reducible refine (strings_HasPrefix.calls (rdOf ByteArray.empty l0_0 x5_2) (rdOf ByteArray.empty l1_0 x5_2) true _ A46.out).mono ?_); rintro e w' ⟨rfl, ⟨nd, rfl⟩⟩; (try first | exact ⟨rfl, _, World.drewN_drewN _ _ _⟩ | exact ⟨rfl, _, Eq.trans (World.drewN_drewN _ _ _) (congrArg (World.drewN _) (Nat.add_assoc _ _ _))⟩))); try go_wp2_with (first | (go_at_call 77; (with_reducible refine (strings_HasPrefix.calls (rdOf ByteArray.empty l0_0 x5_2) (rdOf ByteArray.empty l1_0 x5_2) true _ A46.out).mono ?_); rintro e w' ⟨rfl, ⟨nd, rfl⟩⟩; (try first | exact ⟨rfl, _, World.drewN_drewN _ _ _⟩ | exact ⟨rfl, _, Eq.trans (World.drewN_drewN _ _ _) (congrArg (World.drewN _) (Nat.add_assoc _ _ _))⟩))))
                                    go_roundg k2
                                    case measure => have := HJ2.out; have := HK2.out; omega
                                    case rel => exact ⟨(wrap64 (x5_2 + 1)), (by first | rfl | (simp; done) | (simp [*]; done)), H', ⟨by have := HJ2.out; have := HK2.out; omega⟩, ⟨by (with_reducible repeat (first | refine blk_drewN ?_ _ | refine blk_drew ?_ | refine blk_alloc ?_ _)); exact BK215.out⟩, ⟨by (with_reducible repeat (first | refine blk_drewN ?_ _ | refine blk_drew ?_ | refine blk_alloc ?_ _)); exact BK216.out⟩, ⟨by repeat (first | (with_reducible first | exact HB.out | apply below_alloc | apply pw_below_drewN | apply below_drew1 | refine below_set ?_ GE215.out | refine below_set ?_ GE216.out) | exact HB.out)⟩⟩
                              · replace c47 := Bool.eq_false_iff.mpr c47
                                subst c47
                                have H1 : (some false) = some r := by rw [if_neg (show ¬ (false = true) by decide)] at H; exact H
                                clear H
                                have H := H1
                                clear H1
                                obtain rfl := Option.some.inj H
                                have hnb51 := NB215_216.out
                                have hnc51 := NB216_215.out
                                have hcz52_0 : wr.cell? ⟨gb215, 0, none⟩ = some (.slice A0_0 l0_0.length c0_0) := (blk_cell BK215.out 0).trans rfl
                                have hcz52_1 : wr.cell? ⟨gb215, 1, none⟩ = some (.string a0_1) := (blk_cell BK215.out 1).trans rfl
                                have hcz52_2 : wr.cell? ⟨gb215, 2, none⟩ = some (.string a0_2) := (blk_cell BK215.out 2).trans rfl
                                have hcz52_3 : wr.cell? ⟨gb215, 3, none⟩ = some (.string a0_3) := (blk_cell BK215.out 3).trans rfl
                                have hfz52_0 := blk_frozen BK215.out 0
                                have hfz52_1 := blk_frozen BK215.out 1
                                have hfz52_2 := blk_frozen BK215.out 2
                                have hfz52_3 := blk_frozen BK215.out 3
                                have hcz53_0 : wr.cell? ⟨gb216, 0, none⟩ = some (.slice A1_0 l1_0.length c1_0) := (blk_cell BK216.out 0).trans rfl
                                have hcz53_1 : wr.cell? ⟨gb216, 1, none⟩ = some (.string a1_1) := (blk_cell BK216.out 1).trans rfl
                                have hcz53_2 : wr.cell? ⟨gb216, 2, none⟩ = some (.string a1_2) := (blk_cell BK216.out 2).trans rfl
                                have hcz53_3 : wr.cell? ⟨gb216, 3, none⟩ = some (.string a1_3) := (blk_cell BK216.out 3).trans rfl
                                have hfz53_0 := blk_frozen BK216.out 0
                                have hfz53_1 := blk_frozen BK216.out 1
                                have hfz53_2 := blk_frozen BK216.out 2
                                have hfz53_3 := blk_frozen BK216.out 3
                                have p217 : 0 ≤ (x5_2 : Int) := of_decide_eq_true (by first | (with_reducible assumption) | assumption)
                                have q217 : x5_2 < (l0_0.length : Int) := of_decide_eq_true (by first | (with_reducible assumption) | assumption)
                                obtain ⟨ad217, e217, hx217_0⟩ := Kd.at_string HR0_0.out x5_2 p217 q217
                                cases e217
                                replace hx217_0 := (HB.out.cell (World.block_lt_of_cell? w _ hx217_0)).trans hx217_0
                                replace p217 := eq_true p217
                                replace q217 := eq_true q217
                                have p218 : 0 ≤ (x5_2 : Int) := of_decide_eq_true (by first | (with_reducible assumption) | assumption)
                                have q218 : x5_2 < (l1_0.length : Int) := of_decide_eq_true (by first | (with_reducible assumption) | assumption)
                                obtain ⟨ad218, e218, hx218_0⟩ := Kd.at_string HR1_0.out x5_2 p218 q218
                                cases e218
                                replace hx218_0 := (HB.out.cell (World.block_lt_of_cell? w _ hx218_0)).trans hx218_0
                                replace p218 := eq_true p218
                                replace q218 := eq_true q218
                                go_wp2_with (first | (go_at_call 77; (with_reducible refine (strings_HasPrefix.calls (rdOf ByteArray.empty l0_0 x5_2) (rdOf ByteArray.empty l1_0 x5_2) false _ A46.out).mono ?_); rintro e w' ⟨rfl, ⟨nd, rfl⟩⟩; (try first | exact ⟨rfl, _, World.drewN_drewN _ _ _⟩ | exact ⟨rfl, _, Eq.trans (World.drewN_drewN _ _ _) (congrArg (World.drewN _) (Nat.add_assoc _ _ _))⟩)))
                                all_goals
                                  first
                                  | (exfalso; (try simp only [decide_eq_true_eq, decide_eq_false_iff_not] at *); first | done | omega)
                                  | repeat (go_quiet (first | (go_at_call 77; (with_reducible refine (strings_HasPrefix.calls (rdOf ByteArray.empty l0_0 x5_2) (rdOf ByteArray.empty l1_0 x5_2) false _ A46.out).mono ?_); rintro e w' ⟨rfl, ⟨nd, rfl⟩⟩; (try first | exact ⟨rfl, _, World.drewN_drewN _ _ _⟩ | exact ⟨rfl, _, Eq.trans (World.drewN_drewN _ _ _) (congrArg (World.drewN _) (Nat.add_assoc _ _ _))⟩))); try go_wp2_with (first | (go_at_call 77; (with_reducible refine (strings_HasPrefix.calls (rdOf ByteArray.empty l0_0 x5_2) (rdOf ByteArray.empty l1_0 x5_2) false _ A46.out).mono ?_); rintro e w' ⟨rfl, ⟨nd, rfl⟩⟩; (try first | exact ⟨rfl, _, World.drewN_drewN _ _ _⟩ | exact ⟨rfl, _, Eq.trans (World.drewN_drewN _ _ _) (congrArg (World.drewN _) (Nat.add_assoc _ _ _))⟩))))
                                    go_ret
                                    exact ⟨by first | rfl | (simp [errW_none, errW_some] <;> rfl) | (simp only [← hji18]; first | rfl | (simp [errW_none, errW_some] <;> rfl)) | (simp [*, errW_none, errW_some] <;> rfl), by repeat (first | (with_reducible first | exact HB.out | apply below_alloc | apply pw_below_drewN | apply below_drew1 | refine below_set ?_ GE215.out | refine below_set ?_ GE216.out) | exact HB.out)⟩
                            · rw [if_neg c45] at H
                              have c45b0 : (((rdOf ByteArray.empty l1_0 x5_2).size : Int) == 1) = false := beq_eq_false_iff_ne.mpr c45
                              have c45b1 : (((rdOf ByteArray.empty l1_0 x5_2).size : Int) != 1) = true := bne_iff_ne.mpr c45
                              obtain rfl := Option.some.inj H
                              have hnb54 := NB215_216.out
                              have hnc54 := NB216_215.out
                              have hcz55_0 : wr.cell? ⟨gb215, 0, none⟩ = some (.slice A0_0 l0_0.length c0_0) := (blk_cell BK215.out 0).trans rfl
                              have hcz55_1 : wr.cell? ⟨gb215, 1, none⟩ = some (.string a0_1) := (blk_cell BK215.out 1).trans rfl
                              have hcz55_2 : wr.cell? ⟨gb215, 2, none⟩ = some (.string a0_2) := (blk_cell BK215.out 2).trans rfl
                              have hcz55_3 : wr.cell? ⟨gb215, 3, none⟩ = some (.string a0_3) := (blk_cell BK215.out 3).trans rfl
                              have hfz55_0 := blk_frozen BK215.out 0
                              have hfz55_1 := blk_frozen BK215.out 1
                              have hfz55_2 := blk_frozen BK215.out 2
                              have hfz55_3 := blk_frozen BK215.out 3
                              have hcz56_0 : wr.cell? ⟨gb216, 0, none⟩ = some (.slice A1_0 l1_0.length c1_0) := (blk_cell BK216.out 0).trans rfl
                              have hcz56_1 : wr.cell? ⟨gb216, 1, none⟩ = some (.string a1_1) := (blk_cell BK216.out 1).trans rfl
                              have hcz56_2 : wr.cell? ⟨gb216, 2, none⟩ = some (.string a1_2) := (blk_cell BK216.out 2).trans rfl
                              have hcz56_3 : wr.cell? ⟨gb216, 3, none⟩ = some (.string a1_3) := (blk_cell BK216.out 3).trans rfl
                              have hfz56_0 := blk_frozen BK216.out 0
                              have hfz56_1 := blk_frozen BK216.out 1
                              have hfz56_2 := blk_frozen BK216.out 2
                              have hfz56_3 := blk_frozen BK216.out 3
                              have p217 : 0 ≤ (x5_2 : Int) := of_decide_eq_true (by first | (with_reducible assumption) | assumption)
                              have q217 : x5_2 < (l0_0.length : Int) := of_decide_eq_true (by first | (with_reducible assumption) | assumption)
                              obtain ⟨ad217, e217, hx217_0⟩ := Kd.at_string HR0_0.out x5_2 p217 q217
                              cases e217
                              replace hx217_0 := (HB.out.cell (World.block_lt_of_cell? w _ hx217_0)).trans hx217_0
                              replace p217 := eq_true p217
                              replace q217 := eq_true q217
                              have p218 : 0 ≤ (x5_2 : Int) := of_decide_eq_true (by first | (with_reducible assumption) | assumption)
                              have q218 : x5_2 < (l1_0.length : Int) := of_decide_eq_true (by first | (with_reducible assumption) | assumption)
                              obtain ⟨ad218, e218, hx218_0⟩ := Kd.at_string HR1_0.out x5_2 p218 q218
                              cases e218
                              replace hx218_0 := (HB.out.cell (World.block_lt_of_cell? w _ hx218_0)).trans hx218_0
                              replace p218 := eq_true p218
                              replace q218 := eq_true q218
                              go_wp2
                              all_goals
                                first
                                | (exfalso; (try simp only [decide_eq_true_eq, decide_eq_false_iff_not] at *); first | done | omega)
                                | repeat (go_quiet (fail); try go_wp2)
                                  go_ret
                                  exact ⟨by first | rfl | (simp [errW_none, errW_some] <;> rfl) | (simp only [← hji18]; first | rfl | (simp [errW_none, errW_some] <;> rfl)) | (simp [*, errW_none, errW_some] <;> rfl), by repeat (first | (with_reducible first | exact HB.out | apply below_alloc | apply pw_below_drewN | apply below_drew1 | refine below_set ?_ GE215.out | refine below_set ?_ GE216.out) | exact HB.out)⟩
                      · rw [if_neg c22] at H
                        exact absurd H (by simp)
                    · rw [if_neg c21] at H
                      exact absurd H (by simp)
                  · rw [if_neg c20] at H
                    exact absurd H (by simp)
                · rw [if_neg c19] at H
                  have c19b0 : decide (x5_2 < (ji18)) = false := decide_eq_false c19
                  clear c19
                  obtain rfl := Option.some.inj H
                  have hnb57 := NB215_216.out
                  have hnc57 := NB216_215.out
                  have hcz58_0 : wr.cell? ⟨gb215, 0, none⟩ = some (.slice A0_0 l0_0.length c0_0) := (blk_cell BK215.out 0).trans rfl
                  have hcz58_1 : wr.cell? ⟨gb215, 1, none⟩ = some (.string a0_1) := (blk_cell BK215.out 1).trans rfl
                  have hcz58_2 : wr.cell? ⟨gb215, 2, none⟩ = some (.string a0_2) := (blk_cell BK215.out 2).trans rfl
                  have hcz58_3 : wr.cell? ⟨gb215, 3, none⟩ = some (.string a0_3) := (blk_cell BK215.out 3).trans rfl
                  have hfz58_0 := blk_frozen BK215.out 0
                  have hfz58_1 := blk_frozen BK215.out 1
                  have hfz58_2 := blk_frozen BK215.out 2
                  have hfz58_3 := blk_frozen BK215.out 3
                  have hcz59_0 : wr.cell? ⟨gb216, 0, none⟩ = some (.slice A1_0 l1_0.length c1_0) := (blk_cell BK216.out 0).trans rfl
                  have hcz59_1 : wr.cell? ⟨gb216, 1, none⟩ = some (.string a1_1) := (blk_cell BK216.out 1).trans rfl
                  have hcz59_2 : wr.cell? ⟨gb216, 2, none⟩ = some (.string a1_2) := (blk_cell BK216.out 2).trans rfl
                  have hcz59_3 : wr.cell? ⟨gb216, 3, none⟩ = some (.string a1_3) := (blk_cell BK216.out 3).trans rfl
                  have hfz59_0 := blk_frozen BK216.out 0
                  have hfz59_1 := blk_frozen BK216.out 1
                  have hfz59_2 := blk_frozen BK216.out 2
                  have hfz59_3 := blk_frozen BK216.out 3
                  go_wp2
                  all_goals
                    first
                    | (exfalso; (try simp only [decide_eq_true_eq, decide_eq_false_iff_not] at *); first | done | omega)
                    | repeat (go_quiet (fail); try go_wp2)
                      go_ret
                      exact ⟨by first | rfl | (simp [errW_none, errW_some] <;> rfl) | (simp only [← hji18]; first | rfl | (simp [errW_none, errW_some] <;> rfl)) | (simp [*, errW_none, errW_some] <;> rfl), by repeat (first | (with_reducible first | exact HB.out | apply below_alloc | apply pw_below_drewN | apply below_drew1 | refine below_set ?_ GE215.out | refine below_set ?_ GE216.out) | exact HB.out)⟩

end Go.Proofs.YtcckamdpncbkoaaDoor.G

namespace Go.Proofs.YtcckamdpncbkoaaDoor.G
open Go.RowKit Go.Proofs.YtcckamdpncbkoaaDoorW.PrintWords Go.Proofs.YtcckamdpncbkoaaDoorW.PrintLast Go.Proofs.YtcckamdpncbkoaaDoor.B
set_option linter.unusedVariables false
set_option linter.unusedSimpArgs false
theorem good_pos {G : List ByteArray} {P F S : ByteArray} (h : goodN G P F S = true) : G.length ≤ 3 ∧ ∀ x ∈ G, 1 ≤ x.size := by
  unfold goodN at h
  simp only [Bool.and_eq_true, decide_eq_true_eq] at h
  refine ⟨h.2.1, fun x hx => ?_⟩
  have := List.all_eq_true.1 h.1 x hx
  unfold greatD at this
  rw [Bool.and_eq_true] at this
  exact (word_in this.1).1
end Go.Proofs.YtcckamdpncbkoaaDoor.G

namespace Go.Proofs.YtcckamdpncbkoaaDoor.G
open Go.RowKit Go.Proofs.YtcckamdpncbkoaaDoorW.PrintWords Go.Proofs.YtcckamdpncbkoaaDoorW.PrintLast Go.Proofs.YtcckamdpncbkoaaDoor.B
set_option linter.unusedVariables false
set_option linter.unusedSimpArgs false
def spB : ByteArray := ⟨#[32]⟩
def glu (s p : ByteArray) : ByteArray := (if s.size ≠ 0 ∧ p.size ≠ 0 then s ++ spB else s) ++ p
def joinD (l : List ByteArray) : ByteArray := l.foldl glu ByteArray.empty
def sumB (l : List ByteArray) : Nat := (l.map fun x => x.size + 1).sum
theorem sumB_cons (a : ByteArray) (l : List ByteArray) : sumB (a :: l) = a.size + 1 + sumB l := by simp [sumB]
theorem glu_size (s p : ByteArray) : (glu s p).size ≤ s.size + (p.size + 1) := by
  unfold glu
  rw [size_append]
  split
  · rw [size_append]; show s.size + 1 + p.size ≤ _; omega
  · omega
theorem fold_size (l : List ByteArray) : ∀ s : ByteArray, (l.foldl glu s).size ≤ s.size + sumB l := by
  induction l with
  | nil => intro s; simp [sumB]
  | cons p l ih =>
    intro s
    have := ih (glu s p)
    have h2 := glu_size s p
    rw [List.foldl_cons, sumB_cons]; omega
theorem joinD_size (l : List ByteArray) : (joinD l).size ≤ sumB l := by
  have := fold_size l ByteArray.empty
  have e : ByteArray.empty.size = 0 := rfl
  unfold joinD; omega
theorem L_nil {s : ByteArray} (h : s.size = 0) : L s = [] := (size_pos_iff s).1 h
theorem L_glu (s p : ByteArray) : L (glu s p) = if s.size ≠ 0 ∧ p.size ≠ 0 then L s ++ 32 :: L p else L s ++ L p := by
  unfold glu
  rw [L_append]
  split
  · rw [L_append, List.append_assoc]; rfl
  · rfl
theorem fold_join (l : List ByteArray) : ∀ s : ByteArray, L (l.foldl glu s) = if s.size = 0 then Lib.join ((l.filter fun x => !decide (x.size = 0)).map (·.data.toList)) [32] else L s ++ Lib.joinTail [32] ((l.filter fun x => !decide (x.size = 0)).map (·.data.toList)) := by
  induction l with
  | nil =>
    intro s
    by_cases h : s.size = 0
    · rw [if_pos h]; simp [Lib.join_nil, L_nil h]
    · rw [if_neg h]; simp [Lib.joinTail]
  | cons p l ih =>
    intro s
    rw [List.foldl_cons, ih]
    by_cases hp : p.size = 0
    · have e : glu s p = s := L_inj (by rw [L_glu, if_neg (fun h => h.2 hp), L_nil hp, List.append_nil])
      rw [e, List.filter_cons_of_neg (by simp [hp])]
    · have hg : ¬ (glu s p).size = 0 := by rw [← L_len, L_glu]; split <;> simp [L_len, hp]
      rw [if_neg hg, List.filter_cons_of_pos (by simp [hp]), List.map_cons, L_glu]
      by_cases h : s.size = 0
      · rw [if_neg (fun x => x.1 h), if_pos h, L_nil h, List.nil_append, Lib.join_cons]
      · rw [if_pos (And.intro h hp), if_neg h]
        simp [Lib.joinTail]
theorem join_filter (l : List ByteArray) : Lib.join ((l.filter fun x => !decide (x.size = 0)).map (·.data.toList)) (⟨#[32]⟩ : ByteArray).data.toList = L (joinD l) := by
  have := fold_join l ByteArray.empty
  rw [if_pos (show ByteArray.empty.size = 0 from rfl)] at this
  exact this.symm
theorem filter_all {l : List ByteArray} (h : ∀ x ∈ l, 1 ≤ x.size) : (l.filter fun x => !decide (x.size = 0)) = l := by
  rw [List.filter_eq_self]
  intro x hx
  have := h x hx
  show (!decide (x.size = 0)) = true
  rw [decide_eq_false (by omega)]; rfl
theorem libJoin_filter (l : List ByteArray) (hl : l.length ≤ 1000) (hs : sumB l ≤ 140737488355328) : strings_Join.f (l.filter fun x => !decide (x.size = 0)) (⟨#[32]⟩ : ByteArray) = some (joinD l) := by
  have h1 : (l.filter fun x => !decide (x.size = 0)).length ≤ l.length := List.length_filter_le _ _
  have h2 := joinD_size l
  unfold strings_Join.f
  rw [join_filter, if_pos ⟨by omega, by rw [L_len]; omega⟩]
theorem libJoin_all (l : List ByteArray) (hp : ∀ x ∈ l, 1 ≤ x.size) (hl : l.length ≤ 1000) (hs : sumB l ≤ 140737488355328) : strings_Join.f l (⟨#[32]⟩ : ByteArray) = some (joinD l) := by
  have := libJoin_filter l hl hs
  rwa [filter_all hp] at this
theorem spaced_eq (l : List ByteArray) (h1 : 1 ≤ l.length) (hl : l.length ≤ 1000) (hs : sumB l ≤ 140737488355328) : impl_spaced.f l = some (joinD l) := by
  unfold impl_spaced.f
  rw [if_pos ⟨h1, hl⟩]
  exact libJoin_filter l hl hs
theorem spec_join_loop (l : List ByteArray) (hl : l.length ≤ 4611686018427387904) (hs : sumB l ≤ 140737488355328) (d : Nat) : ∀ (s : ByteArray) (i : Nat), i ≤ l.length → l.length - i = d → s.size + sumB (l.drop i) ≤ 140737488355328 →
    Ev (fun k => spec_l2Join.l0 k l s (i : Int)) ((l.drop i).foldl glu s) := by
  induction d with
  | zero =>
    intro s i h1 hd hb
    refine Ev.step (f := fun _ => some s) (fun k => ?_) (ev_eq (Ev.now _) ?_)
    · simp only [spec_l2Join.l0]; rw [if_neg (by omega)]
    · rw [List.drop_of_length_le (by omega)]; rfl
  | succ d ih =>
    intro s i h1 hd hb
    have hi : i < l.length := by omega
    have hw : wrap64 ((i : Int) + 1) = ((i + 1 : Nat) : Int) := by rw [w64 (by omega) (by omega)]; rfl
    rw [List.drop_eq_getElem_cons hi] at hb ⊢
    rw [sumB_cons] at hb
    have hg := glu_size s l[i]
    rw [List.foldl_cons]
    refine Ev.step (f := fun k => spec_l2Join.l0 k l (glu s l[i]) ((i + 1 : Nat) : Int)) (fun k => ?_) (ih (glu s l[i]) (i + 1) (by omega) (by omega) (by omega))
    simp only [spec_l2Join.l0, rd_get l i hi]
    have a1 : (i : Int) < (l.length : Int) := by omega
    have a2 : (0 : Int) ≤ (i : Int) := by omega
    have a3 : s.size + l[i].size ≤ 9223372036854775807 := by omega
    have a4 : s.size + 1 ≤ 9223372036854775807 := by omega
    have a5 : (s ++ (⟨#[32]⟩ : ByteArray)).size + l[i].size ≤ 9223372036854775807 := by
      rw [size_append]; show s.size + 1 + l[i].size ≤ _; omega
    simp only [if_pos a1, if_pos a2, if_pos a3, if_pos a4, if_pos a5, hw]
    unfold glu
    by_cases hs0 : s.size = 0
    · have b : s.toList = ([] : List UInt8) := (nil_iff s).2 hs0
      simp only [b, hs0, ne_eq, not_true_eq_false, false_and, if_true, if_false]
    · have b : ¬ s.toList = ([] : List UInt8) := fun e => hs0 ((nil_iff s).1 e)
      rw [if_neg b]
      by_cases hp : l[i].size = 0
      · have b2 : (l[i]).toList = ([] : List UInt8) := (nil_iff _).2 hp
        rw [if_pos b2, if_neg (fun x : s.size ≠ 0 ∧ l[i].size ≠ 0 => x.2 hp)]
      · have b2 : ¬ (l[i]).toList = ([] : List UInt8) := fun e => hp ((nil_iff _).1 e)
        rw [if_neg b2, if_pos (show s.size ≠ 0 ∧ l[i].size ≠ 0 from ⟨hs0, hp⟩)]
        rfl
theorem spec_join (l : List ByteArray) (hl : l.length ≤ 4611686018427387904) (hs : sumB l ≤ 140737488355328) : Ev (fun k => spec_l2Join.f k l) (joinD l) := by
  have := spec_join_loop l hl hs _ ByteArray.empty 0 (by omega) rfl (by rw [List.drop_zero]; show 0 + _ ≤ _; omega)
  unfold spec_l2Join.f
  rw [List.drop_zero] at this
  exact this
theorem sumB_bulk (l : List ByteArray) : sumB l = bulkS l := by
  induction l with
  | nil => rfl
  | cons a l ih => rw [sumB_cons, ih]; unfold bulkS; rw [bytesS_cons, List.length_cons]; omega
def fullD (G : List ByteArray) (P F S : ByteArray) : ByteArray := joinD [joinD G, P, F, S]
theorem full_sum (G : List ByteArray) (P F S : ByteArray) (h : bulkN G P F S ≤ 1048576) : sumB G ≤ 1048576 ∧ sumB [joinD G, P, F, S] ≤ 1048580 := by
  have h1 := joinD_size G
  have h2 := sumB_bulk G
  unfold bulkN at h
  simp only [sumB_cons]
  refine ⟨by omega, ?_⟩
  show _ + (_ + (_ + (_ + sumB []))) ≤ _
  have : sumB [] = 0 := rfl
  omega
theorem spec_full (G : List ByteArray) (P F S : ByteArray) (h : bulkN G P F S ≤ 1048576) : Ev (fun k => spec_l2Full.f k G P F S) (fullD G P F S) := by
  obtain ⟨h1, h2⟩ := full_sum G P F S h
  have hn : G.length ≤ bulkN G P F S := by unfold bulkN bulkS; omega
  unfold spec_l2Full.f spec_l2Given.f
  exact Ev.bind (Ev.bind (spec_join G (by omega) (by omega)) (Ev.now _)) (Ev.bind (spec_join _ (by simp) (by omega)) (Ev.now _))
theorem impl_full (G : List ByteArray) (P F S : ByteArray) (hg : goodN G P F S = true) (h : bulkN G P F S ≤ 1048576) : impl_fullForm.f G P F S = some (fullD G P F S) := by
  obtain ⟨h1, h2⟩ := full_sum G P F S h
  obtain ⟨h3, h4⟩ := good_pos hg
  unfold impl_fullForm.f
  rw [libJoin_all G h4 (by omega) (by omega)]
  show (impl_spaced.f [joinD G, P, F, S]).bind _ = _
  rw [spaced_eq _ (by simp) (by simp) (by omega)]
  rfl
end Go.Proofs.YtcckamdpncbkoaaDoor.G

namespace Go.Proofs.YtcckamdpncbkoaaDoor.G
open Go.RowKit Go.Proofs.YtcckamdpncbkoaaDoorW.PrintWords Go.Proofs.YtcckamdpncbkoaaDoorW.PrintLast Go.Proofs.YtcckamdpncbkoaaDoor.B
set_option linter.unusedVariables false
set_option linter.unusedSimpArgs false
def cmB : ByteArray := ⟨#[44, 32]⟩
def tailI (t : ByteArray) (G : List ByteArray) (S : ByteArray) : ByteArray := if S.size = 0 then (t ++ cmB) ++ joinD G else (((t ++ cmB) ++ joinD G) ++ cmB) ++ S
def invD (G : List ByteArray) (P F S : ByteArray) : ByteArray := if G.length > 0 ∨ S.size ≠ 0 then tailI (joinD [P, F]) G S else joinD [P, F]
theorem inv_sum (G : List ByteArray) (P F S : ByteArray) (h : bulkN G P F S ≤ 1048576) : (joinD G).size ≤ 1048576 ∧ sumB [P, F] ≤ 1048580 ∧ (joinD [P, F]).size ≤ 1048580 ∧ S.size ≤ 1048576 ∧ G.length ≤ 1048576 ∧ sumB G ≤ 1048576 := by
  have h1 := joinD_size G
  have h2 := sumB_bulk G
  have h3 := joinD_size [P, F]
  have h4 : sumB [P, F] = P.size + 1 + (F.size + 1 + 0) := rfl
  unfold bulkN at h
  unfold bulkS at h h2
  omega
theorem cm_size (t : ByteArray) : (t ++ (⟨#[44, 32]⟩ : ByteArray)).size = t.size + 2 := by rw [size_append]; rfl
theorem cm_size' (t : ByteArray) : ((⟨#[44, 32]⟩ : ByteArray) ++ t).size = 2 + t.size := by rw [size_append]; rfl
theorem spec_inv_j (t : ByteArray) (G : List ByteArray) (P F S : ByteArray) (ht : t.size ≤ 1048580) (h : bulkN G P F S ≤ 1048576) : Ev (fun k => spec_l2Inverse.j0 k t true G P F S) (tailI t G S) := by
  obtain ⟨b1, b2, b3, b4, b5, b6⟩ := inv_sum G P F S h
  obtain ⟨K, hK⟩ := spec_join G (by omega) (by omega)
  have hK' : ∀ k, K ≤ k → spec_l2Given.f k G P F S = some (joinD G) := fun k hk => by unfold spec_l2Given.f; rw [show spec_l2Join.f k G = some (joinD G) from hK k hk]; rfl
  refine ⟨K + 1, fun k hk => ?_⟩
  obtain ⟨k', rfl⟩ : ∃ k', k = k' + 1 := ⟨k - 1, by omega⟩
  have a1 : t.size + 2 ≤ 9223372036854775807 := by omega
  have a2 : (t ++ (⟨#[44, 32]⟩ : ByteArray)).size + (joinD G).size ≤ 9223372036854775807 := by rw [cm_size]; omega
  have a3 : ((t ++ (⟨#[44, 32]⟩ : ByteArray)) ++ joinD G).size + 2 ≤ 9223372036854775807 := by rw [size_append, cm_size]; omega
  have a4 : (((t ++ (⟨#[44, 32]⟩ : ByteArray)) ++ joinD G) ++ (⟨#[44, 32]⟩ : ByteArray)).size + S.size ≤ 9223372036854775807 := by rw [cm_size, size_append, cm_size]; omega
  simp only [spec_l2Inverse.j0]
  rw [if_pos trivial, if_pos a1, hK' k' (by omega)]
  simp only [Option.bind_some]
  rw [if_pos a2]
  unfold tailI
  by_cases c : S.size = 0
  · rw [if_pos ((nil_iff S).2 c), if_pos c]; rfl
  · rw [if_neg (fun e => c ((nil_iff S).1 e)), if_pos a3, if_pos a4, if_neg c]; rfl
theorem spec_inv (G : List ByteArray) (P F S : ByteArray) (h : bulkN G P F S ≤ 1048576) : Ev (fun k => spec_l2Inverse.f k G P F S) (invD G P F S) := by
  obtain ⟨b1, b2, b3, b4, b5, b6⟩ := inv_sum G P F S h
  have hj := spec_inv_j (joinD [P, F]) G P F S b3 h
  unfold spec_l2Inverse.f invD
  refine Ev.bind (spec_join [P, F] (by simp) (by omega)) ?_
  by_cases c : G.length > 0
  · exact ev_pos (by omega) (ev_eq hj (if_pos (Or.inl c)).symm)
  · refine ev_neg (by omega) ?_
    by_cases d : S.size = 0
    · have e : (S.toList != ([] : List UInt8)) = false := by rw [(nil_iff S).2 d]; rfl
      rw [e]
      refine Ev.step (f := fun _ => some (joinD [P, F])) (fun k => ?_) (ev_eq (Ev.now _) (if_neg (fun x => x.elim c (fun y => y d))).symm)
      simp only [spec_l2Inverse.j0]
      rw [if_neg (by simp), if_pos ((nil_iff S).2 d)]
    · have e : (S.toList != ([] : List UInt8)) = true := bne_iff_ne.2 (fun x => d ((nil_iff S).1 x))
      rw [e]
      exact ev_eq hj (if_pos (Or.inr d)).symm
theorem app3 (a b c : ByteArray) : a ++ (b ++ c) = (a ++ b) ++ c := L_inj (by simp only [L_append, List.append_assoc])
theorem impl_inv_j (t : ByteArray) (G : List ByteArray) (P F S : ByteArray) (ht : t.size ≤ 1048580) (hg : goodN G P F S = true) (h : bulkN G P F S ≤ 1048576) : Ev (fun k => impl_inverseForm.j0 k t true G P F S) (tailI t G S) := by
  obtain ⟨b1, b2, b3, b4, b5, b6⟩ := inv_sum G P F S h
  obtain ⟨h3, h4⟩ := good_pos hg
  have hK := libJoin_all G h4 (by omega) (by omega)
  refine ⟨1, fun k hk => ?_⟩
  obtain ⟨k', rfl⟩ : ∃ k', k = k' + 1 := ⟨k - 1, by omega⟩
  have a1 : 2 + (joinD G).size ≤ 9223372036854775807 := by omega
  have a2 : t.size + ((⟨#[44, 32]⟩ : ByteArray) ++ joinD G).size ≤ 9223372036854775807 := by rw [cm_size']; omega
  have a3 : 2 + S.size ≤ 9223372036854775807 := by omega
  have a4 : (t ++ ((⟨#[44, 32]⟩ : ByteArray) ++ joinD G)).size + ((⟨#[44, 32]⟩ : ByteArray) ++ S).size ≤ 9223372036854775807 := by rw [cm_size', size_append, cm_size']; omega
  simp only [impl_inverseForm.j0]
  rw [if_pos trivial, hK]
  simp only [Option.bind_some]
  rw [if_pos a1, if_pos a2]
  unfold tailI
  by_cases c : S.size = 0
  · rw [if_pos ((nil_iff S).2 c), if_pos c, app3]; rfl
  · rw [if_neg (fun e => c ((nil_iff S).1 e)), if_pos a3, if_pos a4, if_neg c, app3, app3]; rfl
theorem impl_inv (G : List ByteArray) (P F S : ByteArray) (hg : goodN G P F S = true) (h : bulkN G P F S ≤ 1048576) : Ev (fun k => impl_inverseForm.f k G P F S) (invD G P F S) := by
  obtain ⟨b1, b2, b3, b4, b5, b6⟩ := inv_sum G P F S h
  have hj := impl_inv_j (joinD [P, F]) G P F S b3 hg h
  unfold impl_inverseForm.f invD
  refine ev_bind0 (spaced_eq [P, F] (by simp) (by simp) (by omega)) ?_
  by_cases c : G.length > 0
  · exact ev_pos (by omega) (ev_eq hj (if_pos (Or.inl c)).symm)
  · refine ev_neg (by omega) ?_
    by_cases d : S.size = 0
    · have e : (S.toList != ([] : List UInt8)) = false := by rw [(nil_iff S).2 d]; rfl
      rw [e]
      refine Ev.step (f := fun _ => some (joinD [P, F])) (fun k => ?_) (ev_eq (Ev.now _) (if_neg (fun x => x.elim c (fun y => y d))).symm)
      simp only [impl_inverseForm.j0]
      rw [if_neg (by simp), if_pos ((nil_iff S).2 d)]
    · have e : (S.toList != ([] : List UInt8)) = true := bne_iff_ne.2 (fun x => d ((nil_iff S).1 x))
      rw [e]
      exact ev_eq hj (if_pos (Or.inr d)).symm
end Go.Proofs.YtcckamdpncbkoaaDoor.G

namespace Go.Proofs.YtcckamdpncbkoaaDoor.G
open Go.RowKit Go.Proofs.YtcckamdpncbkoaaDoorW.PrintWords Go.Proofs.YtcckamdpncbkoaaDoorW.PrintLast Go.Proofs.YtcckamdpncbkoaaDoor.B
set_option linter.unusedVariables false
set_option linter.unusedSimpArgs false
def cmpD (a b : ByteArray) : Int := if (Op.bytesLess a.toList b.toList) = true then -1 else if (Op.bytesLess b.toList a.toList) = true then 1 else 0
theorem cmp_less (a : List UInt8) : ∀ b, Lib.compareBytes a b = if (Op.bytesLess a b) = true then -1 else if (Op.bytesLess b a) = true then 1 else 0 := by
  induction a with
  | nil => intro b; cases b <;> simp [Lib.compareBytes, Op.bytesLess]
  | cons x a ih =>
    intro b
    cases b with
    | nil => simp [Lib.compareBytes, Op.bytesLess]
    | cons y b =>
      unfold Lib.compareBytes Op.bytesLess
      by_cases h1 : x < y
      · simp [h1]
      · by_cases h2 : y < x
        · have h3 : ¬ x = y := fun e => by subst e; exact h1 h2
          simp [h1, h2, h3]
        · have h3 : x = y := by
            apply UInt8.toNat_inj.1
            have a1 : ¬ x.toNat < y.toNat := h1
            have a2 : ¬ y.toNat < x.toNat := h2
            omega
          subst h3
          simp [h1, ih]
theorem impl_cmp (a b : ByteArray) : strings_Compare.f a b = some (cmpD a b) := by
  unfold strings_Compare.f cmpD
  rw [cmp_less, toList_L, toList_L]
theorem spec_cmp (a b : ByteArray) : spec_l2Text.f a b = some (cmpD a b) := by
  unfold spec_l2Text.f cmpD
  split
  · rfl
  · split <;> rfl
theorem impl_low (a : ByteArray) (h : a.size ≤ 4611686018427387904) : impl_lower.f a = some (lowB a) := by unfold impl_lower.f; rw [if_pos h]
theorem spec_low (a : ByteArray) (h : a.size ≤ 4611686018427387904) : spec_l2Low.f a = some (lowB a) := by unfold spec_l2Low.f; rw [if_pos h]
theorem lowU_lo (b : UInt8) (h : loD (b.toNat : Int) = true ∨ b = 32) : lowU b = b := by
  apply lowU_no
  rcases h with h | h
  · unfold loD at h
    simp only [Bool.and_eq_true, decide_eq_true_eq] at h
    omega
  · subst h; decide
theorem spl_mem (b : UInt8) (q : UInt8 → Prop) (l : List UInt8) : (∀ p ∈ spl b l, ∀ x ∈ p, q x) → ∀ x ∈ l, q x ∨ x = b := by
  induction l with
  | nil => intro _ x hx; cases hx
  | cons c cs ih =>
    intro h x hx
    rw [spl_cons] at h
    by_cases e : c = b
    · rw [if_pos e] at h
      rcases List.mem_cons.1 hx with rfl | hx
      · exact Or.inr e
      · exact ih (fun p hp => h p (List.mem_cons_of_mem _ hp)) x hx
    · rw [if_neg e] at h
      cases hs : spl b cs with
      | nil => exact absurd hs (spl_ne b cs)
      | cons p ps =>
        rw [hs] at h ih
        have h1 := h ([c] ++ p) (List.mem_cons_self)
        rcases List.mem_cons.1 hx with rfl | hx
        · exact Or.inl (h1 _ (by simp))
        · refine ih (fun r hr => ?_) x hx
          rcases List.mem_cons.1 hr with rfl | hr
          · exact fun z hz => h1 z (by simp [hz])
          · exact h r (List.mem_cons_of_mem _ hr)
theorem part_low {P : ByteArray} (h : partD P = true) : lowB P = P := by
  apply L_inj
  unfold lowB
  rw [L_mk]
  have hall : ∀ x ∈ L P, loD (x.toNat : Int) = true ∨ x = 32 := by
    unfold partD at h
    rw [Bool.or_eq_true] at h
    rcases h with h | h
    · rw [L_nil (of_decide_eq_true h)]; intro x hx; cases hx
    · rw [Bool.and_eq_true] at h
      refine spl_mem 32 (fun x => loD (x.toNat : Int) = true) (L P) (fun p hp x hx => ?_)
      have h1 := List.all_eq_true.1 h.1 (mkB p) (List.mem_map.2 ⟨p, hp, rfl⟩)
      rw [Bool.and_eq_true] at h1
      exact List.all_eq_true.1 h1.2 x (by rw [List.drop_zero, L_mk]; exact hx)
  conv => rhs; rw [← List.map_id (L P)]
  exact List.map_congr_left (fun x hx => lowU_lo x (hall x hx))
theorem good_part {G : List ByteArray} {P F S : ByteArray} (h : goodN G P F S = true) : lowB P = P := by
  unfold goodN restD at h
  simp only [Bool.and_eq_true] at h
  exact part_low h.2.2.1
def orI (a b : Int) : Int := if a = 0 then b else a
theorem or4 (a b c d : Int) : Ev (fun k => cmp_Or_int.f k [a, b, c, d]) (orI a (orI b (orI c d))) := by
  have st : ∀ (k i : Nat), i < 4 → cmp_Or_int.l0 (k + 1) 0 [a, b, c, d] 4 (i : Int) = if rd [a, b, c, d] (i : Int) = 0 then cmp_Or_int.l0 k 0 [a, b, c, d] 4 ((i + 1 : Nat) : Int) else some (rd [a, b, c, d] (i : Int)) := by
    intro k i hi
    have hw : wrap64 ((i : Int) + 1) = ((i + 1 : Nat) : Int) := by rw [w64 (by omega) (by omega)]; rfl
    have a3 : (i : Int) < (([a, b, c, d] : List Int).length : Int) := by show (i : Int) < 4; omega
    simp only [cmp_Or_int.l0]
    rw [if_pos (by omega), if_pos (by omega), if_pos a3, hw]
  refine ⟨5, fun k hk => ?_⟩
  obtain ⟨k', rfl⟩ : ∃ k', k = k' + 5 := ⟨k - 5, by omega⟩
  have s4 : cmp_Or_int.l0 (k' + 1) 0 [a, b, c, d] 4 ((4 : Nat) : Int) = some 0 := by
    simp only [cmp_Or_int.l0]; rw [if_neg (by omega)]
  have s3 : cmp_Or_int.l0 (k' + 2) 0 [a, b, c, d] 4 ((3 : Nat) : Int) = some (d) := by
    rw [st (k' + 1) 3 (by omega)]
    show (if d = 0 then cmp_Or_int.l0 (k' + 1) 0 [a, b, c, d] 4 ((4 : Nat) : Int) else some d) = _
    by_cases e : d = 0
    · rw [if_pos e, s4, e]
    · rw [if_neg e]
  have s2 : cmp_Or_int.l0 (k' + 3) 0 [a, b, c, d] 4 ((2 : Nat) : Int) = some (orI c d) := by
    rw [st (k' + 2) 2 (by omega)]
    show (if c = 0 then cmp_Or_int.l0 (k' + 2) 0 [a, b, c, d] 4 ((3 : Nat) : Int) else some c) = _
    by_cases e : c = 0
    · rw [if_pos e, s3]; unfold orI; rw [if_pos e]
    · rw [if_neg e]; unfold orI; rw [if_neg e]
  have s1 : cmp_Or_int.l0 (k' + 4) 0 [a, b, c, d] 4 ((1 : Nat) : Int) = some (orI b (orI c d)) := by
    rw [st (k' + 3) 1 (by omega)]
    show (if b = 0 then cmp_Or_int.l0 (k' + 3) 0 [a, b, c, d] 4 ((2 : Nat) : Int) else some b) = _
    by_cases e : b = 0
    · rw [if_pos e, s2]; unfold orI; rw [if_pos e]
    · rw [if_neg e]; unfold orI; rw [if_neg e]
  have s0 : cmp_Or_int.l0 (k' + 5) 0 [a, b, c, d] 4 ((0 : Nat) : Int) = some (orI a (orI b (orI c d))) := by
    rw [st (k' + 4) 0 (by omega)]
    show (if a = 0 then cmp_Or_int.l0 (k' + 4) 0 [a, b, c, d] 4 ((1 : Nat) : Int) else some a) = _
    by_cases e : a = 0
    · rw [if_pos e, s1]; unfold orI; rw [if_pos e]
    · rw [if_neg e]; unfold orI; rw [if_neg e]
  exact s0
def cmpND (G : List ByteArray) (P F S : ByteArray) (G' : List ByteArray) (P' F' S' : ByteArray) : Int :=
  orI (cmpD (lowB F) (lowB F')) (orI (cmpD P P') (orI (cmpD (lowB (fullD G P F S)) (lowB (fullD G' P' F' S'))) (cmpD (invD G P F S) (invD G' P' F' S'))))
theorem full_size (G : List ByteArray) (P F S : ByteArray) (h : bulkN G P F S ≤ 1048576) : (fullD G P F S).size ≤ 1048580 := Nat.le_trans (joinD_size _) (full_sum G P F S h).2
theorem bulk_parts (G : List ByteArray) (P F S : ByteArray) : P.size ≤ bulkN G P F S ∧ F.size ≤ bulkN G P F S := by unfold bulkN; omega
theorem ev_or {f g : Nat → Option Int} {a b : Int} (h : Ev g b) (hf : ∀ k, f k = if a = 0 then g k else some a) : Ev f (orI a b) := by
  unfold orI
  by_cases e : a = 0
  · rw [if_pos e]; exact Ev.congr (fun k => (hf k).trans (if_pos e)) h
  · rw [if_neg e]; exact Ev.congr (fun k => (hf k).trans (if_neg e)) (Ev.now a)
theorem spec_cmpN (G : List ByteArray) (P F S : ByteArray) (G' : List ByteArray) (P' F' S' : ByteArray) (h : bulkN G P F S ≤ 1048576) (h' : bulkN G' P' F' S' ≤ 1048576) : Ev (fun k => spec_l2Compare.f k G P F S G' P' F' S') (cmpND G P F S G' P' F' S') := by
  have b := bulk_parts G P F S
  have b' := bulk_parts G' P' F' S'
  have f := full_size G P F S h
  have f' := full_size G' P' F' S' h'
  unfold spec_l2Compare.f cmpND
  refine ev_bind0 (spec_low F (by omega)) (ev_bind0 (spec_low F' (by omega)) (ev_bind0 (spec_cmp _ _) ?_))
  refine ev_or ?_ (fun k => rfl)
  refine ev_bind0 (spec_cmp _ _) ?_
  refine ev_or ?_ (fun k => rfl)
  refine Ev.bind (spec_full G P F S h) (ev_bind0 (spec_low _ (by omega)) (Ev.bind (spec_full G' P' F' S' h') (ev_bind0 (spec_low _ (by omega)) (ev_bind0 (spec_cmp _ _) ?_))))
  refine ev_or ?_ (fun k => rfl)
  exact Ev.bind (spec_inv G P F S h) (Ev.bind (spec_inv G' P' F' S' h') (ev_bind0 (spec_cmp _ _) (Ev.now _)))
theorem impl_cmpN (G : List ByteArray) (P F S : ByteArray) (G' : List ByteArray) (P' F' S' : ByteArray) (h : bulkN G P F S ≤ 1048576) (h' : bulkN G' P' F' S' ≤ 1048576) (hg : goodN G P F S = true) (hg' : goodN G' P' F' S' = true) : Ev (fun k => impl_compareNames.f k G P F S G' P' F' S') (cmpND G P F S G' P' F' S') := by
  have b := bulk_parts G P F S
  have b' := bulk_parts G' P' F' S'
  have f := full_size G P F S h
  have f' := full_size G' P' F' S' h'
  have lp : impl_lower.f P = some P := by rw [impl_low P (by omega), good_part hg]
  have lp' : impl_lower.f P' = some P' := by rw [impl_low P' (by omega), good_part hg']
  unfold impl_compareNames.f cmpND
  refine ev_bind0 (impl_low F (by omega)) (ev_bind0 (impl_low F' (by omega)) (ev_bind0 (impl_cmp _ _) (ev_bind0 lp (ev_bind0 lp' (ev_bind0 (impl_cmp _ _) ?_)))))
  refine ev_bind0 (impl_full G P F S hg h) (ev_bind0 (impl_low _ (by omega)) (ev_bind0 (impl_full G' P' F' S' hg' h') (ev_bind0 (impl_low _ (by omega)) (ev_bind0 (impl_cmp _ _) ?_))))
  exact Ev.bind (impl_inv G P F S hg h) (Ev.bind (impl_inv G' P' F' S' hg' h') (ev_bind0 (impl_cmp _ _) (Ev.bind (or4 _ _ _ _) (Ev.now _))))
end Go.Proofs.YtcckamdpncbkoaaDoor.G

namespace Go.Proofs.YtcckamdpncbkoaaDoor.Pure
open Go.RowKit Go.Proofs.YtcckamdpncbkoaaDoor.G Go.Proofs.YtcckamdpncbkoaaDoorW.PrintWords Go.Proofs.YtcckamdpncbkoaaDoorW.PrintLast Go.Proofs.YtcckamdpncbkoaaDoor.B Go.Proofs.YtcckamdpncbkoaaDoor.Opn
set_option linter.unusedVariables false
set_option linter.unusedSimpArgs false
def cmp2 (G : List ByteArray) (P F S : ByteArray) (G' : List ByteArray) (P' F' S' : ByteArray) : Int × Bool := if goodN G P F S = true then (if goodN G' P' F' S' = true then (cmpND G P F S G' P' F' S', true) else (0, false)) else (0, false)
theorem spec_m (G : List ByteArray) (P F S : ByteArray) (G' : List ByteArray) (P' F' S' : ByteArray) (h : bulkN G P F S ≤ 1048576) (h' : bulkN G' P' F' S' ≤ 1048576) : Ev (fun k => spec_CompareNames.f k G P F S G' P' F' S') (cmp2 G P F S G' P' F' S') := by
  have hn : G.length ≤ bulkN G P F S ∧ P.size ≤ bulkN G P F S := by unfold bulkN bulkS; omega
  have hn' : G'.length ≤ bulkN G' P' F' S' ∧ P'.size ≤ bulkN G' P' F' S' := by unfold bulkN bulkS; omega
  unfold spec_CompareNames.f cmp2
  refine Ev.bind (spec_name G P F S (by omega) (by omega)) (ev_ite (fun hg => ?_) (fun _ => Ev.now _))
  exact Ev.bind (spec_name G' P' F' S' (by omega) (by omega)) (ev_ite (fun hg' => Ev.bind (spec_cmpN G P F S G' P' F' S' h h') (Ev.now _)) (fun _ => Ev.now _))
theorem impl_m (G : List ByteArray) (P F S : ByteArray) (G' : List ByteArray) (P' F' S' : ByteArray) (h : bulkN G P F S ≤ 1048576) (h' : bulkN G' P' F' S' ≤ 1048576) : Ev (fun k => impl_CompareNames.f k G P F S G' P' F' S') (cmp2 G P F S G' P' F' S') := by
  have hn : G.length ≤ bulkN G P F S ∧ P.size ≤ bulkN G P F S := by unfold bulkN bulkS; omega
  have hn' : G'.length ≤ bulkN G' P' F' S' ∧ P'.size ≤ bulkN G' P' F' S' := by unfold bulkN bulkS; omega
  unfold impl_CompareNames.f cmp2
  refine Ev.bind (impl_valid G P F S (by omega) (by omega)) (ev_ite (fun hg => ?_) (fun _ => Ev.now _))
  exact Ev.bind (impl_valid G' P' F' S' (by omega) (by omega)) (ev_ite (fun hg' => Ev.bind (impl_cmpN G P F S G' P' F' S' h h' hg hg') (Ev.now _)) (fun _ => Ev.now _))
theorem FnExactCompareNames : laws_FnExactCompareNames.Pur := by
  intro G P F S G' P' F' S' hG hP hF hS hG' hP' hF' hS'
  apply Ev.rounds
  unfold laws_FnExactCompareNames.f
  refine Ev.bind (szN_ev G P F S hG.2 hG.1 hP hF hS 1048576 (by omega) (by omega)) ?_
  by_cases c : (bulkN G P F S : Int) ≤ 1048576
  · have hl : lftOf 1048576 (bulkN G P F S) = 1048576 - bulkN G P F S := by unfold lftOf; rw [if_pos c]
    rw [hl]
    refine ev_neg (by omega) (Ev.bind (szN_ev G' P' F' S' hG'.2 hG'.1 hP' hF' hS' (1048576 - bulkN G P F S) (by omega) (by omega)) ?_)
    by_cases c' : (bulkN G' P' F' S' : Int) ≤ 1048576 - bulkN G P F S
    · have hl' : lftOf (1048576 - bulkN G P F S) (bulkN G' P' F' S') = (1048576 - bulkN G P F S) - bulkN G' P' F' S' := by unfold lftOf; rw [if_pos c']
      rw [hl']
      have hn : G.length ≤ bulkN G P F S ∧ P.size ≤ bulkN G P F S := by unfold bulkN bulkS; omega
      have hn' : G'.length ≤ bulkN G' P' F' S' ∧ P'.size ≤ bulkN G' P' F' S' := by unfold bulkN bulkS; omega
      have ht := toN_ev G P F S (by omega)
      have ht' := toN_ev G' P' F' S' (by omega)
      have he := eqN_same G P F S (by omega)
      have he' := eqN_same G' P' F' S' (by omega)
      refine ev_neg (by omega) (Ev.bind ht (Ev.bind ht' (Ev.bind (spec_m G P F S G' P' F' S' (by omega) (by omega)) (Ev.bind ht (Ev.bind ht' (Ev.bind (impl_m G P F S G' P' F' S' (by omega) (by omega)) (ev_pos rfl ?_)))))))
      have e : ((cmp2 G P F S G' P' F' S').2 != (cmp2 G P F S G' P' F' S').2) = false := by simp
      rw [e]
      refine Ev.step (f := fun k => (laws_toName.f k G P F S).bind fun bt261 => ((laws_eqName.f k G P F S bt261.1 bt261.2.1 bt261.2.2.1 bt261.2.2.2).bind fun t267 => (if t267 = true then ((laws_toName.f k G' P' F' S').bind fun bt268 => ((laws_eqName.f k G' P' F' S' bt268.1 bt268.2.1 bt268.2.2.1 bt268.2.2.2).bind fun t274 => (if t274 = true then (some true) else (some false)))) else (some false)))) (fun k => by simp [laws_FnExactCompareNames.j0]) ?_
      exact Ev.bind ht (Ev.bind he (ev_pos rfl (Ev.bind ht' (Ev.bind he' (ev_pos rfl (Ev.now _))))))
    · have hl' : lftOf (1048576 - bulkN G P F S) (bulkN G' P' F' S') = -1 := by unfold lftOf; rw [if_neg c']
      rw [hl']
      exact ev_pos (by omega) (Ev.now _)
  · have hl : lftOf 1048576 (bulkN G P F S) = -1 := by unfold lftOf; rw [if_neg c]
    rw [hl]
    exact ev_pos (by omega) (Ev.now _)
end Go.Proofs.YtcckamdpncbkoaaDoor.Pure
