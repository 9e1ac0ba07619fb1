/- Texts of this session for the law FnExactParseInverse, put together by a program (merge.py): each ends with its namespace; conditions stand with each theorem. -/
import Derived.Test.YtcckamdpncbkoaaDoorKFnExactParseInverse2
import Derived.Shelf.Strings.Builder1
import Derived.Shelf.Strings.Builder2
import Derived.Shelf.Strings.OnBuilder
import Derived.Shelf.Small.Strs
import Derived.Shelf.Strings.Search1
import Derived.Shelf.Strings.Search2
import Derived.Shelf.Strings.Search3
import Derived.Shelf.Strings.Count
import Derived.Shelf.LaysM
import Derived.Shelf.Strings.Shaped
import Derived.Shelf.Strings.Split
import Derived.Shelf.Strings.SplitShaped
import Derived.Shelf.Unicode.DecodeSlow
import Derived.Ground.SlgfProg
import Derived.Shelf.SlicesE.IndexFunc
import Derived.Shelf.SlicesE.DeleteFunc
import Derived.Test.YtcckamdpncbkoaaDoorProg
namespace Go.Proofs.YtcckamdpncbkoaaDoor.G
open Go.RowKit Go.Proofs.YtcckamdpncbkoaaDoorW.PrintWords Go.Proofs.YtcckamdpncbkoaaDoorW.PrintLast Go.Proofs.YtcckamdpncbkoaaDoorW.PrintMore
open Go.Proofs.YtcckamdpncbkoaaDoor.Gl Go.Proofs.YtcckamdpncbkoaaDoor.Ext
attribute [local go_sem] max2_int min2_int max_two min_two max_three min_three max_four min_four   -- for this text's walks alone
set_option linter.unusedVariables false
set_option linter.unusedSimpArgs false

/-! ### spec_l2Parse: function 59 -/
mutual
def spec_l2Parse.j0 : Nat → ByteArray → List ByteArray → Bool → ByteArray → ByteArray → ByteArray → Option (List ByteArray × ByteArray × ByteArray × ByteArray × Bool)
 | 0, _, _, _, _, _, _ => none
 | k + 1, x0, x4, x64, x503001, x503002, x503003 => if x64 = true then (some (([] : List ByteArray), (⟨#[]⟩ : ByteArray), (⟨#[]⟩ : ByteArray), (⟨#[]⟩ : ByteArray), false)) else (if (x4.length : Int) > 1 then (if 1 < (x4.length : Int) then (spec_l2Parse.j1 k x0 x4 (decide (((rdOf ByteArray.empty x4 1).size : Int) > 1)) x503001 x503002 x503003) else (none)) else (spec_l2Parse.j1 k x0 x4 false x503001 x503002 x503003))
def spec_l2Parse.j1 : Nat → ByteArray → List ByteArray → Bool → ByteArray → ByteArray → ByteArray → Option (List ByteArray × ByteArray × ByteArray × ByteArray × Bool)
 | 0, _, _, _, _, _, _ => none
 | k + 1, x0, x4, x75, x503001, x503002, x503003 => if x75 = true then (if 1 < (x4.length : Int) then (if 1 ≤ ((rdOf ByteArray.empty x4 1).size : Int) then ((spec_l1Split.f k ((rdOf ByteArray.empty x4 1).extract 1 (rdOf ByteArray.empty x4 1).size) 32).bind fun t511 => (spec_l2Parse.j2 k x0 x4 t511 x503001 x503002 x503003)) else (none)) else (none)) else (spec_l2Parse.j2 k x0 x4 ([] : List ByteArray) x503001 x503002 x503003)
def spec_l2Parse.j2 : Nat → ByteArray → List ByteArray → List ByteArray → ByteArray → ByteArray → ByteArray → Option (List ByteArray × ByteArray × ByteArray × ByteArray × Bool)
 | 0, _, _, _, _, _, _ => none
 | k + 1, x0, x4, x503000, x503001, x503002, x503003 => if (x4.length : Int) > 2 then (if 2 < (x4.length : Int) then (if 1 ≤ ((rdOf ByteArray.empty x4 2).size : Int) then (spec_l2Parse.j3 k x0 x503000 x503001 x503002 ((rdOf ByteArray.empty x4 2).extract 1 (rdOf ByteArray.empty x4 2).size)) else (none)) else (none)) else (spec_l2Parse.j3 k x0 x503000 x503001 x503002 x503003)
def spec_l2Parse.j3 : Nat → ByteArray → List ByteArray → ByteArray → ByteArray → ByteArray → Option (List ByteArray × ByteArray × ByteArray × ByteArray × Bool)
 | 0, _, _, _, _, _ => none
 | k + 1, x0, x503000, x503001, x503002, x503003 => (spec_l2Good.f k x503000 x503001 x503002 x503003).bind fun t515 => (if t515 = true then ((spec_l2Inverse.f k x503000 x503001 x503002 x503003).bind fun t516 => (if t516.toList = x0.toList then (some (x503000, x503001, x503002, x503003, true)) else (some (([] : List ByteArray), (⟨#[]⟩ : ByteArray), (⟨#[]⟩ : ByteArray), (⟨#[]⟩ : ByteArray), false)))) else (some (([] : List ByteArray), (⟨#[]⟩ : ByteArray), (⟨#[]⟩ : ByteArray), (⟨#[]⟩ : ByteArray), false)))
end
def spec_l2Parse.f (k : Nat) (a0 : ByteArray) : Option (List ByteArray × ByteArray × ByteArray × ByteArray × Bool) := (spec_l1Split.f k a0 44).bind fun t489 => (if 0 < (t489.length : Int) then ((spec_l1Split.f k (rdOf ByteArray.empty t489 0) 32).bind fun t493 => (if 0 ≤ (wrap64 ((t493.length : Int) - 1)) then (if (wrap64 ((t493.length : Int) - 1)) < (t493.length : Int) then (if (wrap64 ((t493.length : Int) - 1)) ≤ (t493.length : Int) then ((spec_l2Join.f k (t493.take ((wrap64 ((t493.length : Int) - 1)) : Int).toNat)).bind fun t501 => (if (t489.length : Int) > 3 then (spec_l2Parse.j0 k a0 t489 true t501 (rdOf ByteArray.empty t493 (wrap64 ((t493.length : Int) - 1))) (⟨#[]⟩ : ByteArray)) else (if (t489.length : Int) > 1 then (if 1 < (t489.length : Int) then (if (rdOf ByteArray.empty t489 1).toList = ([] : List UInt8) then (spec_l2Parse.j0 k a0 t489 true t501 (rdOf ByteArray.empty t493 (wrap64 ((t493.length : Int) - 1))) (⟨#[]⟩ : ByteArray)) else (if 0 < ((rdOf ByteArray.empty t489 1).size : Int) then (if (bt (rdOf ByteArray.empty t489 1) 0) = 32 then (if (t489.length : Int) > 2 then (if 2 < (t489.length : Int) then (if (rdOf ByteArray.empty t489 2).toList = ([] : List UInt8) then (spec_l2Parse.j0 k a0 t489 true t501 (rdOf ByteArray.empty t493 (wrap64 ((t493.length : Int) - 1))) (⟨#[]⟩ : ByteArray)) else (if 0 < ((rdOf ByteArray.empty t489 2).size : Int) then (spec_l2Parse.j0 k a0 t489 ((bt (rdOf ByteArray.empty t489 2) 0) != 32) t501 (rdOf ByteArray.empty t493 (wrap64 ((t493.length : Int) - 1))) (⟨#[]⟩ : ByteArray)) else (none))) else (none)) else (spec_l2Parse.j0 k a0 t489 false t501 (rdOf ByteArray.empty t493 (wrap64 ((t493.length : Int) - 1))) (⟨#[]⟩ : ByteArray))) else (spec_l2Parse.j0 k a0 t489 true t501 (rdOf ByteArray.empty t493 (wrap64 ((t493.length : Int) - 1))) (⟨#[]⟩ : ByteArray))) else (none))) else (none)) else (if (t489.length : Int) > 2 then (if 2 < (t489.length : Int) then (if (rdOf ByteArray.empty t489 2).toList = ([] : List UInt8) then (spec_l2Parse.j0 k a0 t489 true t501 (rdOf ByteArray.empty t493 (wrap64 ((t493.length : Int) - 1))) (⟨#[]⟩ : ByteArray)) else (if 0 < ((rdOf ByteArray.empty t489 2).size : Int) then (spec_l2Parse.j0 k a0 t489 ((bt (rdOf ByteArray.empty t489 2) 0) != 32) t501 (rdOf ByteArray.empty t493 (wrap64 ((t493.length : Int) - 1))) (⟨#[]⟩ : ByteArray)) else (none))) else (none)) else (spec_l2Parse.j0 k a0 t489 false t501 (rdOf ByteArray.empty t493 (wrap64 ((t493.length : Int) - 1))) (⟨#[]⟩ : ByteArray)))))) else (none)) else (none)) else (none))) else (none))
theorem spec_l2Parse.mono_l : ∀ k, (∀ y0 y1 y2 y3 y4 y5, LeO (spec_l2Parse.j0 k y0 y1 y2 y3 y4 y5) (spec_l2Parse.j0 (k + 1) y0 y1 y2 y3 y4 y5)) ∧ (∀ y0 y1 y2 y3 y4 y5, LeO (spec_l2Parse.j1 k y0 y1 y2 y3 y4 y5) (spec_l2Parse.j1 (k + 1) y0 y1 y2 y3 y4 y5)) ∧ (∀ y0 y1 y2 y3 y4 y5, LeO (spec_l2Parse.j2 k y0 y1 y2 y3 y4 y5) (spec_l2Parse.j2 (k + 1) y0 y1 y2 y3 y4 y5)) ∧ (∀ y0 y1 y2 y3 y4, LeO (spec_l2Parse.j3 k y0 y1 y2 y3 y4) (spec_l2Parse.j3 (k + 1) y0 y1 y2 y3 y4))
 | 0 => ⟨fun _ _ _ _ _ _ r h => by simp [spec_l2Parse.j0] at h, fun _ _ _ _ _ _ r h => by simp [spec_l2Parse.j1] at h, fun _ _ _ _ _ _ r h => by simp [spec_l2Parse.j2] at h, fun _ _ _ _ _ r h => by simp [spec_l2Parse.j3] at h⟩
 | k + 1 => by
  obtain ⟨ih0, ih1, ih2, ih3⟩ := spec_l2Parse.mono_l k
  refine ⟨?_, ?_, ?_, ?_⟩
  ·
   intro y0 y1 y2 y3 y4 y5
   unfold spec_l2Parse.j0
   repeat' first
   | (with_reducible exact ih0 _ _ _ _ _ _)
   | (with_reducible exact ih1 _ _ _ _ _ _)
   | (with_reducible exact ih2 _ _ _ _ _ _)
   | (with_reducible exact ih3 _ _ _ _ _)
   | (with_reducible exact spec_l1Split.mono _ _ _)
   | (with_reducible exact spec_l2Good.mono _ _ _ _ _)
   | (with_reducible exact spec_l2Inverse.mono _ _ _ _ _)
   | (with_reducible exact spec_l2Join.mono _ _)
   | (with_reducible exact LeO.refl _)
   | (with_reducible exact LeO.none _)
   | (with_reducible refine LeO.ite ?_ ?_)
   | (with_reducible refine LeO.bind ?_ (fun _ => ?_))
   | exact ih0 _ _ _ _ _ _
   | exact ih1 _ _ _ _ _ _
   | exact ih2 _ _ _ _ _ _
   | exact ih3 _ _ _ _ _
   | exact spec_l1Split.mono _ _ _
   | exact spec_l2Good.mono _ _ _ _ _
   | exact spec_l2Inverse.mono _ _ _ _ _
   | exact spec_l2Join.mono _ _
   | exact LeO.none _
   | refine LeO.ite ?_ ?_
   | refine LeO.bind ?_ (fun _ => ?_)
  ·
   intro y0 y1 y2 y3 y4 y5
   unfold spec_l2Parse.j1
   repeat' first
   | (with_reducible exact ih0 _ _ _ _ _ _)
   | (with_reducible exact ih1 _ _ _ _ _ _)
   | (with_reducible exact ih2 _ _ _ _ _ _)
   | (with_reducible exact ih3 _ _ _ _ _)
   | (with_reducible exact spec_l1Split.mono _ _ _)
   | (with_reducible exact spec_l2Good.mono _ _ _ _ _)
   | (with_reducible exact spec_l2Inverse.mono _ _ _ _ _)
   | (with_reducible exact spec_l2Join.mono _ _)
   | (with_reducible exact LeO.refl _)
   | (with_reducible exact LeO.none _)
   | (with_reducible refine LeO.ite ?_ ?_)
   | (with_reducible refine LeO.bind ?_ (fun _ => ?_))
   | exact ih0 _ _ _ _ _ _
   | exact ih1 _ _ _ _ _ _
   | exact ih2 _ _ _ _ _ _
   | exact ih3 _ _ _ _ _
   | exact spec_l1Split.mono _ _ _
   | exact spec_l2Good.mono _ _ _ _ _
   | exact spec_l2Inverse.mono _ _ _ _ _
   | exact spec_l2Join.mono _ _
   | exact LeO.none _
   | refine LeO.ite ?_ ?_
   | refine LeO.bind ?_ (fun _ => ?_)
  ·
   intro y0 y1 y2 y3 y4 y5
   unfold spec_l2Parse.j2
   repeat' first
   | (with_reducible exact ih0 _ _ _ _ _ _)
   | (with_reducible exact ih1 _ _ _ _ _ _)
   | (with_reducible exact ih2 _ _ _ _ _ _)
   | (with_reducible exact ih3 _ _ _ _ _)
   | (with_reducible exact spec_l1Split.mono _ _ _)
   | (with_reducible exact spec_l2Good.mono _ _ _ _ _)
   | (with_reducible exact spec_l2Inverse.mono _ _ _ _ _)
   | (with_reducible exact spec_l2Join.mono _ _)
   | (with_reducible exact LeO.refl _)
   | (with_reducible exact LeO.none _)
   | (with_reducible refine LeO.ite ?_ ?_)
   | (with_reducible refine LeO.bind ?_ (fun _ => ?_))
   | exact ih0 _ _ _ _ _ _
   | exact ih1 _ _ _ _ _ _
   | exact ih2 _ _ _ _ _ _
   | exact ih3 _ _ _ _ _
   | exact spec_l1Split.mono _ _ _
   | exact spec_l2Good.mono _ _ _ _ _
   | exact spec_l2Inverse.mono _ _ _ _ _
   | exact spec_l2Join.mono _ _
   | exact LeO.none _
   | refine LeO.ite ?_ ?_
   | refine LeO.bind ?_ (fun _ => ?_)
  ·
   intro y0 y1 y2 y3 y4
   unfold spec_l2Parse.j3
   repeat' first
   | (with_reducible exact ih0 _ _ _ _ _ _)
   | (with_reducible exact ih1 _ _ _ _ _ _)
   | (with_reducible exact ih2 _ _ _ _ _ _)
   | (with_reducible exact ih3 _ _ _ _ _)
   | (with_reducible exact spec_l1Split.mono _ _ _)
   | (with_reducible exact spec_l2Good.mono _ _ _ _ _)
   | (with_reducible exact spec_l2Inverse.mono _ _ _ _ _)
   | (with_reducible exact spec_l2Join.mono _ _)
   | (with_reducible exact LeO.refl _)
   | (with_reducible exact LeO.none _)
   | (with_reducible refine LeO.ite ?_ ?_)
   | (with_reducible refine LeO.bind ?_ (fun _ => ?_))
   | exact ih0 _ _ _ _ _ _
   | exact ih1 _ _ _ _ _ _
   | exact ih2 _ _ _ _ _ _
   | exact ih3 _ _ _ _ _
   | exact spec_l1Split.mono _ _ _
   | exact spec_l2Good.mono _ _ _ _ _
   | exact spec_l2Inverse.mono _ _ _ _ _
   | exact spec_l2Join.mono _ _
   | exact LeO.none _
   | refine LeO.ite ?_ ?_
   | refine LeO.bind ?_ (fun _ => ?_)
theorem spec_l2Parse.mono : ∀ a0 k, LeO (spec_l2Parse.f k a0) (spec_l2Parse.f (k + 1) a0) := by
 intro a0 k
 obtain ⟨ih0, ih1, ih2, ih3⟩ := spec_l2Parse.mono_l k
 unfold spec_l2Parse.f
 repeat' first
   | (with_reducible exact ih0 _ _ _ _ _ _)
   | (with_reducible exact ih1 _ _ _ _ _ _)
   | (with_reducible exact ih2 _ _ _ _ _ _)
   | (with_reducible exact ih3 _ _ _ _ _)
   | (with_reducible exact spec_l1Split.mono _ _ _)
   | (with_reducible exact spec_l2Good.mono _ _ _ _ _)
   | (with_reducible exact spec_l2Inverse.mono _ _ _ _ _)
   | (with_reducible exact spec_l2Join.mono _ _)
   | (with_reducible exact LeO.refl _)
   | (with_reducible exact LeO.none _)
   | (with_reducible refine LeO.ite ?_ ?_)
   | (with_reducible refine LeO.bind ?_ (fun _ => ?_))
   | exact ih0 _ _ _ _ _ _
   | exact ih1 _ _ _ _ _ _
   | exact ih2 _ _ _ _ _ _
   | exact ih3 _ _ _ _ _
   | exact spec_l1Split.mono _ _ _
   | exact spec_l2Good.mono _ _ _ _ _
   | exact spec_l2Inverse.mono _ _ _ _ _
   | exact spec_l2Join.mono _ _
   | exact LeO.none _
   | refine LeO.ite ?_ ?_
   | refine LeO.bind ?_ (fun _ => ?_)
def spec_l2Parse.T3 : Bool × List (List Nat × List Nat) := (true, [([], []), ([], []), ([1], [1]), ([2], [2]), ([0, 3], [0, 3]), ([4], [4]), ([], []), ([], []), ([7], [7]), ([8], [8]), ([6, 9], [6, 9]), ([10], [10]), ([5, 11], [5, 11]), ([], []), ([13, 12, 11, 0, 1, 2, 3, 4, 5, 6, 7, 8, 9, 10, 11, 12, 13], [12, 13])])
def spec_l2Parse.B3 : List Nat := [0, 0, 2, 6, 15, 31, 0, 0, 128, 384, 960, 1984, 4095, 0, 16383]
theorem spec_l2Parse.tab3 : rtab .any (opsOf Tryd.f59 3) = spec_l2Parse.T3 := by kernel_rfl
theorem spec_l2Parse.bits3 : waitsOk spec_l2Parse.T3.2 spec_l2Parse.B3 = true := by kernel_rfl
set_option maxRecDepth 100000 in
theorem spec_l2Parse.L0 {P : Prop} (h : P := by
  go_wp2_with (first | ((with_reducible refine gate_callee (f := 85) rfl ?_); refine goesL_ (some 80) rfl rfl Tryd.func85 (by kernel_rfl) rfl #[.string ((rdOf ByteArray.empty t489 1).extract 1 (rdOf ByteArray.empty t489 1).size), .int .u8 32] rfl au38 ?_; (with_reducible refine (spec_l1Split.calls kj44 ((rdOf ByteArray.empty t489 1).extract 1 (rdOf ByteArray.empty t489 1).size) 32 t511 _ A52.out).mono ?_); rintro e w53 ⟨v512, rfl, ho0, hb⟩; refine ⟨_, rfl, ?_⟩; have n0_ := Aside0.mk (Kd.R_elder' au86 (Kd.R_base ho0) hb); have n1_ := Aside0.mk (Kd.R_lower (Kd.R_new' ho0 (Kd.R_lt au86)) (below_size au15)); have n2_ := Aside0.mk (blk_below (g := gb488) (o := .cells #[.slice none 0 0, .string (⟨#[]⟩ : ByteArray), .string (⟨#[]⟩ : ByteArray), .string (⟨#[]⟩ : ByteArray)] 27 (0, 0)) au62 hb); have n3_ := Aside0.mk (blk_below (g := gb502) (o := .cells #[.slice none 0 0, .string t501, .string (rdOf ByteArray.empty t493 (ji5)), .string (⟨#[]⟩ : ByteArray)] 27 (0, 0)) au63 hb); have n4_ := Aside0.mk (below_step au15 hb); clear HO_4; clear BK488; clear BK502; clear HB; have HO_4 := n0_; have HO513 := n1_; have BK488 := n2_; have BK502 := n3_; have HB := n4_; clear n0_ n1_ n2_ n3_ n4_; (try clear hb); (try clear hb2); (try clear hk); (try clear hi); (try clear ho0); obtain ⟨Ao54, co54, eo54⟩ := Kd.R_slice HO513.out; subst eo54; have hnb55 := NB502_488.out; have hnc55 := NB488_502.out; have hcz56_0 : w53.cell? ⟨gb502, 0, none⟩ = some (.slice none 0 0) := (blk_cell BK502.out 0).trans rfl; have hcz56_1 : w53.cell? ⟨gb502, 1, none⟩ = some (.string t501) := (blk_cell BK502.out 1).trans rfl; have hcz56_2 : w53.cell? ⟨gb502, 2, none⟩ = some (.string (rdOf ByteArray.empty t493 (ji5))) := (blk_cell BK502.out 2).trans rfl; have hcz56_3 : w53.cell? ⟨gb502, 3, none⟩ = some (.string (⟨#[]⟩ : ByteArray)) := (blk_cell BK502.out 3).trans rfl; have hfz56_0 := blk_frozen BK502.out 0; have hfz56_1 := blk_frozen BK502.out 1; have hfz56_2 := blk_frozen BK502.out 2; have hfz56_3 := blk_frozen BK502.out 3))
  go_meet
  case rel => first | (exact ⟨_, (t511), (.slice Ao54 t511.length co54), H', ⟨by have := HJ10.out; have := HJ44.out; first | omega | exact Nat.le_refl _⟩, ⟨by (with_reducible repeat (first | apply Kd.R_alloc | apply Kd.R_drewN | apply Kd.R_drew)); exact Kd.R_mono (Kd.R_far (p := ⟨gb502, 0, none⟩) (Kd.R_types HO_4.out BK502.out (by decide)) (fun _ hk => hk.2) (.slice Ao54 t511.length co54)) (fun _ hk => hk.1.2)⟩, ⟨by (with_reducible repeat (first | apply Kd.R_alloc | apply Kd.R_drewN | apply Kd.R_drew)); exact Kd.R_mono (Kd.R_far (p := ⟨gb502, 0, none⟩) (Kd.R_types HO513.out BK502.out (by decide)) (fun _ hk => hk.2) (.slice Ao54 t511.length co54)) (fun _ hk => hk.1.2)⟩, ⟨by (with_reducible repeat (first | refine blk_drewN ?_ _ | refine blk_drew ?_ | refine blk_alloc ?_ _)); refine blk_far ?_ NB488_502.out _; (with_reducible repeat (first | refine blk_drewN ?_ _ | refine blk_drew ?_ | refine blk_alloc ?_ _)); exact BK488.out⟩, ⟨by (with_reducible repeat (first | refine blk_drewN ?_ _ | refine blk_drew ?_ | refine blk_alloc ?_ _)); refine blk_put (cs := #[.slice none 0 0, .string t501, .string (rdOf ByteArray.empty t493 (ji5)), .string (⟨#[]⟩ : ByteArray)]) ?_ 0 _ rfl; (with_reducible repeat (first | refine blk_drewN ?_ _ | refine blk_drew ?_ | refine blk_alloc ?_ _)); exact BK502.out⟩, ⟨by repeat (first | (with_reducible first | exact HB.out | apply below_alloc | apply pw_below_drewN | apply below_drew1 | refine below_set ?_ GE488.out | refine below_set ?_ GE502.out) | exact HB.out)⟩⟩) | (exact ⟨_, (((bt (rdOf ByteArray.empty t489 2) 0) != 32)), au89, H', ⟨by first | omega | exact Nat.le_refl _⟩, ⟨by (with_reducible repeat (first | apply Kd.R_alloc | apply Kd.R_drewN | apply Kd.R_drew)); exact Kd.R_mono (Kd.R_far (p := ⟨gb502, 3, none⟩) (Kd.R_far (p := ⟨gb502, 2, none⟩) (Kd.R_far (p := ⟨gb502, 1, none⟩) (Kd.R_far (p := ⟨gb502, 0, none⟩) (Kd.R_types HO491.out BK502.out (by decide)) (fun _ hk => hk.2) (.slice none 0 0)) (fun _ hk => hk.2) (.string t501)) (fun _ hk => hk.2) (.string (rdOf ByteArray.empty t493 (ji5)))) (fun _ hk => hk.2) (.string (⟨#[]⟩ : ByteArray))) (fun _ hk => trivial)⟩, ⟨by (with_reducible repeat (first | refine blk_drewN ?_ _ | refine blk_drew ?_ | refine blk_alloc ?_ _)); refine blk_far ?_ NB488_502.out _; (with_reducible repeat (first | refine blk_drewN ?_ _ | refine blk_drew ?_ | refine blk_alloc ?_ _)); refine blk_far ?_ NB488_502.out _; (with_reducible repeat (first | refine blk_drewN ?_ _ | refine blk_drew ?_ | refine blk_alloc ?_ _)); refine blk_far ?_ NB488_502.out _; (with_reducible repeat (first | refine blk_drewN ?_ _ | refine blk_drew ?_ | refine blk_alloc ?_ _)); refine blk_far ?_ NB488_502.out _; (with_reducible repeat (first | refine blk_drewN ?_ _ | refine blk_drew ?_ | refine blk_alloc ?_ _)); exact BK488.out⟩, ⟨by (with_reducible repeat (first | refine blk_drewN ?_ _ | refine blk_drew ?_ | refine blk_alloc ?_ _)); refine blk_put (cs := #[.slice none 0 0, .string t501, .string (rdOf ByteArray.empty t493 (ji5)), .string (⟨#[]⟩ : ByteArray)]) ?_ 3 _ rfl; (with_reducible repeat (first | refine blk_drewN ?_ _ | refine blk_drew ?_ | refine blk_alloc ?_ _)); refine blk_put (cs := #[.slice none 0 0, .string t501, .string (⟨#[]⟩ : ByteArray), .string (⟨#[]⟩ : ByteArray)]) ?_ 2 _ rfl; (with_reducible repeat (first | refine blk_drewN ?_ _ | refine blk_drew ?_ | refine blk_alloc ?_ _)); refine blk_put (cs := #[.slice none 0 0, .string (⟨#[]⟩ : ByteArray), .string (⟨#[]⟩ : ByteArray), .string (⟨#[]⟩ : ByteArray)]) ?_ 1 _ rfl; (with_reducible repeat (first | refine blk_drewN ?_ _ | refine blk_drew ?_ | refine blk_alloc ?_ _)); refine blk_put (cs := #[.slice none 0 0, .string (⟨#[]⟩ : ByteArray), .string (⟨#[]⟩ : ByteArray), .string (⟨#[]⟩ : ByteArray)]) ?_ 0 _ rfl; (with_reducible repeat (first | refine blk_drewN ?_ _ | refine blk_drew ?_ | refine blk_alloc ?_ _)); exact BK502.out⟩, ⟨by repeat (first | (with_reducible first | exact HB.out | apply below_alloc | apply pw_below_drewN | apply below_drew1 | refine below_set ?_ GE488.out | refine below_set ?_ GE502.out) | exact HB.out)⟩⟩) | (exact ⟨_, (false), au89, H', ⟨by first | omega | exact Nat.le_refl _⟩, ⟨by (with_reducible repeat (first | apply Kd.R_alloc | apply Kd.R_drewN | apply Kd.R_drew)); exact Kd.R_mono (Kd.R_far (p := ⟨gb502, 3, none⟩) (Kd.R_far (p := ⟨gb502, 2, none⟩) (Kd.R_far (p := ⟨gb502, 1, none⟩) (Kd.R_far (p := ⟨gb502, 0, none⟩) (Kd.R_types HO491.out BK502.out (by decide)) (fun _ hk => hk.2) (.slice none 0 0)) (fun _ hk => hk.2) (.string t501)) (fun _ hk => hk.2) (.string (rdOf ByteArray.empty t493 (ji5)))) (fun _ hk => hk.2) (.string (⟨#[]⟩ : ByteArray))) (fun _ hk => trivial)⟩, ⟨by (with_reducible repeat (first | refine blk_drewN ?_ _ | refine blk_drew ?_ | refine blk_alloc ?_ _)); refine blk_far ?_ NB488_502.out _; (with_reducible repeat (first | refine blk_drewN ?_ _ | refine blk_drew ?_ | refine blk_alloc ?_ _)); refine blk_far ?_ NB488_502.out _; (with_reducible repeat (first | refine blk_drewN ?_ _ | refine blk_drew ?_ | refine blk_alloc ?_ _)); refine blk_far ?_ NB488_502.out _; (with_reducible repeat (first | refine blk_drewN ?_ _ | refine blk_drew ?_ | refine blk_alloc ?_ _)); refine blk_far ?_ NB488_502.out _; (with_reducible repeat (first | refine blk_drewN ?_ _ | refine blk_drew ?_ | refine blk_alloc ?_ _)); exact BK488.out⟩, ⟨by (with_reducible repeat (first | refine blk_drewN ?_ _ | refine blk_drew ?_ | refine blk_alloc ?_ _)); refine blk_put (cs := #[.slice none 0 0, .string t501, .string (rdOf ByteArray.empty t493 (ji5)), .string (⟨#[]⟩ : ByteArray)]) ?_ 3 _ rfl; (with_reducible repeat (first | refine blk_drewN ?_ _ | refine blk_drew ?_ | refine blk_alloc ?_ _)); refine blk_put (cs := #[.slice none 0 0, .string t501, .string (⟨#[]⟩ : ByteArray), .string (⟨#[]⟩ : ByteArray)]) ?_ 2 _ rfl; (with_reducible repeat (first | refine blk_drewN ?_ _ | refine blk_drew ?_ | refine blk_alloc ?_ _)); refine blk_put (cs := #[.slice none 0 0, .string (⟨#[]⟩ : ByteArray), .string (⟨#[]⟩ : ByteArray), .string (⟨#[]⟩ : ByteArray)]) ?_ 1 _ rfl; (with_reducible repeat (first | refine blk_drewN ?_ _ | refine blk_drew ?_ | refine blk_alloc ?_ _)); refine blk_put (cs := #[.slice none 0 0, .string (⟨#[]⟩ : ByteArray), .string (⟨#[]⟩ : ByteArray), .string (⟨#[]⟩ : ByteArray)]) ?_ 0 _ rfl; (with_reducible repeat (first | refine blk_drewN ?_ _ | refine blk_drew ?_ | refine blk_alloc ?_ _)); exact BK502.out⟩, ⟨by repeat (first | (with_reducible first | exact HB.out | apply below_alloc | apply pw_below_drewN | apply below_drew1 | refine below_set ?_ GE488.out | refine below_set ?_ GE502.out) | exact HB.out)⟩⟩) | (exact ⟨_, (true), au89, H', ⟨by first | omega | exact Nat.le_refl _⟩, ⟨by (with_reducible repeat (first | apply Kd.R_alloc | apply Kd.R_drewN | apply Kd.R_drew)); exact Kd.R_mono (Kd.R_far (p := ⟨gb502, 3, none⟩) (Kd.R_far (p := ⟨gb502, 2, none⟩) (Kd.R_far (p := ⟨gb502, 1, none⟩) (Kd.R_far (p := ⟨gb502, 0, none⟩) (Kd.R_types HO491.out BK502.out (by decide)) (fun _ hk => hk.2) (.slice none 0 0)) (fun _ hk => hk.2) (.string t501)) (fun _ hk => hk.2) (.string (rdOf ByteArray.empty t493 (ji5)))) (fun _ hk => hk.2) (.string (⟨#[]⟩ : ByteArray))) (fun _ hk => trivial)⟩, ⟨by (with_reducible repeat (first | refine blk_drewN ?_ _ | refine blk_drew ?_ | refine blk_alloc ?_ _)); refine blk_far ?_ NB488_502.out _; (with_reducible repeat (first | refine blk_drewN ?_ _ | refine blk_drew ?_ | refine blk_alloc ?_ _)); refine blk_far ?_ NB488_502.out _; (with_reducible repeat (first | refine blk_drewN ?_ _ | refine blk_drew ?_ | refine blk_alloc ?_ _)); refine blk_far ?_ NB488_502.out _; (with_reducible repeat (first | refine blk_drewN ?_ _ | refine blk_drew ?_ | refine blk_alloc ?_ _)); refine blk_far ?_ NB488_502.out _; (with_reducible repeat (first | refine blk_drewN ?_ _ | refine blk_drew ?_ | refine blk_alloc ?_ _)); exact BK488.out⟩, ⟨by (with_reducible repeat (first | refine blk_drewN ?_ _ | refine blk_drew ?_ | refine blk_alloc ?_ _)); refine blk_put (cs := #[.slice none 0 0, .string t501, .string (rdOf ByteArray.empty t493 (ji5)), .string (⟨#[]⟩ : ByteArray)]) ?_ 3 _ rfl; (with_reducible repeat (first | refine blk_drewN ?_ _ | refine blk_drew ?_ | refine blk_alloc ?_ _)); refine blk_put (cs := #[.slice none 0 0, .string t501, .string (⟨#[]⟩ : ByteArray), .string (⟨#[]⟩ : ByteArray)]) ?_ 2 _ rfl; (with_reducible repeat (first | refine blk_drewN ?_ _ | refine blk_drew ?_ | refine blk_alloc ?_ _)); refine blk_put (cs := #[.slice none 0 0, .string (⟨#[]⟩ : ByteArray), .string (⟨#[]⟩ : ByteArray), .string (⟨#[]⟩ : ByteArray)]) ?_ 1 _ rfl; (with_reducible repeat (first | refine blk_drewN ?_ _ | refine blk_drew ?_ | refine blk_alloc ?_ _)); refine blk_put (cs := #[.slice none 0 0, .string (⟨#[]⟩ : ByteArray), .string (⟨#[]⟩ : ByteArray), .string (⟨#[]⟩ : ByteArray)]) ?_ 0 _ rfl; (with_reducible repeat (first | refine blk_drewN ?_ _ | refine blk_drew ?_ | refine blk_alloc ?_ _)); exact BK502.out⟩, ⟨by repeat (first | (with_reducible first | exact HB.out | apply below_alloc | apply pw_below_drewN | apply below_drew1 | refine below_set ?_ GE488.out | refine below_set ?_ GE502.out) | exact HB.out)⟩⟩) | (exact ⟨_, (([] : List ByteArray)), (.slice none 0 0), H', ⟨by have := HJ10.out; have := HJ44.out; first | omega | exact Nat.le_refl _⟩, ⟨by (with_reducible repeat (first | apply Kd.R_alloc | apply Kd.R_drewN | apply Kd.R_drew)); exact Kd.R_mono HO_4.out (fun _ hk => (by simp [Value.ownBlock]))⟩, ⟨by first | exact Kd.R_nil _ _ _ _ _ | exact Kd.N_nil _ _ _ _ _ | exact Kd.V_nil _ _ _ _ _ | exact Kd.Q_nil _ _ _ _ _ | exact Kd.S_nil _ _ _ _ _⟩, ⟨by (with_reducible repeat (first | refine blk_drewN ?_ _ | refine blk_drew ?_ | refine blk_alloc ?_ _)); exact BK488.out⟩, ⟨by (with_reducible repeat (first | refine blk_drewN ?_ _ | refine blk_drew ?_ | refine blk_alloc ?_ _)); exact BK502.out⟩, ⟨by repeat (first | (with_reducible first | exact HB.out | apply below_alloc | apply pw_below_drewN | apply below_drew1 | refine below_set ?_ GE488.out | refine below_set ?_ GE502.out) | exact HB.out)⟩⟩) | (exact ⟨_, (decide (((rdOf ByteArray.empty t489 1).size : Int) > 1)), au89, H', ⟨by have := HJ10.out; first | omega | exact Nat.le_refl _⟩, ⟨by (with_reducible repeat (first | apply Kd.R_alloc | apply Kd.R_drewN | apply Kd.R_drew)); exact HO_4.out⟩, ⟨by (with_reducible repeat (first | refine blk_drewN ?_ _ | refine blk_drew ?_ | refine blk_alloc ?_ _)); exact BK488.out⟩, ⟨by (with_reducible repeat (first | refine blk_drewN ?_ _ | refine blk_drew ?_ | refine blk_alloc ?_ _)); exact BK502.out⟩, ⟨by repeat (first | (with_reducible first | exact HB.out | apply below_alloc | apply pw_below_drewN | apply below_drew1 | refine below_set ?_ GE488.out | refine below_set ?_ GE502.out) | exact HB.out)⟩⟩) | (exact ⟨_, ((⟨#[]⟩ : ByteArray)), H', ⟨by have := HJ10.out; have := HJ44.out; have := HJ47.out; first | omega | exact Nat.le_refl _⟩, ⟨by (with_reducible repeat (first | apply Kd.R_alloc | apply Kd.R_drewN | apply Kd.R_drew)); exact Kd.R_mono HO_503000.out (fun _ hk => trivial)⟩, ⟨by (with_reducible repeat (first | refine blk_drewN ?_ _ | refine blk_drew ?_ | refine blk_alloc ?_ _)); exact BK488.out⟩, ⟨by (with_reducible repeat (first | refine blk_drewN ?_ _ | refine blk_drew ?_ | refine blk_alloc ?_ _)); exact BK502.out⟩, ⟨by repeat (first | (with_reducible first | exact HB.out | apply below_alloc | apply pw_below_drewN | apply below_drew1 | refine below_set ?_ GE488.out | refine below_set ?_ GE502.out) | exact HB.out)⟩⟩) | (exact ⟨_, (false), au89, H', ⟨by have := HJ10.out; first | omega | exact Nat.le_refl _⟩, ⟨by (with_reducible repeat (first | apply Kd.R_alloc | apply Kd.R_drewN | apply Kd.R_drew)); exact HO_4.out⟩, ⟨by (with_reducible repeat (first | refine blk_drewN ?_ _ | refine blk_drew ?_ | refine blk_alloc ?_ _)); exact BK488.out⟩, ⟨by (with_reducible repeat (first | refine blk_drewN ?_ _ | refine blk_drew ?_ | refine blk_alloc ?_ _)); exact BK502.out⟩, ⟨by repeat (first | (with_reducible first | exact HB.out | apply below_alloc | apply pw_below_drewN | apply below_drew1 | refine below_set ?_ GE488.out | refine below_set ?_ GE502.out) | exact HB.out)⟩⟩)) : P := h
set_option maxHeartbeats 8000000 in
set_option maxRecDepth 100000 in
theorem spec_l2Parse.calls (k : Nat) (a0 : ByteArray) (r1 : List ByteArray) (r2 : ByteArray) (r3 : ByteArray) (r4 : ByteArray) (r5 : Bool) (w : World) (h : spec_l2Parse.f k a0 = some (r1, r2, r3, r4, r5)) :
  Calls Tryd.prog 59 #[.string a0] w fun e w' => ∃ v0_ : Value, e = .returned (.tuple #[.agg #[v0_, .string r2, .string r3, .string r4], .bool r5]) ∧ Kd.R Kd.string 9 w' w.heap.size (fun _ => True) v0_ r1 ∧ Below w.heap.size w w' := by
 have hu27 := Tryd.underlying27
 have HB := Aside0.mk (Below.refl w.heap.size w)
 have H : ((spec_l1Split.f k a0 44).bind fun t489 => (if 0 < (t489.length : Int) then ((spec_l1Split.f k (rdOf ByteArray.empty t489 0) 32).bind fun t493 => (if 0 ≤ (wrap64 ((t493.length : Int) - 1)) then (if (wrap64 ((t493.length : Int) - 1)) < (t493.length : Int) then (if (wrap64 ((t493.length : Int) - 1)) ≤ (t493.length : Int) then ((spec_l2Join.f k (t493.take ((wrap64 ((t493.length : Int) - 1)) : Int).toNat)).bind fun t501 => (if (t489.length : Int) > 3 then (spec_l2Parse.j0 k a0 t489 true t501 (rdOf ByteArray.empty t493 (wrap64 ((t493.length : Int) - 1))) (⟨#[]⟩ : ByteArray)) else (if (t489.length : Int) > 1 then (if 1 < (t489.length : Int) then (if (rdOf ByteArray.empty t489 1).toList = ([] : List UInt8) then (spec_l2Parse.j0 k a0 t489 true t501 (rdOf ByteArray.empty t493 (wrap64 ((t493.length : Int) - 1))) (⟨#[]⟩ : ByteArray)) else (if 0 < ((rdOf ByteArray.empty t489 1).size : Int) then (if (bt (rdOf ByteArray.empty t489 1) 0) = 32 then (if (t489.length : Int) > 2 then (if 2 < (t489.length : Int) then (if (rdOf ByteArray.empty t489 2).toList = ([] : List UInt8) then (spec_l2Parse.j0 k a0 t489 true t501 (rdOf ByteArray.empty t493 (wrap64 ((t493.length : Int) - 1))) (⟨#[]⟩ : ByteArray)) else (if 0 < ((rdOf ByteArray.empty t489 2).size : Int) then (spec_l2Parse.j0 k a0 t489 ((bt (rdOf ByteArray.empty t489 2) 0) != 32) t501 (rdOf ByteArray.empty t493 (wrap64 ((t493.length : Int) - 1))) (⟨#[]⟩ : ByteArray)) else (none))) else (none)) else (spec_l2Parse.j0 k a0 t489 false t501 (rdOf ByteArray.empty t493 (wrap64 ((t493.length : Int) - 1))) (⟨#[]⟩ : ByteArray))) else (spec_l2Parse.j0 k a0 t489 true t501 (rdOf ByteArray.empty t493 (wrap64 ((t493.length : Int) - 1))) (⟨#[]⟩ : ByteArray))) else (none))) else (none)) else (if (t489.length : Int) > 2 then (if 2 < (t489.length : Int) then (if (rdOf ByteArray.empty t489 2).toList = ([] : List UInt8) then (spec_l2Parse.j0 k a0 t489 true t501 (rdOf ByteArray.empty t493 (wrap64 ((t493.length : Int) - 1))) (⟨#[]⟩ : ByteArray)) else (if 0 < ((rdOf ByteArray.empty t489 2).size : Int) then (spec_l2Parse.j0 k a0 t489 ((bt (rdOf ByteArray.empty t489 2) 0) != 32) t501 (rdOf ByteArray.empty t493 (wrap64 ((t493.length : Int) - 1))) (⟨#[]⟩ : ByteArray)) else (none))) else (none)) else (spec_l2Parse.j0 k a0 t489 false t501 (rdOf ByteArray.empty t493 (wrap64 ((t493.length : Int) - 1))) (⟨#[]⟩ : ByteArray)))))) else (none)) else (none)) else (none))) else (none))) = some (r1, r2, r3, r4, r5) := h
 clear h
 replace H := Option.bind_eq_some_iff.mp H
 obtain ⟨t489, A20, H⟩ := H
 try dsimp only at H
 have A2 := Aside0.mk A20
 clear A20
 by_cases c3 : 0 < (t489.length : Int)
 ·
  rw [if_pos c3] at H
  have c3b0 : decide (0 < (t489.length : Int)) = true := decide_eq_true c3
  have c3b1 : decide (0 < t489.length) = true := decide_eq_true (by omega)
  clear c3
  replace H := Option.bind_eq_some_iff.mp H
  obtain ⟨t493, A40, H⟩ := H
  try dsimp only at H
  have A4 := Aside0.mk A40
  clear A40
  obtain ⟨ji5, hji5⟩ : ∃ j_ : Int, (wrap64 ((t493.length : Int) - 1)) = j_ := ⟨_, rfl⟩
  replace H : (if 0 ≤ (ji5) then (if (ji5) < (t493.length : Int) then (if (ji5) ≤ (t493.length : Int) then ((spec_l2Join.f k (t493.take ((ji5) : Int).toNat)).bind fun t501 => (if (t489.length : Int) > 3 then (spec_l2Parse.j0 k a0 t489 true t501 (rdOf ByteArray.empty t493 (ji5)) (⟨#[]⟩ : ByteArray)) else (if (t489.length : Int) > 1 then (if 1 < (t489.length : Int) then (if (rdOf ByteArray.empty t489 1).toList = ([] : List UInt8) then (spec_l2Parse.j0 k a0 t489 true t501 (rdOf ByteArray.empty t493 (ji5)) (⟨#[]⟩ : ByteArray)) else (if 0 < ((rdOf ByteArray.empty t489 1).size : Int) then (if (bt (rdOf ByteArray.empty t489 1) 0) = 32 then (if (t489.length : Int) > 2 then (if 2 < (t489.length : Int) then (if (rdOf ByteArray.empty t489 2).toList = ([] : List UInt8) then (spec_l2Parse.j0 k a0 t489 true t501 (rdOf ByteArray.empty t493 (ji5)) (⟨#[]⟩ : ByteArray)) else (if 0 < ((rdOf ByteArray.empty t489 2).size : Int) then (spec_l2Parse.j0 k a0 t489 ((bt (rdOf ByteArray.empty t489 2) 0) != 32) t501 (rdOf ByteArray.empty t493 (ji5)) (⟨#[]⟩ : ByteArray)) else (none))) else (none)) else (spec_l2Parse.j0 k a0 t489 false t501 (rdOf ByteArray.empty t493 (ji5)) (⟨#[]⟩ : ByteArray))) else (spec_l2Parse.j0 k a0 t489 true t501 (rdOf ByteArray.empty t493 (ji5)) (⟨#[]⟩ : ByteArray))) else (none))) else (none)) else (if (t489.length : Int) > 2 then (if 2 < (t489.length : Int) then (if (rdOf ByteArray.empty t489 2).toList = ([] : List UInt8) then (spec_l2Parse.j0 k a0 t489 true t501 (rdOf ByteArray.empty t493 (ji5)) (⟨#[]⟩ : ByteArray)) else (if 0 < ((rdOf ByteArray.empty t489 2).size : Int) then (spec_l2Parse.j0 k a0 t489 ((bt (rdOf ByteArray.empty t489 2) 0) != 32) t501 (rdOf ByteArray.empty t493 (ji5)) (⟨#[]⟩ : ByteArray)) else (none))) else (none)) else (spec_l2Parse.j0 k a0 t489 false t501 (rdOf ByteArray.empty t493 (ji5)) (⟨#[]⟩ : ByteArray)))))) else (none)) else (none)) else (none)) = some (r1, r2, r3, r4, r5) := by first | (rw [hji5] at H; exact H) | (simp only [hji5] at H ⊢; exact H)
  (try rw [hji5] at A2)
  (try rw [hji5] at A4)
  have hji5w : (IntKind.i64.wrap ((t493.length : Int) - 1)) = ji5 := (i64_w _).trans hji5
  by_cases c6 : 0 ≤ (ji5)
  ·
   rw [if_pos c6] at H
   have c6b0 : decide (0 ≤ (ji5)) = true := decide_eq_true c6
   clear c6
   by_cases c7 : (ji5) < (t493.length : Int)
   ·
    rw [if_pos c7] at H
    have c7b0 : decide ((ji5) < (t493.length : Int)) = true := decide_eq_true c7
    clear c7
    have c8b0 := eq_true (of_decide_eq_true au88 : 0 ≤ (ji5))
    by_cases c9 : (ji5) ≤ (t493.length : Int)
    ·
     rw [if_pos c9] at H
     have c9b0 := eq_true c9
     have c9b1 : decide ((ji5) ≤ (t493.length : Int)) = true := decide_eq_true c9
     clear c9
     obtain ⟨y497, hy497⟩ : ∃ y_ : List ByteArray, y_ = (t493.take ((ji5) : Int).toNat) := ⟨_, rfl⟩
     replace H : ((spec_l2Join.f k y497).bind fun t501 => (if (t489.length : Int) > 3 then (spec_l2Parse.j0 k a0 t489 true t501 (rdOf ByteArray.empty t493 (ji5)) (⟨#[]⟩ : ByteArray)) else (if (t489.length : Int) > 1 then (if 1 < (t489.length : Int) then (if (rdOf ByteArray.empty t489 1).toList = ([] : List UInt8) then (spec_l2Parse.j0 k a0 t489 true t501 (rdOf ByteArray.empty t493 (ji5)) (⟨#[]⟩ : ByteArray)) else (if 0 < ((rdOf ByteArray.empty t489 1).size : Int) then (if (bt (rdOf ByteArray.empty t489 1) 0) = 32 then (if (t489.length : Int) > 2 then (if 2 < (t489.length : Int) then (if (rdOf ByteArray.empty t489 2).toList = ([] : List UInt8) then (spec_l2Parse.j0 k a0 t489 true t501 (rdOf ByteArray.empty t493 (ji5)) (⟨#[]⟩ : ByteArray)) else (if 0 < ((rdOf ByteArray.empty t489 2).size : Int) then (spec_l2Parse.j0 k a0 t489 ((bt (rdOf ByteArray.empty t489 2) 0) != 32) t501 (rdOf ByteArray.empty t493 (ji5)) (⟨#[]⟩ : ByteArray)) else (none))) else (none)) else (spec_l2Parse.j0 k a0 t489 false t501 (rdOf ByteArray.empty t493 (ji5)) (⟨#[]⟩ : ByteArray))) else (spec_l2Parse.j0 k a0 t489 true t501 (rdOf ByteArray.empty t493 (ji5)) (⟨#[]⟩ : ByteArray))) else (none))) else (none)) else (if (t489.length : Int) > 2 then (if 2 < (t489.length : Int) then (if (rdOf ByteArray.empty t489 2).toList = ([] : List UInt8) then (spec_l2Parse.j0 k a0 t489 true t501 (rdOf ByteArray.empty t493 (ji5)) (⟨#[]⟩ : ByteArray)) else (if 0 < ((rdOf ByteArray.empty t489 2).size : Int) then (spec_l2Parse.j0 k a0 t489 ((bt (rdOf ByteArray.empty t489 2) 0) != 32) t501 (rdOf ByteArray.empty t493 (ji5)) (⟨#[]⟩ : ByteArray)) else (none))) else (none)) else (spec_l2Parse.j0 k a0 t489 false t501 (rdOf ByteArray.empty t493 (ji5)) (⟨#[]⟩ : ByteArray)))))) = some (r1, r2, r3, r4, r5) := by first | (rw [hy497]; with_reducible exact H) | (have H2_ := (Option.bind_some _ _).symm.trans H; rw [hy497]; with_reducible exact H2_) | (have H2_ := (Option.bind_some _ _).symm.trans H; with_reducible exact H2_) | with_reducible exact H | (rw [hy497]; exact H) | exact H
     have Ny497 := Aside0.mk hy497
     clear hy497
     replace H := Option.bind_eq_some_iff.mp H
     obtain ⟨t501, A100, H⟩ := H
     try dsimp only at H
     have A10 := Aside0.mk A100
     clear A100
     have HC11 := Aside0.mk H
     clear H
     go_enter Tryd.func59, Tryd.ntmps59
     try go_wp2_with (first | ((with_reducible refine gate_dst (N := 2) rfl ?_); (try (refine gate_guard (by rfl) ?_; dsimp only)); refine box_event ?hg (N := 2) ?hd (cs := #[.slice none 0 0, .string (⟨#[]⟩ : ByteArray), .string (⟨#[]⟩ : ByteArray), .string (⟨#[]⟩ : ByteArray)]) (t := 27) ?hr ?_; (case hd => rfl); (case hg => rfl); (case hr => first | (go_simp; done) | (go_simp; rfl)); intro gb488 hg w12 hbox hb; have n0_ := Aside0.mk (below_step au41 hb); have n1_ := Aside0.mk (hbox); have n2_ := Aside0.mk ((by rw [hg]; exact (below_size au41) : w.heap.size ≤ gb488)); have n3_ := Aside0.mk ((by rw [hg]; exact (below_size au41) : w.heap.size ≤ gb488)); clear HB; have HB := n0_; have BK488 := n1_; have GW488 := n2_; have GE488 := n3_; clear n0_ n1_ n2_ n3_; clear hb hbox hg) | ((with_reducible refine gate_callee (f := 85) rfl ?_); refine goesL_ (some 8) rfl rfl Tryd.func85 (by kernel_rfl) rfl #[.string a0, .int .u8 44] rfl au38 ?_; (with_reducible refine (spec_l1Split.calls k a0 44 t489 _ A2.out).mono ?_); rintro e w13 ⟨v490, rfl, ho0, hb⟩; refine ⟨_, rfl, ?_⟩; have n0_ := Aside0.mk (Kd.R_lower ho0 (below_size au26)); have n1_ := Aside0.mk (blk_below (g := gb488) (o := .cells #[.slice none 0 0, .string (⟨#[]⟩ : ByteArray), .string (⟨#[]⟩ : ByteArray), .string (⟨#[]⟩ : ByteArray)] 27 (0, 0)) au62 hb); have n2_ := Aside0.mk (below_step au26 hb); clear BK488; clear HB; have HO491 := n0_; have BK488 := n1_; have HB := n2_; clear n0_ n1_ n2_; (try clear hb); (try clear hb2); (try clear hk); (try clear hi); (try clear ho0); obtain ⟨Ao14, co14, eo14⟩ := Kd.R_slice HO491.out; subst eo14; have p492 : 0 ≤ (0 : Int) := (by omega); have q492 : 0 < (t489.length : Int) := of_decide_eq_true au88; obtain ⟨ad492, e492, hx492_0⟩ := Kd.at_string (Kd.R_reads' HO491.out).2.2 0 p492 q492; cases e492; have qi492 : (0 < t489.length) = True := eq_true (by omega); (try rw [show ((0 : Int)).toNat = 0 from rfl] at hx492_0); (try rw [Addr.add_zero'] at hx492_0); replace p492 := eq_true p492; replace q492 := eq_true q492) | ((with_reducible refine gate_callee (f := 85) rfl ?_); refine goesL_ (some 12) rfl rfl Tryd.func85 (by kernel_rfl) rfl #[.string (rdOf ByteArray.empty t489 0), .int .u8 32] rfl au38 ?_; (with_reducible refine (spec_l1Split.calls k (rdOf ByteArray.empty t489 0) 32 t493 _ A4.out).mono ?_); rintro e w15 ⟨v494, rfl, ho0, hb⟩; refine ⟨_, rfl, ?_⟩; have n0_ := Aside0.mk (Kd.R_elder' au81 (Kd.R_base ho0) hb); have n1_ := Aside0.mk (Kd.R_lower (Kd.R_new' ho0 (Kd.R_lt au81)) (below_size au26)); have n2_ := Aside0.mk (blk_below (g := gb488) (o := .cells #[.slice none 0 0, .string (⟨#[]⟩ : ByteArray), .string (⟨#[]⟩ : ByteArray), .string (⟨#[]⟩ : ByteArray)] 27 (0, 0)) au62 hb); have n3_ := Aside0.mk (below_step au26 hb); clear HO491; clear BK488; clear HB; have HO491 := n0_; have HO495 := n1_; have BK488 := n2_; have HB := n3_; clear n0_ n1_ n2_ n3_; (try clear hb); (try clear hb2); (try clear hk); (try clear hi); (try clear ho0)))
     have n0_ := Aside0.mk (Kd.R_drew HO491.out)
     have n1_ := Aside0.mk (Kd.R_drew HO495.out)
     have n2_ := Aside0.mk (blk_drew BK488.out)
     have n3_ := Aside0.mk (below_drew1 HB.out)
     clear HO491
     clear HO495
     clear BK488
     clear HB
     have HO491 := n0_
     have HO495 := n1_
     have BK488 := n2_
     have HB := n3_
     clear n0_ n1_ n2_ n3_
     obtain ⟨Ao17, co17, eo17⟩ := Kd.R_slice HO495.out
     (first | subst eo17 | (injection eo17 with f1_ f2_ f3_; have f4_ := f1_.symm; have f5_ := f3_.symm; clear f1_ f2_ f3_; subst f4_; subst f5_))
     have p496 : 0 ≤ ((ji5) : Int) := of_decide_eq_true au88
     have q496 : (ji5) < (t493.length : Int) := of_decide_eq_true au88
     obtain ⟨ad496, e496, hx496_0⟩ := Kd.at_string (Kd.R_reads' HO495.out).2.2 (ji5) p496 q496
     cases e496
     replace p496 := eq_true p496
     replace q496 := eq_true q496
     have q18 : ((ji5) : Int) ≤ ((t493.length : Int) : Int) := of_decide_eq_true au88
     obtain ⟨i018, hi018, _, hsz18, _⟩ := info_parts info9
     have hroom18 : t493.length ≤ co17 := (Kd.R_reads' HO495.out).2.1
     have hC18 : Kd.C Kd.string _ (some ad496) t493.length t493 := (Kd.R_reads' HO495.out).2.2
     have hcut18 := cut_to (P := Tryd.prog) 22 9 .i64 Tryd.underlying22 hi018 (some ad496) t493.length co17 (ji5) (of_decide_eq_true au88) q18 hroom18
     have hr18 := Kd.C_take (m := ((ji5) : Int).toNat) hC18 (by omega)
     have hy18 : y497.length = ((ji5) : Int).toNat := (by rw [Ny497.out, List.length_take]; omega)
     rw [← Ny497.out] at hr18
     rw [← hy18] at hcut18
     have HR500 := Aside0.mk hr18
     have HC500 := Aside0.mk (show y497.length ≤ co17 from by omega)
     clear hr18 hC18 hroom18 hi018 hsz18
     have KY18 := Aside0.mk hy18
     clear hy18
     have KL18 := Aside0.mk (show ((ji5) : Int).toNat ≤ t493.length from by omega)
     replace q18 := eq_true q18
     refine start_ (n := 15) (S := fun w' => w'.cell? (ad496.add ((ji5)).toNat) = some (.string (rdOf ByteArray.empty t493 (ji5)))) (ds := []) #[false, false, false, false, false, false, false, false, false, false, false, false, false, false, false] (by kernel_rfl) rfl rfl (hx496_0) (fun hHeld => ?_); refine with_tabW spec_l2Parse.tab3 spec_l2Parse.bits3 (fun HT_ HW_ => ?_)
     generalize w15.drew = w16 at HO491 HO495 BK488 HB HR500 hx496_0 hHeld ⊢
     refine pure_ (i := 0) (N := some 13) (v := ?_) (a' := ?_) #[true, false, false, false, false, false, false, false, false, false, false, false, false, false, false] rfl rfl (any_of HT_.out (by kernel_rfl)) (fun _ _ _ h => h) (Or.inl ⟨by rfl, ?_⟩) ?_ ?_
     rotate_left
     ·
      intro w'
      go_simp
      with_reducible rfl
     rotate_left
     ·
      simp only [Act.put, List.setIfInBounds_toArray, List.set_cons_zero, List.set_cons_succ, i64_w, i32_w]
      rfl
     refine pure_ (i := 1) (N := some 14) (v := ?_) (a' := ?_) #[true, true, false, false, false, false, false, false, false, false, false, false, false, false, false] rfl rfl (any_of HT_.out (by kernel_rfl)) (fun _ _ _ h => h) (Or.inl ⟨by rfl, ?_⟩) ?_ ?_
     rotate_left
     ·
      intro w'
      go_simp
      with_reducible rfl
     rotate_left
     ·
      simp only [Act.put, List.setIfInBounds_toArray, List.set_cons_zero, List.set_cons_succ, i64_w, i32_w]
      rfl
     refine pure_ (i := 2) (N := some 15) (v := ?_) (a' := ?_) #[true, true, true, false, false, false, false, false, false, false, false, false, false, false, false] rfl rfl (any_of HT_.out (by kernel_rfl)) (fun _ _ _ h => h) (Or.inl ⟨by rfl, ?_⟩) ?_ ?_
     rotate_left
     ·
      intro w'
      go_simp
      with_reducible rfl
     rotate_left
     ·
      simp only [Act.put, List.setIfInBounds_toArray, List.set_cons_zero, List.set_cons_succ, i64_w, i32_w]
      rfl
     refine pure_ (i := 3) (N := some 16) (v := ?_) (a' := ?_) #[true, true, true, true, false, false, false, false, false, false, false, false, false, false, false] rfl rfl (any_of HT_.out (by kernel_rfl)) (fun _ _ _ h => h) (Or.inl ⟨by rfl, ?_⟩) ?_ ?_
     rotate_left
     ·
      intro w'
      go_simp
      with_reducible rfl
     rotate_left
     ·
      simp only [Act.put, List.setIfInBounds_toArray, List.set_cons_zero, List.set_cons_succ, i64_w, i32_w]
      rfl
     refine pure_ (i := 4) (N := some 17) (v := ?_) (a' := ?_) #[true, true, true, true, true, false, false, false, false, false, false, false, false, false, false] rfl rfl (any_of HT_.out (by kernel_rfl)) (fun _ _ _ h => h) (Or.inl ⟨by rfl, ?_⟩) ?_ ?_
     rotate_left
     ·
      intro w'
      go_simp
      with_reducible rfl
     rotate_left
     ·
      simp only [Act.put, List.setIfInBounds_toArray, List.set_cons_zero, List.set_cons_succ, i64_w, i32_w]
      rfl
     refine pure_ (i := 6) (N := some 19) (v := ?_) (a' := ?_) #[true, true, true, true, true, false, true, false, false, false, false, false, false, false, false] rfl rfl (any_of HT_.out (by kernel_rfl)) (fun _ _ _ h => h) (Or.inl ⟨by rfl, ?_⟩) ?_ ?_
     rotate_left
     ·
      intro w'
      go_simp
      with_reducible rfl
     rotate_left
     ·
      simp only [Act.put, List.setIfInBounds_toArray, List.set_cons_zero, List.set_cons_succ, i64_w, i32_w]
      rfl
     refine pure_ (i := 7) (N := some 20) (v := ?_) (a' := ?_) #[true, true, true, true, true, false, true, true, false, false, false, false, false, false, false] rfl rfl (any_of HT_.out (by kernel_rfl)) (fun _ _ _ h => h) (Or.inl ⟨by rfl, ?_⟩) ?_ ?_
     rotate_left
     ·
      intro w'
      go_simp
      with_reducible rfl
     rotate_left
     ·
      simp only [Act.put, List.setIfInBounds_toArray, List.set_cons_zero, List.set_cons_succ, i64_w, i32_w]
      rfl
     refine pure_ (i := 8) (N := some 21) (v := ?_) (a' := ?_) #[true, true, true, true, true, false, true, true, true, false, false, false, false, false, false] rfl rfl (any_of HT_.out (by kernel_rfl)) (fun _ _ _ h => h) (Or.inl ⟨by rfl, ?_⟩) ?_ ?_
     rotate_left
     ·
      intro w'
      go_simp
      with_reducible rfl
     rotate_left
     ·
      simp only [Act.put, List.setIfInBounds_toArray, List.set_cons_zero, List.set_cons_succ, i64_w, i32_w]
      rfl
     refine pure_ (i := 9) (N := some 22) (v := ?_) (a' := ?_) #[true, true, true, true, true, false, true, true, true, true, false, false, false, false, false] rfl rfl (any_of HT_.out (by kernel_rfl)) (fun _ _ _ h => h) (Or.inl ⟨by rfl, ?_⟩) ?_ ?_
     rotate_left
     ·
      intro w'
      go_simp
      with_reducible rfl
     rotate_left
     ·
      simp only [Act.put, List.setIfInBounds_toArray, List.set_cons_zero, List.set_cons_succ, i64_w, i32_w]
      rfl
     refine pure_ (i := 10) (N := some 23) (v := ?_) (a' := ?_) #[true, true, true, true, true, false, true, true, true, true, true, false, false, false, false] rfl rfl (any_of HT_.out (by kernel_rfl)) (fun _ _ _ h => h) (Or.inl ⟨by rfl, ?_⟩) ?_ ?_
     rotate_left
     ·
      intro w'
      go_simp
      with_reducible rfl
     rotate_left
     ·
      simp only [Act.put, List.setIfInBounds_toArray, List.set_cons_zero, List.set_cons_succ, i64_w, i32_w]
      rfl
     refine take_ (i := 5) (N := some 18) (v := ?_) (a' := ?_) #[true, true, true, true, true, true, true, true, true, true, true, false, false, false, false] rfl rfl (take_ofW HT_.out HW_.out (by kernel_rfl)) (fun _ _ _ h => h) (Or.inl ⟨by rfl, ?_⟩) hHeld ?_ ?_
     rotate_left
     ·
      intro w' s0
      go_simp
      with_reducible rfl
     rotate_left
     ·
      simp only [Act.put, List.setIfInBounds_toArray, List.set_cons_zero, List.set_cons_succ, i64_w, i32_w]
      rfl
     refine join_ (σ := Nat) 1 #[true, true, true, true, true, true, true, true, true, true, true, true, true, true, false] (fun s_ => [(24, .string t501), (6, .pointer (some ⟨s_, 0, none⟩)), (25, .agg #[.slice none 0 0, .string t501, .string (rdOf ByteArray.empty t493 (ji5)), .string (⟨#[]⟩ : ByteArray)])]) (fun s_ w' => (w'.cell? (ad496.add ((ji5)).toNat) = some (.string (rdOf ByteArray.empty t493 (ji5)))) ∧ (Kd.R Kd.string 9 w' w.heap.size (fun k_ => some k_ ≠ (.slice (some ad496) t493.length co17 : Value).ownBlock) (.slice (some ad492) t489.length co14) t489) ∧ (Kd.R Kd.string 9 w' w.heap.size (fun k_ => some k_ ≠ (.slice (some ad492) t489.length co14 : Value).ownBlock) (.slice (some ad496) t493.length co17) t493) ∧ (w'.heap[gb488]? = some (.cells #[.slice none 0 0, .string (⟨#[]⟩ : ByteArray), .string (⟨#[]⟩ : ByteArray), .string (⟨#[]⟩ : ByteArray)] 27 (0, 0))) ∧ (w'.heap[s_]? = some (.cells #[.slice none 0 0, .string (⟨#[]⟩ : ByteArray), .string (⟨#[]⟩ : ByteArray), .string (⟨#[]⟩ : ByteArray)] 27 (0, 0))) ∧ (w.heap.size ≤ s_) ∧ (w.heap.size ≤ s_) ∧ (gb488 ≠ s_) ∧ (s_ ≠ gb488) ∧ (Below w.heap.size w w')) ?_ ?_
     rotate_left
     ·
      intro hCont
      refine two_ (i := 11) (j := 13) (Ni := some 24) (Nj := some 6) #[true, true, true, true, true, true, true, true, true, true, true, true, false, false, false] #[true, true, true, true, true, true, true, true, true, true, true, false, false, true, false] rfl rfl rfl rfl (two_of HT_.out (by kernel_rfl)) (by decide) (by decide) (fun K hK => ?_) (fun K hK => ?_)
      ·
       skip
       refine goes_ Tryd.func80 (by kernel_rfl) rfl #[.slice (some ad496) y497.length co17] (by rfl) rfl rfl au38 ?_
       with_reducible refine (spec_l2Join.calls k _ _ y497 t501 _ ?side1 ?side2 A10.out).mono ?_
       (case side1 => repeat (first | exact au19 | (with_reducible refine Kd.C_alloc ?_ _) | (with_reducible refine Kd.C_drewN ?_ _) | (with_reducible refine Kd.C_drew ?_)))
       (case side2 => exact HC500.out)
       rintro e w' ⟨rfl, ⟨nd, rfl⟩⟩
       refine ⟨_, rfl, ?_⟩
       refine hK.out _ _ (hHeld) (fun hHeld => ?_)
       clear hK K
       refine norm_ (a' := ?_) ?_ ?_
       rotate_left
       ·
        show Act.put _ (some 24) _ = _
        simp only [Act.put, List.setIfInBounds_toArray, List.set_cons_zero, List.set_cons_succ, i64_w, i32_w]
        rfl
       refine pure_ (i := 12) (N := some 25) (v := ?_) (a' := ?_) #[true, true, true, true, true, true, true, true, true, true, true, true, true, false, false] rfl rfl (any_of HT_.out (by kernel_rfl)) (fun _ _ _ h => h) (Or.inl ⟨by rfl, ?_⟩) ?_ ?_
       rotate_left
       ·
        intro w'
        go_simp
        with_reducible rfl
       rotate_left
       ·
        simp only [Act.put, List.setIfInBounds_toArray, List.set_cons_zero, List.set_cons_succ, i64_w, i32_w]
        rfl
       refine one_ (i := 13) (N := some 6) #[true, true, true, true, true, true, true, true, true, true, true, true, true, true, false] rfl rfl (one_of HT_.out (by kernel_rfl)) (by decide) (fun K hK => ?_)
       refine box_step ?hg (N := 6) ?hd (cs := #[.slice none 0 0, .string (⟨#[]⟩ : ByteArray), .string (⟨#[]⟩ : ByteArray), .string (⟨#[]⟩ : ByteArray)]) (t := 27) ?hr ?_; (case hd => rfl); (case hg => rfl); (case hr => first | (go_simp; done) | (go_simp; rfl))
       intro gb502 hg w19 hbox hb
       have HS0_ := (hb.cell (World.block_lt_of_cell? _ _ (hHeld))).trans (hHeld)
       have n0_ := Aside0.mk (Kd.R_below au81 hb)
       have n1_ := Aside0.mk (Kd.R_below au82 hb)
       have n2_ := Aside0.mk (blk_below (g := gb488) (o := .cells #[.slice none 0 0, .string (⟨#[]⟩ : ByteArray), .string (⟨#[]⟩ : ByteArray), .string (⟨#[]⟩ : ByteArray)] 27 (0, 0)) au62 hb)
       have n3_ := Aside0.mk (Kd.C_below au19 hb)
       have n4_ := Aside0.mk (below_step au26 hb)
       have n5_ := Aside0.mk (hbox)
       have n6_ := Aside0.mk ((by rw [hg]; exact (below_size au26) : w.heap.size ≤ gb502))
       have n7_ := Aside0.mk ((by rw [hg]; exact (below_size au26) : w.heap.size ≤ gb502))
       have n8_ := Aside0.mk ((by rw [hg]; exact Nat.ne_of_lt (blk_lt (g := gb488) (o := .cells #[.slice none 0 0, .string (⟨#[]⟩ : ByteArray), .string (⟨#[]⟩ : ByteArray), .string (⟨#[]⟩ : ByteArray)] 27 (0, 0)) au62) : gb488 ≠ gb502))
       have n9_ := Aside0.mk ((by rw [hg]; exact Nat.ne_of_gt (blk_lt (g := gb488) (o := .cells #[.slice none 0 0, .string (⟨#[]⟩ : ByteArray), .string (⟨#[]⟩ : ByteArray), .string (⟨#[]⟩ : ByteArray)] 27 (0, 0)) au62) : gb502 ≠ gb488))
       clear HO491
       clear HO495
       clear BK488
       clear HR500
       clear HB
       have HO491 := n0_
       have HO495 := n1_
       have BK488 := n2_
       have HR500 := n3_
       have HB := n4_
       have BK502 := n5_
       have GW502 := n6_
       have GE502 := n7_
       have NB488_502 := n8_
       have NB502_488 := n9_
       clear n0_ n1_ n2_ n3_ n4_ n5_ n6_ n7_ n8_ n9_
       clear hb hbox hg
       refine hK.out _ _ (HS0_) (fun hHeld => ?_)
       clear hK K
       refine norm_ (a' := ?_) ?_ ?_
       rotate_left
       ·
        show Act.put _ (some 6) _ = _
        simp only [Act.put, List.setIfInBounds_toArray, List.set_cons_zero, List.set_cons_succ, i64_w, i32_w]
        rfl
       exact norm_ (by simp only [putAll, Act.put, List.setIfInBounds_toArray, List.set_cons_zero, List.set_cons_succ]) (hCont (gb502) _ ⟨hHeld, au39, au40, au62, au63, GW502.out, GE502.out, NB488_502.out, NB502_488.out, au15⟩)
      ·
       skip
       refine box_step ?hg (N := 6) ?hd (cs := #[.slice none 0 0, .string (⟨#[]⟩ : ByteArray), .string (⟨#[]⟩ : ByteArray), .string (⟨#[]⟩ : ByteArray)]) (t := 27) ?hr ?_; (case hd => rfl); (case hg => rfl); (case hr => first | (go_simp; done) | (go_simp; rfl))
       intro gb502 hg w19 hbox hb
       have HS0_ := (hb.cell (World.block_lt_of_cell? _ _ (hHeld))).trans (hHeld)
       have n0_ := Aside0.mk (Kd.R_below au81 hb)
       have n1_ := Aside0.mk (Kd.R_below au82 hb)
       have n2_ := Aside0.mk (blk_below (g := gb488) (o := .cells #[.slice none 0 0, .string (⟨#[]⟩ : ByteArray), .string (⟨#[]⟩ : ByteArray), .string (⟨#[]⟩ : ByteArray)] 27 (0, 0)) au62 hb)
       have n3_ := Aside0.mk (Kd.C_below au19 hb)
       have n4_ := Aside0.mk (below_step au26 hb)
       have n5_ := Aside0.mk (hbox)
       have n6_ := Aside0.mk ((by rw [hg]; exact (below_size au26) : w.heap.size ≤ gb502))
       have n7_ := Aside0.mk ((by rw [hg]; exact (below_size au26) : w.heap.size ≤ gb502))
       have n8_ := Aside0.mk ((by rw [hg]; exact Nat.ne_of_lt (blk_lt (g := gb488) (o := .cells #[.slice none 0 0, .string (⟨#[]⟩ : ByteArray), .string (⟨#[]⟩ : ByteArray), .string (⟨#[]⟩ : ByteArray)] 27 (0, 0)) au62) : gb488 ≠ gb502))
       have n9_ := Aside0.mk ((by rw [hg]; exact Nat.ne_of_gt (blk_lt (g := gb488) (o := .cells #[.slice none 0 0, .string (⟨#[]⟩ : ByteArray), .string (⟨#[]⟩ : ByteArray), .string (⟨#[]⟩ : ByteArray)] 27 (0, 0)) au62) : gb502 ≠ gb488))
       clear HO491
       clear HO495
       clear BK488
       clear HR500
       clear HB
       have HO491 := n0_
       have HO495 := n1_
       have BK488 := n2_
       have HR500 := n3_
       have HB := n4_
       have BK502 := n5_
       have GW502 := n6_
       have GE502 := n7_
       have NB488_502 := n8_
       have NB502_488 := n9_
       clear n0_ n1_ n2_ n3_ n4_ n5_ n6_ n7_ n8_ n9_
       clear hb hbox hg
       refine hK.out _ _ (HS0_) (fun hHeld => ?_)
       clear hK K
       refine norm_ (a' := ?_) ?_ ?_
       rotate_left
       ·
        show Act.put _ (some 6) _ = _
        simp only [Act.put, List.setIfInBounds_toArray, List.set_cons_zero, List.set_cons_succ, i64_w, i32_w]
        rfl
       refine one_ (i := 11) (N := some 24) #[true, true, true, true, true, true, true, true, true, true, true, true, false, true, false] rfl rfl (one_of HT_.out (by kernel_rfl)) (by decide) (fun K hK => ?_)
       refine goes_ Tryd.func80 (by kernel_rfl) rfl #[.slice (some ad496) y497.length co17] (by rfl) rfl rfl au38 ?_
       with_reducible refine (spec_l2Join.calls k _ _ y497 t501 _ ?side1 ?side2 A10.out).mono ?_
       (case side1 => repeat (first | exact au19 | (with_reducible refine Kd.C_alloc ?_ _) | (with_reducible refine Kd.C_drewN ?_ _) | (with_reducible refine Kd.C_drew ?_)))
       (case side2 => exact HC500.out)
       rintro e w' ⟨rfl, ⟨nd, rfl⟩⟩
       refine ⟨_, rfl, ?_⟩
       refine hK.out _ _ (hHeld) (fun hHeld => ?_)
       clear hK K
       refine norm_ (a' := ?_) ?_ ?_
       rotate_left
       ·
        show Act.put _ (some 24) _ = _
        simp only [Act.put, List.setIfInBounds_toArray, List.set_cons_zero, List.set_cons_succ, i64_w, i32_w]
        rfl
       refine pure_ (i := 12) (N := some 25) (v := ?_) (a' := ?_) #[true, true, true, true, true, true, true, true, true, true, true, true, true, true, false] rfl rfl (any_of HT_.out (by kernel_rfl)) (fun _ _ _ h => h) (Or.inl ⟨by rfl, ?_⟩) ?_ ?_
       rotate_left
       ·
        intro w'
        go_simp
        with_reducible rfl
       rotate_left
       ·
        simp only [Act.put, List.setIfInBounds_toArray, List.set_cons_zero, List.set_cons_succ, i64_w, i32_w]
        rfl
       exact norm_ (by simp only [putAll, Act.put, List.setIfInBounds_toArray, List.set_cons_zero, List.set_cons_succ]) (hCont (gb502) _ ⟨hHeld, au39, au40, au62, au63, GW502.out, GE502.out, NB488_502.out, NB502_488.out, au15⟩)
     rintro gb502 w20 ⟨hS_, h0_, h1_, h2_, h3_, h4_, h5_, h6_, h7_, h8_⟩
     have n0_ : Aside0 (Kd.R Kd.string 9 w20 w.heap.size (fun k_ => some k_ ≠ (.slice (some ad496) t493.length co17 : Value).ownBlock) (.slice (some ad492) t489.length co14) t489) := ⟨h0_⟩
     have n1_ : Aside0 (Kd.R Kd.string 9 w20 w.heap.size (fun k_ => some k_ ≠ (.slice (some ad492) t489.length co14 : Value).ownBlock) (.slice (some ad496) t493.length co17) t493) := ⟨h1_⟩
     have n2_ : Aside0 (w20.heap[gb488]? = some (.cells #[.slice none 0 0, .string (⟨#[]⟩ : ByteArray), .string (⟨#[]⟩ : ByteArray), .string (⟨#[]⟩ : ByteArray)] 27 (0, 0))) := ⟨h2_⟩
     have n3_ : Aside0 (w20.heap[gb502]? = some (.cells #[.slice none 0 0, .string (⟨#[]⟩ : ByteArray), .string (⟨#[]⟩ : ByteArray), .string (⟨#[]⟩ : ByteArray)] 27 (0, 0))) := ⟨h3_⟩
     have n4_ : Aside0 (w.heap.size ≤ gb502) := ⟨h4_⟩
     have n5_ : Aside0 (w.heap.size ≤ gb502) := ⟨h5_⟩
     have n6_ : Aside0 (gb488 ≠ gb502) := ⟨h6_⟩
     have n7_ : Aside0 (gb502 ≠ gb488) := ⟨h7_⟩
     have n8_ : Aside0 (Below w.heap.size w w20) := ⟨h8_⟩
     clear HO491
     clear HO495
     clear BK488
     clear HB
     clear h0_ h1_ h2_ h3_ h4_ h5_ h6_ h7_ h8_
     have HO491 := n0_
     have HO495 := n1_
     have BK488 := n2_
     have BK502 := n3_
     have GW502 := n4_
     have GE502 := n5_
     have NB488_502 := n6_
     have NB502_488 := n7_
     have HB := n8_
     clear n0_ n1_ n2_ n3_ n4_ n5_ n6_ n7_ n8_
     have hHeld : w20.cell? (ad496.add ((ji5)).toNat) = some (.string (rdOf ByteArray.empty t493 (ji5))) := hS_
     refine norm_ (a' := ?_) ?_ ?_
     rotate_left
     ·
      simp only [putAll, Act.put, List.setIfInBounds_toArray, List.set_cons_zero, List.set_cons_succ]
      rfl
     refine one_ (i := 14) (N := none) #[true, true, true, true, true, true, true, true, true, true, true, true, true, true, true] rfl rfl (one_of HT_.out (by kernel_rfl)) (by decide) (fun K hK => ?_)
     have hs21 : w20.cell? ⟨gb502, 0, none⟩ = some (.slice none 0 0) := (blk_cell BK502.out 0).trans rfl
     have hfs21 := blk_frozen BK502.out 0
     have hns21_0 := NB488_502.out
     have hms21_0 := NB502_488.out
     have hs22 : w20.cell? ⟨gb502, 1, none⟩ = some (.string (⟨#[]⟩ : ByteArray)) := (blk_cell BK502.out 1).trans rfl
     have hfs22 := blk_frozen BK502.out 1
     have hns22_0 := NB488_502.out
     have hms22_0 := NB502_488.out
     have hs23 : w20.cell? ⟨gb502, 2, none⟩ = some (.string (⟨#[]⟩ : ByteArray)) := (blk_cell BK502.out 2).trans rfl
     have hfs23 := blk_frozen BK502.out 2
     have hns23_0 := NB488_502.out
     have hms23_0 := NB502_488.out
     have hs24 : w20.cell? ⟨gb502, 3, none⟩ = some (.string (⟨#[]⟩ : ByteArray)) := (blk_cell BK502.out 3).trans rfl
     have hfs24 := blk_frozen BK502.out 3
     have hns24_0 := NB488_502.out
     have hms24_0 := NB502_488.out
     refine skip_ (w1 := ?_) (by rfl) rfl ?_ ?_
     rotate_left
     ·
      go_simp
      rfl
     refine hK.out _ _ (((cell_far (p := ⟨gb502, _, none⟩) au10 _).trans (((cell_far (p := ⟨gb502, _, none⟩) au10 _).trans (((cell_far (p := ⟨gb502, _, none⟩) au10 _).trans (((cell_far (p := ⟨gb502, _, none⟩) au10 _).trans (hHeld))))))))) (fun hHeld => ?_)
     clear hK K
     refine done_ (done_of HT_.out (by kernel_rfl)) ?_
     go_upto_region 4 with (fail)
     go_cut [64] (fun v64 wc => ∃ (kq : Nat) (x64_10 : Bool), v64 = .bool x64_10 ∧ Aside0 (spec_l2Parse.j0 kq a0 t489 x64_10 t501 (rdOf ByteArray.empty t493 (ji5)) (⟨#[]⟩ : ByteArray) = some (r1, r2, r3, r4, r5)) ∧ Aside0 (kq ≤ k) ∧ Aside0 (Kd.R Kd.string 9 wc w.heap.size (fun _ => True) (.slice (some ad492) t489.length co14) t489) ∧ Aside0 (wc.heap[gb488]? = some (.cells #[(.slice none 0 0), .string (⟨#[]⟩ : ByteArray), .string (⟨#[]⟩ : ByteArray), .string (⟨#[]⟩ : ByteArray)] 27 (0, 0))) ∧ Aside0 (wc.heap[gb502]? = some (.cells #[(.slice none 0 0), .string t501, .string (rdOf ByteArray.empty t493 (ji5)), .string (⟨#[]⟩ : ByteArray)] 27 (0, 0))) ∧ Aside0 (Below w.heap.size w wc))
     case first =>
      have H := HC11.out
      clear HC11
      by_cases c25 : (t489.length : Int) > 3
      ·
       rw [if_pos c25] at H
       have c25b0 : decide (3 < (t489.length : Int)) = true := decide_eq_true c25
       have c25b1 : decide (3 < t489.length) = true := decide_eq_true (by omega)
       clear c25
       (first | rw [c25b0] | (simp only [i64_w, i32_w]; rw [c25b0]) | skip)
       have H' := Aside0.mk H
       clear H
       exact spec_l2Parse.L0
      ·
       rw [if_neg c25] at H
       have c25b0 : decide (3 < (t489.length : Int)) = false := decide_eq_false c25
       have c25b1 : decide (3 < t489.length) = false := decide_eq_false (by omega)
       clear c25
       (first | rw [c25b0] | (simp only [i64_w, i32_w]; rw [c25b0]) | skip)
       by_cases c26 : (t489.length : Int) > 1
       ·
        rw [if_pos c26] at H
        have c26b0 : decide (1 < (t489.length : Int)) = true := decide_eq_true c26
        have c26b1 : decide (1 < t489.length) = true := decide_eq_true (by omega)
        clear c26
        by_cases c27 : 1 < (t489.length : Int)
        ·
         rw [if_pos c27] at H
         have c27b0 : decide (1 < (t489.length : Int)) = true := decide_eq_true c27
         have c27b1 : decide (1 < t489.length) = true := decide_eq_true (by omega)
         clear c27
         by_cases c28 : (rdOf ByteArray.empty t489 1).toList = ([] : List UInt8)
         ·
          rw [if_pos c28] at H
          have c28b0 : ((rdOf ByteArray.empty t489 1).toList == ([] : List UInt8)) = true := beq_iff_eq.mpr c28
          have c28b1 : ((rdOf ByteArray.empty t489 1).toList != ([] : List UInt8)) = false := bne_eq_false_iff_eq.mpr c28
          clear c28
          have H' := Aside0.mk H
          clear H
          have p503 : 0 ≤ (1 : Int) := (by omega)
          have q503 : 1 < (t489.length : Int) := of_decide_eq_true au88
          obtain ⟨ad503, e503, hx503_0⟩ := Kd.at_string (Kd.R_reads' HO491.out).2.2 1 p503 q503
          obtain rfl : ad492 = ad503 := (by injection e503)
          (try simp only [show (1 : Int).toNat = 1 from rfl, Nat.reduceMul, Nat.reduceEqDiff, Go.Addr.add, ↓reduceIte] at hx503_0)
          have qi503 : (1 < t489.length) = True := eq_true (by omega)
          (try rw [show ((1 : Int)).toNat = 1 from rfl] at hx503_0)
          have hn503_0 : ad492.block ≠ gb502 := Kd.own_blk (Kd.R_ne HO491.out BK502.out (by decide))
          have hn503_1 : ad492.block ≠ gb502 := Kd.own_blk (Kd.R_ne HO491.out BK502.out (by decide))
          have hn503_2 : ad492.block ≠ gb502 := Kd.own_blk (Kd.R_ne HO491.out BK502.out (by decide))
          have hn503_3 : ad492.block ≠ gb502 := Kd.own_blk (Kd.R_ne HO491.out BK502.out (by decide))
          replace hx503_0 := (cell_far (p := ⟨gb502, 0, none⟩) au43 (.slice none 0 0)).trans hx503_0
          replace hx503_0 := (cell_far (p := ⟨gb502, 1, none⟩) au44 (.string t501)).trans hx503_0
          replace hx503_0 := (cell_far (p := ⟨gb502, 2, none⟩) au45 (.string (rdOf ByteArray.empty t493 (ji5)))).trans hx503_0
          replace hx503_0 := (cell_far (p := ⟨gb502, 3, none⟩) au46 (.string (⟨#[]⟩ : ByteArray))).trans hx503_0
          clear hn503_0
          clear hn503_1
          clear hn503_2
          clear hn503_3
          replace p503 := eq_true p503
          replace q503 := eq_true q503
          exact spec_l2Parse.L0
         ·
          rw [if_neg c28] at H
          have c28b0 : ((rdOf ByteArray.empty t489 1).toList == ([] : List UInt8)) = false := beq_eq_false_iff_ne.mpr c28
          have c28b1 : ((rdOf ByteArray.empty t489 1).toList != ([] : List UInt8)) = true := bne_iff_ne.mpr c28
          by_cases c29 : 0 < ((rdOf ByteArray.empty t489 1).size : Int)
          ·
           rw [if_pos c29] at H
           have c29b0 : decide (0 < ((rdOf ByteArray.empty t489 1).size : Int)) = true := decide_eq_true c29
           have c29b1 : decide (0 < (rdOf ByteArray.empty t489 1).size) = true := decide_eq_true (by omega)
           clear c29
           by_cases c31 : (bt (rdOf ByteArray.empty t489 1) 0) = 32
           ·
            rw [if_pos c31] at H
            have c31b0 : ((bt (rdOf ByteArray.empty t489 1) 0) == 32) = true := beq_iff_eq.mpr c31
            have c31b1 : ((bt (rdOf ByteArray.empty t489 1) 0) != 32) = false := bne_eq_false_iff_eq.mpr c31
            clear c31
            by_cases c32 : (t489.length : Int) > 2
            ·
             rw [if_pos c32] at H
             have c32b0 : decide (2 < (t489.length : Int)) = true := decide_eq_true c32
             have c32b1 : decide (2 < t489.length) = true := decide_eq_true (by omega)
             clear c32
             by_cases c33 : 2 < (t489.length : Int)
             ·
              rw [if_pos c33] at H
              have c33b0 : decide (2 < (t489.length : Int)) = true := decide_eq_true c33
              have c33b1 : decide (2 < t489.length) = true := decide_eq_true (by omega)
              clear c33
              by_cases c34 : (rdOf ByteArray.empty t489 2).toList = ([] : List UInt8)
              ·
               rw [if_pos c34] at H
               have c34b0 : ((rdOf ByteArray.empty t489 2).toList == ([] : List UInt8)) = true := beq_iff_eq.mpr c34
               have c34b1 : ((rdOf ByteArray.empty t489 2).toList != ([] : List UInt8)) = false := bne_eq_false_iff_eq.mpr c34
               clear c34
               have H' := Aside0.mk H
               clear H
               have p503 : 0 ≤ (1 : Int) := (by omega)
               have q503 : 1 < (t489.length : Int) := of_decide_eq_true au88
               obtain ⟨ad503, e503, hx503_0⟩ := Kd.at_string (Kd.R_reads' HO491.out).2.2 1 p503 q503
               obtain rfl : ad492 = ad503 := (by injection e503)
               (try simp only [show (1 : Int).toNat = 1 from rfl, Nat.reduceMul, Nat.reduceEqDiff, Go.Addr.add, ↓reduceIte] at hx503_0)
               have qi503 : (1 < t489.length) = True := eq_true (by omega)
               (try rw [show ((1 : Int)).toNat = 1 from rfl] at hx503_0)
               have hn503_0 : ad492.block ≠ gb502 := Kd.own_blk (Kd.R_ne HO491.out BK502.out (by decide))
               have hn503_1 : ad492.block ≠ gb502 := Kd.own_blk (Kd.R_ne HO491.out BK502.out (by decide))
               have hn503_2 : ad492.block ≠ gb502 := Kd.own_blk (Kd.R_ne HO491.out BK502.out (by decide))
               have hn503_3 : ad492.block ≠ gb502 := Kd.own_blk (Kd.R_ne HO491.out BK502.out (by decide))
               replace hx503_0 := (cell_far (p := ⟨gb502, 0, none⟩) au43 (.slice none 0 0)).trans hx503_0
               replace hx503_0 := (cell_far (p := ⟨gb502, 1, none⟩) au44 (.string t501)).trans hx503_0
               replace hx503_0 := (cell_far (p := ⟨gb502, 2, none⟩) au45 (.string (rdOf ByteArray.empty t493 (ji5)))).trans hx503_0
               replace hx503_0 := (cell_far (p := ⟨gb502, 3, none⟩) au46 (.string (⟨#[]⟩ : ByteArray))).trans hx503_0
               clear hn503_0
               clear hn503_1
               clear hn503_2
               clear hn503_3
               replace p503 := eq_true p503
               replace q503 := eq_true q503
               have p504 : 0 ≤ (1 : Int) := (by omega)
               have q504 : 1 < (t489.length : Int) := of_decide_eq_true au88
               obtain ⟨ad504, e504, hx504_0⟩ := Kd.at_string (Kd.R_reads' HO491.out).2.2 1 p504 q504
               obtain rfl : ad492 = ad504 := (by injection e504)
               (try simp only [show (1 : Int).toNat = 1 from rfl, Nat.reduceMul, Nat.reduceEqDiff, Go.Addr.add, ↓reduceIte] at hx504_0)
               have qi504 : (1 < t489.length) = True := eq_true (by omega)
               (try rw [show ((1 : Int)).toNat = 1 from rfl] at hx504_0)
               have hn504_0 : ad492.block ≠ gb502 := Kd.own_blk (Kd.R_ne HO491.out BK502.out (by decide))
               have hn504_1 : ad492.block ≠ gb502 := Kd.own_blk (Kd.R_ne HO491.out BK502.out (by decide))
               have hn504_2 : ad492.block ≠ gb502 := Kd.own_blk (Kd.R_ne HO491.out BK502.out (by decide))
               have hn504_3 : ad492.block ≠ gb502 := Kd.own_blk (Kd.R_ne HO491.out BK502.out (by decide))
               replace hx504_0 := (cell_far (p := ⟨gb502, 0, none⟩) au47 (.slice none 0 0)).trans hx504_0
               replace hx504_0 := (cell_far (p := ⟨gb502, 1, none⟩) au48 (.string t501)).trans hx504_0
               replace hx504_0 := (cell_far (p := ⟨gb502, 2, none⟩) au49 (.string (rdOf ByteArray.empty t493 (ji5)))).trans hx504_0
               replace hx504_0 := (cell_far (p := ⟨gb502, 3, none⟩) au50 (.string (⟨#[]⟩ : ByteArray))).trans hx504_0
               clear hn504_0
               clear hn504_1
               clear hn504_2
               clear hn504_3
               replace p504 := eq_true p504
               replace q504 := eq_true q504
               have p30 : 0 ≤ (0 : Int) := (by omega)
               have q30 : 0 < (rdOf ByteArray.empty t489 1).size := (by have : (0 : Int) < ((rdOf ByteArray.empty t489 1).size : Int) := of_decide_eq_true au88; omega)
               have hx30 : ∀ h : 0 < (rdOf ByteArray.empty t489 1).size, (((rdOf ByteArray.empty t489 1)[0]'h).toNat : Int) = bt (rdOf ByteArray.empty t489 1) 0 := bt_at (rdOf ByteArray.empty t489 1) 0
               clear p30
               have qi30 : (0 < ((rdOf ByteArray.empty t489 1).size : Int)) = True := eq_true (of_decide_eq_true au88)
               replace q30 := eq_true q30
               have p505 : 0 ≤ (2 : Int) := (by omega)
               have q505 : 2 < (t489.length : Int) := of_decide_eq_true au88
               obtain ⟨ad505, e505, hx505_0⟩ := Kd.at_string (Kd.R_reads' HO491.out).2.2 2 p505 q505
               obtain rfl : ad492 = ad505 := (by injection e505)
               (try simp only [show (2 : Int).toNat = 2 from rfl, Nat.reduceMul, Nat.reduceEqDiff, Go.Addr.add, ↓reduceIte] at hx505_0)
               have qi505 : (2 < t489.length) = True := eq_true (by omega)
               (try rw [show ((2 : Int)).toNat = 2 from rfl] at hx505_0)
               have hn505_0 : ad492.block ≠ gb502 := Kd.own_blk (Kd.R_ne HO491.out BK502.out (by decide))
               have hn505_1 : ad492.block ≠ gb502 := Kd.own_blk (Kd.R_ne HO491.out BK502.out (by decide))
               have hn505_2 : ad492.block ≠ gb502 := Kd.own_blk (Kd.R_ne HO491.out BK502.out (by decide))
               have hn505_3 : ad492.block ≠ gb502 := Kd.own_blk (Kd.R_ne HO491.out BK502.out (by decide))
               replace hx505_0 := (cell_far (p := ⟨gb502, 0, none⟩) au51 (.slice none 0 0)).trans hx505_0
               replace hx505_0 := (cell_far (p := ⟨gb502, 1, none⟩) au52 (.string t501)).trans hx505_0
               replace hx505_0 := (cell_far (p := ⟨gb502, 2, none⟩) au53 (.string (rdOf ByteArray.empty t493 (ji5)))).trans hx505_0
               replace hx505_0 := (cell_far (p := ⟨gb502, 3, none⟩) au54 (.string (⟨#[]⟩ : ByteArray))).trans hx505_0
               clear hn505_0
               clear hn505_1
               clear hn505_2
               clear hn505_3
               replace p505 := eq_true p505
               replace q505 := eq_true q505
               exact spec_l2Parse.L0
              ·
               rw [if_neg c34] at H
               have c34b0 : ((rdOf ByteArray.empty t489 2).toList == ([] : List UInt8)) = false := beq_eq_false_iff_ne.mpr c34
               have c34b1 : ((rdOf ByteArray.empty t489 2).toList != ([] : List UInt8)) = true := bne_iff_ne.mpr c34
               by_cases c35 : 0 < ((rdOf ByteArray.empty t489 2).size : Int)
               ·
                rw [if_pos c35] at H
                have c35b0 : decide (0 < ((rdOf ByteArray.empty t489 2).size : Int)) = true := decide_eq_true c35
                have c35b1 : decide (0 < (rdOf ByteArray.empty t489 2).size) = true := decide_eq_true (by omega)
                clear c35
                have H' := Aside0.mk H
                clear H
                have p503 : 0 ≤ (1 : Int) := (by omega)
                have q503 : 1 < (t489.length : Int) := of_decide_eq_true au88
                obtain ⟨ad503, e503, hx503_0⟩ := Kd.at_string (Kd.R_reads' HO491.out).2.2 1 p503 q503
                obtain rfl : ad492 = ad503 := (by injection e503)
                (try simp only [show (1 : Int).toNat = 1 from rfl, Nat.reduceMul, Nat.reduceEqDiff, Go.Addr.add, ↓reduceIte] at hx503_0)
                have qi503 : (1 < t489.length) = True := eq_true (by omega)
                (try rw [show ((1 : Int)).toNat = 1 from rfl] at hx503_0)
                have hn503_0 : ad492.block ≠ gb502 := Kd.own_blk (Kd.R_ne HO491.out BK502.out (by decide))
                have hn503_1 : ad492.block ≠ gb502 := Kd.own_blk (Kd.R_ne HO491.out BK502.out (by decide))
                have hn503_2 : ad492.block ≠ gb502 := Kd.own_blk (Kd.R_ne HO491.out BK502.out (by decide))
                have hn503_3 : ad492.block ≠ gb502 := Kd.own_blk (Kd.R_ne HO491.out BK502.out (by decide))
                replace hx503_0 := (cell_far (p := ⟨gb502, 0, none⟩) au43 (.slice none 0 0)).trans hx503_0
                replace hx503_0 := (cell_far (p := ⟨gb502, 1, none⟩) au44 (.string t501)).trans hx503_0
                replace hx503_0 := (cell_far (p := ⟨gb502, 2, none⟩) au45 (.string (rdOf ByteArray.empty t493 (ji5)))).trans hx503_0
                replace hx503_0 := (cell_far (p := ⟨gb502, 3, none⟩) au46 (.string (⟨#[]⟩ : ByteArray))).trans hx503_0
                clear hn503_0
                clear hn503_1
                clear hn503_2
                clear hn503_3
                replace p503 := eq_true p503
                replace q503 := eq_true q503
                have p504 : 0 ≤ (1 : Int) := (by omega)
                have q504 : 1 < (t489.length : Int) := of_decide_eq_true au88
                obtain ⟨ad504, e504, hx504_0⟩ := Kd.at_string (Kd.R_reads' HO491.out).2.2 1 p504 q504
                obtain rfl : ad492 = ad504 := (by injection e504)
                (try simp only [show (1 : Int).toNat = 1 from rfl, Nat.reduceMul, Nat.reduceEqDiff, Go.Addr.add, ↓reduceIte] at hx504_0)
                have qi504 : (1 < t489.length) = True := eq_true (by omega)
                (try rw [show ((1 : Int)).toNat = 1 from rfl] at hx504_0)
                have hn504_0 : ad492.block ≠ gb502 := Kd.own_blk (Kd.R_ne HO491.out BK502.out (by decide))
                have hn504_1 : ad492.block ≠ gb502 := Kd.own_blk (Kd.R_ne HO491.out BK502.out (by decide))
                have hn504_2 : ad492.block ≠ gb502 := Kd.own_blk (Kd.R_ne HO491.out BK502.out (by decide))
                have hn504_3 : ad492.block ≠ gb502 := Kd.own_blk (Kd.R_ne HO491.out BK502.out (by decide))
                replace hx504_0 := (cell_far (p := ⟨gb502, 0, none⟩) au47 (.slice none 0 0)).trans hx504_0
                replace hx504_0 := (cell_far (p := ⟨gb502, 1, none⟩) au48 (.string t501)).trans hx504_0
                replace hx504_0 := (cell_far (p := ⟨gb502, 2, none⟩) au49 (.string (rdOf ByteArray.empty t493 (ji5)))).trans hx504_0
                replace hx504_0 := (cell_far (p := ⟨gb502, 3, none⟩) au50 (.string (⟨#[]⟩ : ByteArray))).trans hx504_0
                clear hn504_0
                clear hn504_1
                clear hn504_2
                clear hn504_3
                replace p504 := eq_true p504
                replace q504 := eq_true q504
                have p30 : 0 ≤ (0 : Int) := (by omega)
                have q30 : 0 < (rdOf ByteArray.empty t489 1).size := (by have : (0 : Int) < ((rdOf ByteArray.empty t489 1).size : Int) := of_decide_eq_true au88; omega)
                have hx30 : ∀ h : 0 < (rdOf ByteArray.empty t489 1).size, (((rdOf ByteArray.empty t489 1)[0]'h).toNat : Int) = bt (rdOf ByteArray.empty t489 1) 0 := bt_at (rdOf ByteArray.empty t489 1) 0
                clear p30
                have qi30 : (0 < ((rdOf ByteArray.empty t489 1).size : Int)) = True := eq_true (of_decide_eq_true au88)
                replace q30 := eq_true q30
                have p505 : 0 ≤ (2 : Int) := (by omega)
                have q505 : 2 < (t489.length : Int) := of_decide_eq_true au88
                obtain ⟨ad505, e505, hx505_0⟩ := Kd.at_string (Kd.R_reads' HO491.out).2.2 2 p505 q505
                obtain rfl : ad492 = ad505 := (by injection e505)
                (try simp only [show (2 : Int).toNat = 2 from rfl, Nat.reduceMul, Nat.reduceEqDiff, Go.Addr.add, ↓reduceIte] at hx505_0)
                have qi505 : (2 < t489.length) = True := eq_true (by omega)
                (try rw [show ((2 : Int)).toNat = 2 from rfl] at hx505_0)
                have hn505_0 : ad492.block ≠ gb502 := Kd.own_blk (Kd.R_ne HO491.out BK502.out (by decide))
                have hn505_1 : ad492.block ≠ gb502 := Kd.own_blk (Kd.R_ne HO491.out BK502.out (by decide))
                have hn505_2 : ad492.block ≠ gb502 := Kd.own_blk (Kd.R_ne HO491.out BK502.out (by decide))
                have hn505_3 : ad492.block ≠ gb502 := Kd.own_blk (Kd.R_ne HO491.out BK502.out (by decide))
                replace hx505_0 := (cell_far (p := ⟨gb502, 0, none⟩) au51 (.slice none 0 0)).trans hx505_0
                replace hx505_0 := (cell_far (p := ⟨gb502, 1, none⟩) au52 (.string t501)).trans hx505_0
                replace hx505_0 := (cell_far (p := ⟨gb502, 2, none⟩) au53 (.string (rdOf ByteArray.empty t493 (ji5)))).trans hx505_0
                replace hx505_0 := (cell_far (p := ⟨gb502, 3, none⟩) au54 (.string (⟨#[]⟩ : ByteArray))).trans hx505_0
                clear hn505_0
                clear hn505_1
                clear hn505_2
                clear hn505_3
                replace p505 := eq_true p505
                replace q505 := eq_true q505
                have p506 : 0 ≤ (2 : Int) := (by omega)
                have q506 : 2 < (t489.length : Int) := of_decide_eq_true au88
                obtain ⟨ad506, e506, hx506_0⟩ := Kd.at_string (Kd.R_reads' HO491.out).2.2 2 p506 q506
                obtain rfl : ad492 = ad506 := (by injection e506)
                (try simp only [show (2 : Int).toNat = 2 from rfl, Nat.reduceMul, Nat.reduceEqDiff, Go.Addr.add, ↓reduceIte] at hx506_0)
                have qi506 : (2 < t489.length) = True := eq_true (by omega)
                (try rw [show ((2 : Int)).toNat = 2 from rfl] at hx506_0)
                have hn506_0 : ad492.block ≠ gb502 := Kd.own_blk (Kd.R_ne HO491.out BK502.out (by decide))
                have hn506_1 : ad492.block ≠ gb502 := Kd.own_blk (Kd.R_ne HO491.out BK502.out (by decide))
                have hn506_2 : ad492.block ≠ gb502 := Kd.own_blk (Kd.R_ne HO491.out BK502.out (by decide))
                have hn506_3 : ad492.block ≠ gb502 := Kd.own_blk (Kd.R_ne HO491.out BK502.out (by decide))
                replace hx506_0 := (cell_far (p := ⟨gb502, 0, none⟩) (by first | (rw [add_block]; exact hn506_0) | (show (Addr.add _ _).block ≠ _; rw [add_block]; exact hn506_0) | exact hn506_0) (.slice none 0 0)).trans hx506_0
                replace hx506_0 := (cell_far (p := ⟨gb502, 1, none⟩) (by first | (rw [add_block]; exact hn506_1) | (show (Addr.add _ _).block ≠ _; rw [add_block]; exact hn506_1) | exact hn506_1) (.string t501)).trans hx506_0
                replace hx506_0 := (cell_far (p := ⟨gb502, 2, none⟩) (by first | (rw [add_block]; exact hn506_2) | (show (Addr.add _ _).block ≠ _; rw [add_block]; exact hn506_2) | exact hn506_2) (.string (rdOf ByteArray.empty t493 (ji5)))).trans hx506_0
                replace hx506_0 := (cell_far (p := ⟨gb502, 3, none⟩) (by first | (rw [add_block]; exact hn506_3) | (show (Addr.add _ _).block ≠ _; rw [add_block]; exact hn506_3) | exact hn506_3) (.string (⟨#[]⟩ : ByteArray))).trans hx506_0
                clear hn506_0
                clear hn506_1
                clear hn506_2
                clear hn506_3
                replace p506 := eq_true p506
                replace q506 := eq_true q506
                have p36 : 0 ≤ (0 : Int) := (by omega)
                have q36 : 0 < (rdOf ByteArray.empty t489 2).size := (by have : (0 : Int) < ((rdOf ByteArray.empty t489 2).size : Int) := of_decide_eq_true au88; omega)
                have hx36 : ∀ h : 0 < (rdOf ByteArray.empty t489 2).size, (((rdOf ByteArray.empty t489 2)[0]'h).toNat : Int) = bt (rdOf ByteArray.empty t489 2) 0 := bt_at (rdOf ByteArray.empty t489 2) 0
                clear p36
                have qi36 : (0 < ((rdOf ByteArray.empty t489 2).size : Int)) = True := eq_true (of_decide_eq_true au88)
                replace q36 := eq_true q36
                exact spec_l2Parse.L0
               ·
                rw [if_neg c35] at H
                exact absurd H (by simp)
             ·
              rw [if_neg c33] at H
              exact absurd H (by simp)
            ·
             rw [if_neg c32] at H
             have c32b0 : decide (2 < (t489.length : Int)) = false := decide_eq_false c32
             have c32b1 : decide (2 < t489.length) = false := decide_eq_false (by omega)
             clear c32
             have H' := Aside0.mk H
             clear H
             have p503 : 0 ≤ (1 : Int) := (by omega)
             have q503 : 1 < (t489.length : Int) := of_decide_eq_true au88
             obtain ⟨ad503, e503, hx503_0⟩ := Kd.at_string (Kd.R_reads' HO491.out).2.2 1 p503 q503
             obtain rfl : ad492 = ad503 := (by injection e503)
             (try simp only [show (1 : Int).toNat = 1 from rfl, Nat.reduceMul, Nat.reduceEqDiff, Go.Addr.add, ↓reduceIte] at hx503_0)
             have qi503 : (1 < t489.length) = True := eq_true (by omega)
             (try rw [show ((1 : Int)).toNat = 1 from rfl] at hx503_0)
             have hn503_0 : ad492.block ≠ gb502 := Kd.own_blk (Kd.R_ne HO491.out BK502.out (by decide))
             have hn503_1 : ad492.block ≠ gb502 := Kd.own_blk (Kd.R_ne HO491.out BK502.out (by decide))
             have hn503_2 : ad492.block ≠ gb502 := Kd.own_blk (Kd.R_ne HO491.out BK502.out (by decide))
             have hn503_3 : ad492.block ≠ gb502 := Kd.own_blk (Kd.R_ne HO491.out BK502.out (by decide))
             replace hx503_0 := (cell_far (p := ⟨gb502, 0, none⟩) au43 (.slice none 0 0)).trans hx503_0
             replace hx503_0 := (cell_far (p := ⟨gb502, 1, none⟩) au44 (.string t501)).trans hx503_0
             replace hx503_0 := (cell_far (p := ⟨gb502, 2, none⟩) au45 (.string (rdOf ByteArray.empty t493 (ji5)))).trans hx503_0
             replace hx503_0 := (cell_far (p := ⟨gb502, 3, none⟩) au46 (.string (⟨#[]⟩ : ByteArray))).trans hx503_0
             clear hn503_0
             clear hn503_1
             clear hn503_2
             clear hn503_3
             replace p503 := eq_true p503
             replace q503 := eq_true q503
             have p504 : 0 ≤ (1 : Int) := (by omega)
             have q504 : 1 < (t489.length : Int) := of_decide_eq_true au88
             obtain ⟨ad504, e504, hx504_0⟩ := Kd.at_string (Kd.R_reads' HO491.out).2.2 1 p504 q504
             obtain rfl : ad492 = ad504 := (by injection e504)
             (try simp only [show (1 : Int).toNat = 1 from rfl, Nat.reduceMul, Nat.reduceEqDiff, Go.Addr.add, ↓reduceIte] at hx504_0)
             have qi504 : (1 < t489.length) = True := eq_true (by omega)
             (try rw [show ((1 : Int)).toNat = 1 from rfl] at hx504_0)
             have hn504_0 : ad492.block ≠ gb502 := Kd.own_blk (Kd.R_ne HO491.out BK502.out (by decide))
             have hn504_1 : ad492.block ≠ gb502 := Kd.own_blk (Kd.R_ne HO491.out BK502.out (by decide))
             have hn504_2 : ad492.block ≠ gb502 := Kd.own_blk (Kd.R_ne HO491.out BK502.out (by decide))
             have hn504_3 : ad492.block ≠ gb502 := Kd.own_blk (Kd.R_ne HO491.out BK502.out (by decide))
             replace hx504_0 := (cell_far (p := ⟨gb502, 0, none⟩) au47 (.slice none 0 0)).trans hx504_0
             replace hx504_0 := (cell_far (p := ⟨gb502, 1, none⟩) au48 (.string t501)).trans hx504_0
             replace hx504_0 := (cell_far (p := ⟨gb502, 2, none⟩) au49 (.string (rdOf ByteArray.empty t493 (ji5)))).trans hx504_0
             replace hx504_0 := (cell_far (p := ⟨gb502, 3, none⟩) au50 (.string (⟨#[]⟩ : ByteArray))).trans hx504_0
             clear hn504_0
             clear hn504_1
             clear hn504_2
             clear hn504_3
             replace p504 := eq_true p504
             replace q504 := eq_true q504
             have p30 : 0 ≤ (0 : Int) := (by omega)
             have q30 : 0 < (rdOf ByteArray.empty t489 1).size := (by have : (0 : Int) < ((rdOf ByteArray.empty t489 1).size : Int) := of_decide_eq_true au88; omega)
             have hx30 : ∀ h : 0 < (rdOf ByteArray.empty t489 1).size, (((rdOf ByteArray.empty t489 1)[0]'h).toNat : Int) = bt (rdOf ByteArray.empty t489 1) 0 := bt_at (rdOf ByteArray.empty t489 1) 0
             clear p30
             have qi30 : (0 < ((rdOf ByteArray.empty t489 1).size : Int)) = True := eq_true (of_decide_eq_true au88)
             replace q30 := eq_true q30
             exact spec_l2Parse.L0
           ·
            rw [if_neg c31] at H
            have c31b0 : ((bt (rdOf ByteArray.empty t489 1) 0) == 32) = false := beq_eq_false_iff_ne.mpr c31
            have c31b1 : ((bt (rdOf ByteArray.empty t489 1) 0) != 32) = true := bne_iff_ne.mpr c31
            have H' := Aside0.mk H
            clear H
            have p503 : 0 ≤ (1 : Int) := (by omega)
            have q503 : 1 < (t489.length : Int) := of_decide_eq_true au88
            obtain ⟨ad503, e503, hx503_0⟩ := Kd.at_string (Kd.R_reads' HO491.out).2.2 1 p503 q503
            obtain rfl : ad492 = ad503 := (by injection e503)
            (try simp only [show (1 : Int).toNat = 1 from rfl, Nat.reduceMul, Nat.reduceEqDiff, Go.Addr.add, ↓reduceIte] at hx503_0)
            have qi503 : (1 < t489.length) = True := eq_true (by omega)
            (try rw [show ((1 : Int)).toNat = 1 from rfl] at hx503_0)
            have hn503_0 : ad492.block ≠ gb502 := Kd.own_blk (Kd.R_ne HO491.out BK502.out (by decide))
            have hn503_1 : ad492.block ≠ gb502 := Kd.own_blk (Kd.R_ne HO491.out BK502.out (by decide))
            have hn503_2 : ad492.block ≠ gb502 := Kd.own_blk (Kd.R_ne HO491.out BK502.out (by decide))
            have hn503_3 : ad492.block ≠ gb502 := Kd.own_blk (Kd.R_ne HO491.out BK502.out (by decide))
            replace hx503_0 := (cell_far (p := ⟨gb502, 0, none⟩) au43 (.slice none 0 0)).trans hx503_0
            replace hx503_0 := (cell_far (p := ⟨gb502, 1, none⟩) au44 (.string t501)).trans hx503_0
            replace hx503_0 := (cell_far (p := ⟨gb502, 2, none⟩) au45 (.string (rdOf ByteArray.empty t493 (ji5)))).trans hx503_0
            replace hx503_0 := (cell_far (p := ⟨gb502, 3, none⟩) au46 (.string (⟨#[]⟩ : ByteArray))).trans hx503_0
            clear hn503_0
            clear hn503_1
            clear hn503_2
            clear hn503_3
            replace p503 := eq_true p503
            replace q503 := eq_true q503
            have p504 : 0 ≤ (1 : Int) := (by omega)
            have q504 : 1 < (t489.length : Int) := of_decide_eq_true au88
            obtain ⟨ad504, e504, hx504_0⟩ := Kd.at_string (Kd.R_reads' HO491.out).2.2 1 p504 q504
            obtain rfl : ad492 = ad504 := (by injection e504)
            (try simp only [show (1 : Int).toNat = 1 from rfl, Nat.reduceMul, Nat.reduceEqDiff, Go.Addr.add, ↓reduceIte] at hx504_0)
            have qi504 : (1 < t489.length) = True := eq_true (by omega)
            (try rw [show ((1 : Int)).toNat = 1 from rfl] at hx504_0)
            have hn504_0 : ad492.block ≠ gb502 := Kd.own_blk (Kd.R_ne HO491.out BK502.out (by decide))
            have hn504_1 : ad492.block ≠ gb502 := Kd.own_blk (Kd.R_ne HO491.out BK502.out (by decide))
            have hn504_2 : ad492.block ≠ gb502 := Kd.own_blk (Kd.R_ne HO491.out BK502.out (by decide))
            have hn504_3 : ad492.block ≠ gb502 := Kd.own_blk (Kd.R_ne HO491.out BK502.out (by decide))
            replace hx504_0 := (cell_far (p := ⟨gb502, 0, none⟩) au47 (.slice none 0 0)).trans hx504_0
            replace hx504_0 := (cell_far (p := ⟨gb502, 1, none⟩) au48 (.string t501)).trans hx504_0
            replace hx504_0 := (cell_far (p := ⟨gb502, 2, none⟩) au49 (.string (rdOf ByteArray.empty t493 (ji5)))).trans hx504_0
            replace hx504_0 := (cell_far (p := ⟨gb502, 3, none⟩) au50 (.string (⟨#[]⟩ : ByteArray))).trans hx504_0
            clear hn504_0
            clear hn504_1
            clear hn504_2
            clear hn504_3
            replace p504 := eq_true p504
            replace q504 := eq_true q504
            have p30 : 0 ≤ (0 : Int) := (by omega)
            have q30 : 0 < (rdOf ByteArray.empty t489 1).size := (by have : (0 : Int) < ((rdOf ByteArray.empty t489 1).size : Int) := of_decide_eq_true au88; omega)
            have hx30 : ∀ h : 0 < (rdOf ByteArray.empty t489 1).size, (((rdOf ByteArray.empty t489 1)[0]'h).toNat : Int) = bt (rdOf ByteArray.empty t489 1) 0 := bt_at (rdOf ByteArray.empty t489 1) 0
            clear p30
            have qi30 : (0 < ((rdOf ByteArray.empty t489 1).size : Int)) = True := eq_true (of_decide_eq_true au88)
            replace q30 := eq_true q30
            exact spec_l2Parse.L0
          ·
           rw [if_neg c29] at H
           exact absurd H (by simp)
        ·
         rw [if_neg c27] at H
         exact absurd H (by simp)
       ·
        rw [if_neg c26] at H
        have c26b0 : decide (1 < (t489.length : Int)) = false := decide_eq_false c26
        have c26b1 : decide (1 < t489.length) = false := decide_eq_false (by omega)
        clear c26
        by_cases c37 : (t489.length : Int) > 2
        ·
         rw [if_pos c37] at H
         have c37b0 : decide (2 < (t489.length : Int)) = true := decide_eq_true c37
         have c37b1 : decide (2 < t489.length) = true := decide_eq_true (by omega)
         clear c37
         by_cases c38 : 2 < (t489.length : Int)
         ·
          rw [if_pos c38] at H
          have c38b0 : decide (2 < (t489.length : Int)) = true := decide_eq_true c38
          have c38b1 : decide (2 < t489.length) = true := decide_eq_true (by omega)
          clear c38
          by_cases c39 : (rdOf ByteArray.empty t489 2).toList = ([] : List UInt8)
          ·
           rw [if_pos c39] at H
           have c39b0 : ((rdOf ByteArray.empty t489 2).toList == ([] : List UInt8)) = true := beq_iff_eq.mpr c39
           have c39b1 : ((rdOf ByteArray.empty t489 2).toList != ([] : List UInt8)) = false := bne_eq_false_iff_eq.mpr c39
           clear c39
           have H' := Aside0.mk H
           clear H
           have p507 : 0 ≤ (2 : Int) := (by omega)
           have q507 : 2 < (t489.length : Int) := of_decide_eq_true au88
           obtain ⟨ad507, e507, hx507_0⟩ := Kd.at_string (Kd.R_reads' HO491.out).2.2 2 p507 q507
           obtain rfl : ad492 = ad507 := (by injection e507)
           (try simp only [show (2 : Int).toNat = 2 from rfl, Nat.reduceMul, Nat.reduceEqDiff, Go.Addr.add, ↓reduceIte] at hx507_0)
           have qi507 : (2 < t489.length) = True := eq_true (by omega)
           (try rw [show ((2 : Int)).toNat = 2 from rfl] at hx507_0)
           have hn507_0 : ad492.block ≠ gb502 := Kd.own_blk (Kd.R_ne HO491.out BK502.out (by decide))
           have hn507_1 : ad492.block ≠ gb502 := Kd.own_blk (Kd.R_ne HO491.out BK502.out (by decide))
           have hn507_2 : ad492.block ≠ gb502 := Kd.own_blk (Kd.R_ne HO491.out BK502.out (by decide))
           have hn507_3 : ad492.block ≠ gb502 := Kd.own_blk (Kd.R_ne HO491.out BK502.out (by decide))
           replace hx507_0 := (cell_far (p := ⟨gb502, 0, none⟩) au55 (.slice none 0 0)).trans hx507_0
           replace hx507_0 := (cell_far (p := ⟨gb502, 1, none⟩) au56 (.string t501)).trans hx507_0
           replace hx507_0 := (cell_far (p := ⟨gb502, 2, none⟩) au57 (.string (rdOf ByteArray.empty t493 (ji5)))).trans hx507_0
           replace hx507_0 := (cell_far (p := ⟨gb502, 3, none⟩) au58 (.string (⟨#[]⟩ : ByteArray))).trans hx507_0
           clear hn507_0
           clear hn507_1
           clear hn507_2
           clear hn507_3
           replace p507 := eq_true p507
           replace q507 := eq_true q507
           exact spec_l2Parse.L0
          ·
           rw [if_neg c39] at H
           have c39b0 : ((rdOf ByteArray.empty t489 2).toList == ([] : List UInt8)) = false := beq_eq_false_iff_ne.mpr c39
           have c39b1 : ((rdOf ByteArray.empty t489 2).toList != ([] : List UInt8)) = true := bne_iff_ne.mpr c39
           by_cases c40 : 0 < ((rdOf ByteArray.empty t489 2).size : Int)
           ·
            rw [if_pos c40] at H
            have c40b0 : decide (0 < ((rdOf ByteArray.empty t489 2).size : Int)) = true := decide_eq_true c40
            have c40b1 : decide (0 < (rdOf ByteArray.empty t489 2).size) = true := decide_eq_true (by omega)
            clear c40
            have H' := Aside0.mk H
            clear H
            have p507 : 0 ≤ (2 : Int) := (by omega)
            have q507 : 2 < (t489.length : Int) := of_decide_eq_true au88
            obtain ⟨ad507, e507, hx507_0⟩ := Kd.at_string (Kd.R_reads' HO491.out).2.2 2 p507 q507
            obtain rfl : ad492 = ad507 := (by injection e507)
            (try simp only [show (2 : Int).toNat = 2 from rfl, Nat.reduceMul, Nat.reduceEqDiff, Go.Addr.add, ↓reduceIte] at hx507_0)
            have qi507 : (2 < t489.length) = True := eq_true (by omega)
            (try rw [show ((2 : Int)).toNat = 2 from rfl] at hx507_0)
            have hn507_0 : ad492.block ≠ gb502 := Kd.own_blk (Kd.R_ne HO491.out BK502.out (by decide))
            have hn507_1 : ad492.block ≠ gb502 := Kd.own_blk (Kd.R_ne HO491.out BK502.out (by decide))
            have hn507_2 : ad492.block ≠ gb502 := Kd.own_blk (Kd.R_ne HO491.out BK502.out (by decide))
            have hn507_3 : ad492.block ≠ gb502 := Kd.own_blk (Kd.R_ne HO491.out BK502.out (by decide))
            replace hx507_0 := (cell_far (p := ⟨gb502, 0, none⟩) au55 (.slice none 0 0)).trans hx507_0
            replace hx507_0 := (cell_far (p := ⟨gb502, 1, none⟩) au56 (.string t501)).trans hx507_0
            replace hx507_0 := (cell_far (p := ⟨gb502, 2, none⟩) au57 (.string (rdOf ByteArray.empty t493 (ji5)))).trans hx507_0
            replace hx507_0 := (cell_far (p := ⟨gb502, 3, none⟩) au58 (.string (⟨#[]⟩ : ByteArray))).trans hx507_0
            clear hn507_0
            clear hn507_1
            clear hn507_2
            clear hn507_3
            replace p507 := eq_true p507
            replace q507 := eq_true q507
            have p508 : 0 ≤ (2 : Int) := (by omega)
            have q508 : 2 < (t489.length : Int) := of_decide_eq_true au88
            obtain ⟨ad508, e508, hx508_0⟩ := Kd.at_string (Kd.R_reads' HO491.out).2.2 2 p508 q508
            obtain rfl : ad492 = ad508 := (by injection e508)
            (try simp only [show (2 : Int).toNat = 2 from rfl, Nat.reduceMul, Nat.reduceEqDiff, Go.Addr.add, ↓reduceIte] at hx508_0)
            have qi508 : (2 < t489.length) = True := eq_true (by omega)
            (try rw [show ((2 : Int)).toNat = 2 from rfl] at hx508_0)
            have hn508_0 : ad492.block ≠ gb502 := Kd.own_blk (Kd.R_ne HO491.out BK502.out (by decide))
            have hn508_1 : ad492.block ≠ gb502 := Kd.own_blk (Kd.R_ne HO491.out BK502.out (by decide))
            have hn508_2 : ad492.block ≠ gb502 := Kd.own_blk (Kd.R_ne HO491.out BK502.out (by decide))
            have hn508_3 : ad492.block ≠ gb502 := Kd.own_blk (Kd.R_ne HO491.out BK502.out (by decide))
            replace hx508_0 := (cell_far (p := ⟨gb502, 0, none⟩) (by first | (rw [add_block]; exact hn508_0) | (show (Addr.add _ _).block ≠ _; rw [add_block]; exact hn508_0) | exact hn508_0) (.slice none 0 0)).trans hx508_0
            replace hx508_0 := (cell_far (p := ⟨gb502, 1, none⟩) (by first | (rw [add_block]; exact hn508_1) | (show (Addr.add _ _).block ≠ _; rw [add_block]; exact hn508_1) | exact hn508_1) (.string t501)).trans hx508_0
            replace hx508_0 := (cell_far (p := ⟨gb502, 2, none⟩) (by first | (rw [add_block]; exact hn508_2) | (show (Addr.add _ _).block ≠ _; rw [add_block]; exact hn508_2) | exact hn508_2) (.string (rdOf ByteArray.empty t493 (ji5)))).trans hx508_0
            replace hx508_0 := (cell_far (p := ⟨gb502, 3, none⟩) (by first | (rw [add_block]; exact hn508_3) | (show (Addr.add _ _).block ≠ _; rw [add_block]; exact hn508_3) | exact hn508_3) (.string (⟨#[]⟩ : ByteArray))).trans hx508_0
            clear hn508_0
            clear hn508_1
            clear hn508_2
            clear hn508_3
            replace p508 := eq_true p508
            replace q508 := eq_true q508
            have p41 : 0 ≤ (0 : Int) := (by omega)
            have q41 : 0 < (rdOf ByteArray.empty t489 2).size := (by have : (0 : Int) < ((rdOf ByteArray.empty t489 2).size : Int) := of_decide_eq_true au88; omega)
            have hx41 : ∀ h : 0 < (rdOf ByteArray.empty t489 2).size, (((rdOf ByteArray.empty t489 2)[0]'h).toNat : Int) = bt (rdOf ByteArray.empty t489 2) 0 := bt_at (rdOf ByteArray.empty t489 2) 0
            clear p41
            have qi41 : (0 < ((rdOf ByteArray.empty t489 2).size : Int)) = True := eq_true (of_decide_eq_true au88)
            replace q41 := eq_true q41
            exact spec_l2Parse.L0
           ·
            rw [if_neg c40] at H
            exact absurd H (by simp)
         ·
          rw [if_neg c38] at H
          exact absurd H (by simp)
        ·
         rw [if_neg c37] at H
         have c37b0 : decide (2 < (t489.length : Int)) = false := decide_eq_false c37
         have c37b1 : decide (2 < t489.length) = false := decide_eq_false (by omega)
         clear c37
         have H' := Aside0.mk H
         clear H
         exact spec_l2Parse.L0
     case rest =>
      clear HC11
      try clear c2
      try clear p2
      try clear c3
      try clear p3
      try clear q3
      try clear hx3
      try clear qi3
      try clear c4
      try clear p4
      try clear q4
      try clear hx4
      try clear qi4
      try clear p5
      try clear q5
      try clear hx5
      try clear qi5
      try clear c8
      try clear c25
      try clear c25b0
      try clear c25b1
      try clear c26
      try clear c26b0
      try clear c26b1
      try clear c27
      try clear c27b0
      try clear c27b1
      try clear c28
      try clear c28b0
      try clear c28b1
      try clear c29
      try clear c29b0
      try clear c29b1
      try clear p30
      try clear q30
      try clear hx30
      try clear qi30
      try clear c31
      try clear c31b0
      try clear c31b1
      try clear c32
      try clear c32b0
      try clear c32b1
      try clear c33
      try clear c33b0
      try clear c33b1
      try clear c34
      try clear c34b0
      try clear c34b1
      try clear c35
      try clear c35b0
      try clear c35b1
      try clear p36
      try clear q36
      try clear hx36
      try clear qi36
      try clear c37
      try clear c37b0
      try clear c37b1
      try clear c38
      try clear c38b0
      try clear c38b1
      try clear c39
      try clear c39b0
      try clear c39b1
      try clear c40
      try clear c40b0
      try clear c40b1
      try clear p41
      try clear q41
      try clear hx41
      try clear qi41
      try clear hx503_0
      try clear hx504_0
      try clear hx505_0
      try clear hx506_0
      try clear hx507_0
      try clear hx508_0
      try clear p30
      try clear p36
      try clear p41
      try clear p503
      try clear p504
      try clear p505
      try clear p506
      try clear p507
      try clear p508
      try clear q30
      try clear q36
      try clear q41
      try clear q503
      try clear q504
      try clear q505
      try clear q506
      try clear q507
      try clear q508
      obtain ⟨kq, x64_10, rfl, HA, HJ10, HO_4, BK488, BK502, HB⟩ := hcut
      cases kq with
      | zero => exact absurd HA.out (by simp [spec_l2Parse.j0])
      | succ kj10 =>
       have H := HA.out
       clear HA
       simp only [spec_l2Parse.j0] at H
       by_cases c42 : x64_10 = true
       ·
        subst c42
        replace H := (if_pos rfl).symm.trans H
        simp only [Option.some.injEq, Prod.mk.injEq] at H
        obtain ⟨rfl, rfl, rfl, rfl, rfl⟩ := H
        have hnb43 := NB488_502.out
        have hnc43 := NB502_488.out
        have hcz44_0 : wc.cell? ⟨gb488, 0, none⟩ = some (.slice none 0 0) := (blk_cell BK488.out 0).trans rfl
        have hcz44_1 : wc.cell? ⟨gb488, 1, none⟩ = some (.string (⟨#[]⟩ : ByteArray)) := (blk_cell BK488.out 1).trans rfl
        have hcz44_2 : wc.cell? ⟨gb488, 2, none⟩ = some (.string (⟨#[]⟩ : ByteArray)) := (blk_cell BK488.out 2).trans rfl
        have hcz44_3 : wc.cell? ⟨gb488, 3, none⟩ = some (.string (⟨#[]⟩ : ByteArray)) := (blk_cell BK488.out 3).trans rfl
        have hfz44_0 := blk_frozen BK488.out 0
        have hfz44_1 := blk_frozen BK488.out 1
        have hfz44_2 := blk_frozen BK488.out 2
        have hfz44_3 := blk_frozen BK488.out 3
        go_wp2
        refine bodyPost_ret (results_ct rfl _ _ gb488 27 #[.slice none 0 0, .string (⟨#[]⟩ : ByteArray), .string (⟨#[]⟩ : ByteArray), .string (⟨#[]⟩ : ByteArray)] (0, 0) _ rfl (by (with_reducible repeat (first | refine blk_drewN ?_ _ | refine blk_drew ?_ | refine blk_alloc ?_ _)); refine blk_put (cs := #[.slice none 0 0, .string (⟨#[]⟩ : ByteArray), .string (⟨#[]⟩ : ByteArray), .string (⟨#[]⟩ : ByteArray)]) ?_ 3 _ rfl; (with_reducible repeat (first | refine blk_drewN ?_ _ | refine blk_drew ?_ | refine blk_alloc ?_ _)); refine blk_put (cs := #[.slice none 0 0, .string (⟨#[]⟩ : ByteArray), .string (⟨#[]⟩ : ByteArray), .string (⟨#[]⟩ : ByteArray)]) ?_ 2 _ rfl; (with_reducible repeat (first | refine blk_drewN ?_ _ | refine blk_drew ?_ | refine blk_alloc ?_ _)); refine blk_put (cs := #[.slice none 0 0, .string (⟨#[]⟩ : ByteArray), .string (⟨#[]⟩ : ByteArray), .string (⟨#[]⟩ : ByteArray)]) ?_ 1 _ rfl; (with_reducible repeat (first | refine blk_drewN ?_ _ | refine blk_drew ?_ | refine blk_alloc ?_ _)); refine blk_put (cs := #[.slice none 0 0, .string (⟨#[]⟩ : ByteArray), .string (⟨#[]⟩ : ByteArray), .string (⟨#[]⟩ : ByteArray)]) ?_ 0 _ rfl; (with_reducible repeat (first | refine blk_drewN ?_ _ | refine blk_drew ?_ | refine blk_alloc ?_ _)); exact BK488.out) Tryd.underlying27 rfl (by kernel_rfl)) rfl ?_
        exact ⟨_, by first | rfl | (simp [errW_none, errW_some] <;> rfl) | (simp only [← hji5]; first | rfl | (simp [errW_none, errW_some] <;> rfl)) | (simp [*, errW_none, errW_some] <;> rfl), by first | exact Kd.R_nil _ _ _ _ _ | exact Kd.N_nil _ _ _ _ _ | exact Kd.V_nil _ _ _ _ _ | exact Kd.Q_nil _ _ _ _ _ | exact Kd.S_nil _ _ _ _ _, by repeat (first | (with_reducible first | exact HB.out | apply below_alloc | apply pw_below_drewN | apply below_drew1 | refine below_set ?_ GE488.out | refine below_set ?_ GE502.out) | exact HB.out)⟩
       ·
        replace c42 := Bool.eq_false_iff.mpr c42
        subst c42
        replace H := (if_neg (show ¬ (false = true) by decide)).symm.trans H
        have HC45 := Aside0.mk H
        clear H
        go_upto_region 6 with (fail)
        go_cut [75] (fun v75 wc => ∃ (kq : Nat) (x75_44 : Bool), v75 = .bool x75_44 ∧ Aside0 (spec_l2Parse.j1 kq a0 t489 x75_44 t501 (rdOf ByteArray.empty t493 (ji5)) (⟨#[]⟩ : ByteArray) = some (r1, r2, r3, r4, r5)) ∧ Aside0 (kq ≤ kj10) ∧ Aside0 (Kd.R Kd.string 9 wc w.heap.size (fun _ => True) (.slice (some ad492) t489.length co14) t489) ∧ Aside0 (wc.heap[gb488]? = some (.cells #[(.slice none 0 0), .string (⟨#[]⟩ : ByteArray), .string (⟨#[]⟩ : ByteArray), .string (⟨#[]⟩ : ByteArray)] 27 (0, 0))) ∧ Aside0 (wc.heap[gb502]? = some (.cells #[(.slice none 0 0), .string t501, .string (rdOf ByteArray.empty t493 (ji5)), .string (⟨#[]⟩ : ByteArray)] 27 (0, 0))) ∧ Aside0 (Below w.heap.size w wc))
        case first =>
         have H := HC45.out
         clear HC45
         by_cases c46 : (t489.length : Int) > 1
         ·
          rw [if_pos c46] at H
          have c46b0 : decide (1 < (t489.length : Int)) = true := decide_eq_true c46
          have c46b1 : decide (1 < t489.length) = true := decide_eq_true (by omega)
          clear c46
          (first | rw [c46b0] | (simp only [i64_w, i32_w]; rw [c46b0]) | skip)
          by_cases c47 : 1 < (t489.length : Int)
          ·
           rw [if_pos c47] at H
           have c47b0 : decide (1 < (t489.length : Int)) = true := decide_eq_true c47
           have c47b1 : decide (1 < t489.length) = true := decide_eq_true (by omega)
           clear c47
           have H' := Aside0.mk H
           clear H
           have p509 : 0 ≤ (1 : Int) := (by omega)
           have q509 : 1 < (t489.length : Int) := of_decide_eq_true au88
           obtain ⟨ad509, e509, hx509_0⟩ := Kd.at_string (Kd.R_reads' HO_4.out).2.2 1 p509 q509
           obtain rfl : ad492 = ad509 := (by injection e509)
           (try simp only [show (1 : Int).toNat = 1 from rfl, Nat.reduceMul, Nat.reduceEqDiff, Go.Addr.add, ↓reduceIte] at hx509_0)
           have qi509 : (1 < t489.length) = True := eq_true (by omega)
           (try rw [show ((1 : Int)).toNat = 1 from rfl] at hx509_0)
           replace p509 := eq_true p509
           replace q509 := eq_true q509
           exact spec_l2Parse.L0
          ·
           rw [if_neg c47] at H
           exact absurd H (by simp)
         ·
          rw [if_neg c46] at H
          have c46b0 : decide (1 < (t489.length : Int)) = false := decide_eq_false c46
          have c46b1 : decide (1 < t489.length) = false := decide_eq_false (by omega)
          clear c46
          (first | rw [c46b0] | (simp only [i64_w, i32_w]; rw [c46b0]) | skip)
          have H' := Aside0.mk H
          clear H
          exact spec_l2Parse.L0
        case rest =>
         clear HC45
         try clear c2
         try clear p2
         try clear c3
         try clear p3
         try clear q3
         try clear hx3
         try clear qi3
         try clear c4
         try clear p4
         try clear q4
         try clear hx4
         try clear qi4
         try clear p5
         try clear q5
         try clear hx5
         try clear qi5
         try clear c8
         try clear c25
         try clear c25b0
         try clear c25b1
         try clear c26
         try clear c26b0
         try clear c26b1
         try clear c27
         try clear c27b0
         try clear c27b1
         try clear c28
         try clear c28b0
         try clear c28b1
         try clear c29
         try clear c29b0
         try clear c29b1
         try clear p30
         try clear q30
         try clear hx30
         try clear qi30
         try clear c31
         try clear c31b0
         try clear c31b1
         try clear c32
         try clear c32b0
         try clear c32b1
         try clear c33
         try clear c33b0
         try clear c33b1
         try clear c34
         try clear c34b0
         try clear c34b1
         try clear c35
         try clear c35b0
         try clear c35b1
         try clear p36
         try clear q36
         try clear hx36
         try clear qi36
         try clear c37
         try clear c37b0
         try clear c37b1
         try clear c38
         try clear c38b0
         try clear c38b1
         try clear c39
         try clear c39b0
         try clear c39b1
         try clear c40
         try clear c40b0
         try clear c40b1
         try clear p41
         try clear q41
         try clear hx41
         try clear qi41
         try clear c42
         try clear c43
         try clear c46
         try clear c46b0
         try clear c46b1
         try clear c47
         try clear c47b0
         try clear c47b1
         try clear hcz44_0
         try clear hcz44_1
         try clear hcz44_2
         try clear hcz44_3
         try clear hfz44_0
         try clear hfz44_1
         try clear hfz44_2
         try clear hfz44_3
         try clear hx503_0
         try clear hx504_0
         try clear hx505_0
         try clear hx506_0
         try clear hx507_0
         try clear hx508_0
         try clear hx509_0
         try clear p2
         try clear p3
         try clear p30
         try clear p36
         try clear p4
         try clear p41
         try clear p5
         try clear p503
         try clear p504
         try clear p505
         try clear p506
         try clear p507
         try clear p508
         try clear p509
         try clear q3
         try clear q30
         try clear q36
         try clear q4
         try clear q41
         try clear q5
         try clear q503
         try clear q504
         try clear q505
         try clear q506
         try clear q507
         try clear q508
         try clear q509
         obtain ⟨kq, x75_44, rfl, HA, HJ44, HO_4, BK488, BK502, HB⟩ := hcut
         cases kq with
         | zero => exact absurd HA.out (by simp [spec_l2Parse.j1])
         | succ kj44 =>
          have H := HA.out
          clear HA
          simp only [spec_l2Parse.j1] at H
          have HC48 := Aside0.mk H
          clear H
          go_upto_if 75 with (fail)
          go_cut [] (fun wc => ∃ (kq : Nat) (x503000_47 : List ByteArray) (u503000 : Value), Aside0 (spec_l2Parse.j2 kq a0 t489 x503000_47 t501 (rdOf ByteArray.empty t493 (ji5)) (⟨#[]⟩ : ByteArray) = some (r1, r2, r3, r4, r5)) ∧ Aside0 (kq ≤ kj44) ∧ Aside0 (Kd.R Kd.string 9 wc w.heap.size (fun k_ => some k_ ≠ (u503000 : Value).ownBlock) (.slice (some ad492) t489.length co14) t489) ∧ Aside0 (Kd.R Kd.string 9 wc w.heap.size (fun k_ => some k_ ≠ ((.slice (some ad492) t489.length co14) : Value).ownBlock) u503000 x503000_47) ∧ Aside0 (wc.heap[gb488]? = some (.cells #[(.slice none 0 0), .string (⟨#[]⟩ : ByteArray), .string (⟨#[]⟩ : ByteArray), .string (⟨#[]⟩ : ByteArray)] 27 (0, 0))) ∧ Aside0 (wc.heap[gb502]? = some (.cells #[u503000, .string t501, .string (rdOf ByteArray.empty t493 (ji5)), .string (⟨#[]⟩ : ByteArray)] 27 (0, 0))) ∧ Aside0 (Below w.heap.size w wc))
          case first =>
           have H := HC48.out
           clear HC48
           by_cases c49 : x75_44 = true
           ·
            subst c49
            replace H := (if_pos rfl).symm.trans H
            by_cases c50 : 1 < (t489.length : Int)
            ·
             rw [if_pos c50] at H
             have c50b0 : decide (1 < (t489.length : Int)) = true := decide_eq_true c50
             have c50b1 : decide (1 < t489.length) = true := decide_eq_true (by omega)
             clear c50
             (first | rw [c50b0] | (simp only [i64_w, i32_w]; rw [c50b0]) | skip)
             by_cases c51 : 1 ≤ ((rdOf ByteArray.empty t489 1).size : Int)
             ·
              rw [if_pos c51] at H
              have c51b0 := eq_true c51
              have c51b1 : decide (1 ≤ ((rdOf ByteArray.empty t489 1).size : Int)) = true := decide_eq_true c51
              clear c51
              replace H := Option.bind_eq_some_iff.mp H
              obtain ⟨t511, A520, H⟩ := H
              try dsimp only at H
              have A52 := Aside0.mk A520
              clear A520
              have H' := Aside0.mk H
              clear H
              have p510 : 0 ≤ (1 : Int) := (by omega)
              have q510 : 1 < (t489.length : Int) := of_decide_eq_true au88
              obtain ⟨ad510, e510, hx510_0⟩ := Kd.at_string (Kd.R_reads' HO_4.out).2.2 1 p510 q510
              obtain rfl : ad492 = ad510 := (by injection e510)
              (try simp only [show (1 : Int).toNat = 1 from rfl, Nat.reduceMul, Nat.reduceEqDiff, Go.Addr.add, ↓reduceIte] at hx510_0)
              have qi510 : (1 < t489.length) = True := eq_true (by omega)
              (try rw [show ((1 : Int)).toNat = 1 from rfl] at hx510_0)
              replace p510 := eq_true p510
              replace q510 := eq_true q510
              exact spec_l2Parse.L0
             ·
              rw [if_neg c51] at H
              exact absurd H (by simp)
            ·
             rw [if_neg c50] at H
             exact absurd H (by simp)
           ·
            replace c49 := Bool.eq_false_iff.mpr c49
            subst c49
            replace H := (if_neg (show ¬ (false = true) by decide)).symm.trans H
            have H' := Aside0.mk H
            clear H
            exact spec_l2Parse.L0
          case rest =>
           clear HC48
           try clear c2
           try clear p2
           try clear c3
           try clear p3
           try clear q3
           try clear hx3
           try clear qi3
           try clear c4
           try clear p4
           try clear q4
           try clear hx4
           try clear qi4
           try clear c5
           try clear p5
           try clear q5
           try clear hx5
           try clear qi5
           try clear c8
           try clear c25
           try clear c25b0
           try clear c25b1
           try clear c26
           try clear c26b0
           try clear c26b1
           try clear c27
           try clear c27b0
           try clear c27b1
           try clear c28
           try clear c28b0
           try clear c28b1
           try clear c29
           try clear c29b0
           try clear c29b1
           try clear p30
           try clear q30
           try clear hx30
           try clear qi30
           try clear c31
           try clear c31b0
           try clear c31b1
           try clear c32
           try clear c32b0
           try clear c32b1
           try clear c33
           try clear c33b0
           try clear c33b1
           try clear c34
           try clear c34b0
           try clear c34b1
           try clear c35
           try clear c35b0
           try clear c35b1
           try clear p36
           try clear q36
           try clear hx36
           try clear qi36
           try clear c37
           try clear c37b0
           try clear c37b1
           try clear c38
           try clear c38b0
           try clear c38b1
           try clear c39
           try clear c39b0
           try clear c39b1
           try clear c40
           try clear c40b0
           try clear c40b1
           try clear p41
           try clear q41
           try clear hx41
           try clear qi41
           try clear c42
           try clear c43
           try clear c46
           try clear c46b0
           try clear c46b1
           try clear c47
           try clear c47b0
           try clear c47b1
           try clear c49
           try clear c50
           try clear c50b0
           try clear c50b1
           try clear p50
           try clear q50
           try clear hx50
           try clear qi50
           try clear c51
           try clear c51b0
           try clear c51b1
           try clear p51
           try clear q51
           try clear hx51
           try clear qi51
           try clear c55
           try clear hcz44_0
           try clear hcz44_1
           try clear hcz44_2
           try clear hcz44_3
           try clear hcz56_0
           try clear hcz56_1
           try clear hcz56_2
           try clear hcz56_3
           try clear hfz44_0
           try clear hfz44_1
           try clear hfz44_2
           try clear hfz44_3
           try clear hfz56_0
           try clear hfz56_1
           try clear hfz56_2
           try clear hfz56_3
           try clear hx503_0
           try clear hx504_0
           try clear hx505_0
           try clear hx506_0
           try clear hx507_0
           try clear hx508_0
           try clear hx509_0
           try clear hx510_0
           try clear p2
           try clear p3
           try clear p30
           try clear p36
           try clear p4
           try clear p41
           try clear p5
           try clear p503
           try clear p504
           try clear p505
           try clear p506
           try clear p507
           try clear p508
           try clear p509
           try clear p510
           try clear q3
           try clear q30
           try clear q36
           try clear q4
           try clear q41
           try clear q5
           try clear q503
           try clear q504
           try clear q505
           try clear q506
           try clear q507
           try clear q508
           try clear q509
           try clear q510
           obtain ⟨kq, x503000_47, u503000, HA, HJ47, HO_4, HO_503000, BK488, BK502, HB⟩ := hcut
           cases kq with
           | zero => exact absurd HA.out (by simp [spec_l2Parse.j2])
           | succ kj47 =>
            have H := HA.out
            clear HA
            simp only [spec_l2Parse.j2] at H
            have HC57 := Aside0.mk H
            clear H
            go_upto_if 84 with (fail)
            go_cut [] (fun wc => ∃ (kq : Nat) (x503003_56 : ByteArray), Aside0 (spec_l2Parse.j3 kq a0 x503000_47 t501 (rdOf ByteArray.empty t493 (ji5)) x503003_56 = some (r1, r2, r3, r4, r5)) ∧ Aside0 (kq ≤ kj47) ∧ Aside0 (Kd.R Kd.string 9 wc w.heap.size (fun _ => True) u503000 x503000_47) ∧ Aside0 (wc.heap[gb488]? = some (.cells #[(.slice none 0 0), .string (⟨#[]⟩ : ByteArray), .string (⟨#[]⟩ : ByteArray), .string (⟨#[]⟩ : ByteArray)] 27 (0, 0))) ∧ Aside0 (wc.heap[gb502]? = some (.cells #[u503000, .string t501, .string (rdOf ByteArray.empty t493 (ji5)), .string x503003_56] 27 (0, 0))) ∧ Aside0 (Below w.heap.size w wc))
            case first =>
             have H := HC57.out
             clear HC57
             by_cases c58 : (t489.length : Int) > 2
             ·
              rw [if_pos c58] at H
              have c58b0 : decide (2 < (t489.length : Int)) = true := decide_eq_true c58
              have c58b1 : decide (2 < t489.length) = true := decide_eq_true (by omega)
              clear c58
              (first | rw [c58b0] | (simp only [i64_w, i32_w]; rw [c58b0]) | skip)
              by_cases c59 : 2 < (t489.length : Int)
              ·
               rw [if_pos c59] at H
               have c59b0 : decide (2 < (t489.length : Int)) = true := decide_eq_true c59
               have c59b1 : decide (2 < t489.length) = true := decide_eq_true (by omega)
               clear c59
               by_cases c60 : 1 ≤ ((rdOf ByteArray.empty t489 2).size : Int)
               ·
                rw [if_pos c60] at H
                have c60b0 := eq_true c60
                have c60b1 : decide (1 ≤ ((rdOf ByteArray.empty t489 2).size : Int)) = true := decide_eq_true c60
                clear c60
                have H' := Aside0.mk H
                clear H
                have p514 : 0 ≤ (2 : Int) := (by omega)
                have q514 : 2 < (t489.length : Int) := of_decide_eq_true au88
                obtain ⟨ad514, e514, hx514_0⟩ := Kd.at_string (Kd.R_reads' HO_4.out).2.2 2 p514 q514
                obtain rfl : ad492 = ad514 := (by injection e514)
                (try simp only [show (2 : Int).toNat = 2 from rfl, Nat.reduceMul, Nat.reduceEqDiff, Go.Addr.add, ↓reduceIte] at hx514_0)
                have qi514 : (2 < t489.length) = True := eq_true (by omega)
                (try rw [show ((2 : Int)).toNat = 2 from rfl] at hx514_0)
                replace p514 := eq_true p514
                replace q514 := eq_true q514
                have hnb61 := NB502_488.out
                have hnc61 := NB488_502.out
                have hcz62_0 : wc.cell? ⟨gb502, 0, none⟩ = some (u503000) := (blk_cell BK502.out 0).trans rfl
                have hcz62_1 : wc.cell? ⟨gb502, 1, none⟩ = some (.string t501) := (blk_cell BK502.out 1).trans rfl
                have hcz62_2 : wc.cell? ⟨gb502, 2, none⟩ = some (.string (rdOf ByteArray.empty t493 (ji5))) := (blk_cell BK502.out 2).trans rfl
                have hcz62_3 : wc.cell? ⟨gb502, 3, none⟩ = some (.string (⟨#[]⟩ : ByteArray)) := (blk_cell BK502.out 3).trans rfl
                have hfz62_0 := blk_frozen BK502.out 0
                have hfz62_1 := blk_frozen BK502.out 1
                have hfz62_2 := blk_frozen BK502.out 2
                have hfz62_3 := blk_frozen BK502.out 3
                go_wp2
                go_meet
                case rel => exact ⟨_, ((rdOf ByteArray.empty t489 2).extract 1 (rdOf ByteArray.empty t489 2).size), H', ⟨by have := HJ10.out; have := HJ44.out; have := HJ47.out; first | omega | exact Nat.le_refl _⟩, ⟨by (with_reducible repeat (first | apply Kd.R_alloc | apply Kd.R_drewN | apply Kd.R_drew)); exact Kd.R_mono (Kd.R_far (p := ⟨gb502, 3, none⟩) (Kd.R_types HO_503000.out BK502.out (by decide)) (fun _ hk => hk.2) (.string ((rdOf ByteArray.empty t489 2).extract 1 (rdOf ByteArray.empty t489 2).size))) (fun _ hk => trivial)⟩, ⟨by (with_reducible repeat (first | refine blk_drewN ?_ _ | refine blk_drew ?_ | refine blk_alloc ?_ _)); refine blk_far ?_ NB488_502.out _; (with_reducible repeat (first | refine blk_drewN ?_ _ | refine blk_drew ?_ | refine blk_alloc ?_ _)); exact BK488.out⟩, ⟨by (with_reducible repeat (first | refine blk_drewN ?_ _ | refine blk_drew ?_ | refine blk_alloc ?_ _)); refine blk_put (cs := #[u503000, .string t501, .string (rdOf ByteArray.empty t493 (ji5)), .string (⟨#[]⟩ : ByteArray)]) ?_ 3 _ rfl; (with_reducible repeat (first | refine blk_drewN ?_ _ | refine blk_drew ?_ | refine blk_alloc ?_ _)); exact BK502.out⟩, ⟨by repeat (first | (with_reducible first | exact HB.out | apply below_alloc | apply pw_below_drewN | apply below_drew1 | refine below_set ?_ GE488.out | refine below_set ?_ GE502.out) | exact HB.out)⟩⟩
               ·
                rw [if_neg c60] at H
                exact absurd H (by simp)
              ·
               rw [if_neg c59] at H
               exact absurd H (by simp)
             ·
              rw [if_neg c58] at H
              have c58b0 : decide (2 < (t489.length : Int)) = false := decide_eq_false c58
              have c58b1 : decide (2 < t489.length) = false := decide_eq_false (by omega)
              clear c58
              (first | rw [c58b0] | (simp only [i64_w, i32_w]; rw [c58b0]) | skip)
              have H' := Aside0.mk H
              clear H
              exact spec_l2Parse.L0
            case rest =>
             clear HC57
             try clear c2
             try clear p2
             try clear c3
             try clear p3
             try clear q3
             try clear hx3
             try clear qi3
             try clear c4
             try clear p4
             try clear q4
             try clear hx4
             try clear qi4
             try clear c5
             try clear p5
             try clear q5
             try clear hx5
             try clear qi5
             try clear c6
             try clear c8
             try clear c25
             try clear c25b0
             try clear c25b1
             try clear c26
             try clear c26b0
             try clear c26b1
             try clear c27
             try clear c27b0
             try clear c27b1
             try clear c28
             try clear c28b0
             try clear c28b1
             try clear c29
             try clear c29b0
             try clear c29b1
             try clear p30
             try clear q30
             try clear hx30
             try clear qi30
             try clear c31
             try clear c31b0
             try clear c31b1
             try clear c32
             try clear c32b0
             try clear c32b1
             try clear c33
             try clear c33b0
             try clear c33b1
             try clear c34
             try clear c34b0
             try clear c34b1
             try clear c35
             try clear c35b0
             try clear c35b1
             try clear p36
             try clear q36
             try clear hx36
             try clear qi36
             try clear c37
             try clear c37b0
             try clear c37b1
             try clear c38
             try clear c38b0
             try clear c38b1
             try clear c39
             try clear c39b0
             try clear c39b1
             try clear c40
             try clear c40b0
             try clear c40b1
             try clear p41
             try clear q41
             try clear hx41
             try clear qi41
             try clear c42
             try clear c43
             try clear c46
             try clear c46b0
             try clear c46b1
             try clear c47
             try clear c47b0
             try clear c47b1
             try clear c49
             try clear c50
             try clear c50b0
             try clear c50b1
             try clear p50
             try clear q50
             try clear hx50
             try clear qi50
             try clear c51
             try clear c51b0
             try clear c51b1
             try clear p51
             try clear q51
             try clear hx51
             try clear qi51
             try clear c55
             try clear c58
             try clear c58b0
             try clear c58b1
             try clear c59
             try clear c59b0
             try clear c59b1
             try clear c60
             try clear c60b0
             try clear c60b1
             try clear c61
             try clear hcz44_0
             try clear hcz44_1
             try clear hcz44_2
             try clear hcz44_3
             try clear hcz56_0
             try clear hcz56_1
             try clear hcz56_2
             try clear hcz56_3
             try clear hcz62_0
             try clear hcz62_1
             try clear hcz62_2
             try clear hcz62_3
             try clear hfz44_0
             try clear hfz44_1
             try clear hfz44_2
             try clear hfz44_3
             try clear hfz56_0
             try clear hfz56_1
             try clear hfz56_2
             try clear hfz56_3
             try clear hfz62_0
             try clear hfz62_1
             try clear hfz62_2
             try clear hfz62_3
             try clear hx503_0
             try clear hx504_0
             try clear hx505_0
             try clear hx506_0
             try clear hx507_0
             try clear hx508_0
             try clear hx509_0
             try clear hx510_0
             try clear hx514_0
             try clear p2
             try clear p3
             try clear p30
             try clear p36
             try clear p4
             try clear p41
             try clear p5
             try clear p50
             try clear p503
             try clear p504
             try clear p505
             try clear p506
             try clear p507
             try clear p508
             try clear p509
             try clear p51
             try clear p510
             try clear p514
             try clear q3
             try clear q30
             try clear q36
             try clear q4
             try clear q41
             try clear q5
             try clear q50
             try clear q503
             try clear q504
             try clear q505
             try clear q506
             try clear q507
             try clear q508
             try clear q509
             try clear q51
             try clear q510
             try clear q514
             obtain ⟨kq, x503003_56, HA, HJ56, HO_503000, BK488, BK502, HB⟩ := hcut
             cases kq with
             | zero => exact absurd HA.out (by simp [spec_l2Parse.j3])
             | succ kj56 =>
              have H := HA.out
              clear HA
              simp only [spec_l2Parse.j3] at H
              replace H := Option.bind_eq_some_iff.mp H
              obtain ⟨t515, A630, H⟩ := H
              try dsimp only at H
              have A63 := Aside0.mk A630
              clear A630
              by_cases c64 : t515 = true
              ·
               subst c64
               replace H := (if_pos rfl).symm.trans H
               replace H := Option.bind_eq_some_iff.mp H
               obtain ⟨t516, A650, H⟩ := H
               try dsimp only at H
               have A65 := Aside0.mk A650
               clear A650
               by_cases c66 : t516.toList = a0.toList
               ·
                rw [if_pos c66] at H
                have c66b0 : (t516.toList == a0.toList) = true := beq_iff_eq.mpr c66
                have c66b1 : (t516.toList != a0.toList) = false := bne_eq_false_iff_eq.mpr c66
                clear c66
                simp only [Option.some.injEq, Prod.mk.injEq] at H
                obtain ⟨rfl, rfl, rfl, rfl, rfl⟩ := H
                have hnb67 := NB502_488.out
                have hnc67 := NB488_502.out
                have hcz68_0 : wc.cell? ⟨gb502, 0, none⟩ = some (u503000) := (blk_cell BK502.out 0).trans rfl
                have hcz68_1 : wc.cell? ⟨gb502, 1, none⟩ = some (.string t501) := (blk_cell BK502.out 1).trans rfl
                have hcz68_2 : wc.cell? ⟨gb502, 2, none⟩ = some (.string (rdOf ByteArray.empty t493 (ji5))) := (blk_cell BK502.out 2).trans rfl
                have hcz68_3 : wc.cell? ⟨gb502, 3, none⟩ = some (.string x503003_56) := (blk_cell BK502.out 3).trans rfl
                have hfz68_0 := blk_frozen BK502.out 0
                have hfz68_1 := blk_frozen BK502.out 1
                have hfz68_2 := blk_frozen BK502.out 2
                have hfz68_3 := blk_frozen BK502.out 3
                obtain ⟨Ao69, co69, eo69⟩ := Kd.R_slice HO_503000.out
                subst eo69
                go_wp2_with (first | ((with_reducible refine gate_callee (f := 39) rfl ?_); refine goesL_ (some 91) rfl rfl Tryd.func39 (by kernel_rfl) rfl #[.agg #[.slice Ao69 x503000_47.length co69, .string t501, .string (rdOf ByteArray.empty t493 (ji5)), .string x503003_56]] rfl au22 ?_; (with_reducible refine (spec_l2Good.calls kj56 _ _ x503000_47 t501 (rdOf ByteArray.empty t493 (ji5)) x503003_56 _ _ ?side1 ?side2 A63.out).mono ?_); (case side1 => repeat (first | exact (Kd.R_reads' HO_503000.out).2.2 | (with_reducible refine Kd.C_alloc ?_ _) | (with_reducible refine Kd.C_drewN ?_ _) | (with_reducible refine Kd.C_drew ?_))); (case side2 => exact (Kd.R_reads' HO_503000.out).2.1); rintro e w70 ⟨rfl, hb⟩; refine ⟨_, rfl, ?_⟩; have n0_ := Aside0.mk (Kd.R_below au77 hb); have n1_ := Aside0.mk (blk_below (g := gb488) (o := .cells #[.slice none 0 0, .string (⟨#[]⟩ : ByteArray), .string (⟨#[]⟩ : ByteArray), .string (⟨#[]⟩ : ByteArray)] 27 (0, 0)) au62 hb); have n2_ := Aside0.mk (blk_below (g := gb502) (o := .cells #[.slice Ao69 x503000_47.length co69, .string t501, .string (rdOf ByteArray.empty t493 (ji5)), .string x503003_56] 27 (0, 0)) au63 hb); have n3_ := Aside0.mk (below_step au15 hb); clear HO_503000; clear BK488; clear BK502; clear HB; have HO_503000 := n0_; have BK488 := n1_; have BK502 := n2_; have HB := n3_; clear n0_ n1_ n2_ n3_; (try clear hb); (try clear hb2); (try clear hk); (try clear hi); have hcz71_0 : w70.cell? ⟨gb502, 0, none⟩ = some (.slice Ao69 x503000_47.length co69) := (blk_cell BK502.out 0).trans rfl; have hcz71_1 : w70.cell? ⟨gb502, 1, none⟩ = some (.string t501) := (blk_cell BK502.out 1).trans rfl; have hcz71_2 : w70.cell? ⟨gb502, 2, none⟩ = some (.string (rdOf ByteArray.empty t493 (ji5))) := (blk_cell BK502.out 2).trans rfl; have hcz71_3 : w70.cell? ⟨gb502, 3, none⟩ = some (.string x503003_56) := (blk_cell BK502.out 3).trans rfl; have hfz71_0 := blk_frozen BK502.out 0; have hfz71_1 := blk_frozen BK502.out 1; have hfz71_2 := blk_frozen BK502.out 2; have hfz71_3 := blk_frozen BK502.out 3) | (go_at_call 57; (with_reducible refine (spec_l2Inverse.calls kj56 _ _ x503000_47 t501 (rdOf ByteArray.empty t493 (ji5)) x503003_56 t516 _ ?side1 ?side2 A65.out).mono ?_); (case side1 => repeat (first | exact (Kd.R_reads' HO_503000.out).2.2 | (with_reducible refine Kd.C_alloc ?_ _) | (with_reducible refine Kd.C_drewN ?_ _) | (with_reducible refine Kd.C_drew ?_))); (case side2 => exact (Kd.R_reads' HO_503000.out).2.1); rintro e w72 ⟨rfl, hb⟩; have n0_ := Aside0.mk (Kd.R_below au77 hb); have n1_ := Aside0.mk (blk_below (g := gb488) (o := .cells #[.slice none 0 0, .string (⟨#[]⟩ : ByteArray), .string (⟨#[]⟩ : ByteArray), .string (⟨#[]⟩ : ByteArray)] 27 (0, 0)) au62 hb); have n2_ := Aside0.mk (blk_below (g := gb502) (o := .cells #[.slice Ao69 x503000_47.length co69, .string t501, .string (rdOf ByteArray.empty t493 (ji5)), .string x503003_56] 27 (0, 0)) au63 hb); have n3_ := Aside0.mk (below_step au15 hb); clear HO_503000; clear BK488; clear BK502; clear HB; have HO_503000 := n0_; have BK488 := n1_; have BK502 := n2_; have HB := n3_; clear n0_ n1_ n2_ n3_; (try clear hb); (try clear hb2); (try clear hk); (try clear hi); have hcz73_0 : w72.cell? ⟨gb502, 0, none⟩ = some (.slice Ao69 x503000_47.length co69) := (blk_cell BK502.out 0).trans rfl; have hcz73_1 : w72.cell? ⟨gb502, 1, none⟩ = some (.string t501) := (blk_cell BK502.out 1).trans rfl; have hcz73_2 : w72.cell? ⟨gb502, 2, none⟩ = some (.string (rdOf ByteArray.empty t493 (ji5))) := (blk_cell BK502.out 2).trans rfl; have hcz73_3 : w72.cell? ⟨gb502, 3, none⟩ = some (.string x503003_56) := (blk_cell BK502.out 3).trans rfl; have hfz73_0 := blk_frozen BK502.out 0; have hfz73_1 := blk_frozen BK502.out 1; have hfz73_2 := blk_frozen BK502.out 2; have hfz73_3 := blk_frozen BK502.out 3; have hcz74_0 : w72.cell? ⟨gb488, 0, none⟩ = some (.slice none 0 0) := (blk_cell BK488.out 0).trans rfl; have hcz74_1 : w72.cell? ⟨gb488, 1, none⟩ = some (.string (⟨#[]⟩ : ByteArray)) := (blk_cell BK488.out 1).trans rfl; have hcz74_2 : w72.cell? ⟨gb488, 2, none⟩ = some (.string (⟨#[]⟩ : ByteArray)) := (blk_cell BK488.out 2).trans rfl; have hcz74_3 : w72.cell? ⟨gb488, 3, none⟩ = some (.string (⟨#[]⟩ : ByteArray)) := (blk_cell BK488.out 3).trans rfl; have hfz74_0 := blk_frozen BK488.out 0; have hfz74_1 := blk_frozen BK488.out 1; have hfz74_2 := blk_frozen BK488.out 2; have hfz74_3 := blk_frozen BK488.out 3))
                refine bodyPost_ret (results_ct rfl _ _ gb488 27 #[.slice Ao69 x503000_47.length co69, .string t501, .string (rdOf ByteArray.empty t493 (ji5)), .string x503003_56] (0, 0) _ rfl (by (with_reducible repeat (first | refine blk_drewN ?_ _ | refine blk_drew ?_ | refine blk_alloc ?_ _)); refine blk_put (cs := #[.slice Ao69 x503000_47.length co69, .string t501, .string (rdOf ByteArray.empty t493 (ji5)), .string (⟨#[]⟩ : ByteArray)]) ?_ 3 _ rfl; (with_reducible repeat (first | refine blk_drewN ?_ _ | refine blk_drew ?_ | refine blk_alloc ?_ _)); refine blk_put (cs := #[.slice Ao69 x503000_47.length co69, .string t501, .string (⟨#[]⟩ : ByteArray), .string (⟨#[]⟩ : ByteArray)]) ?_ 2 _ rfl; (with_reducible repeat (first | refine blk_drewN ?_ _ | refine blk_drew ?_ | refine blk_alloc ?_ _)); refine blk_put (cs := #[.slice Ao69 x503000_47.length co69, .string (⟨#[]⟩ : ByteArray), .string (⟨#[]⟩ : ByteArray), .string (⟨#[]⟩ : ByteArray)]) ?_ 1 _ rfl; (with_reducible repeat (first | refine blk_drewN ?_ _ | refine blk_drew ?_ | refine blk_alloc ?_ _)); refine blk_put (cs := #[.slice none 0 0, .string (⟨#[]⟩ : ByteArray), .string (⟨#[]⟩ : ByteArray), .string (⟨#[]⟩ : ByteArray)]) ?_ 0 _ rfl; (with_reducible repeat (first | refine blk_drewN ?_ _ | refine blk_drew ?_ | refine blk_alloc ?_ _)); exact BK488.out) Tryd.underlying27 rfl (by kernel_rfl)) rfl ?_
                exact ⟨_, by first | rfl | (simp [errW_none, errW_some] <;> rfl) | (simp only [← hji5]; first | rfl | (simp [errW_none, errW_some] <;> rfl)) | (simp [*, errW_none, errW_some] <;> rfl), by (with_reducible repeat (first | apply Kd.R_alloc | apply Kd.R_drewN | apply Kd.R_drew)); exact Kd.R_mono (Kd.R_far (p := ⟨gb488, 3, none⟩) (Kd.R_far (p := ⟨gb488, 2, none⟩) (Kd.R_far (p := ⟨gb488, 1, none⟩) (Kd.R_far (p := ⟨gb488, 0, none⟩) (Kd.R_types HO_503000.out BK488.out (by decide)) (fun _ hk => hk.2) (.slice Ao69 x503000_47.length co69)) (fun _ hk => hk.2) (.string t501)) (fun _ hk => hk.2) (.string (rdOf ByteArray.empty t493 (ji5)))) (fun _ hk => hk.2) (.string x503003_56)) (fun _ hk => trivial), by repeat (first | (with_reducible first | exact HB.out | apply below_alloc | apply pw_below_drewN | apply below_drew1 | refine below_set ?_ GE488.out | refine below_set ?_ GE502.out) | exact HB.out)⟩
               ·
                rw [if_neg c66] at H
                have c66b0 : (t516.toList == a0.toList) = false := beq_eq_false_iff_ne.mpr c66
                have c66b1 : (t516.toList != a0.toList) = true := bne_iff_ne.mpr c66
                simp only [Option.some.injEq, Prod.mk.injEq] at H
                obtain ⟨rfl, rfl, rfl, rfl, rfl⟩ := H
                have hnb75 := NB502_488.out
                have hnc75 := NB488_502.out
                have hcz76_0 : wc.cell? ⟨gb502, 0, none⟩ = some (u503000) := (blk_cell BK502.out 0).trans rfl
                have hcz76_1 : wc.cell? ⟨gb502, 1, none⟩ = some (.string t501) := (blk_cell BK502.out 1).trans rfl
                have hcz76_2 : wc.cell? ⟨gb502, 2, none⟩ = some (.string (rdOf ByteArray.empty t493 (ji5))) := (blk_cell BK502.out 2).trans rfl
                have hcz76_3 : wc.cell? ⟨gb502, 3, none⟩ = some (.string x503003_56) := (blk_cell BK502.out 3).trans rfl
                have hfz76_0 := blk_frozen BK502.out 0
                have hfz76_1 := blk_frozen BK502.out 1
                have hfz76_2 := blk_frozen BK502.out 2
                have hfz76_3 := blk_frozen BK502.out 3
                obtain ⟨Ao77, co77, eo77⟩ := Kd.R_slice HO_503000.out
                subst eo77
                go_wp2_with (first | ((with_reducible refine gate_callee (f := 39) rfl ?_); refine goesL_ (some 91) rfl rfl Tryd.func39 (by kernel_rfl) rfl #[.agg #[.slice Ao77 x503000_47.length co77, .string t501, .string (rdOf ByteArray.empty t493 (ji5)), .string x503003_56]] rfl au22 ?_; (with_reducible refine (spec_l2Good.calls kj56 _ _ x503000_47 t501 (rdOf ByteArray.empty t493 (ji5)) x503003_56 _ _ ?side1 ?side2 A63.out).mono ?_); (case side1 => repeat (first | exact (Kd.R_reads' HO_503000.out).2.2 | (with_reducible refine Kd.C_alloc ?_ _) | (with_reducible refine Kd.C_drewN ?_ _) | (with_reducible refine Kd.C_drew ?_))); (case side2 => exact (Kd.R_reads' HO_503000.out).2.1); rintro e w78 ⟨rfl, hb⟩; refine ⟨_, rfl, ?_⟩; have n0_ := Aside0.mk (Kd.R_below au77 hb); have n1_ := Aside0.mk (blk_below (g := gb488) (o := .cells #[.slice none 0 0, .string (⟨#[]⟩ : ByteArray), .string (⟨#[]⟩ : ByteArray), .string (⟨#[]⟩ : ByteArray)] 27 (0, 0)) au62 hb); have n2_ := Aside0.mk (blk_below (g := gb502) (o := .cells #[.slice Ao77 x503000_47.length co77, .string t501, .string (rdOf ByteArray.empty t493 (ji5)), .string x503003_56] 27 (0, 0)) au63 hb); have n3_ := Aside0.mk (below_step au15 hb); clear HO_503000; clear BK488; clear BK502; clear HB; have HO_503000 := n0_; have BK488 := n1_; have BK502 := n2_; have HB := n3_; clear n0_ n1_ n2_ n3_; (try clear hb); (try clear hb2); (try clear hk); (try clear hi); have hcz79_0 : w78.cell? ⟨gb502, 0, none⟩ = some (.slice Ao77 x503000_47.length co77) := (blk_cell BK502.out 0).trans rfl; have hcz79_1 : w78.cell? ⟨gb502, 1, none⟩ = some (.string t501) := (blk_cell BK502.out 1).trans rfl; have hcz79_2 : w78.cell? ⟨gb502, 2, none⟩ = some (.string (rdOf ByteArray.empty t493 (ji5))) := (blk_cell BK502.out 2).trans rfl; have hcz79_3 : w78.cell? ⟨gb502, 3, none⟩ = some (.string x503003_56) := (blk_cell BK502.out 3).trans rfl; have hfz79_0 := blk_frozen BK502.out 0; have hfz79_1 := blk_frozen BK502.out 1; have hfz79_2 := blk_frozen BK502.out 2; have hfz79_3 := blk_frozen BK502.out 3) | (go_at_call 57; (with_reducible refine (spec_l2Inverse.calls kj56 _ _ x503000_47 t501 (rdOf ByteArray.empty t493 (ji5)) x503003_56 t516 _ ?side1 ?side2 A65.out).mono ?_); (case side1 => repeat (first | exact (Kd.R_reads' HO_503000.out).2.2 | (with_reducible refine Kd.C_alloc ?_ _) | (with_reducible refine Kd.C_drewN ?_ _) | (with_reducible refine Kd.C_drew ?_))); (case side2 => exact (Kd.R_reads' HO_503000.out).2.1); rintro e w80 ⟨rfl, hb⟩; have n0_ := Aside0.mk (Kd.R_below au77 hb); have n1_ := Aside0.mk (blk_below (g := gb488) (o := .cells #[.slice none 0 0, .string (⟨#[]⟩ : ByteArray), .string (⟨#[]⟩ : ByteArray), .string (⟨#[]⟩ : ByteArray)] 27 (0, 0)) au62 hb); have n2_ := Aside0.mk (blk_below (g := gb502) (o := .cells #[.slice Ao77 x503000_47.length co77, .string t501, .string (rdOf ByteArray.empty t493 (ji5)), .string x503003_56] 27 (0, 0)) au63 hb); have n3_ := Aside0.mk (below_step au15 hb); clear HO_503000; clear BK488; clear BK502; clear HB; have HO_503000 := n0_; have BK488 := n1_; have BK502 := n2_; have HB := n3_; clear n0_ n1_ n2_ n3_; (try clear hb); (try clear hb2); (try clear hk); (try clear hi); have hcz81_0 : w80.cell? ⟨gb488, 0, none⟩ = some (.slice none 0 0) := (blk_cell BK488.out 0).trans rfl; have hcz81_1 : w80.cell? ⟨gb488, 1, none⟩ = some (.string (⟨#[]⟩ : ByteArray)) := (blk_cell BK488.out 1).trans rfl; have hcz81_2 : w80.cell? ⟨gb488, 2, none⟩ = some (.string (⟨#[]⟩ : ByteArray)) := (blk_cell BK488.out 2).trans rfl; have hcz81_3 : w80.cell? ⟨gb488, 3, none⟩ = some (.string (⟨#[]⟩ : ByteArray)) := (blk_cell BK488.out 3).trans rfl; have hfz81_0 := blk_frozen BK488.out 0; have hfz81_1 := blk_frozen BK488.out 1; have hfz81_2 := blk_frozen BK488.out 2; have hfz81_3 := blk_frozen BK488.out 3))
                refine bodyPost_ret (results_ct rfl _ _ gb488 27 #[.slice none 0 0, .string (⟨#[]⟩ : ByteArray), .string (⟨#[]⟩ : ByteArray), .string (⟨#[]⟩ : ByteArray)] (0, 0) _ rfl (by (with_reducible repeat (first | refine blk_drewN ?_ _ | refine blk_drew ?_ | refine blk_alloc ?_ _)); refine blk_put (cs := #[.slice none 0 0, .string (⟨#[]⟩ : ByteArray), .string (⟨#[]⟩ : ByteArray), .string (⟨#[]⟩ : ByteArray)]) ?_ 3 _ rfl; (with_reducible repeat (first | refine blk_drewN ?_ _ | refine blk_drew ?_ | refine blk_alloc ?_ _)); refine blk_put (cs := #[.slice none 0 0, .string (⟨#[]⟩ : ByteArray), .string (⟨#[]⟩ : ByteArray), .string (⟨#[]⟩ : ByteArray)]) ?_ 2 _ rfl; (with_reducible repeat (first | refine blk_drewN ?_ _ | refine blk_drew ?_ | refine blk_alloc ?_ _)); refine blk_put (cs := #[.slice none 0 0, .string (⟨#[]⟩ : ByteArray), .string (⟨#[]⟩ : ByteArray), .string (⟨#[]⟩ : ByteArray)]) ?_ 1 _ rfl; (with_reducible repeat (first | refine blk_drewN ?_ _ | refine blk_drew ?_ | refine blk_alloc ?_ _)); refine blk_put (cs := #[.slice none 0 0, .string (⟨#[]⟩ : ByteArray), .string (⟨#[]⟩ : ByteArray), .string (⟨#[]⟩ : ByteArray)]) ?_ 0 _ rfl; (with_reducible repeat (first | refine blk_drewN ?_ _ | refine blk_drew ?_ | refine blk_alloc ?_ _)); exact BK488.out) Tryd.underlying27 rfl (by kernel_rfl)) rfl ?_
                exact ⟨_, by first | rfl | (simp [errW_none, errW_some] <;> rfl) | (simp only [← hji5]; first | rfl | (simp [errW_none, errW_some] <;> rfl)) | (simp [*, errW_none, errW_some] <;> rfl), by first | exact Kd.R_nil _ _ _ _ _ | exact Kd.N_nil _ _ _ _ _ | exact Kd.V_nil _ _ _ _ _ | exact Kd.Q_nil _ _ _ _ _ | exact Kd.S_nil _ _ _ _ _, by repeat (first | (with_reducible first | exact HB.out | apply below_alloc | apply pw_below_drewN | apply below_drew1 | refine below_set ?_ GE488.out | refine below_set ?_ GE502.out) | exact HB.out)⟩
              ·
               replace c64 := Bool.eq_false_iff.mpr c64
               subst c64
               replace H := (if_neg (show ¬ (false = true) by decide)).symm.trans H
               simp only [Option.some.injEq, Prod.mk.injEq] at H
               obtain ⟨rfl, rfl, rfl, rfl, rfl⟩ := H
               have hnb82 := NB502_488.out
               have hnc82 := NB488_502.out
               have hcz83_0 : wc.cell? ⟨gb502, 0, none⟩ = some (u503000) := (blk_cell BK502.out 0).trans rfl
               have hcz83_1 : wc.cell? ⟨gb502, 1, none⟩ = some (.string t501) := (blk_cell BK502.out 1).trans rfl
               have hcz83_2 : wc.cell? ⟨gb502, 2, none⟩ = some (.string (rdOf ByteArray.empty t493 (ji5))) := (blk_cell BK502.out 2).trans rfl
               have hcz83_3 : wc.cell? ⟨gb502, 3, none⟩ = some (.string x503003_56) := (blk_cell BK502.out 3).trans rfl
               have hfz83_0 := blk_frozen BK502.out 0
               have hfz83_1 := blk_frozen BK502.out 1
               have hfz83_2 := blk_frozen BK502.out 2
               have hfz83_3 := blk_frozen BK502.out 3
               obtain ⟨Ao84, co84, eo84⟩ := Kd.R_slice HO_503000.out
               subst eo84
               go_wp2_with (first | ((with_reducible refine gate_callee (f := 39) rfl ?_); refine goesL_ (some 91) rfl rfl Tryd.func39 (by kernel_rfl) rfl #[.agg #[.slice Ao84 x503000_47.length co84, .string t501, .string (rdOf ByteArray.empty t493 (ji5)), .string x503003_56]] rfl au22 ?_; (with_reducible refine (spec_l2Good.calls kj56 _ _ x503000_47 t501 (rdOf ByteArray.empty t493 (ji5)) x503003_56 _ _ ?side1 ?side2 A63.out).mono ?_); (case side1 => repeat (first | exact (Kd.R_reads' HO_503000.out).2.2 | (with_reducible refine Kd.C_alloc ?_ _) | (with_reducible refine Kd.C_drewN ?_ _) | (with_reducible refine Kd.C_drew ?_))); (case side2 => exact (Kd.R_reads' HO_503000.out).2.1); rintro e w85 ⟨rfl, hb⟩; refine ⟨_, rfl, ?_⟩; have n0_ := Aside0.mk (Kd.R_below au77 hb); have n1_ := Aside0.mk (blk_below (g := gb488) (o := .cells #[.slice none 0 0, .string (⟨#[]⟩ : ByteArray), .string (⟨#[]⟩ : ByteArray), .string (⟨#[]⟩ : ByteArray)] 27 (0, 0)) au62 hb); have n2_ := Aside0.mk (blk_below (g := gb502) (o := .cells #[.slice Ao84 x503000_47.length co84, .string t501, .string (rdOf ByteArray.empty t493 (ji5)), .string x503003_56] 27 (0, 0)) au63 hb); have n3_ := Aside0.mk (below_step au15 hb); clear HO_503000; clear BK488; clear BK502; clear HB; have HO_503000 := n0_; have BK488 := n1_; have BK502 := n2_; have HB := n3_; clear n0_ n1_ n2_ n3_; (try clear hb); (try clear hb2); (try clear hk); (try clear hi); have hcz86_0 : w85.cell? ⟨gb488, 0, none⟩ = some (.slice none 0 0) := (blk_cell BK488.out 0).trans rfl; have hcz86_1 : w85.cell? ⟨gb488, 1, none⟩ = some (.string (⟨#[]⟩ : ByteArray)) := (blk_cell BK488.out 1).trans rfl; have hcz86_2 : w85.cell? ⟨gb488, 2, none⟩ = some (.string (⟨#[]⟩ : ByteArray)) := (blk_cell BK488.out 2).trans rfl; have hcz86_3 : w85.cell? ⟨gb488, 3, none⟩ = some (.string (⟨#[]⟩ : ByteArray)) := (blk_cell BK488.out 3).trans rfl; have hfz86_0 := blk_frozen BK488.out 0; have hfz86_1 := blk_frozen BK488.out 1; have hfz86_2 := blk_frozen BK488.out 2; have hfz86_3 := blk_frozen BK488.out 3))
               refine bodyPost_ret (results_ct rfl _ _ gb488 27 #[.slice none 0 0, .string (⟨#[]⟩ : ByteArray), .string (⟨#[]⟩ : ByteArray), .string (⟨#[]⟩ : ByteArray)] (0, 0) _ rfl (by (with_reducible repeat (first | refine blk_drewN ?_ _ | refine blk_drew ?_ | refine blk_alloc ?_ _)); refine blk_put (cs := #[.slice none 0 0, .string (⟨#[]⟩ : ByteArray), .string (⟨#[]⟩ : ByteArray), .string (⟨#[]⟩ : ByteArray)]) ?_ 3 _ rfl; (with_reducible repeat (first | refine blk_drewN ?_ _ | refine blk_drew ?_ | refine blk_alloc ?_ _)); refine blk_put (cs := #[.slice none 0 0, .string (⟨#[]⟩ : ByteArray), .string (⟨#[]⟩ : ByteArray), .string (⟨#[]⟩ : ByteArray)]) ?_ 2 _ rfl; (with_reducible repeat (first | refine blk_drewN ?_ _ | refine blk_drew ?_ | refine blk_alloc ?_ _)); refine blk_put (cs := #[.slice none 0 0, .string (⟨#[]⟩ : ByteArray), .string (⟨#[]⟩ : ByteArray), .string (⟨#[]⟩ : ByteArray)]) ?_ 1 _ rfl; (with_reducible repeat (first | refine blk_drewN ?_ _ | refine blk_drew ?_ | refine blk_alloc ?_ _)); refine blk_put (cs := #[.slice none 0 0, .string (⟨#[]⟩ : ByteArray), .string (⟨#[]⟩ : ByteArray), .string (⟨#[]⟩ : ByteArray)]) ?_ 0 _ rfl; (with_reducible repeat (first | refine blk_drewN ?_ _ | refine blk_drew ?_ | refine blk_alloc ?_ _)); exact BK488.out) Tryd.underlying27 rfl (by kernel_rfl)) rfl ?_
               exact ⟨_, by first | rfl | (simp [errW_none, errW_some] <;> rfl) | (simp only [← hji5]; first | rfl | (simp [errW_none, errW_some] <;> rfl)) | (simp [*, errW_none, errW_some] <;> rfl), by first | exact Kd.R_nil _ _ _ _ _ | exact Kd.N_nil _ _ _ _ _ | exact Kd.V_nil _ _ _ _ _ | exact Kd.Q_nil _ _ _ _ _ | exact Kd.S_nil _ _ _ _ _, by repeat (first | (with_reducible first | exact HB.out | apply below_alloc | apply pw_below_drewN | apply below_drew1 | refine below_set ?_ GE488.out | refine below_set ?_ GE502.out) | exact HB.out)⟩
    ·
     rw [if_neg c9] at H
     exact absurd H (by simp)
   ·
    rw [if_neg c7] at H
    exact absurd H (by simp)
  ·
   rw [if_neg c6] at H
   exact absurd H (by simp)
 ·
  rw [if_neg c3] at H
  exact absurd H (by simp)


/-! ### spec_ParseInverse: function 30 -/
def spec_ParseInverse.f (k : Nat) (a0 : ByteArray) : Option (List ByteArray × ByteArray × ByteArray × ByteArray × Bool) := (spec_l2Parse.f k a0).bind fun bt518 => (some (bt518.1, bt518.2.1, bt518.2.2.1, bt518.2.2.2.1, bt518.2.2.2.2))
theorem spec_ParseInverse.mono : ∀ a0 k, LeO (spec_ParseInverse.f k a0) (spec_ParseInverse.f (k + 1) a0) := by
 intro a0 k
 unfold spec_ParseInverse.f
 repeat' first
   | (with_reducible exact spec_l2Parse.mono _ _)
   | (with_reducible exact LeO.refl _)
   | (with_reducible exact LeO.none _)
   | (with_reducible refine LeO.ite ?_ ?_)
   | (with_reducible refine LeO.bind ?_ (fun _ => ?_))
   | exact spec_l2Parse.mono _ _
   | exact LeO.none _
   | refine LeO.ite ?_ ?_
   | refine LeO.bind ?_ (fun _ => ?_)
set_option maxHeartbeats 8000000 in
set_option maxRecDepth 100000 in
theorem spec_ParseInverse.calls (k : Nat) (a0 : ByteArray) (r1 : List ByteArray) (r2 : ByteArray) (r3 : ByteArray) (r4 : ByteArray) (r5 : Bool) (w : World) (h : spec_ParseInverse.f k a0 = some (r1, r2, r3, r4, r5)) :
  Calls Tryd.prog 30 #[.string a0] w fun e w' => ∃ v0_ : Value, e = .returned (.tuple #[.agg #[v0_, .string r2, .string r3, .string r4], .bool r5]) ∧ Kd.R Kd.string 9 w' w.heap.size (fun _ => True) v0_ r1 ∧ Below w.heap.size w w' := by
 have hu27 := Tryd.underlying27
 have HB := Aside0.mk (Below.refl w.heap.size w)
 have H : ((spec_l2Parse.f k a0).bind fun bt518 => (some (bt518.1, bt518.2.1, bt518.2.2.1, bt518.2.2.2.1, bt518.2.2.2.2))) = some (r1, r2, r3, r4, r5) := h
 clear h
 replace H := Option.bind_eq_some_iff.mp H
 obtain ⟨⟨t518, t521, t522, t523, t524⟩, A20, H⟩ := H
 replace H : (some (t518, t521, t522, t523, t524)) = some (r1, r2, r3, r4, r5) := H
 have A2 := Aside0.mk A20
 clear A20
 simp only [Option.some.injEq, Prod.mk.injEq] at H
 obtain ⟨rfl, rfl, rfl, rfl, rfl⟩ := H
 go_enter Tryd.func30, Tryd.ntmps30
 go_wp2_with (first | ((with_reducible refine gate_dst (N := 2) rfl ?_); refine box_event ?hg (N := 2) ?hd (cs := #[.slice none 0 0, .string (⟨#[]⟩ : ByteArray), .string (⟨#[]⟩ : ByteArray), .string (⟨#[]⟩ : ByteArray)]) (t := 27) ?hr ?_; (case hd => rfl); (case hg => rfl); (case hr => first | (go_simp; done) | (go_simp; rfl)); intro gb517 hg w3 hbox hb; have n0_ := Aside0.mk (below_step au41 hb); have n1_ := Aside0.mk (hbox); have n2_ := Aside0.mk ((by rw [hg]; exact (below_size au41) : w.heap.size ≤ gb517)); have n3_ := Aside0.mk ((by rw [hg]; exact (below_size au41) : w.heap.size ≤ gb517)); clear HB; have HB := n0_; have BK517 := n1_; have GW517 := n2_; have GE517 := n3_; clear n0_ n1_ n2_ n3_; clear hb hbox hg) | ((with_reducible refine gate_callee (f := 59) rfl ?_); refine goesL_ (some 5) rfl rfl Tryd.func59 (by kernel_rfl) rfl #[.string a0] rfl au38 ?_; (with_reducible refine (spec_l2Parse.calls k a0 t518 t521 t522 t523 t524 _ A2.out).mono ?_); rintro e w4 ⟨v519, rfl, ho0, hb⟩; refine ⟨_, rfl, ?_⟩; have n0_ := Aside0.mk (Kd.R_lower ho0 (below_size au27)); have n1_ := Aside0.mk (blk_below (g := gb517) (o := .cells #[.slice none 0 0, .string (⟨#[]⟩ : ByteArray), .string (⟨#[]⟩ : ByteArray), .string (⟨#[]⟩ : ByteArray)] 27 (0, 0)) (by (with_reducible repeat (first | refine blk_drewN ?_ _ | refine blk_drew ?_ | refine blk_alloc ?_ _)); exact BK517.out) hb); have n2_ := Aside0.mk (below_step au27 hb); clear BK517; clear HB; have HO520 := n0_; have BK517 := n1_; have HB := n2_; clear n0_ n1_ n2_; (try clear hb); (try clear hb2); (try clear hk); (try clear hi); (try clear ho0); obtain ⟨Ao5, co5, eo5⟩ := Kd.R_slice HO520.out; subst eo5; have hcz6_0 : w4.cell? ⟨gb517, 0, none⟩ = some (.slice none 0 0) := (blk_cell BK517.out 0).trans rfl; have hcz6_1 : w4.cell? ⟨gb517, 1, none⟩ = some (.string (⟨#[]⟩ : ByteArray)) := (blk_cell BK517.out 1).trans rfl; have hcz6_2 : w4.cell? ⟨gb517, 2, none⟩ = some (.string (⟨#[]⟩ : ByteArray)) := (blk_cell BK517.out 2).trans rfl; have hcz6_3 : w4.cell? ⟨gb517, 3, none⟩ = some (.string (⟨#[]⟩ : ByteArray)) := (blk_cell BK517.out 3).trans rfl; have hfz6_0 := blk_frozen BK517.out 0; have hfz6_1 := blk_frozen BK517.out 1; have hfz6_2 := blk_frozen BK517.out 2; have hfz6_3 := blk_frozen BK517.out 3))
 refine bodyPost_ret (results_ct rfl _ _ gb517 27 #[.slice Ao5 t518.length co5, .string t521, .string t522, .string t523] (0, 0) _ rfl (by (with_reducible repeat (first | refine blk_drewN ?_ _ | refine blk_drew ?_ | refine blk_alloc ?_ _)); refine blk_put (cs := #[.slice Ao5 t518.length co5, .string t521, .string t522, .string (⟨#[]⟩ : ByteArray)]) ?_ 3 _ rfl; (with_reducible repeat (first | refine blk_drewN ?_ _ | refine blk_drew ?_ | refine blk_alloc ?_ _)); refine blk_put (cs := #[.slice Ao5 t518.length co5, .string t521, .string (⟨#[]⟩ : ByteArray), .string (⟨#[]⟩ : ByteArray)]) ?_ 2 _ rfl; (with_reducible repeat (first | refine blk_drewN ?_ _ | refine blk_drew ?_ | refine blk_alloc ?_ _)); refine blk_put (cs := #[.slice Ao5 t518.length co5, .string (⟨#[]⟩ : ByteArray), .string (⟨#[]⟩ : ByteArray), .string (⟨#[]⟩ : ByteArray)]) ?_ 1 _ rfl; (with_reducible repeat (first | refine blk_drewN ?_ _ | refine blk_drew ?_ | refine blk_alloc ?_ _)); refine blk_put (cs := #[.slice none 0 0, .string (⟨#[]⟩ : ByteArray), .string (⟨#[]⟩ : ByteArray), .string (⟨#[]⟩ : ByteArray)]) ?_ 0 _ rfl; (with_reducible repeat (first | refine blk_drewN ?_ _ | refine blk_drew ?_ | refine blk_alloc ?_ _)); exact BK517.out) Tryd.underlying27 rfl (by kernel_rfl)) rfl ?_
 exact ⟨_, by first | rfl | (simp [errW_none, errW_some] <;> rfl) | (simp [*, errW_none, errW_some] <;> rfl), by (with_reducible repeat (first | apply Kd.R_alloc | apply Kd.R_drewN | apply Kd.R_drew)); exact Kd.R_mono (Kd.R_far (p := ⟨gb517, 3, none⟩) (Kd.R_far (p := ⟨gb517, 2, none⟩) (Kd.R_far (p := ⟨gb517, 1, none⟩) (Kd.R_far (p := ⟨gb517, 0, none⟩) (Kd.R_types HO520.out BK517.out (by decide)) (fun _ hk => hk.2) (.slice Ao5 t518.length co5)) (fun _ hk => hk.2) (.string t521)) (fun _ hk => hk.2) (.string t522)) (fun _ hk => hk.2) (.string t523)) (fun _ hk => trivial), by repeat (first | (with_reducible first | exact HB.out | apply below_alloc | apply pw_below_drewN | apply below_drew1 | refine below_set ?_ GE517.out) | exact HB.out)⟩


/-! ### impl_inside: function 73 -/
def impl_inside.f (a0 : Int) (a1 : Int) (a2 : Int) : Option (Bool) := if a0 ≥ a1 then (some (decide (a0 ≤ a2))) else (some false)
set_option maxHeartbeats 8000000 in
set_option maxRecDepth 100000 in
theorem impl_inside.calls (a0 : Int) (a1 : Int) (a2 : Int) (r : Bool) (w : World) (h : impl_inside.f a0 a1 a2 = some r) :
  Calls Tryd.prog 73 #[.int .i64 a0, .int .i64 a1, .int .i64 a2] w fun e w' => e = .returned (.bool r) ∧ Drawn0 w w' := by
 have H : (if a0 ≥ a1 then (some (decide (a0 ≤ a2))) else (some false)) = some r := h
 clear h
 by_cases c4 : a0 ≥ a1
 ·
  rw [if_pos c4] at H
  have c4b0 : decide (a1 ≤ a0) = true := decide_eq_true c4
  clear c4
  obtain rfl := Option.some.inj H
  go_enter Tryd.func73, Tryd.ntmps73
  go_wp2
  go_ret
  exact ax0
 ·
  rw [if_neg c4] at H
  have c4b0 : decide (a1 ≤ a0) = false := decide_eq_false c4
  clear c4
  obtain rfl := Option.some.inj H
  go_enter Tryd.func73, Tryd.ntmps73
  go_wp2
  go_ret
  exact ax0


/-! ### impl_isUpper: function 72 -/
def impl_isUpper.f (a0 : Int) : Option (Bool) := if a0 ≥ 65 then (some (decide (a0 ≤ 90))) else (some false)
set_option maxHeartbeats 8000000 in
set_option maxRecDepth 100000 in
theorem impl_isUpper.calls (a0 : Int) (r : Bool) (w : World) (h : impl_isUpper.f a0 = some r) :
  Calls Tryd.prog 72 #[.int .u8 a0] w fun e w' => e = .returned (.bool r) ∧ Drawn0 w w' := by
 have H : (if a0 ≥ 65 then (some (decide (a0 ≤ 90))) else (some false)) = some r := h
 clear h
 by_cases c2 : a0 ≥ 65
 ·
  rw [if_pos c2] at H
  have c2b0 : decide (65 ≤ a0) = true := decide_eq_true c2
  clear c2
  obtain rfl := Option.some.inj H
  go_enter Tryd.func72, Tryd.ntmps72
  go_wp2
  go_ret
  exact ax0
 ·
  rw [if_neg c2] at H
  have c2b0 : decide (65 ≤ a0) = false := decide_eq_false c2
  clear c2
  obtain rfl := Option.some.inj H
  go_enter Tryd.func72, Tryd.ntmps72
  go_wp2
  go_ret
  exact ax0


/-! ### impl_isLower: function 74 -/
def impl_isLower.f (a0 : Int) : Option (Bool) := if a0 ≥ 97 then (some (decide (a0 ≤ 122))) else (some false)
set_option maxHeartbeats 8000000 in
set_option maxRecDepth 100000 in
theorem impl_isLower.calls (a0 : Int) (r : Bool) (w : World) (h : impl_isLower.f a0 = some r) :
  Calls Tryd.prog 74 #[.int .u8 a0] w fun e w' => e = .returned (.bool r) ∧ Drawn0 w w' := by
 have H : (if a0 ≥ 97 then (some (decide (a0 ≤ 122))) else (some false)) = some r := h
 clear h
 by_cases c2 : a0 ≥ 97
 ·
  rw [if_pos c2] at H
  have c2b0 : decide (97 ≤ a0) = true := decide_eq_true c2
  clear c2
  obtain rfl := Option.some.inj H
  go_enter Tryd.func74, Tryd.ntmps74
  go_wp2
  go_ret
  exact ax0
 ·
  rw [if_neg c2] at H
  have c2b0 : decide (97 ≤ a0) = false := decide_eq_false c2
  clear c2
  obtain rfl := Option.some.inj H
  go_enter Tryd.func74, Tryd.ntmps74
  go_wp2
  go_ret
  exact ax0


/-! ### impl_isLetter: function 75 -/
def impl_isLetter.f (a0 : Int) : Option (Bool) := (impl_isUpper.f a0).bind fun t151 => (if t151 = true then (some true) else ((impl_isLower.f a0).bind fun t152 => (some t152)))
set_option maxHeartbeats 8000000 in
set_option maxRecDepth 100000 in
theorem impl_isLetter.calls (a0 : Int) (r : Bool) (w : World) (h : impl_isLetter.f a0 = some r) :
  Calls Tryd.prog 75 #[.int .u8 a0] w fun e w' => e = .returned (.bool r) ∧ Drawn0 w w' := by
 have H : ((impl_isUpper.f a0).bind fun t151 => (if t151 = true then (some true) else ((impl_isLower.f a0).bind fun t152 => (some t152)))) = some r := h
 clear h
 replace H := Option.bind_eq_some_iff.mp H
 obtain ⟨t151, A20, H⟩ := H
 try dsimp only at H
 have A2 := Aside0.mk A20
 clear A20
 by_cases c3 : t151 = true
 ·
  subst c3
  replace H := (if_pos rfl).symm.trans H
  obtain rfl := Option.some.inj H
  go_enter Tryd.func75, Tryd.ntmps75
  go_wp2_with (first | ((with_reducible refine gate_callee (f := 72) rfl ?_); refine goesL_ (some 4) rfl rfl Tryd.func72 (by kernel_rfl) rfl #[.int .u8 a0] rfl au38 ?_; (with_reducible refine (impl_isUpper.calls a0 true _ A2.out).mono ?_); rintro e w' ⟨rfl, ⟨nd, rfl⟩⟩; refine ⟨_, rfl, ?_⟩))
  go_ret
  exact ax0
 ·
  replace c3 := Bool.eq_false_iff.mpr c3
  subst c3
  replace H := (if_neg (show ¬ (false = true) by decide)).symm.trans H
  replace H := Option.bind_eq_some_iff.mp H
  obtain ⟨t152, A40, H⟩ := H
  try dsimp only at H
  have A4 := Aside0.mk A40
  clear A40
  obtain rfl := Option.some.inj H
  go_enter Tryd.func75, Tryd.ntmps75
  go_wp2_with (first | ((with_reducible refine gate_callee (f := 72) rfl ?_); refine goesL_ (some 4) rfl rfl Tryd.func72 (by kernel_rfl) rfl #[.int .u8 a0] rfl au38 ?_; (with_reducible refine (impl_isUpper.calls a0 false _ A2.out).mono ?_); rintro e w' ⟨rfl, ⟨nd, rfl⟩⟩; refine ⟨_, rfl, ?_⟩) | (go_at_call 74; (with_reducible refine (impl_isLower.calls a0 t152 _ A4.out).mono ?_); rintro e w' ⟨rfl, ⟨nd, rfl⟩⟩))
  go_ret
  exact ax0


/-! ### impl_isNameWord: function 45 -/
mutual
def impl_isNameWord.j0 : Nat → ByteArray → Bool → Option (Bool)
 | 0, _, _ => none
 | k + 1, x0, x22 => if x22 = true then (some false) else (impl_isNameWord.l0 k x0 0)
def impl_isNameWord.l0 : Nat → ByteArray → Int → Option (Bool)
 | 0, _, _ => none
 | k + 1, x0, x3 => if x3 < (x0.size : Int) then (if 0 ≤ x3 then ((impl_isLetter.f (bt x0 x3)).bind fun t156 => (if t156 = true then (impl_isNameWord.l0 k x0 (wrap64 (x3 + 1))) else (if (bt x0 x3) = 45 then (if 0 ≤ (wrap64 (x3 - 1)) then (if (wrap64 (x3 - 1)) < (x0.size : Int) then ((impl_isLetter.f (bt x0 (wrap64 (x3 - 1)))).bind fun t157 => (if t157 = true then (impl_isNameWord.l0 k x0 (wrap64 (x3 + 1))) else (some false))) else (none)) else (none)) else (if (bt x0 x3) = 39 then (if 0 ≤ (wrap64 (x3 - 1)) then (if (wrap64 (x3 - 1)) < (x0.size : Int) then ((impl_isLetter.f (bt x0 (wrap64 (x3 - 1)))).bind fun t158 => (if t158 = true then (impl_isNameWord.l0 k x0 (wrap64 (x3 + 1))) else (some false))) else (none)) else (none)) else (some false))))) else (none)) else (some true)
end
def impl_isNameWord.f (k : Nat) (a0 : ByteArray) : Option (Bool) := (impl_inside.f (a0.size : Int) 1 12).bind fun t153 => (if t153 = true then (if 0 ≤ (wrap64 ((a0.size : Int) - 1)) then (if (wrap64 ((a0.size : Int) - 1)) < (a0.size : Int) then ((impl_isLetter.f (bt a0 (wrap64 ((a0.size : Int) - 1)))).bind fun t154 => (if t154 = true then (if 0 < (a0.size : Int) then ((impl_isLetter.f (bt a0 0)).bind fun t155 => (impl_isNameWord.j0 k a0 (!t155))) else (none)) else (impl_isNameWord.j0 k a0 true))) else (none)) else (none)) else (impl_isNameWord.j0 k a0 true))
theorem impl_isNameWord.mono_l : ∀ k, (∀ y0 y1, LeO (impl_isNameWord.j0 k y0 y1) (impl_isNameWord.j0 (k + 1) y0 y1)) ∧ (∀ y0 y1, LeO (impl_isNameWord.l0 k y0 y1) (impl_isNameWord.l0 (k + 1) y0 y1))
 | 0 => ⟨fun _ _ r h => by simp [impl_isNameWord.j0] at h, fun _ _ r h => by simp [impl_isNameWord.l0] at h⟩
 | k + 1 => by
  obtain ⟨ih0, ih1⟩ := impl_isNameWord.mono_l k
  refine ⟨?_, ?_⟩
  ·
   intro y0 y1
   unfold impl_isNameWord.j0
   repeat' first
   | (with_reducible exact ih0 _ _)
   | (with_reducible exact ih1 _ _)
   | (with_reducible exact LeO.refl _)
   | (with_reducible exact LeO.none _)
   | (with_reducible refine LeO.ite ?_ ?_)
   | (with_reducible refine LeO.bind ?_ (fun _ => ?_))
   | exact ih0 _ _
   | exact ih1 _ _
   | exact LeO.none _
   | refine LeO.ite ?_ ?_
   | refine LeO.bind ?_ (fun _ => ?_)
  ·
   intro y0 y1
   unfold impl_isNameWord.l0
   repeat' first
   | (with_reducible exact ih0 _ _)
   | (with_reducible exact ih1 _ _)
   | (with_reducible exact LeO.refl _)
   | (with_reducible exact LeO.none _)
   | (with_reducible refine LeO.ite ?_ ?_)
   | (with_reducible refine LeO.bind ?_ (fun _ => ?_))
   | exact ih0 _ _
   | exact ih1 _ _
   | exact LeO.none _
   | refine LeO.ite ?_ ?_
   | refine LeO.bind ?_ (fun _ => ?_)
theorem impl_isNameWord.mono : ∀ a0 k, LeO (impl_isNameWord.f k a0) (impl_isNameWord.f (k + 1) a0) := by
 intro a0 k
 obtain ⟨ih0, ih1⟩ := impl_isNameWord.mono_l k
 unfold impl_isNameWord.f
 repeat' first
   | (with_reducible exact ih0 _ _)
   | (with_reducible exact ih1 _ _)
   | (with_reducible exact LeO.refl _)
   | (with_reducible exact LeO.none _)
   | (with_reducible refine LeO.ite ?_ ?_)
   | (with_reducible refine LeO.bind ?_ (fun _ => ?_))
   | exact ih0 _ _
   | exact ih1 _ _
   | exact LeO.none _
   | refine LeO.ite ?_ ?_
   | refine LeO.bind ?_ (fun _ => ?_)
set_option maxRecDepth 100000 in
theorem impl_isNameWord.L0 {P : Prop} (h : P := by
  go_wp2_with (first | ((with_reducible refine gate_callee (f := 75) rfl ?_); refine goesL_ (some 32) rfl rfl Tryd.func75 (by kernel_rfl) rfl #[.int .u8 (bt a0 x3_2)] rfl au38 ?_; (with_reducible refine (impl_isLetter.calls (bt a0 x3_2) _ _ A18.out).mono ?_); rintro e w' ⟨rfl, ⟨nd, rfl⟩⟩; refine ⟨_, rfl, ?_⟩; have p20 : 0 ≤ (x3_2 : Int) := of_decide_eq_true au88; have q20 : x3_2 < (a0.size : Int) := of_decide_eq_true au88; have hx20 := bt_at a0 x3_2; replace p20 := eq_true p20; replace q20 := eq_true q20; have p28 : 0 ≤ (x3_2 : Int) := of_decide_eq_true au88; have q28 : x3_2 < (a0.size : Int) := of_decide_eq_true au88; have hx28 := bt_at a0 x3_2; replace p28 := eq_true p28; replace q28 := eq_true q28; have p33 : 0 ≤ ((ji30) : Int) := of_decide_eq_true au88; have q33 : (ji30) < (a0.size : Int) := of_decide_eq_true au88; have hx33 := bt_at a0 (ji30); replace p33 := eq_true p33; replace q33 := eq_true q33) | (go_at_call 75; (with_reducible refine (impl_isLetter.calls (bt a0 (ji30)) _ _ A34.out).mono ?_); rintro e w' ⟨rfl, ⟨nd, rfl⟩⟩))
  go_ret
  first | (exact ⟨by first | rfl | (simp; done) | (simp only [← hji30] <;> (first | rfl | simp)) | (simp [*]; done), by repeat (first | exact Drawn0.refl _ | apply Drawn0.step)⟩) | (exact ax0)) : P := h
set_option maxHeartbeats 8000000 in
set_option maxRecDepth 100000 in
theorem impl_isNameWord.calls (k : Nat) (a0 : ByteArray) (r : Bool) (w : World) (h : impl_isNameWord.f k a0 = some r) :
  Calls Tryd.prog 45 #[.string a0] w fun e w' => e = .returned (.bool r) ∧ Drawn0 w w' := by
 have H : ((impl_inside.f (a0.size : Int) 1 12).bind fun t153 => (if t153 = true then (if 0 ≤ (wrap64 ((a0.size : Int) - 1)) then (if (wrap64 ((a0.size : Int) - 1)) < (a0.size : Int) then ((impl_isLetter.f (bt a0 (wrap64 ((a0.size : Int) - 1)))).bind fun t154 => (if t154 = true then (if 0 < (a0.size : Int) then ((impl_isLetter.f (bt a0 0)).bind fun t155 => (impl_isNameWord.j0 k a0 (!t155))) else (none)) else (impl_isNameWord.j0 k a0 true))) else (none)) else (none)) else (impl_isNameWord.j0 k a0 true))) = some r := h
 clear h
 have HC2 := Aside0.mk H
 clear H
 go_enter Tryd.func45, Tryd.ntmps45
 go_upto_region 1 with (fail)
 go_cut [22] (fun v22 wc => ∃ (kq : Nat) (x22_1 : Bool), v22 = .bool x22_1 ∧ Aside0 (impl_isNameWord.j0 kq a0 x22_1 = some r) ∧ Aside0 (kq ≤ k) ∧ Drawn0 w wc)
 case first =>
  have H := HC2.out
  clear HC2
  replace H := Option.bind_eq_some_iff.mp H
  obtain ⟨t153, A30, H⟩ := H
  try dsimp only at H
  have A3 := Aside0.mk A30
  clear A30
  by_cases c4 : t153 = true
  ·
   subst c4
   replace H := (if_pos rfl).symm.trans H
   obtain ⟨ji5, hji5⟩ : ∃ j_ : Int, (wrap64 ((a0.size : Int) - 1)) = j_ := ⟨_, rfl⟩
   replace H : (if 0 ≤ (ji5) then (if (ji5) < (a0.size : Int) then ((impl_isLetter.f (bt a0 (ji5))).bind fun t154 => (if t154 = true then (if 0 < (a0.size : Int) then ((impl_isLetter.f (bt a0 0)).bind fun t155 => (impl_isNameWord.j0 k a0 (!t155))) else (none)) else (impl_isNameWord.j0 k a0 true))) else (none)) else (none)) = some r := by first | (rw [hji5] at H; exact H) | (simp only [hji5] at H ⊢; exact H)
   (try rw [hji5] at A3)
   have hji5w : (IntKind.i64.wrap ((a0.size : Int) - 1)) = ji5 := (i64_w _).trans hji5
   by_cases c6 : 0 ≤ (ji5)
   ·
    rw [if_pos c6] at H
    have c6b0 : decide (0 ≤ (ji5)) = true := decide_eq_true c6
    clear c6
    (first | rw [c6b0] | (simp only [i64_w, i32_w]; rw [c6b0]) | skip)
    by_cases c7 : (ji5) < (a0.size : Int)
    ·
     rw [if_pos c7] at H
     have c7b0 : decide ((ji5) < (a0.size : Int)) = true := decide_eq_true c7
     clear c7
     replace H := Option.bind_eq_some_iff.mp H
     obtain ⟨t154, A90, H⟩ := H
     try dsimp only at H
     have A9 := Aside0.mk A90
     clear A90
     by_cases c10 : t154 = true
     ·
      subst c10
      replace H := (if_pos rfl).symm.trans H
      by_cases c11 : 0 < (a0.size : Int)
      ·
       rw [if_pos c11] at H
       have c11b0 : decide (0 < (a0.size : Int)) = true := decide_eq_true c11
       have c11b1 : decide (0 < a0.size) = true := decide_eq_true (by omega)
       clear c11
       replace H := Option.bind_eq_some_iff.mp H
       obtain ⟨t155, A130, H⟩ := H
       try dsimp only at H
       have A13 := Aside0.mk A130
       clear A130
       have H' := Aside0.mk H
       clear H
       go_wp2_with (first | ((with_reducible refine gate_callee (f := 73) rfl ?_); refine goesL_ (some 6) rfl rfl Tryd.func73 (by kernel_rfl) rfl #[.int .i64 (a0.size : Int), .int .i64 1, .int .i64 12] rfl au38 ?_; (with_reducible refine (impl_inside.calls (a0.size : Int) 1 12 _ _ A3.out).mono ?_); rintro e w' ⟨rfl, ⟨nd, rfl⟩⟩; refine ⟨_, rfl, ?_⟩; have p8 : 0 ≤ ((ji5) : Int) := of_decide_eq_true au88; have q8 : (ji5) < (a0.size : Int) := of_decide_eq_true au88; have hx8 := bt_at a0 (ji5); replace p8 := eq_true p8; replace q8 := eq_true q8) | (go_at_call 75; (with_reducible refine (impl_isLetter.calls (bt a0 (ji5)) _ _ A9.out).mono ?_); rintro e w' ⟨rfl, ⟨nd, rfl⟩⟩; have p12 : 0 ≤ (0 : Int) := (by omega); have q12 : 0 < a0.size := (by have : (0 : Int) < (a0.size : Int) := of_decide_eq_true au88; omega); have hx12 : ∀ h : 0 < a0.size, ((a0[0]'h).toNat : Int) = bt a0 0 := bt_at a0 0; clear p12; have qi12 : (0 < (a0.size : Int)) = True := eq_true (of_decide_eq_true au88); replace q12 := eq_true q12) | (go_at_call 75; (with_reducible refine (impl_isLetter.calls (bt a0 0) t155 _ A13.out).mono ?_); rintro e w' ⟨rfl, ⟨nd, rfl⟩⟩))
       go_meet
       case rel => exact ⟨_, (!t155), au89, H', ⟨by first | omega | exact Nat.le_refl _⟩, by repeat (first | exact Drawn0.refl _ | apply Drawn0.step)⟩
      ·
       rw [if_neg c11] at H
       exact absurd H (by simp)
     ·
      replace c10 := Bool.eq_false_iff.mpr c10
      subst c10
      replace H := (if_neg (show ¬ (false = true) by decide)).symm.trans H
      have H' := Aside0.mk H
      clear H
      go_wp2_with (first | ((with_reducible refine gate_callee (f := 73) rfl ?_); refine goesL_ (some 6) rfl rfl Tryd.func73 (by kernel_rfl) rfl #[.int .i64 (a0.size : Int), .int .i64 1, .int .i64 12] rfl au38 ?_; (with_reducible refine (impl_inside.calls (a0.size : Int) 1 12 _ _ A3.out).mono ?_); rintro e w' ⟨rfl, ⟨nd, rfl⟩⟩; refine ⟨_, rfl, ?_⟩; have p8 : 0 ≤ ((ji5) : Int) := of_decide_eq_true au88; have q8 : (ji5) < (a0.size : Int) := of_decide_eq_true au88; have hx8 := bt_at a0 (ji5); replace p8 := eq_true p8; replace q8 := eq_true q8) | (go_at_call 75; (with_reducible refine (impl_isLetter.calls (bt a0 (ji5)) _ _ A9.out).mono ?_); rintro e w' ⟨rfl, ⟨nd, rfl⟩⟩))
      go_meet
      case rel => exact ⟨_, (true), au89, H', ⟨by first | omega | exact Nat.le_refl _⟩, by repeat (first | exact Drawn0.refl _ | apply Drawn0.step)⟩
    ·
     rw [if_neg c7] at H
     exact absurd H (by simp)
   ·
    rw [if_neg c6] at H
    exact absurd H (by simp)
  ·
   replace c4 := Bool.eq_false_iff.mpr c4
   subst c4
   replace H := (if_neg (show ¬ (false = true) by decide)).symm.trans H
   have H' := Aside0.mk H
   clear H
   go_wp2_with (first | ((with_reducible refine gate_callee (f := 73) rfl ?_); refine goesL_ (some 6) rfl rfl Tryd.func73 (by kernel_rfl) rfl #[.int .i64 (a0.size : Int), .int .i64 1, .int .i64 12] rfl au38 ?_; (with_reducible refine (impl_inside.calls (a0.size : Int) 1 12 _ _ A3.out).mono ?_); rintro e w' ⟨rfl, ⟨nd, rfl⟩⟩; refine ⟨_, rfl, ?_⟩))
   go_meet
   case rel => exact ⟨_, (true), au89, H', ⟨by first | omega | exact Nat.le_refl _⟩, by repeat (first | exact Drawn0.refl _ | apply Drawn0.step)⟩
 case rest =>
  clear HC2
  try clear c1
  try clear p1
  try clear q1
  try clear hx1
  try clear qi1
  try clear p2
  try clear c4
  try clear c6
  try clear c6b0
  try clear p6
  try clear c7
  try clear c7b0
  try clear p8
  try clear q8
  try clear hx8
  try clear c10
  try clear c11
  try clear c11b0
  try clear c11b1
  try clear p12
  try clear q12
  try clear hx12
  try clear qi12
  try clear p12
  try clear p8
  try clear q12
  try clear q8
  obtain ⟨kq, x22_1, rfl, HA, HJ1, ⟨mc1, rfl⟩⟩ := hcut
  cases kq with
  | zero => exact absurd HA.out (by simp [impl_isNameWord.j0])
  | succ kj1 =>
   have H := HA.out
   clear HA
   simp only [impl_isNameWord.j0] at H
   by_cases c14 : x22_1 = true
   ·
    subst c14
    replace H := (if_pos rfl).symm.trans H
    obtain rfl := Option.some.inj H
    exact impl_isNameWord.L0
   ·
    replace c14 := Bool.eq_false_iff.mpr c14
    subst c14
    replace H := (if_neg (show ¬ (false = true) by decide)).symm.trans H
    have H' := Aside0.mk H
    clear H
    go_wp2
    go_loopg [3] kj1 (fun kq v3 w' => ∃ (x3_2 : Int), v3 = .int .i64 x3_2 ∧ Aside0 (impl_isNameWord.l0 kq a0 x3_2 = some r) ∧ Aside0 (kq ≤ kj1) ∧ Drawn0 w w')
    case atStart => exact ⟨(0), au89, H', ⟨Nat.le_refl _⟩, by repeat (first | exact Drawn0.refl _ | apply Drawn0.step)⟩
    case round =>
     clear H'
     try clear c1
     try clear p1
     try clear q1
     try clear hx1
     try clear qi1
     try clear p2
     try clear c4
     try clear c6
     try clear c6b0
     try clear p6
     try clear c7
     try clear c7b0
     try clear p8
     try clear q8
     try clear hx8
     try clear c10
     try clear c11
     try clear c11b0
     try clear c11b1
     try clear p12
     try clear q12
     try clear hx12
     try clear qi12
     try clear c14
     try clear p1
     try clear p12
     try clear p2
     try clear p6
     try clear p8
     try clear q1
     try clear q12
     try clear q8
     obtain ⟨x3_2, rfl, HA, HK2, ⟨m2, rfl⟩⟩ := hrel
     cases gk with
     | zero => exact absurd HA.out (by simp [impl_isNameWord.l0])
     | succ k2 =>
      have H := HA.out
      clear HA
      simp only [impl_isNameWord.l0] at H
      by_cases c15 : x3_2 < (a0.size : Int)
      ·
       rw [if_pos c15] at H
       have c15b0 : decide (x3_2 < (a0.size : Int)) = true := decide_eq_true c15
       clear c15
       by_cases c16 : 0 ≤ x3_2
       ·
        rw [if_pos c16] at H
        have c16b0 : decide (0 ≤ x3_2) = true := decide_eq_true c16
        clear c16
        replace H := Option.bind_eq_some_iff.mp H
        obtain ⟨t156, A180, H⟩ := H
        try dsimp only at H
        have A18 := Aside0.mk A180
        clear A180
        by_cases c19 : t156 = true
        ·
         subst c19
         replace H := (if_pos rfl).symm.trans H
         have H' := Aside0.mk H
         clear H
         have p17 : 0 ≤ (x3_2 : Int) := of_decide_eq_true au88
         have q17 : x3_2 < (a0.size : Int) := of_decide_eq_true au88
         have hx17 := bt_at a0 x3_2
         replace p17 := eq_true p17
         replace q17 := eq_true q17
         go_wp2_with (first | ((with_reducible refine gate_callee (f := 75) rfl ?_); refine goesL_ (some 32) rfl rfl Tryd.func75 (by kernel_rfl) rfl #[.int .u8 (bt a0 x3_2)] rfl au38 ?_; (with_reducible refine (impl_isLetter.calls (bt a0 x3_2) _ _ A18.out).mono ?_); rintro e w' ⟨rfl, ⟨nd, rfl⟩⟩; refine ⟨_, rfl, ?_⟩))
         go_roundg k2
         case measure => have := HJ1.out; have := HK2.out; omega
         case rel => exact ⟨(wrap64 (x3_2 + 1)), au89, H', ⟨by have := HJ1.out; have := HK2.out; omega⟩, by repeat (first | exact Drawn0.refl _ | apply Drawn0.step)⟩
        ·
         replace c19 := Bool.eq_false_iff.mpr c19
         subst c19
         replace H := (if_neg (show ¬ (false = true) by decide)).symm.trans H
         by_cases c21 : (bt a0 x3_2) = 45
         ·
          rw [if_pos c21] at H
          have c21b0 : ((bt a0 x3_2) == 45) = true := beq_iff_eq.mpr c21
          have c21b1 : ((bt a0 x3_2) != 45) = false := bne_eq_false_iff_eq.mpr c21
          clear c21
          obtain ⟨ji22, hji22⟩ : ∃ j_ : Int, (wrap64 (x3_2 - 1)) = j_ := ⟨_, rfl⟩
          replace H : (if 0 ≤ (ji22) then (if (ji22) < (a0.size : Int) then ((impl_isLetter.f (bt a0 (ji22))).bind fun t157 => (if t157 = true then (impl_isNameWord.l0 k2 a0 (wrap64 (x3_2 + 1))) else (some false))) else (none)) else (none)) = some r := by first | (rw [hji22] at H; exact H) | (simp only [hji22] at H ⊢; exact H)
          (try rw [hji22] at A18)
          have hji22w : (IntKind.i64.wrap (x3_2 - 1)) = ji22 := (i64_w _).trans hji22
          by_cases c23 : 0 ≤ (ji22)
          ·
           rw [if_pos c23] at H
           have c23b0 : decide (0 ≤ (ji22)) = true := decide_eq_true c23
           clear c23
           by_cases c24 : (ji22) < (a0.size : Int)
           ·
            rw [if_pos c24] at H
            have c24b0 : decide ((ji22) < (a0.size : Int)) = true := decide_eq_true c24
            clear c24
            replace H := Option.bind_eq_some_iff.mp H
            obtain ⟨t157, A260, H⟩ := H
            try dsimp only at H
            have A26 := Aside0.mk A260
            clear A260
            by_cases c27 : t157 = true
            ·
             subst c27
             replace H := (if_pos rfl).symm.trans H
             have H' := Aside0.mk H
             clear H
             have p17 : 0 ≤ (x3_2 : Int) := of_decide_eq_true au88
             have q17 : x3_2 < (a0.size : Int) := of_decide_eq_true au88
             have hx17 := bt_at a0 x3_2
             replace p17 := eq_true p17
             replace q17 := eq_true q17
             go_wp2_with (first | ((with_reducible refine gate_callee (f := 75) rfl ?_); refine goesL_ (some 32) rfl rfl Tryd.func75 (by kernel_rfl) rfl #[.int .u8 (bt a0 x3_2)] rfl au38 ?_; (with_reducible refine (impl_isLetter.calls (bt a0 x3_2) _ _ A18.out).mono ?_); rintro e w' ⟨rfl, ⟨nd, rfl⟩⟩; refine ⟨_, rfl, ?_⟩; have p20 : 0 ≤ (x3_2 : Int) := of_decide_eq_true au88; have q20 : x3_2 < (a0.size : Int) := of_decide_eq_true au88; have hx20 := bt_at a0 x3_2; replace p20 := eq_true p20; replace q20 := eq_true q20; have p25 : 0 ≤ ((ji22) : Int) := of_decide_eq_true au88; have q25 : (ji22) < (a0.size : Int) := of_decide_eq_true au88; have hx25 := bt_at a0 (ji22); replace p25 := eq_true p25; replace q25 := eq_true q25) | (go_at_call 75; (with_reducible refine (impl_isLetter.calls (bt a0 (ji22)) _ _ A26.out).mono ?_); rintro e w' ⟨rfl, ⟨nd, rfl⟩⟩))
             go_roundg k2
             case measure => have := HJ1.out; have := HK2.out; omega
             case rel => exact ⟨(wrap64 (x3_2 + 1)), au89, H', ⟨by have := HJ1.out; have := HK2.out; omega⟩, by repeat (first | exact Drawn0.refl _ | apply Drawn0.step)⟩
            ·
             replace c27 := Bool.eq_false_iff.mpr c27
             subst c27
             replace H := (if_neg (show ¬ (false = true) by decide)).symm.trans H
             obtain rfl := Option.some.inj H
             have p17 : 0 ≤ (x3_2 : Int) := of_decide_eq_true au88
             have q17 : x3_2 < (a0.size : Int) := of_decide_eq_true au88
             have hx17 := bt_at a0 x3_2
             replace p17 := eq_true p17
             replace q17 := eq_true q17
             go_wp2_with (first | ((with_reducible refine gate_callee (f := 75) rfl ?_); refine goesL_ (some 32) rfl rfl Tryd.func75 (by kernel_rfl) rfl #[.int .u8 (bt a0 x3_2)] rfl au38 ?_; (with_reducible refine (impl_isLetter.calls (bt a0 x3_2) _ _ A18.out).mono ?_); rintro e w' ⟨rfl, ⟨nd, rfl⟩⟩; refine ⟨_, rfl, ?_⟩; have p20 : 0 ≤ (x3_2 : Int) := of_decide_eq_true au88; have q20 : x3_2 < (a0.size : Int) := of_decide_eq_true au88; have hx20 := bt_at a0 x3_2; replace p20 := eq_true p20; replace q20 := eq_true q20; have p25 : 0 ≤ ((ji22) : Int) := of_decide_eq_true au88; have q25 : (ji22) < (a0.size : Int) := of_decide_eq_true au88; have hx25 := bt_at a0 (ji22); replace p25 := eq_true p25; replace q25 := eq_true q25) | (go_at_call 75; (with_reducible refine (impl_isLetter.calls (bt a0 (ji22)) _ _ A26.out).mono ?_); rintro e w' ⟨rfl, ⟨nd, rfl⟩⟩))
             go_ret
             exact ax1
           ·
            rw [if_neg c24] at H
            exact absurd H (by simp)
          ·
           rw [if_neg c23] at H
           exact absurd H (by simp)
         ·
          rw [if_neg c21] at H
          have c21b0 : ((bt a0 x3_2) == 45) = false := beq_eq_false_iff_ne.mpr c21
          have c21b1 : ((bt a0 x3_2) != 45) = true := bne_iff_ne.mpr c21
          by_cases c29 : (bt a0 x3_2) = 39
          ·
           rw [if_pos c29] at H
           have c29b0 : ((bt a0 x3_2) == 39) = true := beq_iff_eq.mpr c29
           have c29b1 : ((bt a0 x3_2) != 39) = false := bne_eq_false_iff_eq.mpr c29
           clear c29
           obtain ⟨ji30, hji30⟩ : ∃ j_ : Int, (wrap64 (x3_2 - 1)) = j_ := ⟨_, rfl⟩
           replace H : (if 0 ≤ (ji30) then (if (ji30) < (a0.size : Int) then ((impl_isLetter.f (bt a0 (ji30))).bind fun t158 => (if t158 = true then (impl_isNameWord.l0 k2 a0 (wrap64 (x3_2 + 1))) else (some false))) else (none)) else (none)) = some r := by first | (rw [hji30] at H; exact H) | (simp only [hji30] at H ⊢; exact H)
           (try rw [hji30] at A18)
           have hji30w : (IntKind.i64.wrap (x3_2 - 1)) = ji30 := (i64_w _).trans hji30
           by_cases c31 : 0 ≤ (ji30)
           ·
            rw [if_pos c31] at H
            have c31b0 : decide (0 ≤ (ji30)) = true := decide_eq_true c31
            clear c31
            by_cases c32 : (ji30) < (a0.size : Int)
            ·
             rw [if_pos c32] at H
             have c32b0 : decide ((ji30) < (a0.size : Int)) = true := decide_eq_true c32
             clear c32
             replace H := Option.bind_eq_some_iff.mp H
             obtain ⟨t158, A340, H⟩ := H
             try dsimp only at H
             have A34 := Aside0.mk A340
             clear A340
             by_cases c35 : t158 = true
             ·
              subst c35
              replace H := (if_pos rfl).symm.trans H
              have H' := Aside0.mk H
              clear H
              have p17 : 0 ≤ (x3_2 : Int) := of_decide_eq_true au88
              have q17 : x3_2 < (a0.size : Int) := of_decide_eq_true au88
              have hx17 := bt_at a0 x3_2
              replace p17 := eq_true p17
              replace q17 := eq_true q17
              go_wp2_with (first | ((with_reducible refine gate_callee (f := 75) rfl ?_); refine goesL_ (some 32) rfl rfl Tryd.func75 (by kernel_rfl) rfl #[.int .u8 (bt a0 x3_2)] rfl au38 ?_; (with_reducible refine (impl_isLetter.calls (bt a0 x3_2) _ _ A18.out).mono ?_); rintro e w' ⟨rfl, ⟨nd, rfl⟩⟩; refine ⟨_, rfl, ?_⟩; have p20 : 0 ≤ (x3_2 : Int) := of_decide_eq_true au88; have q20 : x3_2 < (a0.size : Int) := of_decide_eq_true au88; have hx20 := bt_at a0 x3_2; replace p20 := eq_true p20; replace q20 := eq_true q20; have p28 : 0 ≤ (x3_2 : Int) := of_decide_eq_true au88; have q28 : x3_2 < (a0.size : Int) := of_decide_eq_true au88; have hx28 := bt_at a0 x3_2; replace p28 := eq_true p28; replace q28 := eq_true q28; have p33 : 0 ≤ ((ji30) : Int) := of_decide_eq_true au88; have q33 : (ji30) < (a0.size : Int) := of_decide_eq_true au88; have hx33 := bt_at a0 (ji30); replace p33 := eq_true p33; replace q33 := eq_true q33) | (go_at_call 75; (with_reducible refine (impl_isLetter.calls (bt a0 (ji30)) _ _ A34.out).mono ?_); rintro e w' ⟨rfl, ⟨nd, rfl⟩⟩))
              go_roundg k2
              case measure => have := HJ1.out; have := HK2.out; omega
              case rel => exact ⟨(wrap64 (x3_2 + 1)), au89, H', ⟨by have := HJ1.out; have := HK2.out; omega⟩, by repeat (first | exact Drawn0.refl _ | apply Drawn0.step)⟩
             ·
              replace c35 := Bool.eq_false_iff.mpr c35
              subst c35
              replace H := (if_neg (show ¬ (false = true) by decide)).symm.trans H
              obtain rfl := Option.some.inj H
              have p17 : 0 ≤ (x3_2 : Int) := of_decide_eq_true au88
              have q17 : x3_2 < (a0.size : Int) := of_decide_eq_true au88
              have hx17 := bt_at a0 x3_2
              replace p17 := eq_true p17
              replace q17 := eq_true q17
              exact impl_isNameWord.L0
            ·
             rw [if_neg c32] at H
             exact absurd H (by simp)
           ·
            rw [if_neg c31] at H
            exact absurd H (by simp)
          ·
           rw [if_neg c29] at H
           have c29b0 : ((bt a0 x3_2) == 39) = false := beq_eq_false_iff_ne.mpr c29
           have c29b1 : ((bt a0 x3_2) != 39) = true := bne_iff_ne.mpr c29
           obtain rfl := Option.some.inj H
           have p17 : 0 ≤ (x3_2 : Int) := of_decide_eq_true au88
           have q17 : x3_2 < (a0.size : Int) := of_decide_eq_true au88
           have hx17 := bt_at a0 x3_2
           replace p17 := eq_true p17
           replace q17 := eq_true q17
           go_wp2_with (first | ((with_reducible refine gate_callee (f := 75) rfl ?_); refine goesL_ (some 32) rfl rfl Tryd.func75 (by kernel_rfl) rfl #[.int .u8 (bt a0 x3_2)] rfl au38 ?_; (with_reducible refine (impl_isLetter.calls (bt a0 x3_2) _ _ A18.out).mono ?_); rintro e w' ⟨rfl, ⟨nd, rfl⟩⟩; refine ⟨_, rfl, ?_⟩; have p20 : 0 ≤ (x3_2 : Int) := of_decide_eq_true au88; have q20 : x3_2 < (a0.size : Int) := of_decide_eq_true au88; have hx20 := bt_at a0 x3_2; replace p20 := eq_true p20; replace q20 := eq_true q20; have p28 : 0 ≤ (x3_2 : Int) := of_decide_eq_true au88; have q28 : x3_2 < (a0.size : Int) := of_decide_eq_true au88; have hx28 := bt_at a0 x3_2; replace p28 := eq_true p28; replace q28 := eq_true q28))
           go_ret
           exact ax0
       ·
        rw [if_neg c16] at H
        exact absurd H (by simp)
      ·
       rw [if_neg c15] at H
       have c15b0 : decide (x3_2 < (a0.size : Int)) = false := decide_eq_false c15
       clear c15
       obtain rfl := Option.some.inj H
       exact impl_isNameWord.L0


/-! ### impl_isGreatWord: function 43 -/
def impl_isGreatWord.f (k : Nat) (a0 : ByteArray) : Option (Bool) := (impl_isNameWord.f k a0).bind fun t159 => (if t159 = true then (if 0 < (a0.size : Int) then ((impl_isUpper.f (bt a0 0)).bind fun t160 => (some t160)) else (none)) else (some false))
theorem impl_isGreatWord.mono : ∀ a0 k, LeO (impl_isGreatWord.f k a0) (impl_isGreatWord.f (k + 1) a0) := by
 intro a0 k
 unfold impl_isGreatWord.f
 repeat' first
   | (with_reducible exact impl_isNameWord.mono _ _)
   | (with_reducible exact LeO.refl _)
   | (with_reducible exact LeO.none _)
   | (with_reducible refine LeO.ite ?_ ?_)
   | (with_reducible refine LeO.bind ?_ (fun _ => ?_))
   | exact impl_isNameWord.mono _ _
   | exact LeO.none _
   | refine LeO.ite ?_ ?_
   | refine LeO.bind ?_ (fun _ => ?_)
set_option maxHeartbeats 8000000 in
set_option maxRecDepth 100000 in
theorem impl_isGreatWord.calls (k : Nat) (a0 : ByteArray) (r : Bool) (w : World) (h : impl_isGreatWord.f k a0 = some r) :
  Calls Tryd.prog 43 #[.string a0] w fun e w' => e = .returned (.bool r) ∧ Drawn0 w w' := by
 have H : ((impl_isNameWord.f k a0).bind fun t159 => (if t159 = true then (if 0 < (a0.size : Int) then ((impl_isUpper.f (bt a0 0)).bind fun t160 => (some t160)) else (none)) else (some false))) = some r := h
 clear h
 replace H := Option.bind_eq_some_iff.mp H
 obtain ⟨t159, A20, H⟩ := H
 try dsimp only at H
 have A2 := Aside0.mk A20
 clear A20
 by_cases c3 : t159 = true
 ·
  subst c3
  replace H := (if_pos rfl).symm.trans H
  by_cases c4 : 0 < (a0.size : Int)
  ·
   rw [if_pos c4] at H
   have c4b0 : decide (0 < (a0.size : Int)) = true := decide_eq_true c4
   have c4b1 : decide (0 < a0.size) = true := decide_eq_true (by omega)
   clear c4
   replace H := Option.bind_eq_some_iff.mp H
   obtain ⟨t160, A60, H⟩ := H
   try dsimp only at H
   have A6 := Aside0.mk A60
   clear A60
   obtain rfl := Option.some.inj H
   go_enter Tryd.func43, Tryd.ntmps43
   go_wp2_with (first | ((with_reducible refine gate_callee (f := 45) rfl ?_); refine goesL_ (some 4) rfl rfl Tryd.func45 (by kernel_rfl) rfl #[.string a0] rfl au38 ?_; (with_reducible refine (impl_isNameWord.calls k a0 true _ A2.out).mono ?_); rintro e w' ⟨rfl, ⟨nd, rfl⟩⟩; refine ⟨_, rfl, ?_⟩; have p5 : 0 ≤ (0 : Int) := (by omega); have q5 : 0 < a0.size := (by have : (0 : Int) < (a0.size : Int) := of_decide_eq_true au88; omega); have hx5 : ∀ h : 0 < a0.size, ((a0[0]'h).toNat : Int) = bt a0 0 := bt_at a0 0; clear p5; have qi5 : (0 < (a0.size : Int)) = True := eq_true (of_decide_eq_true au88); replace q5 := eq_true q5) | (go_at_call 72; (with_reducible refine (impl_isUpper.calls (bt a0 0) t160 _ A6.out).mono ?_); rintro e w' ⟨rfl, ⟨nd, rfl⟩⟩))
   go_ret
   exact ax0
  ·
   rw [if_neg c4] at H
   exact absurd H (by simp)
 ·
  replace c3 := Bool.eq_false_iff.mpr c3
  subst c3
  replace H := (if_neg (show ¬ (false = true) by decide)).symm.trans H
  obtain rfl := Option.some.inj H
  go_enter Tryd.func43, Tryd.ntmps43
  go_wp2_with (first | ((with_reducible refine gate_callee (f := 45) rfl ?_); refine goesL_ (some 4) rfl rfl Tryd.func45 (by kernel_rfl) rfl #[.string a0] rfl au38 ?_; (with_reducible refine (impl_isNameWord.calls k a0 false _ A2.out).mono ?_); rintro e w' ⟨rfl, ⟨nd, rfl⟩⟩; refine ⟨_, rfl, ?_⟩))
  go_ret
  exact ax0

end Go.Proofs.YtcckamdpncbkoaaDoor.G

namespace Go.Proofs
open Go.Shelf
def Tryd.lays156_ren : Go.Shelf.Ren := ⟨fun | 156 => 61 | 165 => 87 | 166 => 88 | 169 => 89 | 240 => 105 | 241 => 106 | 276 => 112 | 277 => 113 | n => n, fun | 31 => 22 | 9 => 9 | 3 => 3 | 4 => 4 | 0 => 0 | 20 => 20 | 72 => 71 | 76 => 75 | 70 => 69 | 37 => 65 | 75 => 74 | 127 => 85 | 164 => 91 | 5 => 5 | 80 => 77 | n => n, fun | n => n⟩
theorem Tryd.lays156 : Go.Proofs.Lays.n156 Tryd.prog Tryd.lays156_ren := {
  mixed := by kernel_rfl
  f156 := Tryd.func61.trans (congrArg some (by kernel_rfl))
  f165 := Tryd.func87.trans (congrArg some (by kernel_rfl))
  f166 := Tryd.func88.trans (congrArg some (by kernel_rfl))
  f169 := Tryd.func89.trans (congrArg some (by kernel_rfl))
  f240 := Tryd.func105.trans (congrArg some (by kernel_rfl))
  f241 := Tryd.func106.trans (congrArg some (by kernel_rfl))
  f276 := Tryd.func112.trans (congrArg some (by kernel_rfl))
  f277 := Tryd.func113.trans (congrArg some (by kernel_rfl))
  t0 := Tryd.underlying0
  a0 := Tryd.isAgg0
  z0 := Tryd.sizeOf0
  v0 := Tryd.zeroValue0
  t3 := Tryd.underlying3
  a3 := Tryd.isAgg3
  z3 := Tryd.sizeOf3
  v3 := Tryd.zeroValue3
  t4 := Tryd.underlying4
  a4 := Tryd.isAgg4
  z4 := Tryd.sizeOf4
  v4 := Tryd.zeroValue4
  t9 := Tryd.underlying9
  a9 := Tryd.isAgg9
  z9 := Tryd.sizeOf9
  v9 := Tryd.zeroValue9
  t20 := Tryd.underlying20
  a20 := Tryd.isAgg20
  z20 := Tryd.sizeOf20
  v20 := Tryd.zeroValue20
  t31 := Tryd.underlying22
  a31 := Tryd.isAgg22
  z31 := Tryd.sizeOf22
  v31 := Tryd.zeroValue22
  t37 := Tryd.underlying65
  a37 := Tryd.isAgg65
  z37 := Tryd.sizeOf65
  v37 := Tryd.zeroValue65
  t70 := Tryd.underlying69
  a70 := Tryd.isAgg69
  z70 := Tryd.sizeOf69
  v70 := Tryd.zeroValue69
  t72 := Tryd.underlying71
  a72 := Tryd.isAgg71
  z72 := Tryd.sizeOf71
  v72 := Tryd.zeroValue71
  t75 := Tryd.underlying74
  a75 := Tryd.isAgg74
  z75 := Tryd.sizeOf74
  v75 := Tryd.zeroValue74
  t76 := Tryd.underlying75
  a76 := Tryd.isAgg75
  z76 := Tryd.sizeOf75
  v76 := Tryd.zeroValue75
  t127 := Tryd.underlying85
  a127 := Tryd.isAgg85
  z127 := Tryd.sizeOf85
  v127 := Tryd.zeroValue85
  t164 := Tryd.underlying91
  a164 := Tryd.isAgg91
  z164 := Tryd.sizeOf91
  v164 := Tryd.zeroValue91 }
theorem Tryd.Builder_Extra_156 : Builder.Extra Tryd.prog Tryd.lays156_ren := {
  sizeBuilder := by kernel_rfl
  liesBuilder := by kernel_rfl
  t5 := Tryd.underlying5
  a5 := Tryd.isAgg5
  z5 := Tryd.sizeOf5
  v5 := Tryd.zeroValue5
  infoByte := by kernel_rfl
  cellsByte := by kernel_rfl
  sizeByte := by kernel_rfl
  neB5 := by decide }
open Go.RowKit in
theorem Tryd.strings_Join_none (a : Option Addr) (c : Nat) (sep : ByteArray) (w : World) :
    Calls Tryd.prog 61 #[.slice a 0 c, .string sep] w fun e w' => e = .returned (.string ⟨#[]⟩) ∧ w' = w := Any.strings_Join_none Tryd.lays156 Tryd.Builder_Extra_156 a c sep w
open Go.RowKit in
theorem Tryd.strings_Join (bk o c : Nat) (xs : List ByteArray) (sep : ByteArray) (w : World) (hcells : ∀ (j : Nat) x, xs[j]? = some x → w.cell? ⟨bk, o + j, none⟩ = some (.string x)) (hbk : bk < w.heap.size) (hN : xs.length ≤ 140737488355328) (hcap : xs.length ≤ c) (hlen : (Lib.join (xs.map (·.data.toList)) sep.data.toList).length ≤ 140737488355328) :
    Calls Tryd.prog 61 #[.slice (some ⟨bk, o, none⟩) xs.length c, .string sep] w fun e w' => e = .returned (.string ⟨(Lib.join (xs.map (·.data.toList)) sep.data.toList).toArray⟩) ∧ Below w.heap.size w w' := Any.strings_Join Tryd.lays156 Tryd.Builder_Extra_156 bk o c xs sep w hcells hbk hN hcap hlen
def Tryd.lays146_ren : Go.Shelf.Ren := ⟨fun | 146 => 60 | 221 => 86 | 268 => 102 | 138 => 103 | 143 => 104 | 195 => 108 | 197 => 109 | 218 => 110 | 219 => 111 | 260 => 115 | 217 => 116 | 225 => 117 | 224 => 118 | 267 => 119 | 266 => 120 | 314 => 121 | n => n, fun | 9 => 9 | 31 => 22 | 3 => 3 | 4 => 4 | 0 => 0 | 105 => 88 | 21 => 21 | 5 => 5 | 46 => 95 | 119 => 96 | 139 => 99 | 138 => 98 | 146 => 101 | 51 => 100 | n => n, fun | 1 => 0 | 3 => 1 | 4 => 2 | n => n⟩
theorem Tryd.lays146 : Go.Proofs.Lays.n146 Tryd.prog Tryd.lays146_ren := {
  mixed := by kernel_rfl
  f138 := Tryd.func103.trans (congrArg some (by kernel_rfl))
  f143 := Tryd.func104.trans (congrArg some (by kernel_rfl))
  f146 := Tryd.func60.trans (congrArg some (by kernel_rfl))
  f195 := Tryd.func108.trans (congrArg some (by kernel_rfl))
  f197 := Tryd.func109.trans (congrArg some (by kernel_rfl))
  f217 := Tryd.func116.trans (congrArg some (by kernel_rfl))
  f218 := Tryd.func110.trans (congrArg some (by kernel_rfl))
  f219 := Tryd.func111.trans (congrArg some (by kernel_rfl))
  f221 := Tryd.func86.trans (congrArg some (by kernel_rfl))
  f224 := Tryd.func118.trans (congrArg some (by kernel_rfl))
  f225 := Tryd.func117.trans (congrArg some (by kernel_rfl))
  f260 := Tryd.func115.trans (congrArg some (by kernel_rfl))
  f266 := Tryd.func120.trans (congrArg some (by kernel_rfl))
  f267 := Tryd.func119.trans (congrArg some (by kernel_rfl))
  f268 := Tryd.func102.trans (congrArg some (by kernel_rfl))
  f314 := Tryd.func121.trans (congrArg some (by kernel_rfl))
  t0 := Tryd.underlying0
  a0 := Tryd.isAgg0
  z0 := Tryd.sizeOf0
  v0 := Tryd.zeroValue0
  t3 := Tryd.underlying3
  a3 := Tryd.isAgg3
  z3 := Tryd.sizeOf3
  v3 := Tryd.zeroValue3
  t4 := Tryd.underlying4
  a4 := Tryd.isAgg4
  z4 := Tryd.sizeOf4
  v4 := Tryd.zeroValue4
  t5 := Tryd.underlying5
  a5 := Tryd.isAgg5
  z5 := Tryd.sizeOf5
  v5 := Tryd.zeroValue5
  t9 := Tryd.underlying9
  a9 := Tryd.isAgg9
  z9 := Tryd.sizeOf9
  v9 := Tryd.zeroValue9
  t21 := Tryd.underlying21
  a21 := Tryd.isAgg21
  z21 := Tryd.sizeOf21
  v21 := Tryd.zeroValue21
  t31 := Tryd.underlying22
  a31 := Tryd.isAgg22
  z31 := Tryd.sizeOf22
  v31 := Tryd.zeroValue22
  t46 := Tryd.underlying95
  a46 := Tryd.isAgg95
  z46 := Tryd.sizeOf95
  v46 := Tryd.zeroValue95
  t51 := Tryd.underlying100
  a51 := Tryd.isAgg100
  z51 := Tryd.sizeOf100
  v51 := Tryd.zeroValue100
  t105 := Tryd.underlying88
  a105 := Tryd.isAgg88
  z105 := Tryd.sizeOf88
  v105 := Tryd.zeroValue88
  t119 := Tryd.underlying96
  a119 := Tryd.isAgg96
  z119 := Tryd.sizeOf96
  t138 := Tryd.underlying98
  a138 := Tryd.isAgg98
  z138 := Tryd.sizeOf98
  v138 := Tryd.zeroValue98
  t139 := Tryd.underlying99
  a139 := Tryd.isAgg99
  z139 := Tryd.sizeOf99
  v139 := Tryd.zeroValue99
  t146 := Tryd.underlying101
  a146 := Tryd.isAgg101
  z146 := Tryd.sizeOf101
  v146 := Tryd.zeroValue101
  g1 := by kernel_rfl
  g3 := by kernel_rfl
  g4 := by kernel_rfl }
open Go.RowKit Go.Lib in
theorem Tryd.strings_Split (s sep : ByteArray) (m : Int) (w : World) (hs : s.size < 4294967281) (hm : w.cell? ⟨0, 0, none⟩ = some (.int .i64 m)) (h1 : 1 ≤ sep.size) :
    Calls Tryd.prog 60 #[.string s, .string sep] w fun e w' =>
      e = .returned (.slice (some ⟨w.heap.size, 0, none⟩) (Lib.countB s sep + 1) (Lib.countB s sep + 1)) ∧ w' = w.alloc (.cells ((Lib.splitB sep 0 (Lib.countB s sep) s).map Value.string).toArray 9) := Any.strings_Split Tryd.lays146 (by kernel_rfl) s sep m w hs hm h1
def Tryd.laysSlH10_f100_ren : Go.Shelf.Ren := ⟨fun | 10 => 100 | 6 => 71 | n => n, fun | 22 => 22 | 23 => 9 | 25 => 46 | 3 => 3 | 4 => 4 | 0 => 0 | n => n, fun | n => n⟩
theorem Tryd.laysSlH10_f100 : Go.Proofs.SlLaysH.n10 Tryd.prog Tryd.laysSlH10_f100_ren := {
  mixed := by kernel_rfl
  f6 := ⟨Tryd.f71.name, by decide, Tryd.func71.trans (congrArg some (by kernel_rfl))⟩
  f10 := ⟨Tryd.f100.name, by decide, Tryd.func100.trans (congrArg some (by kernel_rfl))⟩
  t0 := Tryd.underlying0
  a0 := Tryd.isAgg0
  z0 := Tryd.sizeOf0
  v0 := Tryd.zeroValue0
  t3 := Tryd.underlying3
  a3 := Tryd.isAgg3
  z3 := Tryd.sizeOf3
  v3 := Tryd.zeroValue3
  t4 := Tryd.underlying4
  a4 := Tryd.isAgg4
  z4 := Tryd.sizeOf4
  v4 := Tryd.zeroValue4
  t22 := Tryd.underlying22
  a22 := Tryd.isAgg22
  z22 := Tryd.sizeOf22
  v22 := Tryd.zeroValue22
  a23 := Tryd.isAgg9
  z23 := Tryd.sizeOf9
  t25 := Tryd.underlying46
  a25 := Tryd.isAgg46
  z25 := Tryd.sizeOf46
  v25 := Tryd.zeroValue46 }
open Go.RowKit Go.Lib Go.Sort in
theorem Tryd.slices_DeleteFunc {α : Type} [Inhabited α] (enc : α → Value) (hO : OneCell enc) (p : α → Bool) (g : Nat) (lb : Array Value) (eg : ∀ args w, (callFunc g args).run Tryd.prog w = .ok (.enter g args) w) (zr : α) (v23 : ∀ w, (zeroValue 9).run Tryd.prog w = .ok (enc zr) w) (blk off cap : Nat) (d : Array α) (w : World) (hp : PredAt Tryd.prog g lb enc p w) (hpo : PredOver Tryd.prog g lb enc p blk off d.size w) (hH : Holds enc w blk off d) (hsz : d.size ≤ 9223372036854775807) (hcap : d.size ≤ cap) :
    Calls Tryd.prog 100 #[.slice (some ⟨blk, off, none⟩) d.size cap, .func (.func g) #[] lb] w fun e w' => e = .returned (.slice (some ⟨blk, off, none⟩) (d.toList.filter fun x => !p x).length cap) ∧ ∃ q, w' = putRow enc (Sort.ahead w q) blk off ((d.toList.filter fun x => !p x) ++ List.replicate (d.size - (d.toList.filter fun x => !p x).length) zr).toArray := AnyE.slices_DeleteFunc Tryd.laysSlH10_f100 enc hO p g lb eg zr v23 blk off cap d w hp hpo hH hsz hcap
end Go.Proofs

namespace Go.Proofs.YtcckamdpncbkoaaDoor.G
open Go.RowKit Go.Proofs.YtcckamdpncbkoaaDoorW.PrintWords Go.Proofs.YtcckamdpncbkoaaDoorW.PrintLast Go.Proofs.YtcckamdpncbkoaaDoorW.PrintMore
open Go.Proofs.YtcckamdpncbkoaaDoor.Gl Go.Proofs.YtcckamdpncbkoaaDoor.Ext
attribute [local go_sem] max2_int min2_int max_two min_two max_three min_three max_four min_four   -- for this text's walks alone
set_option linter.unusedVariables false
set_option linter.unusedSimpArgs false

/-! ### strings_Split: function 60 -/
def strings_Split.f (a0 : ByteArray) (a1 : ByteArray) : Option (List ByteArray) :=
 if a0.size < 4294967281 ∧ 1 ≤ a1.size ∧ (Lib.splitB a1 0 (Lib.countB a0 a1) a0).length = Lib.countB a0 a1 + 1 ∧ Lib.countB a0 a1 < 4294967296 then some (Lib.splitB a1 0 (Lib.countB a0 a1) a0) else none
theorem strings_Split.calls (a0 : ByteArray) (a1 : ByteArray) (r : List ByteArray) (w : World) {gF1 gF2 gF3 : Bool} (hG : GL gF1 gF2 gF3 w) (h : strings_Split.f a0 a1 = some r) :
  Calls Tryd.prog 60 #[.string a0, .string a1] w fun e w' => ∃ v0_ : Value, e = .returned (v0_) ∧ Kd.R Kd.string 9 w' w.heap.size (fun _ => True) v0_ r ∧ Below w.heap.size w w' := by
 unfold strings_Split.f at h
 by_cases hg : a0.size < 4294967281 ∧ 1 ≤ a1.size ∧ (Lib.splitB a1 0 (Lib.countB a0 a1) a0).length = Lib.countB a0 a1 + 1 ∧ Lib.countB a0 a1 < 4294967296
 ·
  rw [if_pos hg] at h
  obtain rfl := Option.some.inj h
  obtain ⟨m, hm⟩ := hG.mx
  refine (Tryd.strings_Split a0 a1 m w hg.1 hm hg.2.1).mono ?_
  rintro e w' ⟨rfl, rfl⟩
  rw [← hg.2.2.1]
  refine ⟨_, rfl, Kd.R_of_own (own_lit_of (enc := Value.string) w w.heap.size 9 _ (Nat.le_refl _) ?_) (fun _ _ => trivial), (Below.refl _ _).alloc (Nat.le_refl _) _⟩
  rw [hg.2.2.1]; omega
 ·
  rw [if_neg hg] at h; cases h


/-! ### impl_isParticle: function 44 -/
mutual
def impl_isParticle.l0 : Nat → List ByteArray → List ByteArray → Int → Int → Option (Bool)
 | 0, _, _, _, _ => none
 | k + 1, x3, x11, x12, x13 => if x13 < x12 then (if 0 ≤ x13 then (if x13 < (x11.length : Int) then ((impl_inside.f ((rdOf ByteArray.empty x11 x13).size : Int) 1 12).bind fun t165 => (if t165 = true then (impl_isParticle.l1 k x3 (rdOf ByteArray.empty x11 x13) 0 x11 x12 x13) else (some false))) else (none)) else (none)) else (some (decide ((x3.length : Int) ≤ 2)))
def impl_isParticle.l1 : Nat → List ByteArray → ByteArray → Int → List ByteArray → Int → Int → Option (Bool)
 | 0, _, _, _, _, _, _ => none
 | k + 1, x3, x5, x6, x11, x12, x13 => if x6 < (x5.size : Int) then (if 0 ≤ x6 then ((impl_isLower.f (bt x5 x6)).bind fun t166 => (if t166 = true then (impl_isParticle.l1 k x3 x5 (wrap64 (x6 + 1)) x11 x12 x13) else (some false))) else (none)) else (impl_isParticle.l0 k x3 x11 x12 (wrap64 (x13 + 1)))
end
def impl_isParticle.f (k : Nat) (a0 : ByteArray) : Option (Bool) := if a0.toList = ([] : List UInt8) then (some true) else ((strings_Split.f a0 (⟨#[32]⟩ : ByteArray)).bind fun t161 => (impl_isParticle.l0 k t161 t161 (t161.length : Int) 0))
theorem impl_isParticle.mono_l : ∀ k, (∀ y0 y1 y2 y3, LeO (impl_isParticle.l0 k y0 y1 y2 y3) (impl_isParticle.l0 (k + 1) y0 y1 y2 y3)) ∧ (∀ y0 y1 y2 y3 y4 y5, LeO (impl_isParticle.l1 k y0 y1 y2 y3 y4 y5) (impl_isParticle.l1 (k + 1) y0 y1 y2 y3 y4 y5))
 | 0 => ⟨fun _ _ _ _ r h => by simp [impl_isParticle.l0] at h, fun _ _ _ _ _ _ r h => by simp [impl_isParticle.l1] at h⟩
 | k + 1 => by
  obtain ⟨ih0, ih1⟩ := impl_isParticle.mono_l k
  refine ⟨?_, ?_⟩
  ·
   intro y0 y1 y2 y3
   unfold impl_isParticle.l0
   repeat' first
   | (with_reducible exact ih0 _ _ _ _)
   | (with_reducible exact ih1 _ _ _ _ _ _)
   | (with_reducible exact LeO.refl _)
   | (with_reducible exact LeO.none _)
   | (with_reducible refine LeO.ite ?_ ?_)
   | (with_reducible refine LeO.bind ?_ (fun _ => ?_))
   | exact ih0 _ _ _ _
   | exact ih1 _ _ _ _ _ _
   | exact LeO.none _
   | refine LeO.ite ?_ ?_
   | refine LeO.bind ?_ (fun _ => ?_)
  ·
   intro y0 y1 y2 y3 y4 y5
   unfold impl_isParticle.l1
   repeat' first
   | (with_reducible exact ih0 _ _ _ _)
   | (with_reducible exact ih1 _ _ _ _ _ _)
   | (with_reducible exact LeO.refl _)
   | (with_reducible exact LeO.none _)
   | (with_reducible refine LeO.ite ?_ ?_)
   | (with_reducible refine LeO.bind ?_ (fun _ => ?_))
   | exact ih0 _ _ _ _
   | exact ih1 _ _ _ _ _ _
   | exact LeO.none _
   | refine LeO.ite ?_ ?_
   | refine LeO.bind ?_ (fun _ => ?_)
theorem impl_isParticle.mono : ∀ a0 k, LeO (impl_isParticle.f k a0) (impl_isParticle.f (k + 1) a0) := by
 intro a0 k
 obtain ⟨ih0, ih1⟩ := impl_isParticle.mono_l k
 unfold impl_isParticle.f
 repeat' first
   | (with_reducible exact ih0 _ _ _ _)
   | (with_reducible exact ih1 _ _ _ _ _ _)
   | (with_reducible exact LeO.refl _)
   | (with_reducible exact LeO.none _)
   | (with_reducible refine LeO.ite ?_ ?_)
   | (with_reducible refine LeO.bind ?_ (fun _ => ?_))
   | exact ih0 _ _ _ _
   | exact ih1 _ _ _ _ _ _
   | exact LeO.none _
   | refine LeO.ite ?_ ?_
   | refine LeO.bind ?_ (fun _ => ?_)
set_option maxHeartbeats 8000000 in
set_option maxRecDepth 100000 in
theorem impl_isParticle.calls (k : Nat) (a0 : ByteArray) (r : Bool) (w : World) {gF1 gF2 gF3 : Bool} (hG : GL gF1 gF2 gF3 w) (h : impl_isParticle.f k a0 = some r) :
  Calls Tryd.prog 44 #[.string a0] w fun e w' => e = .returned (.bool r) ∧ Below w.heap.size w w' := by
 have HG := Aside0.mk hG
 clear hG
 have HB := Aside0.mk (Below.refl w.heap.size w)
 have H : (if a0.toList = ([] : List UInt8) then (some true) else ((strings_Split.f a0 (⟨#[32]⟩ : ByteArray)).bind fun t161 => (impl_isParticle.l0 k t161 t161 (t161.length : Int) 0))) = some r := h
 clear h
 by_cases c2 : a0.toList = ([] : List UInt8)
 ·
  rw [if_pos c2] at H
  have c2b0 : (a0.toList == ([] : List UInt8)) = true := beq_iff_eq.mpr c2
  have c2b1 : (a0.toList != ([] : List UInt8)) = false := bne_eq_false_iff_eq.mpr c2
  clear c2
  obtain rfl := Option.some.inj H
  go_enter Tryd.func44, Tryd.ntmps44
  go_wp2
  go_ret
  exact ax2
 ·
  rw [if_neg c2] at H
  have c2b0 : (a0.toList == ([] : List UInt8)) = false := beq_eq_false_iff_ne.mpr c2
  have c2b1 : (a0.toList != ([] : List UInt8)) = true := bne_iff_ne.mpr c2
  replace H := Option.bind_eq_some_iff.mp H
  obtain ⟨t161, A30, H⟩ := H
  try dsimp only at H
  have A3 := Aside0.mk A30
  clear A30
  have H' := Aside0.mk H
  clear H
  go_enter Tryd.func44, Tryd.ntmps44
  go_wp2_with (first | ((with_reducible refine gate_callee (f := 60) rfl ?_); refine goesL_ (some 10) rfl rfl Tryd.func60 (by kernel_rfl) rfl #[.string a0, .string (⟨#[32]⟩ : ByteArray)] rfl au38 ?_; (with_reducible refine (strings_Split.calls (hG := au9) a0 (⟨#[32]⟩ : ByteArray) t161 _ A3.out).mono ?_); rintro e w4 ⟨v162, rfl, ho0, hb⟩; refine ⟨_, rfl, ?_⟩; have n0_ := Aside0.mk (Kd.R_lower ho0 (below_size au41)); have n1_ := Aside0.mk (below_step au41 hb); clear HB; have HO163 := n0_; have HB := n1_; clear n0_ n1_; (try clear hb); (try clear hb2); (try clear hk); (try clear hi); (try clear ho0); obtain ⟨Ao5, co5, eo5⟩ := Kd.R_slice HO163.out; subst eo5))
  go_loopg [13] k (fun kq v13 w' => ∃ (x13_1 : Int), v13 = .int .i64 x13_1 ∧ Aside0 (impl_isParticle.l0 kq t161 t161 (t161.length : Int) x13_1 = some r) ∧ Aside0 (kq ≤ k) ∧ Aside0 (Kd.R Kd.string 9 w' w.heap.size (fun _ => True) (.slice Ao5 t161.length co5) t161) ∧ Aside0 (Kd.R Kd.string 9 w' w.heap.size (fun _ => True) (.slice Ao5 t161.length co5) t161) ∧ Aside0 (Below w.heap.size w w'))
  case atStart => exact ⟨(0), au89, H', ⟨Nat.le_refl _⟩, ⟨by (with_reducible repeat (first | apply Kd.R_alloc | apply Kd.R_drewN | apply Kd.R_drew)); exact HO163.out⟩, ⟨by (with_reducible repeat (first | apply Kd.R_alloc | apply Kd.R_drewN | apply Kd.R_drew)); exact HO163.out⟩, ⟨by repeat (first | (with_reducible first | exact HB.out | apply below_alloc | apply pw_below_drewN | apply below_drew1) | exact HB.out)⟩⟩
  case round =>
   clear H'
   try clear c2
   try clear c2b0
   try clear c2b1
   try clear p2
   try clear c4
   obtain ⟨x13_1, rfl, HA, HK1, HO_3, HO_11, HB⟩ := hrel
   cases gk with
   | zero => exact absurd HA.out (by simp [impl_isParticle.l0])
   | succ k1 =>
    have H := HA.out
    clear HA
    simp only [impl_isParticle.l0] at H
    by_cases c6 : x13_1 < (t161.length : Int)
    ·
     rw [if_pos c6] at H
     have c6b0 : decide (x13_1 < (t161.length : Int)) = true := decide_eq_true c6
     clear c6
     by_cases c7 : 0 ≤ x13_1
     ·
      rw [if_pos c7] at H
      have c7b0 : decide (0 ≤ x13_1) = true := decide_eq_true c7
      clear c7
      by_cases c8 : x13_1 < (t161.length : Int)
      ·
       rw [if_pos c8] at H
       have c8b0 : decide (x13_1 < (t161.length : Int)) = true := decide_eq_true c8
       clear c8
       replace H := Option.bind_eq_some_iff.mp H
       obtain ⟨t165, A90, H⟩ := H
       try dsimp only at H
       have A9 := Aside0.mk A90
       clear A90
       by_cases c10 : t165 = true
       ·
        subst c10
        replace H := (if_pos rfl).symm.trans H
        have H' := Aside0.mk H
        clear H
        have p164 : 0 ≤ (x13_1 : Int) := of_decide_eq_true au88
        have q164 : x13_1 < (t161.length : Int) := of_decide_eq_true au88
        obtain ⟨ad164, e164, hx164_0⟩ := Kd.at_string (Kd.R_reads' HO_11.out).2.2 x13_1 p164 q164
        cases e164
        replace p164 := eq_true p164
        replace q164 := eq_true q164
        go_wp2_with (first | ((with_reducible refine gate_callee (f := 73) rfl ?_); refine goesL_ (some 19) rfl rfl Tryd.func73 (by kernel_rfl) rfl #[.int .i64 ((rdOf ByteArray.empty t161 x13_1).size : Int), .int .i64 1, .int .i64 12] rfl au38 ?_; (with_reducible refine (impl_inside.calls ((rdOf ByteArray.empty t161 x13_1).size : Int) 1 12 true _ A9.out).mono ?_); rintro e w' ⟨rfl, ⟨nd, rfl⟩⟩; refine ⟨_, rfl, ?_⟩))
        go_loopg [6] k1 (fun kq v6 w' => ∃ (x6_2 : Int), v6 = .int .i64 x6_2 ∧ Aside0 (impl_isParticle.l1 kq t161 (rdOf ByteArray.empty t161 x13_1) x6_2 t161 (t161.length : Int) x13_1 = some r) ∧ Aside0 (kq ≤ k1) ∧ Aside0 (Kd.R Kd.string 9 w' w.heap.size (fun _ => True) (.slice (some ad164) t161.length co5) t161) ∧ Aside0 (Kd.R Kd.string 9 w' w.heap.size (fun _ => True) (.slice (some ad164) t161.length co5) t161) ∧ Aside0 (Below w.heap.size w w'))
        case atStart => exact ⟨(0), au89, H', ⟨Nat.le_refl _⟩, ⟨by (with_reducible repeat (first | apply Kd.R_alloc | apply Kd.R_drewN | apply Kd.R_drew)); exact HO_3.out⟩, ⟨by (with_reducible repeat (first | apply Kd.R_alloc | apply Kd.R_drewN | apply Kd.R_drew)); exact HO_11.out⟩, ⟨by repeat (first | (with_reducible first | exact HB.out | apply below_alloc | apply pw_below_drewN | apply below_drew1) | exact HB.out)⟩⟩
        case round =>
         clear H'
         try clear c1
         try clear p1
         try clear q1
         try clear hx1
         try clear c2
         try clear c2b0
         try clear c2b1
         try clear p2
         try clear c4
         try clear c6
         try clear c6b0
         try clear c7
         try clear c7b0
         try clear c8
         try clear c8b0
         try clear c10
         try clear hx164_0
         try clear p164
         try clear p2
         try clear q164
         obtain ⟨x6_2, rfl, HA, HK2, HO_3, HO_11, HB⟩ := hrel
         cases gk with
         | zero => exact absurd HA.out (by simp [impl_isParticle.l1])
         | succ k2 =>
          have H := HA.out
          clear HA
          simp only [impl_isParticle.l1] at H
          by_cases c11 : x6_2 < ((rdOf ByteArray.empty t161 x13_1).size : Int)
          ·
           rw [if_pos c11] at H
           have c11b0 : decide (x6_2 < ((rdOf ByteArray.empty t161 x13_1).size : Int)) = true := decide_eq_true c11
           clear c11
           by_cases c12 : 0 ≤ x6_2
           ·
            rw [if_pos c12] at H
            have c12b0 : decide (0 ≤ x6_2) = true := decide_eq_true c12
            clear c12
            replace H := Option.bind_eq_some_iff.mp H
            obtain ⟨t166, A140, H⟩ := H
            try dsimp only at H
            have A14 := Aside0.mk A140
            clear A140
            by_cases c15 : t166 = true
            ·
             subst c15
             replace H := (if_pos rfl).symm.trans H
             have H' := Aside0.mk H
             clear H
             have p13 : 0 ≤ (x6_2 : Int) := of_decide_eq_true au88
             have q13 : x6_2 < ((rdOf ByteArray.empty t161 x13_1).size : Int) := of_decide_eq_true au88
             have hx13 := bt_at (rdOf ByteArray.empty t161 x13_1) x6_2
             replace p13 := eq_true p13
             replace q13 := eq_true q13
             go_wp2_with (first | ((with_reducible refine gate_callee (f := 74) rfl ?_); refine goesL_ (some 30) rfl rfl Tryd.func74 (by kernel_rfl) rfl #[.int .u8 (bt (rdOf ByteArray.empty t161 x13_1) x6_2)] rfl au38 ?_; (with_reducible refine (impl_isLower.calls (bt (rdOf ByteArray.empty t161 x13_1) x6_2) true _ A14.out).mono ?_); rintro e w' ⟨rfl, ⟨nd, rfl⟩⟩; refine ⟨_, rfl, ?_⟩))
             go_roundg k2
             case measure => have := HK1.out; have := HK2.out; omega
             case rel => exact ⟨(wrap64 (x6_2 + 1)), au89, H', ⟨by have := HK1.out; have := HK2.out; omega⟩, ⟨by (with_reducible repeat (first | apply Kd.R_alloc | apply Kd.R_drewN | apply Kd.R_drew)); exact HO_3.out⟩, ⟨by (with_reducible repeat (first | apply Kd.R_alloc | apply Kd.R_drewN | apply Kd.R_drew)); exact HO_11.out⟩, ⟨by repeat (first | (with_reducible first | exact HB.out | apply below_alloc | apply pw_below_drewN | apply below_drew1) | exact HB.out)⟩⟩
            ·
             replace c15 := Bool.eq_false_iff.mpr c15
             subst c15
             replace H := (if_neg (show ¬ (false = true) by decide)).symm.trans H
             obtain rfl := Option.some.inj H
             have p13 : 0 ≤ (x6_2 : Int) := of_decide_eq_true au88
             have q13 : x6_2 < ((rdOf ByteArray.empty t161 x13_1).size : Int) := of_decide_eq_true au88
             have hx13 := bt_at (rdOf ByteArray.empty t161 x13_1) x6_2
             replace p13 := eq_true p13
             replace q13 := eq_true q13
             go_wp2_with (first | ((with_reducible refine gate_callee (f := 74) rfl ?_); refine goesL_ (some 30) rfl rfl Tryd.func74 (by kernel_rfl) rfl #[.int .u8 (bt (rdOf ByteArray.empty t161 x13_1) x6_2)] rfl au38 ?_; (with_reducible refine (impl_isLower.calls (bt (rdOf ByteArray.empty t161 x13_1) x6_2) false _ A14.out).mono ?_); rintro e w' ⟨rfl, ⟨nd, rfl⟩⟩; refine ⟨_, rfl, ?_⟩))
             go_ret
             exact ax2
           ·
            rw [if_neg c12] at H
            exact absurd H (by simp)
          ·
           rw [if_neg c11] at H
           have c11b0 : decide (x6_2 < ((rdOf ByteArray.empty t161 x13_1).size : Int)) = false := decide_eq_false c11
           clear c11
           have H' := Aside0.mk H
           clear H
           go_wp2
           go_roundg k2
           case measure => have := HK1.out; have := HK2.out; omega
           case rel => exact ⟨(wrap64 (x13_1 + 1)), au89, H', ⟨by have := HK1.out; have := HK2.out; omega⟩, ⟨by (with_reducible repeat (first | apply Kd.R_alloc | apply Kd.R_drewN | apply Kd.R_drew)); exact HO_3.out⟩, ⟨by (with_reducible repeat (first | apply Kd.R_alloc | apply Kd.R_drewN | apply Kd.R_drew)); exact HO_11.out⟩, ⟨by repeat (first | (with_reducible first | exact HB.out | apply below_alloc | apply pw_below_drewN | apply below_drew1) | exact HB.out)⟩⟩
       ·
        replace c10 := Bool.eq_false_iff.mpr c10
        subst c10
        replace H := (if_neg (show ¬ (false = true) by decide)).symm.trans H
        obtain rfl := Option.some.inj H
        have p164 : 0 ≤ (x13_1 : Int) := of_decide_eq_true au88
        have q164 : x13_1 < (t161.length : Int) := of_decide_eq_true au88
        obtain ⟨ad164, e164, hx164_0⟩ := Kd.at_string (Kd.R_reads' HO_11.out).2.2 x13_1 p164 q164
        cases e164
        replace p164 := eq_true p164
        replace q164 := eq_true q164
        go_wp2_with (first | ((with_reducible refine gate_callee (f := 73) rfl ?_); refine goesL_ (some 19) rfl rfl Tryd.func73 (by kernel_rfl) rfl #[.int .i64 ((rdOf ByteArray.empty t161 x13_1).size : Int), .int .i64 1, .int .i64 12] rfl au38 ?_; (with_reducible refine (impl_inside.calls ((rdOf ByteArray.empty t161 x13_1).size : Int) 1 12 false _ A9.out).mono ?_); rintro e w' ⟨rfl, ⟨nd, rfl⟩⟩; refine ⟨_, rfl, ?_⟩))
        go_ret
        exact ax2
      ·
       rw [if_neg c8] at H
       exact absurd H (by simp)
     ·
      rw [if_neg c7] at H
      exact absurd H (by simp)
    ·
     rw [if_neg c6] at H
     have c6b0 : decide (x13_1 < (t161.length : Int)) = false := decide_eq_false c6
     clear c6
     obtain rfl := Option.some.inj H
     go_wp2
     go_ret
     exact ax2


/-! ### impl_IsValidName_1: function 42 -/
def impl_IsValidName_1.f (k : Nat) (a0 : ByteArray) : Option (Bool) := (impl_isGreatWord.f k a0).bind fun t167 => (some (!t167))
theorem impl_IsValidName_1.mono : ∀ a0 k, LeO (impl_IsValidName_1.f k a0) (impl_IsValidName_1.f (k + 1) a0) := by
 intro a0 k
 unfold impl_IsValidName_1.f
 repeat' first
   | (with_reducible exact impl_isGreatWord.mono _ _)
   | (with_reducible exact LeO.refl _)
   | (with_reducible exact LeO.none _)
   | (with_reducible refine LeO.ite ?_ ?_)
   | (with_reducible refine LeO.bind ?_ (fun _ => ?_))
   | exact impl_isGreatWord.mono _ _
   | exact LeO.none _
   | refine LeO.ite ?_ ?_
   | refine LeO.bind ?_ (fun _ => ?_)
set_option maxHeartbeats 8000000 in
set_option maxRecDepth 100000 in
theorem impl_IsValidName_1.calls (k : Nat) (a0 : ByteArray) (r : Bool) (w : World) (h : impl_IsValidName_1.f k a0 = some r) :
  Calls Tryd.prog 42 #[.string a0] w fun e w' => e = .returned (.bool r) ∧ Drawn0 w w' := by
 have H : ((impl_isGreatWord.f k a0).bind fun t167 => (some (!t167))) = some r := h
 clear h
 replace H := Option.bind_eq_some_iff.mp H
 obtain ⟨t167, A20, H⟩ := H
 try dsimp only at H
 have A2 := Aside0.mk A20
 clear A20
 obtain rfl := Option.some.inj H
 go_enter Tryd.func42, Tryd.ntmps42
 go_wp2_with (first | ((with_reducible refine gate_callee (f := 43) rfl ?_); refine goesL_ (some 4) rfl rfl Tryd.func43 (by kernel_rfl) rfl #[.string a0] rfl au38 ?_; (with_reducible refine (impl_isGreatWord.calls k a0 t167 _ A2.out).mono ?_); rintro e w' ⟨rfl, ⟨nd, rfl⟩⟩; refine ⟨_, rfl, ?_⟩))
 go_ret
 exact ax0


/-! ### slices_IndexFunc_string_string_at_42: function 71 -/
def slices_IndexFunc_string_string_at_42.l0 : Nat → List ByteArray → Int → Int → Option (Int)
 | 0, _, _, _ => none
 | k + 1, x0, x7, x8 => if x8 < x7 then (if 0 ≤ x8 then (if x8 < (x0.length : Int) then ((impl_IsValidName_1.f k (rdOf ByteArray.empty x0 x8)).bind fun t168 => (if t168 = true then (some x8) else (slices_IndexFunc_string_string_at_42.l0 k x0 x7 (wrap64 (x8 + 1))))) else (none)) else (none)) else (some (-1))
def slices_IndexFunc_string_string_at_42.f (k : Nat) (l0 : List ByteArray)  : Option (Int) := slices_IndexFunc_string_string_at_42.l0 k l0 (l0.length : Int) 0
theorem slices_IndexFunc_string_string_at_42.mono_l : ∀ k, (∀ y0 y1 y2, LeO (slices_IndexFunc_string_string_at_42.l0 k y0 y1 y2) (slices_IndexFunc_string_string_at_42.l0 (k + 1) y0 y1 y2))
 | 0 => fun _ _ _ r h => by simp [slices_IndexFunc_string_string_at_42.l0] at h
 | k + 1 => by
  have ih0 := slices_IndexFunc_string_string_at_42.mono_l k
  ·
   intro y0 y1 y2
   unfold slices_IndexFunc_string_string_at_42.l0
   repeat' first
   | (with_reducible exact ih0 _ _ _)
   | (with_reducible exact impl_IsValidName_1.mono _ _)
   | (with_reducible exact LeO.refl _)
   | (with_reducible exact LeO.none _)
   | (with_reducible refine LeO.ite ?_ ?_)
   | (with_reducible refine LeO.bind ?_ (fun _ => ?_))
   | exact ih0 _ _ _
   | exact impl_IsValidName_1.mono _ _
   | exact LeO.none _
   | refine LeO.ite ?_ ?_
   | refine LeO.bind ?_ (fun _ => ?_)
theorem slices_IndexFunc_string_string_at_42.mono : ∀ a0 k, LeO (slices_IndexFunc_string_string_at_42.f k a0) (slices_IndexFunc_string_string_at_42.f (k + 1) a0) := by
 intro a0 k
 have ih0 := slices_IndexFunc_string_string_at_42.mono_l k
 unfold slices_IndexFunc_string_string_at_42.f
 repeat' first
   | (with_reducible exact ih0 _ _ _)
   | (with_reducible exact impl_IsValidName_1.mono _ _)
   | (with_reducible exact LeO.refl _)
   | (with_reducible exact LeO.none _)
   | (with_reducible refine LeO.ite ?_ ?_)
   | (with_reducible refine LeO.bind ?_ (fun _ => ?_))
   | exact ih0 _ _ _
   | exact impl_IsValidName_1.mono _ _
   | exact LeO.none _
   | refine LeO.ite ?_ ?_
   | refine LeO.bind ?_ (fun _ => ?_)
set_option maxHeartbeats 8000000 in
set_option maxRecDepth 100000 in
theorem slices_IndexFunc_string_string_at_42.calls (k : Nat) (A0 : Option Addr) (c0 : Nat) (l0 : List ByteArray)  (r : Int) (w : World) (hr0 : Kd.C Kd.string w A0 l0.length l0) (hc0 : l0.length ≤ c0) (h : slices_IndexFunc_string_string_at_42.f k l0 = some r) :
  Calls Tryd.prog 71 #[.slice A0 l0.length c0, .func (.func 42) #[] #[]] w fun e w' => e = .returned (.int .i64 r) ∧ Drawn0 w w' := by
 have HR0 := Aside0.mk hr0
 have HC0 := Aside0.mk hc0
 clear hr0 hc0
 have H : (slices_IndexFunc_string_string_at_42.l0 k l0 (l0.length : Int) 0) = some r := h
 clear h
 have H' := Aside0.mk H
 clear H
 go_enter Tryd.func71, Tryd.ntmps71
 go_wp2
 go_loopg [8] k (fun kq v8 w' => ∃ (x8_1 : Int), v8 = .int .i64 x8_1 ∧ Aside0 (slices_IndexFunc_string_string_at_42.l0 kq l0 (l0.length : Int) x8_1 = some r) ∧ Aside0 (kq ≤ k) ∧ Drawn0 w w')
 case atStart => exact ⟨(0), au89, H', ⟨Nat.le_refl _⟩, by repeat (first | exact Drawn0.refl _ | apply Drawn0.step)⟩
 case round =>
  clear H'
  try clear p2
  obtain ⟨x8_1, rfl, HA, HK1, ⟨m1, rfl⟩⟩ := hrel
  cases gk with
  | zero => exact absurd HA.out (by simp [slices_IndexFunc_string_string_at_42.l0])
  | succ k1 =>
   have H := HA.out
   clear HA
   simp only [slices_IndexFunc_string_string_at_42.l0] at H
   by_cases c3 : x8_1 < (l0.length : Int)
   ·
    rw [if_pos c3] at H
    have c3b0 : decide (x8_1 < (l0.length : Int)) = true := decide_eq_true c3
    clear c3
    by_cases c4 : 0 ≤ x8_1
    ·
     rw [if_pos c4] at H
     have c4b0 : decide (0 ≤ x8_1) = true := decide_eq_true c4
     clear c4
     by_cases c5 : x8_1 < (l0.length : Int)
     ·
      rw [if_pos c5] at H
      have c5b0 : decide (x8_1 < (l0.length : Int)) = true := decide_eq_true c5
      clear c5
      replace H := Option.bind_eq_some_iff.mp H
      obtain ⟨t168, A60, H⟩ := H
      try dsimp only at H
      have A6 := Aside0.mk A60
      clear A60
      by_cases c7 : t168 = true
      ·
       subst c7
       replace H := (if_pos rfl).symm.trans H
       obtain rfl := Option.some.inj H
       have p167 : 0 ≤ (x8_1 : Int) := of_decide_eq_true au88
       have q167 : x8_1 < (l0.length : Int) := of_decide_eq_true au88
       obtain ⟨ad167, e167, hx167_0⟩ := Kd.at_string HR0.out x8_1 p167 q167
       cases e167
       replace p167 := eq_true p167
       replace q167 := eq_true q167
       go_wp2_with (first | ((with_reducible refine gate_tmp (t := 11) rfl ?_); refine goesLt_ (t := 11) (show _ = Value.func (.func 42) #[] #[] from rfl) (some 16) rfl rfl Tryd.func42 (by kernel_rfl) rfl #[.string (rdOf ByteArray.empty l0 x8_1)] rfl au38 ?_; (with_reducible refine (impl_IsValidName_1.calls k1 (rdOf ByteArray.empty l0 x8_1) true _ A6.out).mono ?_); rintro e w' ⟨rfl, ⟨nd, rfl⟩⟩; refine ⟨_, rfl, ?_⟩))
       go_ret
       exact ax0
      ·
       replace c7 := Bool.eq_false_iff.mpr c7
       subst c7
       replace H := (if_neg (show ¬ (false = true) by decide)).symm.trans H
       have H' := Aside0.mk H
       clear H
       have p167 : 0 ≤ (x8_1 : Int) := of_decide_eq_true au88
       have q167 : x8_1 < (l0.length : Int) := of_decide_eq_true au88
       obtain ⟨ad167, e167, hx167_0⟩ := Kd.at_string HR0.out x8_1 p167 q167
       cases e167
       replace p167 := eq_true p167
       replace q167 := eq_true q167
       go_wp2_with (first | ((with_reducible refine gate_tmp (t := 11) rfl ?_); refine goesLt_ (t := 11) (show _ = Value.func (.func 42) #[] #[] from rfl) (some 16) rfl rfl Tryd.func42 (by kernel_rfl) rfl #[.string (rdOf ByteArray.empty l0 x8_1)] rfl au38 ?_; (with_reducible refine (impl_IsValidName_1.calls k1 (rdOf ByteArray.empty l0 x8_1) false _ A6.out).mono ?_); rintro e w' ⟨rfl, ⟨nd, rfl⟩⟩; refine ⟨_, rfl, ?_⟩))
       go_roundg k1
       case measure => have := HK1.out; omega
       case rel => exact ⟨(wrap64 (x8_1 + 1)), au89, H', ⟨by have := HK1.out; omega⟩, by repeat (first | exact Drawn0.refl _ | apply Drawn0.step)⟩
     ·
      rw [if_neg c5] at H
      exact absurd H (by simp)
    ·
     rw [if_neg c4] at H
     exact absurd H (by simp)
   ·
    rw [if_neg c3] at H
    have c3b0 : decide (x8_1 < (l0.length : Int)) = false := decide_eq_false c3
    clear c3
    obtain rfl := Option.some.inj H
    go_wp2
    go_ret
    exact ax0


/-! ### slices_ContainsFunc_string_string_at_42: function 41 -/
def slices_ContainsFunc_string_string_at_42.f (k : Nat) (l0 : List ByteArray)  : Option (Bool) := (slices_IndexFunc_string_string_at_42.f k l0).bind fun t169 => (some (decide (t169 ≥ 0)))
theorem slices_ContainsFunc_string_string_at_42.mono : ∀ a0 k, LeO (slices_ContainsFunc_string_string_at_42.f k a0) (slices_ContainsFunc_string_string_at_42.f (k + 1) a0) := by
 intro a0 k
 unfold slices_ContainsFunc_string_string_at_42.f
 repeat' first
   | (with_reducible exact slices_IndexFunc_string_string_at_42.mono _ _)
   | (with_reducible exact LeO.refl _)
   | (with_reducible exact LeO.none _)
   | (with_reducible refine LeO.ite ?_ ?_)
   | (with_reducible refine LeO.bind ?_ (fun _ => ?_))
   | exact slices_IndexFunc_string_string_at_42.mono _ _
   | exact LeO.none _
   | refine LeO.ite ?_ ?_
   | refine LeO.bind ?_ (fun _ => ?_)
set_option maxHeartbeats 8000000 in
set_option maxRecDepth 100000 in
theorem slices_ContainsFunc_string_string_at_42.calls (k : Nat) (A0 : Option Addr) (c0 : Nat) (l0 : List ByteArray)  (r : Bool) (w : World) (hr0 : Kd.C Kd.string w A0 l0.length l0) (hc0 : l0.length ≤ c0) (h : slices_ContainsFunc_string_string_at_42.f k l0 = some r) :
  Calls Tryd.prog 41 #[.slice A0 l0.length c0, .func (.func 42) #[] #[]] w fun e w' => e = .returned (.bool r) ∧ Drawn0 w w' := by
 have HR0 := Aside0.mk hr0
 have HC0 := Aside0.mk hc0
 clear hr0 hc0
 have H : ((slices_IndexFunc_string_string_at_42.f k l0).bind fun t169 => (some (decide (t169 ≥ 0)))) = some r := h
 clear h
 replace H := Option.bind_eq_some_iff.mp H
 obtain ⟨t169, A30, H⟩ := H
 try dsimp only at H
 have A3 := Aside0.mk A30
 clear A30
 obtain rfl := Option.some.inj H
 go_enter Tryd.func41, Tryd.ntmps41
 go_wp2_with (first | ((with_reducible refine gate_callee (f := 71) rfl ?_); refine goesL_ (some 7) rfl rfl Tryd.func71 (by kernel_rfl) rfl #[.slice A0 l0.length c0, .func (.func 42) #[] #[]] rfl au38 ?_; (with_reducible refine (slices_IndexFunc_string_string_at_42.calls k _ _ l0  t169 _ ?side1 ?side2 A3.out).mono ?_); (case side1 => repeat (first | exact HR0.out | (with_reducible refine Kd.C_alloc ?_ _) | (with_reducible refine Kd.C_drewN ?_ _) | (with_reducible refine Kd.C_drew ?_))); (case side2 => exact HC0.out); rintro e w' ⟨rfl, ⟨nd, rfl⟩⟩; refine ⟨_, rfl, ?_⟩))
 go_ret
 exact ax0


/-! ### impl_IsValidName: function 15 -/
def impl_IsValidName.j0 : Nat → Bool → List ByteArray → ByteArray → ByteArray → ByteArray → Option (Bool)
 | 0, _, _, _, _, _ => none
 | k + 1, x11, x171000, x171001, x171002, x171003 => if x11 = true then (some false) else ((impl_isParticle.f k x171001).bind fun t172 => (if t172 = true then ((impl_isGreatWord.f k x171002).bind fun t173 => (if t173 = true then (if x171003.toList = ([] : List UInt8) then (some true) else ((impl_isNameWord.f k x171003).bind fun t174 => (some t174))) else (some false))) else (some false)))
def impl_IsValidName.f (k : Nat) (l0_0 : List ByteArray) (a0_1 : ByteArray) (a0_2 : ByteArray) (a0_3 : ByteArray) : Option (Bool) := if (l0_0.length : Int) > 3 then (impl_IsValidName.j0 k true l0_0 a0_1 a0_2 a0_3) else ((slices_ContainsFunc_string_string_at_42.f k l0_0).bind fun t171 => (impl_IsValidName.j0 k t171 l0_0 a0_1 a0_2 a0_3))
theorem impl_IsValidName.mono_l : ∀ k, (∀ y0 y1 y2 y3 y4, LeO (impl_IsValidName.j0 k y0 y1 y2 y3 y4) (impl_IsValidName.j0 (k + 1) y0 y1 y2 y3 y4))
 | 0 => fun _ _ _ _ _ r h => by simp [impl_IsValidName.j0] at h
 | k + 1 => by
  have ih0 := impl_IsValidName.mono_l k
  ·
   intro y0 y1 y2 y3 y4
   unfold impl_IsValidName.j0
   repeat' first
   | (with_reducible exact ih0 _ _ _ _ _)
   | (with_reducible exact impl_isGreatWord.mono _ _)
   | (with_reducible exact impl_isNameWord.mono _ _)
   | (with_reducible exact impl_isParticle.mono _ _)
   | (with_reducible exact slices_ContainsFunc_string_string_at_42.mono _ _)
   | (with_reducible exact LeO.refl _)
   | (with_reducible exact LeO.none _)
   | (with_reducible refine LeO.ite ?_ ?_)
   | (with_reducible refine LeO.bind ?_ (fun _ => ?_))
   | exact ih0 _ _ _ _ _
   | exact impl_isGreatWord.mono _ _
   | exact impl_isNameWord.mono _ _
   | exact impl_isParticle.mono _ _
   | exact slices_ContainsFunc_string_string_at_42.mono _ _
   | exact LeO.none _
   | refine LeO.ite ?_ ?_
   | refine LeO.bind ?_ (fun _ => ?_)
theorem impl_IsValidName.mono : ∀ a0 a1 a2 a3 k, LeO (impl_IsValidName.f k a0 a1 a2 a3) (impl_IsValidName.f (k + 1) a0 a1 a2 a3) := by
 intro a0 a1 a2 a3 k
 have ih0 := impl_IsValidName.mono_l k
 unfold impl_IsValidName.f
 repeat' first
   | (with_reducible exact ih0 _ _ _ _ _)
   | (with_reducible exact impl_isGreatWord.mono _ _)
   | (with_reducible exact impl_isNameWord.mono _ _)
   | (with_reducible exact impl_isParticle.mono _ _)
   | (with_reducible exact slices_ContainsFunc_string_string_at_42.mono _ _)
   | (with_reducible exact LeO.refl _)
   | (with_reducible exact LeO.none _)
   | (with_reducible refine LeO.ite ?_ ?_)
   | (with_reducible refine LeO.bind ?_ (fun _ => ?_))
   | exact ih0 _ _ _ _ _
   | exact impl_isGreatWord.mono _ _
   | exact impl_isNameWord.mono _ _
   | exact impl_isParticle.mono _ _
   | exact slices_ContainsFunc_string_string_at_42.mono _ _
   | exact LeO.none _
   | refine LeO.ite ?_ ?_
   | refine LeO.bind ?_ (fun _ => ?_)
set_option maxRecDepth 100000 in
theorem impl_IsValidName.L0 {P : Prop} (h : P := by
  have hcz18_0 : wc.cell? ⟨gb170, 0, none⟩ = some (.slice A0_0 l0_0.length c0_0) := (blk_cell BK170.out 0).trans rfl
  have hcz18_1 : wc.cell? ⟨gb170, 1, none⟩ = some (.string a0_1) := (blk_cell BK170.out 1).trans rfl
  have hcz18_2 : wc.cell? ⟨gb170, 2, none⟩ = some (.string a0_2) := (blk_cell BK170.out 2).trans rfl
  have hcz18_3 : wc.cell? ⟨gb170, 3, none⟩ = some (.string a0_3) := (blk_cell BK170.out 3).trans rfl
  have hfz18_0 := blk_frozen BK170.out 0
  have hfz18_1 := blk_frozen BK170.out 1
  have hfz18_2 := blk_frozen BK170.out 2
  have hfz18_3 := blk_frozen BK170.out 3
  go_wp2_with (first | ((with_reducible refine gate_callee (f := 44) rfl ?_); refine goesL_ (some 14) rfl rfl Tryd.func44 (by kernel_rfl) rfl #[.string a0_1] rfl au38 ?_; (with_reducible refine (impl_isParticle.calls (hG := au9) kj1 a0_1 _ _ A9.out).mono ?_); rintro e w19 ⟨rfl, hb⟩; refine ⟨_, rfl, ?_⟩; have n0_ := Aside0.mk (blk_below (g := gb170) (o := .cells #[.slice A0_0 l0_0.length c0_0, .string a0_1, .string a0_2, .string a0_3] 27 (0, 0)) au64 hb); have n1_ := Aside0.mk (below_step au28 hb); clear BK170; clear HB; have BK170 := n0_; have HB := n1_; clear n0_ n1_; (try clear hb); (try clear hb2); (try clear hk); (try clear hi); have hcz20_0 : w19.cell? ⟨gb170, 0, none⟩ = some (.slice A0_0 l0_0.length c0_0) := (blk_cell BK170.out 0).trans rfl; have hcz20_1 : w19.cell? ⟨gb170, 1, none⟩ = some (.string a0_1) := (blk_cell BK170.out 1).trans rfl; have hcz20_2 : w19.cell? ⟨gb170, 2, none⟩ = some (.string a0_2) := (blk_cell BK170.out 2).trans rfl; have hcz20_3 : w19.cell? ⟨gb170, 3, none⟩ = some (.string a0_3) := (blk_cell BK170.out 3).trans rfl; have hfz20_0 := blk_frozen BK170.out 0; have hfz20_1 := blk_frozen BK170.out 1; have hfz20_2 := blk_frozen BK170.out 2; have hfz20_3 := blk_frozen BK170.out 3) | (go_at_call 43; (with_reducible refine (impl_isGreatWord.calls kj1 a0_2 _ _ A11.out).mono ?_); rintro e w' ⟨rfl, ⟨nd, rfl⟩⟩) | (go_at_call 45; (with_reducible refine (impl_isNameWord.calls kj1 a0_3 t174 _ A17.out).mono ?_); rintro e w' ⟨rfl, ⟨nd, rfl⟩⟩))
  go_ret
  exact ax5) : P := h
set_option maxHeartbeats 8000000 in
set_option maxRecDepth 100000 in
theorem impl_IsValidName.calls (k : Nat) (A0_0 : Option Addr) (c0_0 : Nat) (l0_0 : List ByteArray) (a0_1 : ByteArray) (a0_2 : ByteArray) (a0_3 : ByteArray) (r : Bool) (w : World) {gF1 gF2 gF3 : Bool} (hG : GL gF1 gF2 gF3 w) (hr0_0 : Kd.C Kd.string w A0_0 l0_0.length l0_0) (hc0_0 : l0_0.length ≤ c0_0) (h : impl_IsValidName.f k l0_0 a0_1 a0_2 a0_3 = some r) :
  Calls Tryd.prog 15 #[.agg #[.slice A0_0 l0_0.length c0_0, .string a0_1, .string a0_2, .string a0_3]] w fun e w' => e = .returned (.bool r) ∧ Below w.heap.size w w' := by
 have HG := Aside0.mk hG
 clear hG
 have hu27 := Tryd.underlying27
 have HR0_0 := Aside0.mk hr0_0
 have HC0_0 := Aside0.mk hc0_0
 clear hr0_0 hc0_0
 have HB := Aside0.mk (Below.refl w.heap.size w)
 have H : (if (l0_0.length : Int) > 3 then (impl_IsValidName.j0 k true l0_0 a0_1 a0_2 a0_3) else ((slices_ContainsFunc_string_string_at_42.f k l0_0).bind fun t171 => (impl_IsValidName.j0 k t171 l0_0 a0_1 a0_2 a0_3))) = some r := h
 clear h
 have HC2 := Aside0.mk H
 clear H
 go_enter Tryd.func15, Tryd.ntmps15
 go_upto_region 1 with (first | ((with_reducible refine gate_dst (N := 1) rfl ?_); refine box_event ?hg (N := 1) ?hd (cs := #[.slice A0_0 l0_0.length c0_0, .string a0_1, .string a0_2, .string a0_3]) (t := 27) ?hr ?_; (case hd => rfl); (case hg => rfl); (case hr => first | (go_simp; done) | (go_simp; rfl)); intro gb170 hg w3 hbox hb; have n0_ := Aside0.mk (below_step au41 hb); have n1_ := Aside0.mk (hbox); have n2_ := Aside0.mk ((by rw [hg]; exact (below_size au41) : w.heap.size ≤ gb170)); have n3_ := Aside0.mk ((by rw [hg]; exact (below_size au41) : w.heap.size ≤ gb170)); clear HB; have HB := n0_; have BK170 := n1_; have GW170 := n2_; have GE170 := n3_; clear n0_ n1_ n2_ n3_; clear hb hbox hg))
 (try simp only [Act.put, List.setIfInBounds_toArray, List.set_cons_zero, List.set_cons_succ])
 go_cut [11] (fun v11 wc => ∃ (kq : Nat) (x11_1 : Bool), v11 = .bool x11_1 ∧ Aside0 (impl_IsValidName.j0 kq x11_1 l0_0 a0_1 a0_2 a0_3 = some r) ∧ Aside0 (kq ≤ k) ∧ Aside0 (wc.heap[gb170]? = some (.cells #[(.slice A0_0 l0_0.length c0_0), .string a0_1, .string a0_2, .string a0_3] 27 (0, 0))) ∧ Aside0 (Below w.heap.size w wc))
 case first =>
  have H := HC2.out
  clear HC2
  by_cases c4 : (l0_0.length : Int) > 3
  ·
   rw [if_pos c4] at H
   have c4b0 : decide (3 < (l0_0.length : Int)) = true := decide_eq_true c4
   have c4b1 : decide (3 < l0_0.length) = true := decide_eq_true (by omega)
   clear c4
   (first | rw [c4b0] | (simp only [i64_w, i32_w]; rw [c4b0]) | skip)
   have H' := Aside0.mk H
   clear H
   have hcz5_0 : w3.cell? ⟨gb170, 0, none⟩ = some (.slice A0_0 l0_0.length c0_0) := (blk_cell BK170.out 0).trans rfl
   have hcz5_1 : w3.cell? ⟨gb170, 1, none⟩ = some (.string a0_1) := (blk_cell BK170.out 1).trans rfl
   have hcz5_2 : w3.cell? ⟨gb170, 2, none⟩ = some (.string a0_2) := (blk_cell BK170.out 2).trans rfl
   have hcz5_3 : w3.cell? ⟨gb170, 3, none⟩ = some (.string a0_3) := (blk_cell BK170.out 3).trans rfl
   have hfz5_0 := blk_frozen BK170.out 0
   have hfz5_1 := blk_frozen BK170.out 1
   have hfz5_2 := blk_frozen BK170.out 2
   have hfz5_3 := blk_frozen BK170.out 3
   go_wp2
   go_meet
   case rel => exact ⟨_, (true), au89, H', ⟨by first | omega | exact Nat.le_refl _⟩, ⟨by (with_reducible repeat (first | refine blk_drewN ?_ _ | refine blk_drew ?_ | refine blk_alloc ?_ _)); exact BK170.out⟩, ⟨by repeat (first | (with_reducible first | exact HB.out | apply below_alloc | apply pw_below_drewN | apply below_drew1 | refine below_set ?_ GE170.out) | exact HB.out)⟩⟩
  ·
   rw [if_neg c4] at H
   have c4b0 : decide (3 < (l0_0.length : Int)) = false := decide_eq_false c4
   have c4b1 : decide (3 < l0_0.length) = false := decide_eq_false (by omega)
   clear c4
   (first | rw [c4b0] | (simp only [i64_w, i32_w]; rw [c4b0]) | skip)
   replace H := Option.bind_eq_some_iff.mp H
   obtain ⟨t171, A60, H⟩ := H
   try dsimp only at H
   have A6 := Aside0.mk A60
   clear A60
   have H' := Aside0.mk H
   clear H
   have hcz7_0 : w3.cell? ⟨gb170, 0, none⟩ = some (.slice A0_0 l0_0.length c0_0) := (blk_cell BK170.out 0).trans rfl
   have hcz7_1 : w3.cell? ⟨gb170, 1, none⟩ = some (.string a0_1) := (blk_cell BK170.out 1).trans rfl
   have hcz7_2 : w3.cell? ⟨gb170, 2, none⟩ = some (.string a0_2) := (blk_cell BK170.out 2).trans rfl
   have hcz7_3 : w3.cell? ⟨gb170, 3, none⟩ = some (.string a0_3) := (blk_cell BK170.out 3).trans rfl
   have hfz7_0 := blk_frozen BK170.out 0
   have hfz7_1 := blk_frozen BK170.out 1
   have hfz7_2 := blk_frozen BK170.out 2
   have hfz7_3 := blk_frozen BK170.out 3
   go_wp2_with (first | (go_at_call 41; (with_reducible refine (slices_ContainsFunc_string_string_at_42.calls k _ _ l0_0  t171 _ ?side1 ?side2 A6.out).mono ?_); (case side1 => repeat (first | exact (Kd.C_below HR0_0.out HB.out) | (with_reducible refine Kd.C_alloc ?_ _) | (with_reducible refine Kd.C_drewN ?_ _) | (with_reducible refine Kd.C_drew ?_))); (case side2 => exact HC0_0.out); rintro e w' ⟨rfl, ⟨nd, rfl⟩⟩))
   go_meet
   case rel => exact ⟨_, (t171), au89, H', ⟨by first | omega | exact Nat.le_refl _⟩, ⟨by (with_reducible repeat (first | refine blk_drewN ?_ _ | refine blk_drew ?_ | refine blk_alloc ?_ _)); exact BK170.out⟩, ⟨by repeat (first | (with_reducible first | exact HB.out | apply below_alloc | apply pw_below_drewN | apply below_drew1 | refine below_set ?_ GE170.out) | exact HB.out)⟩⟩
 case rest =>
  clear HC2
  try clear c1
  try clear p2
  try clear c4
  try clear c4b0
  try clear c4b1
  try clear hcz5_0
  try clear hcz5_1
  try clear hcz5_2
  try clear hcz5_3
  try clear hcz7_0
  try clear hcz7_1
  try clear hcz7_2
  try clear hcz7_3
  try clear hfz5_0
  try clear hfz5_1
  try clear hfz5_2
  try clear hfz5_3
  try clear hfz7_0
  try clear hfz7_1
  try clear hfz7_2
  try clear hfz7_3
  obtain ⟨kq, x11_1, rfl, HA, HJ1, BK170, HB⟩ := hcut
  cases kq with
  | zero => exact absurd HA.out (by simp [impl_IsValidName.j0])
  | succ kj1 =>
   have H := HA.out
   clear HA
   simp only [impl_IsValidName.j0] at H
   by_cases c8 : x11_1 = true
   ·
    subst c8
    replace H := (if_pos rfl).symm.trans H
    obtain rfl := Option.some.inj H
    go_wp2
    go_ret
    exact ax5
   ·
    replace c8 := Bool.eq_false_iff.mpr c8
    subst c8
    replace H := (if_neg (show ¬ (false = true) by decide)).symm.trans H
    replace H := Option.bind_eq_some_iff.mp H
    obtain ⟨t172, A90, H⟩ := H
    try dsimp only at H
    have A9 := Aside0.mk A90
    clear A90
    by_cases c10 : t172 = true
    ·
     subst c10
     replace H := (if_pos rfl).symm.trans H
     replace H := Option.bind_eq_some_iff.mp H
     obtain ⟨t173, A110, H⟩ := H
     try dsimp only at H
     have A11 := Aside0.mk A110
     clear A110
     by_cases c12 : t173 = true
     ·
      subst c12
      replace H := (if_pos rfl).symm.trans H
      by_cases c13 : a0_3.toList = ([] : List UInt8)
      ·
       rw [if_pos c13] at H
       have c13b0 : (a0_3.toList == ([] : List UInt8)) = true := beq_iff_eq.mpr c13
       have c13b1 : (a0_3.toList != ([] : List UInt8)) = false := bne_eq_false_iff_eq.mpr c13
       clear c13
       obtain rfl := Option.some.inj H
       exact impl_IsValidName.L0
      ·
       rw [if_neg c13] at H
       have c13b0 : (a0_3.toList == ([] : List UInt8)) = false := beq_eq_false_iff_ne.mpr c13
       have c13b1 : (a0_3.toList != ([] : List UInt8)) = true := bne_iff_ne.mpr c13
       replace H := Option.bind_eq_some_iff.mp H
       obtain ⟨t174, A170, H⟩ := H
       try dsimp only at H
       have A17 := Aside0.mk A170
       clear A170
       obtain rfl := Option.some.inj H
       exact impl_IsValidName.L0
     ·
      replace c12 := Bool.eq_false_iff.mpr c12
      subst c12
      replace H := (if_neg (show ¬ (false = true) by decide)).symm.trans H
      obtain rfl := Option.some.inj H
      exact impl_IsValidName.L0
    ·
     replace c10 := Bool.eq_false_iff.mpr c10
     subst c10
     replace H := (if_neg (show ¬ (false = true) by decide)).symm.trans H
     obtain rfl := Option.some.inj H
     have hcz24_0 : wc.cell? ⟨gb170, 0, none⟩ = some (.slice A0_0 l0_0.length c0_0) := (blk_cell BK170.out 0).trans rfl
     have hcz24_1 : wc.cell? ⟨gb170, 1, none⟩ = some (.string a0_1) := (blk_cell BK170.out 1).trans rfl
     have hcz24_2 : wc.cell? ⟨gb170, 2, none⟩ = some (.string a0_2) := (blk_cell BK170.out 2).trans rfl
     have hcz24_3 : wc.cell? ⟨gb170, 3, none⟩ = some (.string a0_3) := (blk_cell BK170.out 3).trans rfl
     have hfz24_0 := blk_frozen BK170.out 0
     have hfz24_1 := blk_frozen BK170.out 1
     have hfz24_2 := blk_frozen BK170.out 2
     have hfz24_3 := blk_frozen BK170.out 3
     go_wp2_with (first | ((with_reducible refine gate_callee (f := 44) rfl ?_); refine goesL_ (some 14) rfl rfl Tryd.func44 (by kernel_rfl) rfl #[.string a0_1] rfl au38 ?_; (with_reducible refine (impl_isParticle.calls (hG := au9) kj1 a0_1 _ _ A9.out).mono ?_); rintro e w25 ⟨rfl, hb⟩; refine ⟨_, rfl, ?_⟩; have n0_ := Aside0.mk (blk_below (g := gb170) (o := .cells #[.slice A0_0 l0_0.length c0_0, .string a0_1, .string a0_2, .string a0_3] 27 (0, 0)) au64 hb); have n1_ := Aside0.mk (below_step au28 hb); clear BK170; clear HB; have BK170 := n0_; have HB := n1_; clear n0_ n1_; (try clear hb); (try clear hb2); (try clear hk); (try clear hi)))
     go_ret
     exact ax5


/-! ### strings_Join: function 61 -/
def strings_Join.f (l0 : List ByteArray) (a1 : ByteArray) : Option ByteArray :=
 if l0.length ≤ 140737488355328 ∧ (Lib.join (l0.map (·.data.toList)) a1.data.toList).length ≤ 140737488355328 then some ⟨(Lib.join (l0.map (·.data.toList)) a1.data.toList).toArray⟩ else none
theorem strings_Join.calls (A0 : Option Addr) (c0 : Nat) (l0 : List ByteArray) (a1 : ByteArray) (r : ByteArray) (w : World) (hr0 : Kd.C Kd.string w A0 l0.length l0) (hc0 : l0.length ≤ c0) (h : strings_Join.f l0 a1 = some r) :
  Calls Tryd.prog 61 #[.slice A0 l0.length c0, .string a1] w fun e w' => e = .returned (.string r) ∧ Below w.heap.size w w' := by
 unfold strings_Join.f at h
 by_cases hg : l0.length ≤ 140737488355328 ∧ (Lib.join (l0.map (·.data.toList)) a1.data.toList).length ≤ 140737488355328
 ·
  rw [if_pos hg] at h
  obtain rfl := Option.some.inj h
  cases l0 with
  | nil =>
   refine (Tryd.strings_Join_none A0 c0 a1 w).mono ?_
   rintro e w' ⟨rfl, rfl⟩
   exact ⟨rfl, Below.refl _ _⟩
  | cons x xs =>
   obtain ⟨b, o, rfl, hb, hcell⟩ := Go.Proofs.YtcckamdpncbkoaaDoor.Ext.strs_read hr0 (by simp)
   refine (Tryd.strings_Join b o c0 (x :: xs) a1 w hcell hb hg.1 hc0 hg.2).mono ?_
   rintro e w' ⟨rfl, hb⟩
   exact ⟨rfl, hb⟩
 ·
  rw [if_neg hg] at h; cases h


/-! ### impl_spaced: function 82 -/
def impl_spaced.f (l0 : List ByteArray) : Option ByteArray := if 1 ≤ l0.length ∧ l0.length ≤ 1000 then strings_Join.f (l0.filter fun x => !decide (x.size = 0)) (⟨#[32]⟩ : ByteArray) else none
theorem impl_spaced.pred (x : ByteArray) (W : World) : FnGives Tryd.prog 101 #[] #[Value.string x] (.bool (decide (x.size = 0))) W := by
 show Calls Tryd.prog 101 #[.string x] W _
 have e : (x.toList == ([] : List UInt8)) = decide (x.size = 0) := by
  rw [Lib.toList_data, Lib.size_eq]
  cases x.data.toList <;> simp
 go_enter Tryd.func101, Tryd.ntmps101
 go_wp2
 all_goals (go_ret; exact ⟨by first | (rw [← e]; rfl) | simp_all, 0, rfl⟩)
set_option maxHeartbeats 8000000 in
set_option maxRecDepth 100000 in
theorem impl_spaced.calls (P0_ : Nat → Prop) (u0 : Value) (l0 : List ByteArray) (r : ByteArray) (w0 w : World) (hB : Below w0.heap.size w0 w) (ho0 : Kd.R Kd.string 9 w w0.heap.size P0_ u0 l0) (h : impl_spaced.f l0 = some r) :
  Calls Tryd.prog 82 #[u0] w fun e w' => e = .returned (.string r) ∧ Below w0.heap.size w0 w' ∧ Kept w w' (fun k_ => P0_ k_) := by
 unfold impl_spaced.f at h
 by_cases hg : 1 ≤ l0.length ∧ l0.length ≤ 1000
 ·
  rw [if_pos hg] at h
  have hok := ho0.1
  obtain ⟨_, hcase⟩ := Kd.own_of_R ho0
  rcases hcase with ⟨_, hz⟩ | ⟨g, cap, cur, rfl, hbase, hcur, hcap, _, hsz, htake⟩
  ·
   omega
  have hPg : P0_ g := hok g rfl
  have hlt : g < w.heap.size := blk_lt hcur
  have hget : ∀ (j : Nat) x, l0[j]? = some x → w.cell? ⟨g, j, none⟩ = some (.string x) := by
   intro j x hj
   obtain ⟨hjl, _⟩ := List.getElem?_eq_some_iff.1 hj
   have h1 := congrArg (fun z => z[j]?) htake
   simp only [List.getElem?_take, encs, List.getElem?_map, hj, Option.map_some] at h1
   rw [if_pos (by omega)] at h1
   rw [blk_cell hcur]
   simpa using h1
  have hH : Sort.Holds Value.string w g 0 l0.toArray := fun j hj => by
   have hj' : j < l0.length := by simpa using hj
   refine ⟨?_, by rw [Nat.zero_add]; exact blk_frozen hcur j⟩
   rw [Nat.zero_add, hget j l0[j] (List.getElem?_eq_getElem hj'), getElem!_pos l0.toArray j hj]
   simp
  have hdel := Tryd.slices_DeleteFunc Value.string (fun _ => rfl) (fun x => decide (x.size = 0)) 101 #[] (enters_of Tryd.func101 (by kernel_rfl) rfl) ByteArray.empty Tryd.zeroValue9 g 0 cap l0.toArray w
   (fun W x _ => impl_spaced.pred x W) (fun n os dk x _ => impl_spaced.pred x _) hH (by simp; omega) (by simpa using hcap)
  have e0 : l0.toArray.toList = l0 := by simp
  have e1 : l0.toArray.size = l0.length := by simp
  rw [e0, e1] at hdel
  obtain ⟨kp, hkp⟩ : ∃ kp, kp = l0.filter fun x => !decide (x.size = 0) := ⟨_, rfl⟩
  rw [← hkp] at hdel h
  have hkl : kp.length ≤ l0.length := by rw [hkp]; exact List.length_filter_le _ _
  obtain ⟨w2f, hw2⟩ : ∃ w2f : Nat → World, w2f = fun q => Sort.putRow Value.string (Sort.ahead w q) g 0 (kp ++ List.replicate (l0.length - kp.length) ByteArray.empty).toArray := ⟨_, rfl⟩
  have hread : ∀ q (j : Nat) x, kp[j]? = some x → (w2f q).cell? ⟨g, 0 + j, none⟩ = some (.string x) := by
   intro q j x hj
   obtain ⟨hjl, hx⟩ := List.getElem?_eq_some_iff.1 hj
   have hs : (kp ++ List.replicate (l0.length - kp.length) ByteArray.empty).toArray.size = l0.toArray.size := by simp; omega
   have := (Sort.holds_putRow Value.string (Sort.ahead w q) g 0 l0.toArray _ hH hs) j (by rw [hs]; simp; omega)
   rw [hw2, this.1, getElem!_pos _ j (by rw [hs]; simp; omega)]
   simp [List.getElem_append_left hjl, hx]
  have hsize : ∀ q, (w2f q).heap.size = w.heap.size := fun q => by rw [hw2]; simp [Sort.ahead]
  have hold : ∀ q k, k ≠ g → (w2f q).heap[k]? = w.heap[k]? := fun q k hk => by
   rw [hw2]; simp only [Sort.putRow, Sort.mapBlock, Sort.ahead, Array.getElem?_modify]; rw [if_neg (Ne.symm hk)]
  have hb2 : ∀ q, Below w0.heap.size w0 (w2f q) := fun q => hB.trans ⟨by rw [hw2]; rfl, by rw [hw2]; rfl, by rw [hw2]; rfl, Nat.le_of_eq (hsize q).symm, fun k hk => hold q k (by omega)⟩
  have hjoin : ∀ q, Calls Tryd.prog 61 #[.slice (some ⟨g, 0, none⟩) kp.length cap, .string (⟨#[32]⟩ : ByteArray)] (w2f q) fun e w' => e = .returned (.string r) ∧ Below (w2f q).heap.size (w2f q) w' := by
   intro q
   unfold strings_Join.f at h
   by_cases hj : kp.length ≤ 140737488355328 ∧ (Lib.join (kp.map (·.data.toList)) (⟨#[32]⟩ : ByteArray).data.toList).length ≤ 140737488355328
   ·
    rw [if_pos hj] at h
    obtain rfl := Option.some.inj h
    by_cases hn : kp = []
    ·
     subst hn
     refine (Tryd.strings_Join_none (some ⟨g, 0, none⟩) cap _ (w2f q)).mono ?_
     rintro e w' ⟨rfl, rfl⟩
     exact ⟨rfl, Below.refl _ _⟩
    ·
     refine (Tryd.strings_Join g 0 cap kp _ (w2f q) (hread q) (by rw [hsize]; exact hlt) hj.1 (by omega) hj.2).mono ?_
     rintro e w' ⟨rfl, hb⟩
     exact ⟨rfl, hb⟩
   ·
    rw [if_neg hj] at h; cases h
  have hdel2 : Calls Tryd.prog 100 #[.slice (some ⟨g, 0, none⟩) l0.length cap, .func (.func 101) #[] #[]] w fun e w' => e = .returned (.slice (some ⟨g, 0, none⟩) kp.length cap) ∧ ∃ q, w' = w2f q := by
   refine hdel.mono ?_
   rintro e w' ⟨he, q, hw⟩
   exact ⟨he, q, by rw [hw2]; exact hw⟩
  have fin : ∀ q w', Below (w2f q).heap.size (w2f q) w' → Below w0.heap.size w0 w' ∧ Kept w w' (fun k_ => P0_ k_) := by
   intro q w' hb
   refine ⟨below_step (hb2 q) hb, by have := hb.size; rw [hsize] at this; exact this, fun i hi hP => ?_⟩
   have hne : i ≠ g := fun e => hP (by rw [e]; exact hPg)
   rw [hb.block i (by rw [hsize]; exact hi), hold q i hne]
  clear hread hH hget htake hdel hold hb2 hsize hw2 hok
  go_enter Tryd.func82, Tryd.ntmps82
  clear hkp
  go_wp2_with (first | (go_at_call 61; refine (hjoin _).mono ?_; rintro e w' ⟨rfl, hb⟩) | (go_at_call 100; refine hdel2.mono ?_; rintro e w' ⟨rfl, q, rfl⟩))
  go_ret
  exact ⟨rfl, fin _ _ hb⟩
 ·
  rw [if_neg hg] at h; cases h


/-! ### impl_inverseForm: function 58 -/
def impl_inverseForm.j0 : Nat → ByteArray → Bool → List ByteArray → ByteArray → ByteArray → ByteArray → Option (ByteArray)
 | 0, _, _, _, _, _, _ => none
 | k + 1, x3, x18, x454000, x454001, x454002, x454003 => if x18 = true then ((strings_Join.f x454000 (⟨#[32]⟩ : ByteArray)).bind fun t458 => (if 2 + t458.size ≤ 9223372036854775807 then (if x3.size + ((⟨#[44, 32]⟩ : ByteArray) ++ t458).size ≤ 9223372036854775807 then (if x454003.toList = ([] : List UInt8) then (some (x3 ++ ((⟨#[44, 32]⟩ : ByteArray) ++ t458))) else (if 2 + x454003.size ≤ 9223372036854775807 then (if (x3 ++ ((⟨#[44, 32]⟩ : ByteArray) ++ t458)).size + ((⟨#[44, 32]⟩ : ByteArray) ++ x454003).size ≤ 9223372036854775807 then (some ((x3 ++ ((⟨#[44, 32]⟩ : ByteArray) ++ t458)) ++ ((⟨#[44, 32]⟩ : ByteArray) ++ x454003))) else (none)) else (none))) else (none)) else (none))) else (if x454003.toList = ([] : List UInt8) then (some x3) else (if 2 + x454003.size ≤ 9223372036854775807 then (if x3.size + ((⟨#[44, 32]⟩ : ByteArray) ++ x454003).size ≤ 9223372036854775807 then (some (x3 ++ ((⟨#[44, 32]⟩ : ByteArray) ++ x454003))) else (none)) else (none)))
def impl_inverseForm.f (k : Nat) (l0_0 : List ByteArray) (a0_1 : ByteArray) (a0_2 : ByteArray) (a0_3 : ByteArray) : Option (ByteArray) := (impl_spaced.f (([a0_1, a0_2] : List ByteArray))).bind fun t457 => (if (l0_0.length : Int) > 0 then (impl_inverseForm.j0 k t457 true l0_0 a0_1 a0_2 a0_3) else (impl_inverseForm.j0 k t457 (a0_3.toList != ([] : List UInt8)) l0_0 a0_1 a0_2 a0_3))
theorem impl_inverseForm.mono_l : ∀ k, (∀ y0 y1 y2 y3 y4 y5, LeO (impl_inverseForm.j0 k y0 y1 y2 y3 y4 y5) (impl_inverseForm.j0 (k + 1) y0 y1 y2 y3 y4 y5))
 | 0 => fun _ _ _ _ _ _ r h => by simp [impl_inverseForm.j0] at h
 | k + 1 => by
  have ih0 := impl_inverseForm.mono_l k
  ·
   intro y0 y1 y2 y3 y4 y5
   unfold impl_inverseForm.j0
   repeat' first
   | (with_reducible exact ih0 _ _ _ _ _ _)
   | (with_reducible exact LeO.refl _)
   | (with_reducible exact LeO.none _)
   | (with_reducible refine LeO.ite ?_ ?_)
   | (with_reducible refine LeO.bind ?_ (fun _ => ?_))
   | exact ih0 _ _ _ _ _ _
   | exact LeO.none _
   | refine LeO.ite ?_ ?_
   | refine LeO.bind ?_ (fun _ => ?_)
theorem impl_inverseForm.mono : ∀ a0 a1 a2 a3 k, LeO (impl_inverseForm.f k a0 a1 a2 a3) (impl_inverseForm.f (k + 1) a0 a1 a2 a3) := by
 intro a0 a1 a2 a3 k
 have ih0 := impl_inverseForm.mono_l k
 unfold impl_inverseForm.f
 repeat' first
   | (with_reducible exact ih0 _ _ _ _ _ _)
   | (with_reducible exact LeO.refl _)
   | (with_reducible exact LeO.none _)
   | (with_reducible refine LeO.ite ?_ ?_)
   | (with_reducible refine LeO.bind ?_ (fun _ => ?_))
   | exact ih0 _ _ _ _ _ _
   | exact LeO.none _
   | refine LeO.ite ?_ ?_
   | refine LeO.bind ?_ (fun _ => ?_)
set_option maxRecDepth 100000 in
theorem impl_inverseForm.L0 {P : Prop} (h : P := by
  have hcz18_0 : wc.cell? ⟨gb453, 0, none⟩ = some (.slice A0_0 l0_0.length c0_0) := (blk_cell BK453.out 0).trans rfl
  have hcz18_1 : wc.cell? ⟨gb453, 1, none⟩ = some (.string a0_1) := (blk_cell BK453.out 1).trans rfl
  have hcz18_2 : wc.cell? ⟨gb453, 2, none⟩ = some (.string a0_2) := (blk_cell BK453.out 2).trans rfl
  have hcz18_3 : wc.cell? ⟨gb453, 3, none⟩ = some (.string a0_3) := (blk_cell BK453.out 3).trans rfl
  have hfz18_0 := blk_frozen BK453.out 0
  have hfz18_1 := blk_frozen BK453.out 1
  have hfz18_2 := blk_frozen BK453.out 2
  have hfz18_3 := blk_frozen BK453.out 3
  go_wp2_with (first | ((with_reducible refine gate_callee (f := 61) rfl ?_); refine goesL_ (some 22) rfl rfl Tryd.func61 (by kernel_rfl) rfl #[.slice A0_0 l0_0.length c0_0, .string (⟨#[32]⟩ : ByteArray)] rfl au38 ?_; (with_reducible refine (strings_Join.calls _ _ l0_0 (⟨#[32]⟩ : ByteArray) t458 _ ?side1 ?side2 A14.out).mono ?_); (case side1 => repeat (first | exact (Kd.C_below HR0_0.out HB.out) | (with_reducible refine Kd.C_alloc ?_ _) | (with_reducible refine Kd.C_drewN ?_ _) | (with_reducible refine Kd.C_drew ?_))); (case side2 => exact HC0_0.out); rintro e w19 ⟨rfl, hb⟩; refine ⟨_, rfl, ?_⟩; have n0_ := Aside0.mk (blk_below (g := gb453) (o := .cells #[.slice A0_0 l0_0.length c0_0, .string a0_1, .string a0_2, .string a0_3] 27 (0, 0)) au65 hb); have n1_ := Aside0.mk (below_step au29 hb); clear BK453; clear HB; have BK453 := n0_; have HB := n1_; clear n0_ n1_; (try clear hb); (try clear hb2); (try clear hk); (try clear hi); have hcz20_0 : w19.cell? ⟨gb453, 0, none⟩ = some (.slice A0_0 l0_0.length c0_0) := (blk_cell BK453.out 0).trans rfl; have hcz20_1 : w19.cell? ⟨gb453, 1, none⟩ = some (.string a0_1) := (blk_cell BK453.out 1).trans rfl; have hcz20_2 : w19.cell? ⟨gb453, 2, none⟩ = some (.string a0_2) := (blk_cell BK453.out 2).trans rfl; have hcz20_3 : w19.cell? ⟨gb453, 3, none⟩ = some (.string a0_3) := (blk_cell BK453.out 3).trans rfl; have hfz20_0 := blk_frozen BK453.out 0; have hfz20_1 := blk_frozen BK453.out 1; have hfz20_2 := blk_frozen BK453.out 2; have hfz20_3 := blk_frozen BK453.out 3))
  go_ret
  exact ax6) : P := h
set_option maxHeartbeats 8000000 in
set_option maxRecDepth 100000 in
theorem impl_inverseForm.calls (k : Nat) (A0_0 : Option Addr) (c0_0 : Nat) (l0_0 : List ByteArray) (a0_1 : ByteArray) (a0_2 : ByteArray) (a0_3 : ByteArray) (r : ByteArray) (w : World) (hr0_0 : Kd.C Kd.string w A0_0 l0_0.length l0_0) (hc0_0 : l0_0.length ≤ c0_0) (h : impl_inverseForm.f k l0_0 a0_1 a0_2 a0_3 = some r) :
  Calls Tryd.prog 58 #[.agg #[.slice A0_0 l0_0.length c0_0, .string a0_1, .string a0_2, .string a0_3]] w fun e w' => e = .returned (.string r) ∧ Below w.heap.size w w' := by
 have hu27 := Tryd.underlying27
 have HR0_0 := Aside0.mk hr0_0
 have HC0_0 := Aside0.mk hc0_0
 clear hr0_0 hc0_0
 have HB := Aside0.mk (Below.refl w.heap.size w)
 have H : ((impl_spaced.f (([a0_1, a0_2] : List ByteArray))).bind fun t457 => (if (l0_0.length : Int) > 0 then (impl_inverseForm.j0 k t457 true l0_0 a0_1 a0_2 a0_3) else (impl_inverseForm.j0 k t457 (a0_3.toList != ([] : List UInt8)) l0_0 a0_1 a0_2 a0_3))) = some r := h
 clear h
 obtain ⟨y454, hy454⟩ : ∃ y_ : List ByteArray, y_ = (([a0_1, a0_2] : List ByteArray)) := ⟨_, rfl⟩
 replace H : ((impl_spaced.f y454).bind fun t457 => (if (l0_0.length : Int) > 0 then (impl_inverseForm.j0 k t457 true l0_0 a0_1 a0_2 a0_3) else (impl_inverseForm.j0 k t457 (a0_3.toList != ([] : List UInt8)) l0_0 a0_1 a0_2 a0_3))) = some r := by first | (rw [hy454]; with_reducible exact H) | (have H2_ := (Option.bind_some _ _).symm.trans H; rw [hy454]; with_reducible exact H2_) | (have H2_ := (Option.bind_some _ _).symm.trans H; with_reducible exact H2_) | with_reducible exact H | (rw [hy454]; exact H) | exact H
 have Ny454 := Aside0.mk hy454
 clear hy454
 replace H := Option.bind_eq_some_iff.mp H
 obtain ⟨t457, A20, H⟩ := H
 try dsimp only at H
 have A2 := Aside0.mk A20
 clear A20
 have HC3 := Aside0.mk H
 clear H
 go_enter Tryd.func58, Tryd.ntmps58
 go_upto_region 2 with (first | ((with_reducible refine gate_dst (N := 1) rfl ?_); refine box_event ?hg (N := 1) ?hd (cs := #[.slice A0_0 l0_0.length c0_0, .string a0_1, .string a0_2, .string a0_3]) (t := 27) ?hr ?_; (case hd => rfl); (case hg => rfl); (case hr => first | (go_simp; done) | (go_simp; rfl)); intro gb453 hg w4 hbox hb; have n0_ := Aside0.mk (below_step au41 hb); have n1_ := Aside0.mk (hbox); have n2_ := Aside0.mk ((by rw [hg]; exact (below_size au41) : w.heap.size ≤ gb453)); have n3_ := Aside0.mk ((by rw [hg]; exact (below_size au41) : w.heap.size ≤ gb453)); clear HB; have HB := n0_; have BK453 := n1_; have GW453 := n2_; have GE453 := n3_; clear n0_ n1_ n2_ n3_; clear hb hbox hg; have hcz5_0 : w4.cell? ⟨gb453, 0, none⟩ = some (.slice A0_0 l0_0.length c0_0) := (blk_cell BK453.out 0).trans rfl; have hcz5_1 : w4.cell? ⟨gb453, 1, none⟩ = some (.string a0_1) := (blk_cell BK453.out 1).trans rfl; have hcz5_2 : w4.cell? ⟨gb453, 2, none⟩ = some (.string a0_2) := (blk_cell BK453.out 2).trans rfl; have hcz5_3 : w4.cell? ⟨gb453, 3, none⟩ = some (.string a0_3) := (blk_cell BK453.out 3).trans rfl; have hfz5_0 := blk_frozen BK453.out 0; have hfz5_1 := blk_frozen BK453.out 1; have hfz5_2 := blk_frozen BK453.out 2; have hfz5_3 := blk_frozen BK453.out 3) | ((with_reducible refine gate_dst (N := 8) rfl ?_); refine Kd.R_lit Kd.string _ 9 ?hg (N := 8) ?hd (xs := ([a0_1, a0_2] : List ByteArray)) (inner := [.string a0_1, .string a0_2]) (ok := fun _ => True) (okp := fun _ => True) ?hr ?hp (fun _ hk => hk) trivial (Below.refl _ _) (Nat.le_refl _) (by simp) ?_; (case hd => rfl); (case hg => rfl); (case hr => first | (go_simp; done) | (go_simp; rfl)); (case hp => exact (Reps.one (show Kd.M Kd.string _ _ _ a0_1 [.string a0_1] from rfl) (Reps.one (show Kd.M Kd.string _ _ _ a0_2 [.string a0_2] from rfl) (Reps.none _ _)))); intro v455 w6 ho7 hb hg_ hnew_; clear hg_ hnew_; (first | rw [← Ny454.out] at ho7 | (simp only [Int.reduceToNat] at ho7; rw [← Ny454.out] at ho7)); have n0_ := Aside0.mk (Kd.R_lower ho7 (below_size au29)); have n1_ := Aside0.mk (blk_below (g := gb453) (o := .cells #[.slice A0_0 l0_0.length c0_0, .string a0_1, .string a0_2, .string a0_3] 27 (0, 0)) au65 hb); have n2_ := Aside0.mk (below_step au29 hb); clear BK453; clear HB; have HO456 := n0_; have BK453 := n1_; have HB := n2_; clear n0_ n1_ n2_; clear hb ho7; obtain ⟨Ao8, co8, eo8⟩ := Kd.R_slice HO456.out; subst eo8) | ((with_reducible refine gate_callee (f := 82) rfl ?_); refine goesL_ (some 9) rfl rfl Tryd.func82 (by kernel_rfl) rfl #[.slice Ao8 y454.length co8] rfl au38 ?_; (with_reducible refine (impl_spaced.calls (fun k_ => some k_ = (.slice Ao8 y454.length co8 : Value).ownBlock) (.slice Ao8 y454.length co8) y454 t457 w _ ?side1 ?side2 A2.out).mono ?_); (case side1 => repeat (first | (with_reducible first | exact HB.out | apply below_alloc | apply pw_below_drewN | apply below_drew1 | refine below_set ?_ GE453.out) | exact HB.out)); (case side2 => exact Kd.R_tight rfl HO456.out); rintro e w9 ⟨rfl, hb, hkp⟩; refine ⟨_, rfl, ?_⟩; have n0_ := Aside0.mk (blk_kept au65 hkp (fun hs_ => (fun e_ => (Kd.R_ne HO456.out BK453.out (by decide)) e_) hs_)); have n1_ := Aside0.mk (hb); clear BK453; clear HB; clear HO456; have BK453 := n0_; have HB := n1_; clear n0_ n1_; (try clear hb); (try clear hkp)))
 (try simp only [Act.put, List.setIfInBounds_toArray, List.set_cons_zero, List.set_cons_succ])
 go_cut [18] (fun v18 wc => ∃ (kq : Nat) (x18_2 : Bool), v18 = .bool x18_2 ∧ Aside0 (impl_inverseForm.j0 kq t457 x18_2 l0_0 a0_1 a0_2 a0_3 = some r) ∧ Aside0 (kq ≤ k) ∧ Aside0 (wc.heap[gb453]? = some (.cells #[(.slice A0_0 l0_0.length c0_0), .string a0_1, .string a0_2, .string a0_3] 27 (0, 0))) ∧ Aside0 (Below w.heap.size w wc))
 case first =>
  have H := HC3.out
  clear HC3
  by_cases c10 : (l0_0.length : Int) > 0
  ·
   rw [if_pos c10] at H
   have c10b0 : decide (0 < (l0_0.length : Int)) = true := decide_eq_true c10
   have c10b1 : decide (0 < l0_0.length) = true := decide_eq_true (by omega)
   clear c10
   (first | rw [c10b0] | (simp only [i64_w, i32_w]; rw [c10b0]) | skip)
   have H' := Aside0.mk H
   clear H
   have hcz11_0 : w9.cell? ⟨gb453, 0, none⟩ = some (.slice A0_0 l0_0.length c0_0) := (blk_cell BK453.out 0).trans rfl
   have hcz11_1 : w9.cell? ⟨gb453, 1, none⟩ = some (.string a0_1) := (blk_cell BK453.out 1).trans rfl
   have hcz11_2 : w9.cell? ⟨gb453, 2, none⟩ = some (.string a0_2) := (blk_cell BK453.out 2).trans rfl
   have hcz11_3 : w9.cell? ⟨gb453, 3, none⟩ = some (.string a0_3) := (blk_cell BK453.out 3).trans rfl
   have hfz11_0 := blk_frozen BK453.out 0
   have hfz11_1 := blk_frozen BK453.out 1
   have hfz11_2 := blk_frozen BK453.out 2
   have hfz11_3 := blk_frozen BK453.out 3
   go_wp2
   go_meet
   case rel => exact ⟨_, (true), au89, H', ⟨by first | omega | exact Nat.le_refl _⟩, ⟨by (with_reducible repeat (first | refine blk_drewN ?_ _ | refine blk_drew ?_ | refine blk_alloc ?_ _)); exact BK453.out⟩, ⟨by repeat (first | (with_reducible first | exact HB.out | apply below_alloc | apply pw_below_drewN | apply below_drew1 | refine below_set ?_ GE453.out) | exact HB.out)⟩⟩
  ·
   rw [if_neg c10] at H
   have c10b0 : decide (0 < (l0_0.length : Int)) = false := decide_eq_false c10
   have c10b1 : decide (0 < l0_0.length) = false := decide_eq_false (by omega)
   clear c10
   (first | rw [c10b0] | (simp only [i64_w, i32_w]; rw [c10b0]) | skip)
   have H' := Aside0.mk H
   clear H
   have hcz12_0 : w9.cell? ⟨gb453, 0, none⟩ = some (.slice A0_0 l0_0.length c0_0) := (blk_cell BK453.out 0).trans rfl
   have hcz12_1 : w9.cell? ⟨gb453, 1, none⟩ = some (.string a0_1) := (blk_cell BK453.out 1).trans rfl
   have hcz12_2 : w9.cell? ⟨gb453, 2, none⟩ = some (.string a0_2) := (blk_cell BK453.out 2).trans rfl
   have hcz12_3 : w9.cell? ⟨gb453, 3, none⟩ = some (.string a0_3) := (blk_cell BK453.out 3).trans rfl
   have hfz12_0 := blk_frozen BK453.out 0
   have hfz12_1 := blk_frozen BK453.out 1
   have hfz12_2 := blk_frozen BK453.out 2
   have hfz12_3 := blk_frozen BK453.out 3
   go_wp2
   go_meet
   case rel => exact ⟨_, ((a0_3.toList != ([] : List UInt8))), (by first | rfl | (simp; done) | (simp [*]; done) | (simp; exact (show ∀ l_ : List UInt8, l_.isEmpty = !(l_ != ([] : List UInt8)) from fun l_ => by cases l_ <;> rfl) _)), H', ⟨by first | omega | exact Nat.le_refl _⟩, ⟨by (with_reducible repeat (first | refine blk_drewN ?_ _ | refine blk_drew ?_ | refine blk_alloc ?_ _)); exact BK453.out⟩, ⟨by repeat (first | (with_reducible first | exact HB.out | apply below_alloc | apply pw_below_drewN | apply below_drew1 | refine below_set ?_ GE453.out) | exact HB.out)⟩⟩
 case rest =>
  clear HC3
  try clear c1
  try clear p2
  try clear c5
  try clear c8
  try clear c10
  try clear c10b0
  try clear c10b1
  try clear hcz11_0
  try clear hcz11_1
  try clear hcz11_2
  try clear hcz11_3
  try clear hcz12_0
  try clear hcz12_1
  try clear hcz12_2
  try clear hcz12_3
  try clear hcz5_0
  try clear hcz5_1
  try clear hcz5_2
  try clear hcz5_3
  try clear hfz11_0
  try clear hfz11_1
  try clear hfz11_2
  try clear hfz11_3
  try clear hfz12_0
  try clear hfz12_1
  try clear hfz12_2
  try clear hfz12_3
  try clear hfz5_0
  try clear hfz5_1
  try clear hfz5_2
  try clear hfz5_3
  obtain ⟨kq, x18_2, rfl, HA, HJ2, BK453, HB⟩ := hcut
  cases kq with
  | zero => exact absurd HA.out (by simp [impl_inverseForm.j0])
  | succ kj2 =>
   have H := HA.out
   clear HA
   simp only [impl_inverseForm.j0] at H
   by_cases c13 : x18_2 = true
   ·
    subst c13
    replace H := (if_pos rfl).symm.trans H
    replace H := Option.bind_eq_some_iff.mp H
    obtain ⟨t458, A140, H⟩ := H
    try dsimp only at H
    have A14 := Aside0.mk A140
    clear A140
    by_cases c15 : 2 + t458.size ≤ 9223372036854775807
    ·
     rw [if_pos c15] at H
     have c15b0 := eq_true c15
     have c15b1 : decide (2 + t458.size ≤ 9223372036854775807) = true := decide_eq_true c15
     try have c15b2 : (9223372036854775807 < 2 + t458.size) = False := eq_false (Nat.not_lt.2 c15)
     by_cases c16 : t457.size + ((⟨#[44, 32]⟩ : ByteArray) ++ t458).size ≤ 9223372036854775807
     ·
      rw [if_pos c16] at H
      have c16b0 := eq_true c16
      have c16b1 : decide (t457.size + ((⟨#[44, 32]⟩ : ByteArray) ++ t458).size ≤ 9223372036854775807) = true := decide_eq_true c16
      try have c16b2 : (9223372036854775807 < t457.size + ((⟨#[44, 32]⟩ : ByteArray) ++ t458).size) = False := eq_false (Nat.not_lt.2 c16)
      try have c16x : (9223372036854775807 < t457.size + (2 + t458.size)) = False := eq_false (by have z_ := c16; simp only [ByteArray.size_append] at z_; have hl0_ : (⟨#[44, 32]⟩ : ByteArray).size = 2 := rfl; omega)
      by_cases c17 : a0_3.toList = ([] : List UInt8)
      ·
       rw [if_pos c17] at H
       have c17b0 : (a0_3.toList == ([] : List UInt8)) = true := beq_iff_eq.mpr c17
       have c17b1 : (a0_3.toList != ([] : List UInt8)) = false := bne_eq_false_iff_eq.mpr c17
       clear c17
       obtain rfl := Option.some.inj H
       exact impl_inverseForm.L0
      ·
       rw [if_neg c17] at H
       have c17b0 : (a0_3.toList == ([] : List UInt8)) = false := beq_eq_false_iff_ne.mpr c17
       have c17b1 : (a0_3.toList != ([] : List UInt8)) = true := bne_iff_ne.mpr c17
       by_cases c21 : 2 + a0_3.size ≤ 9223372036854775807
       ·
        rw [if_pos c21] at H
        have c21b0 := eq_true c21
        have c21b1 : decide (2 + a0_3.size ≤ 9223372036854775807) = true := decide_eq_true c21
        try have c21b2 : (9223372036854775807 < 2 + a0_3.size) = False := eq_false (Nat.not_lt.2 c21)
        by_cases c22 : (t457 ++ ((⟨#[44, 32]⟩ : ByteArray) ++ t458)).size + ((⟨#[44, 32]⟩ : ByteArray) ++ a0_3).size ≤ 9223372036854775807
        ·
         rw [if_pos c22] at H
         have c22b0 := eq_true c22
         have c22b1 : decide ((t457 ++ ((⟨#[44, 32]⟩ : ByteArray) ++ t458)).size + ((⟨#[44, 32]⟩ : ByteArray) ++ a0_3).size ≤ 9223372036854775807) = true := decide_eq_true c22
         try have c22b2 : (9223372036854775807 < (t457 ++ ((⟨#[44, 32]⟩ : ByteArray) ++ t458)).size + ((⟨#[44, 32]⟩ : ByteArray) ++ a0_3).size) = False := eq_false (Nat.not_lt.2 c22)
         try have c22x : (9223372036854775807 < t457.size + 2 + (t458.size) + (2 + a0_3.size)) = False := eq_false (by have z_ := c22; simp only [ByteArray.size_append] at z_; have hl0_ : (⟨#[44, 32]⟩ : ByteArray).size = 2 := rfl; omega)
         obtain rfl := Option.some.inj H
         exact impl_inverseForm.L0
        ·
         rw [if_neg c22] at H
         exact absurd H (by simp)
       ·
        rw [if_neg c21] at H
        exact absurd H (by simp)
     ·
      rw [if_neg c16] at H
      exact absurd H (by simp)
    ·
     rw [if_neg c15] at H
     exact absurd H (by simp)
   ·
    replace c13 := Bool.eq_false_iff.mpr c13
    subst c13
    replace H := (if_neg (show ¬ (false = true) by decide)).symm.trans H
    by_cases c26 : a0_3.toList = ([] : List UInt8)
    ·
     rw [if_pos c26] at H
     have c26b0 : (a0_3.toList == ([] : List UInt8)) = true := beq_iff_eq.mpr c26
     have c26b1 : (a0_3.toList != ([] : List UInt8)) = false := bne_eq_false_iff_eq.mpr c26
     clear c26
     obtain rfl := Option.some.inj H
     have hcz27_0 : wc.cell? ⟨gb453, 0, none⟩ = some (.slice A0_0 l0_0.length c0_0) := (blk_cell BK453.out 0).trans rfl
     have hcz27_1 : wc.cell? ⟨gb453, 1, none⟩ = some (.string a0_1) := (blk_cell BK453.out 1).trans rfl
     have hcz27_2 : wc.cell? ⟨gb453, 2, none⟩ = some (.string a0_2) := (blk_cell BK453.out 2).trans rfl
     have hcz27_3 : wc.cell? ⟨gb453, 3, none⟩ = some (.string a0_3) := (blk_cell BK453.out 3).trans rfl
     have hfz27_0 := blk_frozen BK453.out 0
     have hfz27_1 := blk_frozen BK453.out 1
     have hfz27_2 := blk_frozen BK453.out 2
     have hfz27_3 := blk_frozen BK453.out 3
     go_wp2
     go_ret
     exact ax6
    ·
     rw [if_neg c26] at H
     have c26b0 : (a0_3.toList == ([] : List UInt8)) = false := beq_eq_false_iff_ne.mpr c26
     have c26b1 : (a0_3.toList != ([] : List UInt8)) = true := bne_iff_ne.mpr c26
     by_cases c28 : 2 + a0_3.size ≤ 9223372036854775807
     ·
      rw [if_pos c28] at H
      have c28b0 := eq_true c28
      have c28b1 : decide (2 + a0_3.size ≤ 9223372036854775807) = true := decide_eq_true c28
      try have c28b2 : (9223372036854775807 < 2 + a0_3.size) = False := eq_false (Nat.not_lt.2 c28)
      by_cases c29 : t457.size + ((⟨#[44, 32]⟩ : ByteArray) ++ a0_3).size ≤ 9223372036854775807
      ·
       rw [if_pos c29] at H
       have c29b0 := eq_true c29
       have c29b1 : decide (t457.size + ((⟨#[44, 32]⟩ : ByteArray) ++ a0_3).size ≤ 9223372036854775807) = true := decide_eq_true c29
       try have c29b2 : (9223372036854775807 < t457.size + ((⟨#[44, 32]⟩ : ByteArray) ++ a0_3).size) = False := eq_false (Nat.not_lt.2 c29)
       try have c29x : (9223372036854775807 < t457.size + (2 + a0_3.size)) = False := eq_false (by have z_ := c29; simp only [ByteArray.size_append] at z_; have hl0_ : (⟨#[44, 32]⟩ : ByteArray).size = 2 := rfl; omega)
       obtain rfl := Option.some.inj H
       have hcz30_0 : wc.cell? ⟨gb453, 0, none⟩ = some (.slice A0_0 l0_0.length c0_0) := (blk_cell BK453.out 0).trans rfl
       have hcz30_1 : wc.cell? ⟨gb453, 1, none⟩ = some (.string a0_1) := (blk_cell BK453.out 1).trans rfl
       have hcz30_2 : wc.cell? ⟨gb453, 2, none⟩ = some (.string a0_2) := (blk_cell BK453.out 2).trans rfl
       have hcz30_3 : wc.cell? ⟨gb453, 3, none⟩ = some (.string a0_3) := (blk_cell BK453.out 3).trans rfl
       have hfz30_0 := blk_frozen BK453.out 0
       have hfz30_1 := blk_frozen BK453.out 1
       have hfz30_2 := blk_frozen BK453.out 2
       have hfz30_3 := blk_frozen BK453.out 3
       go_wp2
       go_ret
       exact ax6
      ·
       rw [if_neg c29] at H
       exact absurd H (by simp)
     ·
      rw [if_neg c28] at H
      exact absurd H (by simp)

end Go.Proofs.YtcckamdpncbkoaaDoor.G
