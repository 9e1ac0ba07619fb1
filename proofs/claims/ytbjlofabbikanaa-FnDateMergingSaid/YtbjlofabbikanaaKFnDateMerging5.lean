/- Texts of this session for the law FnDateMerging, put together by a program (merge.py): each ends with its namespace; conditions stand with each theorem. -/
import Derived.Test.YtbjlofabbikanaaKFnDateMerging2
import Derived.Test.YtbjlofabbikanaaKFnDateMerging4
import Derived.Test.YtbjlofabbikanaaKFnDateMerging1
import Derived.Deep.Slices
import Derived.Lib.Strings
import Derived.Laws.Bits64b
namespace Go.Proofs.Ytbjlofabbikanaa.G
open Go.RowKit Go.Proofs.YtbjlofabbikanaaW.PrintWords Go.Proofs.YtbjlofabbikanaaW.PrintLast Go.Proofs.YtbjlofabbikanaaW.PrintMore
open Go.Proofs.Ytbjlofabbikanaa.Gl Go.Proofs.Ytbjlofabbikanaa.Ext
attribute [local go_sem] max2_int min2_int max_two min_two max_three min_three max_four min_four   -- for this text's walks alone
set_option linter.unusedVariables false
set_option linter.unusedSimpArgs false

attribute [local go_sem high] eqA25
/-! ### laws_FnDateMerging: function 3 -/
def laws_FnDateMerging.j0 : Nat → Bool → Bool → Int → Int → Int → Bool → Int → Int → Int → Bool → Int → Int → Int → Bool → Option (Bool)
 | 0, _, _, _, _, _, _, _, _, _, _, _, _, _, _ => none
 | k + 1, x6, x39, x269000, x269001, x269002, x269003, x270000, x270001, x270002, x270003, x276000, x276001, x276002, x276003 => if x39 = true then (some false) else (if x6 = true then ((impl_Refines.f k x276000 x276001 x276002 x276003 x269000 x269001 x269002 x269003).bind fun bt282 => ((impl_Refines.f k x276000 x276001 x276002 x276003 x270000 x270001 x270002 x270003).bind fun bt284 => (if bt282.2 = true then (if bt284.2 = true then (if bt282.1 = true then (if bt284.1 = true then (if (x276000 == x269000 && (x276001 == x269001 && (x276002 == x269002 && (x276003 == x269003)))) = true then (some true) else (some (x276000 == x270000 && (x276001 == x270001 && (x276002 == x270002 && (x276003 == x270003)))))) else (some false)) else (some false)) else (some false)) else (some false)))) else (some (x276000 == 0 && (x276001 == 0 && (x276002 == 0 && (!x276003))))))
def laws_FnDateMerging.f (k : Nat) (l0 : List Int) : Option (Bool) := (laws_vBig.f l0).bind fun t259 => (if t259 = true then (some true) else ((spec_DrawMergeDates.f l0).bind fun bt260 => ((impl_MergeDates.f k bt260.1 bt260.2.1 bt260.2.2.1 bt260.2.2.2.1 bt260.2.2.2.2.1 bt260.2.2.2.2.2.1 bt260.2.2.2.2.2.2.1 bt260.2.2.2.2.2.2.2).bind fun bt270 => ((spec_MergeDates.f k bt260.1 bt260.2.1 bt260.2.2.1 bt260.2.2.2.1 bt260.2.2.2.2.1 bt260.2.2.2.2.2.1 bt260.2.2.2.2.2.2.1 bt260.2.2.2.2.2.2.2).bind fun bt276 => (if (!(bt270.1 == bt276.1) || (!(bt270.2.1 == bt276.2.1) || (!(bt270.2.2.1 == bt276.2.2.1) || (!(bt270.2.2.2.1 == bt276.2.2.2.1))))) = true then (laws_FnDateMerging.j0 k bt270.2.2.2.2 true bt260.1 bt260.2.1 bt260.2.2.1 bt260.2.2.2.1 bt260.2.2.2.2.1 bt260.2.2.2.2.2.1 bt260.2.2.2.2.2.2.1 bt260.2.2.2.2.2.2.2 bt270.1 bt270.2.1 bt270.2.2.1 bt270.2.2.2.1) else (laws_FnDateMerging.j0 k bt270.2.2.2.2 (bt270.2.2.2.2 != bt276.2.2.2.2) bt260.1 bt260.2.1 bt260.2.2.1 bt260.2.2.2.1 bt260.2.2.2.2.1 bt260.2.2.2.2.2.1 bt260.2.2.2.2.2.2.1 bt260.2.2.2.2.2.2.2 bt270.1 bt270.2.1 bt270.2.2.1 bt270.2.2.2.1))))))
theorem laws_FnDateMerging.mono_l : ∀ k, (∀ y0 y1 y2 y3 y4 y5 y6 y7 y8 y9 y10 y11 y12 y13, LeO (laws_FnDateMerging.j0 k y0 y1 y2 y3 y4 y5 y6 y7 y8 y9 y10 y11 y12 y13) (laws_FnDateMerging.j0 (k + 1) y0 y1 y2 y3 y4 y5 y6 y7 y8 y9 y10 y11 y12 y13))
 | 0 => fun _ _ _ _ _ _ _ _ _ _ _ _ _ _ r h => by simp [laws_FnDateMerging.j0] at h
 | k + 1 => by
  have ih0 := laws_FnDateMerging.mono_l k
  ·
   intro y0 y1 y2 y3 y4 y5 y6 y7 y8 y9 y10 y11 y12 y13
   unfold laws_FnDateMerging.j0
   repeat' first
   | (with_reducible exact ih0 _ _ _ _ _ _ _ _ _ _ _ _ _ _)
   | (with_reducible exact impl_MergeDates.mono _ _ _ _ _ _ _ _ _)
   | (with_reducible exact impl_Refines.mono _ _ _ _ _ _ _ _ _)
   | (with_reducible exact spec_MergeDates.mono _ _ _ _ _ _ _ _ _)
   | (with_reducible exact LeO.refl _)
   | (with_reducible exact LeO.none _)
   | (with_reducible refine LeO.ite ?_ ?_)
   | (with_reducible refine LeO.bind ?_ (fun _ => ?_))
   | exact ih0 _ _ _ _ _ _ _ _ _ _ _ _ _ _
   | exact impl_MergeDates.mono _ _ _ _ _ _ _ _ _
   | exact impl_Refines.mono _ _ _ _ _ _ _ _ _
   | exact spec_MergeDates.mono _ _ _ _ _ _ _ _ _
   | exact LeO.none _
   | refine LeO.ite ?_ ?_
   | refine LeO.bind ?_ (fun _ => ?_)
theorem laws_FnDateMerging.mono : ∀ a0 k, LeO (laws_FnDateMerging.f k a0) (laws_FnDateMerging.f (k + 1) a0) := by
 intro a0 k
 have ih0 := laws_FnDateMerging.mono_l k
 unfold laws_FnDateMerging.f
 repeat' first
   | (with_reducible exact ih0 _ _ _ _ _ _ _ _ _ _ _ _ _ _)
   | (with_reducible exact impl_MergeDates.mono _ _ _ _ _ _ _ _ _)
   | (with_reducible exact impl_Refines.mono _ _ _ _ _ _ _ _ _)
   | (with_reducible exact spec_MergeDates.mono _ _ _ _ _ _ _ _ _)
   | (with_reducible exact LeO.refl _)
   | (with_reducible exact LeO.none _)
   | (with_reducible refine LeO.ite ?_ ?_)
   | (with_reducible refine LeO.bind ?_ (fun _ => ?_))
   | exact ih0 _ _ _ _ _ _ _ _ _ _ _ _ _ _
   | exact impl_MergeDates.mono _ _ _ _ _ _ _ _ _
   | exact impl_Refines.mono _ _ _ _ _ _ _ _ _
   | exact spec_MergeDates.mono _ _ _ _ _ _ _ _ _
   | exact LeO.none _
   | refine LeO.ite ?_ ?_
   | refine LeO.bind ?_ (fun _ => ?_)
set_option maxRecDepth 100000 in
theorem laws_FnDateMerging.L0 {P : Prop} (h : P := by
  have hnb35 := NB275_268.out
  have hnc35 := NB268_275.out
  have hnb36 := NB275_269.out
  have hnc36 := NB269_275.out
  have hnb37 := NB275_281.out
  have hnc37 := NB281_275.out
  have hcz38_0 : w22.cell? ⟨gb275, 0, none⟩ = some (.int .i64 t270) := (blk_cell BK275.out 0).trans rfl
  have hcz38_1 : w22.cell? ⟨gb275, 1, none⟩ = some (.int .i64 t271) := (blk_cell BK275.out 1).trans rfl
  have hcz38_2 : w22.cell? ⟨gb275, 2, none⟩ = some (.int .i64 t272) := (blk_cell BK275.out 2).trans rfl
  have hcz38_3 : w22.cell? ⟨gb275, 3, none⟩ = some (.bool t273) := (blk_cell BK275.out 3).trans rfl
  have hfz38_0 := blk_frozen BK275.out 0
  have hfz38_1 := blk_frozen BK275.out 1
  have hfz38_2 := blk_frozen BK275.out 2
  have hfz38_3 := blk_frozen BK275.out 3
  have hnb39 := NB281_268.out
  have hnc39 := NB268_281.out
  have hnb40 := NB281_269.out
  have hnc40 := NB269_281.out
  have hcz41_0 : w22.cell? ⟨gb281, 0, none⟩ = some (.int .i64 0) := (blk_cell BK281.out 0).trans rfl
  have hcz41_1 : w22.cell? ⟨gb281, 1, none⟩ = some (.int .i64 0) := (blk_cell BK281.out 1).trans rfl
  have hcz41_2 : w22.cell? ⟨gb281, 2, none⟩ = some (.int .i64 0) := (blk_cell BK281.out 2).trans rfl
  have hcz41_3 : w22.cell? ⟨gb281, 3, none⟩ = some (.bool false) := (blk_cell BK281.out 3).trans rfl
  have hfz41_0 := blk_frozen BK281.out 0
  have hfz41_1 := blk_frozen BK281.out 1
  have hfz41_2 := blk_frozen BK281.out 2
  have hfz41_3 := blk_frozen BK281.out 3
  go_wp2
  go_meet
  case rel => first | (exact ⟨_, ((t274 != t280)), au102, H', ⟨by first | omega | exact Nat.le_refl _⟩, ⟨by (with_reducible repeat (first | refine blk_drewN ?_ _ | refine blk_drew ?_ | refine blk_alloc ?_ _)); refine blk_far ?_ NB268_281.out _; (with_reducible repeat (first | refine blk_drewN ?_ _ | refine blk_drew ?_ | refine blk_alloc ?_ _)); refine blk_far ?_ NB268_281.out _; (with_reducible repeat (first | refine blk_drewN ?_ _ | refine blk_drew ?_ | refine blk_alloc ?_ _)); refine blk_far ?_ NB268_281.out _; (with_reducible repeat (first | refine blk_drewN ?_ _ | refine blk_drew ?_ | refine blk_alloc ?_ _)); refine blk_far ?_ NB268_281.out _; (with_reducible repeat (first | refine blk_drewN ?_ _ | refine blk_drew ?_ | refine blk_alloc ?_ _)); exact BK268.out⟩, ⟨by (with_reducible repeat (first | refine blk_drewN ?_ _ | refine blk_drew ?_ | refine blk_alloc ?_ _)); refine blk_far ?_ NB269_281.out _; (with_reducible repeat (first | refine blk_drewN ?_ _ | refine blk_drew ?_ | refine blk_alloc ?_ _)); refine blk_far ?_ NB269_281.out _; (with_reducible repeat (first | refine blk_drewN ?_ _ | refine blk_drew ?_ | refine blk_alloc ?_ _)); refine blk_far ?_ NB269_281.out _; (with_reducible repeat (first | refine blk_drewN ?_ _ | refine blk_drew ?_ | refine blk_alloc ?_ _)); refine blk_far ?_ NB269_281.out _; (with_reducible repeat (first | refine blk_drewN ?_ _ | refine blk_drew ?_ | refine blk_alloc ?_ _)); exact BK269.out⟩, ⟨by (with_reducible repeat (first | refine blk_drewN ?_ _ | refine blk_drew ?_ | refine blk_alloc ?_ _)); refine blk_far ?_ NB275_281.out _; (with_reducible repeat (first | refine blk_drewN ?_ _ | refine blk_drew ?_ | refine blk_alloc ?_ _)); refine blk_far ?_ NB275_281.out _; (with_reducible repeat (first | refine blk_drewN ?_ _ | refine blk_drew ?_ | refine blk_alloc ?_ _)); refine blk_far ?_ NB275_281.out _; (with_reducible repeat (first | refine blk_drewN ?_ _ | refine blk_drew ?_ | refine blk_alloc ?_ _)); refine blk_far ?_ NB275_281.out _; (with_reducible repeat (first | refine blk_drewN ?_ _ | refine blk_drew ?_ | refine blk_alloc ?_ _)); exact BK275.out⟩, ⟨by (with_reducible repeat (first | refine blk_drewN ?_ _ | refine blk_drew ?_ | refine blk_alloc ?_ _)); refine blk_put (cs := #[.int .i64 t276, .int .i64 t277, .int .i64 t278, .bool false]) ?_ 3 _ rfl; (with_reducible repeat (first | refine blk_drewN ?_ _ | refine blk_drew ?_ | refine blk_alloc ?_ _)); refine blk_put (cs := #[.int .i64 t276, .int .i64 t277, .int .i64 0, .bool false]) ?_ 2 _ rfl; (with_reducible repeat (first | refine blk_drewN ?_ _ | refine blk_drew ?_ | refine blk_alloc ?_ _)); refine blk_put (cs := #[.int .i64 t276, .int .i64 0, .int .i64 0, .bool false]) ?_ 1 _ rfl; (with_reducible repeat (first | refine blk_drewN ?_ _ | refine blk_drew ?_ | refine blk_alloc ?_ _)); refine blk_put (cs := #[.int .i64 0, .int .i64 0, .int .i64 0, .bool false]) ?_ 0 _ rfl; (with_reducible repeat (first | refine blk_drewN ?_ _ | refine blk_drew ?_ | refine blk_alloc ?_ _)); exact BK281.out⟩, ⟨by repeat (first | (with_reducible first | exact HB.out | apply below_alloc | apply pw_below_drewN | apply below_drew1 | refine below_set ?_ GE268.out | refine below_set ?_ GE269.out | refine below_set ?_ GE275.out | refine below_set ?_ GE281.out) | exact HB.out)⟩⟩) | (exact ⟨_, (true), au102, H', ⟨by first | omega | exact Nat.le_refl _⟩, ⟨by (with_reducible repeat (first | refine blk_drewN ?_ _ | refine blk_drew ?_ | refine blk_alloc ?_ _)); refine blk_far ?_ NB268_281.out _; (with_reducible repeat (first | refine blk_drewN ?_ _ | refine blk_drew ?_ | refine blk_alloc ?_ _)); refine blk_far ?_ NB268_281.out _; (with_reducible repeat (first | refine blk_drewN ?_ _ | refine blk_drew ?_ | refine blk_alloc ?_ _)); refine blk_far ?_ NB268_281.out _; (with_reducible repeat (first | refine blk_drewN ?_ _ | refine blk_drew ?_ | refine blk_alloc ?_ _)); refine blk_far ?_ NB268_281.out _; (with_reducible repeat (first | refine blk_drewN ?_ _ | refine blk_drew ?_ | refine blk_alloc ?_ _)); exact BK268.out⟩, ⟨by (with_reducible repeat (first | refine blk_drewN ?_ _ | refine blk_drew ?_ | refine blk_alloc ?_ _)); refine blk_far ?_ NB269_281.out _; (with_reducible repeat (first | refine blk_drewN ?_ _ | refine blk_drew ?_ | refine blk_alloc ?_ _)); refine blk_far ?_ NB269_281.out _; (with_reducible repeat (first | refine blk_drewN ?_ _ | refine blk_drew ?_ | refine blk_alloc ?_ _)); refine blk_far ?_ NB269_281.out _; (with_reducible repeat (first | refine blk_drewN ?_ _ | refine blk_drew ?_ | refine blk_alloc ?_ _)); refine blk_far ?_ NB269_281.out _; (with_reducible repeat (first | refine blk_drewN ?_ _ | refine blk_drew ?_ | refine blk_alloc ?_ _)); exact BK269.out⟩, ⟨by (with_reducible repeat (first | refine blk_drewN ?_ _ | refine blk_drew ?_ | refine blk_alloc ?_ _)); refine blk_far ?_ NB275_281.out _; (with_reducible repeat (first | refine blk_drewN ?_ _ | refine blk_drew ?_ | refine blk_alloc ?_ _)); refine blk_far ?_ NB275_281.out _; (with_reducible repeat (first | refine blk_drewN ?_ _ | refine blk_drew ?_ | refine blk_alloc ?_ _)); refine blk_far ?_ NB275_281.out _; (with_reducible repeat (first | refine blk_drewN ?_ _ | refine blk_drew ?_ | refine blk_alloc ?_ _)); refine blk_far ?_ NB275_281.out _; (with_reducible repeat (first | refine blk_drewN ?_ _ | refine blk_drew ?_ | refine blk_alloc ?_ _)); exact BK275.out⟩, ⟨by (with_reducible repeat (first | refine blk_drewN ?_ _ | refine blk_drew ?_ | refine blk_alloc ?_ _)); refine blk_put (cs := #[.int .i64 t276, .int .i64 t277, .int .i64 t278, .bool false]) ?_ 3 _ rfl; (with_reducible repeat (first | refine blk_drewN ?_ _ | refine blk_drew ?_ | refine blk_alloc ?_ _)); refine blk_put (cs := #[.int .i64 t276, .int .i64 t277, .int .i64 0, .bool false]) ?_ 2 _ rfl; (with_reducible repeat (first | refine blk_drewN ?_ _ | refine blk_drew ?_ | refine blk_alloc ?_ _)); refine blk_put (cs := #[.int .i64 t276, .int .i64 0, .int .i64 0, .bool false]) ?_ 1 _ rfl; (with_reducible repeat (first | refine blk_drewN ?_ _ | refine blk_drew ?_ | refine blk_alloc ?_ _)); refine blk_put (cs := #[.int .i64 0, .int .i64 0, .int .i64 0, .bool false]) ?_ 0 _ rfl; (with_reducible repeat (first | refine blk_drewN ?_ _ | refine blk_drew ?_ | refine blk_alloc ?_ _)); exact BK281.out⟩, ⟨by repeat (first | (with_reducible first | exact HB.out | apply below_alloc | apply pw_below_drewN | apply below_drew1 | refine below_set ?_ GE268.out | refine below_set ?_ GE269.out | refine below_set ?_ GE275.out | refine below_set ?_ GE281.out) | exact HB.out)⟩⟩)) : P := h
set_option maxHeartbeats 8000000 in
set_option maxRecDepth 100000 in
theorem laws_FnDateMerging.calls (k : Nat) (A0 : Option Addr) (c0 : Nat) (l0 : List Int) (r : Bool) (w : World) (hr0 : Kd.C (Kd.int .u8) w A0 l0.length l0) (hc0 : l0.length ≤ c0) (h : laws_FnDateMerging.f k l0 = some r) :
  Calls Try.prog 3 #[.slice A0 l0.length c0] w fun e w' => e = .returned (.bool r) ∧ Below w.heap.size w w' := by
 have hu25 := Try.underlying25
 have HR0 := Aside0.mk hr0
 have HC0 := Aside0.mk hc0
 clear hr0 hc0
 have HB := Aside0.mk (Below.refl w.heap.size w)
 have H : ((laws_vBig.f l0).bind fun t259 => (if t259 = true then (some true) else ((spec_DrawMergeDates.f l0).bind fun bt260 => ((impl_MergeDates.f k bt260.1 bt260.2.1 bt260.2.2.1 bt260.2.2.2.1 bt260.2.2.2.2.1 bt260.2.2.2.2.2.1 bt260.2.2.2.2.2.2.1 bt260.2.2.2.2.2.2.2).bind fun bt270 => ((spec_MergeDates.f k bt260.1 bt260.2.1 bt260.2.2.1 bt260.2.2.2.1 bt260.2.2.2.2.1 bt260.2.2.2.2.2.1 bt260.2.2.2.2.2.2.1 bt260.2.2.2.2.2.2.2).bind fun bt276 => (if (!(bt270.1 == bt276.1) || (!(bt270.2.1 == bt276.2.1) || (!(bt270.2.2.1 == bt276.2.2.1) || (!(bt270.2.2.2.1 == bt276.2.2.2.1))))) = true then (laws_FnDateMerging.j0 k bt270.2.2.2.2 true bt260.1 bt260.2.1 bt260.2.2.1 bt260.2.2.2.1 bt260.2.2.2.2.1 bt260.2.2.2.2.2.1 bt260.2.2.2.2.2.2.1 bt260.2.2.2.2.2.2.2 bt270.1 bt270.2.1 bt270.2.2.1 bt270.2.2.2.1) else (laws_FnDateMerging.j0 k bt270.2.2.2.2 (bt270.2.2.2.2 != bt276.2.2.2.2) bt260.1 bt260.2.1 bt260.2.2.1 bt260.2.2.2.1 bt260.2.2.2.2.1 bt260.2.2.2.2.2.1 bt260.2.2.2.2.2.2.1 bt260.2.2.2.2.2.2.2 bt270.1 bt270.2.1 bt270.2.2.1 bt270.2.2.2.1))))))) = some r := h
 clear h
 replace H := Option.bind_eq_some_iff.mp H
 obtain ⟨t259, A20, H⟩ := H
 try dsimp only at H
 have A2 := Aside0.mk A20
 clear A20
 by_cases c3 : t259 = true
 ·
  subst c3
  replace H := (if_pos rfl).symm.trans H
  obtain rfl := Option.some.inj H
  go_enter Try.func3, Try.ntmps3
  go_wp2_with (first | ((with_reducible refine gate_callee (f := 5) rfl ?_); refine goesL_ (some 14) rfl rfl Try.func5 (by kernel_rfl) rfl #[.slice A0 l0.length c0] rfl au70 ?_; (with_reducible refine (laws_vBig.calls _ _ l0 _ _ ?side1 ?side2 A2.out).mono ?_); (case side1 => repeat (first | exact HR0.out | (with_reducible refine Kd.C_alloc ?_ _) | (with_reducible refine Kd.C_drewN ?_ _) | (with_reducible refine Kd.C_drew ?_))); (case side2 => exact HC0.out); rintro e w' ⟨rfl, ⟨nd, rfl⟩⟩; refine ⟨_, rfl, ?_⟩))
  go_ret
  exact ⟨by first | rfl | (simp [errW_none, errW_some] <;> rfl) | (simp [*, errW_none, errW_some] <;> rfl), by repeat (first | (with_reducible first | exact HB.out | apply below_alloc | apply pw_below_drewN | apply below_drew1) | exact HB.out)⟩
 ·
  replace c3 := Bool.eq_false_iff.mpr c3
  subst c3
  replace H := (if_neg (show ¬ (false = true) by decide)).symm.trans H
  replace H := Option.bind_eq_some_iff.mp H
  obtain ⟨⟨t260, t261, t262, t263, t264, t265, t266, t267⟩, A40, H⟩ := H
  replace H : ((impl_MergeDates.f k t260 t261 t262 t263 t264 t265 t266 t267).bind fun bt270 => ((spec_MergeDates.f k t260 t261 t262 t263 t264 t265 t266 t267).bind fun bt276 => (if (!(bt270.1 == bt276.1) || (!(bt270.2.1 == bt276.2.1) || (!(bt270.2.2.1 == bt276.2.2.1) || (!(bt270.2.2.2.1 == bt276.2.2.2.1))))) = true then (laws_FnDateMerging.j0 k bt270.2.2.2.2 true t260 t261 t262 t263 t264 t265 t266 t267 bt270.1 bt270.2.1 bt270.2.2.1 bt270.2.2.2.1) else (laws_FnDateMerging.j0 k bt270.2.2.2.2 (bt270.2.2.2.2 != bt276.2.2.2.2) t260 t261 t262 t263 t264 t265 t266 t267 bt270.1 bt270.2.1 bt270.2.2.1 bt270.2.2.2.1)))) = some r := H
  have A4 := Aside0.mk A40
  clear A40
  replace H := Option.bind_eq_some_iff.mp H
  obtain ⟨⟨t270, t271, t272, t273, t274⟩, A50, H⟩ := H
  replace H : ((spec_MergeDates.f k t260 t261 t262 t263 t264 t265 t266 t267).bind fun bt276 => (if (!(t270 == bt276.1) || (!(t271 == bt276.2.1) || (!(t272 == bt276.2.2.1) || (!(t273 == bt276.2.2.2.1))))) = true then (laws_FnDateMerging.j0 k t274 true t260 t261 t262 t263 t264 t265 t266 t267 t270 t271 t272 t273) else (laws_FnDateMerging.j0 k t274 (t274 != bt276.2.2.2.2) t260 t261 t262 t263 t264 t265 t266 t267 t270 t271 t272 t273))) = some r := H
  have A5 := Aside0.mk A50
  clear A50
  replace H := Option.bind_eq_some_iff.mp H
  obtain ⟨⟨t276, t277, t278, t279, t280⟩, A60, H⟩ := H
  replace H : (if (!(t270 == t276) || (!(t271 == t277) || (!(t272 == t278) || (!(t273 == t279))))) = true then (laws_FnDateMerging.j0 k t274 true t260 t261 t262 t263 t264 t265 t266 t267 t270 t271 t272 t273) else (laws_FnDateMerging.j0 k t274 (t274 != t280) t260 t261 t262 t263 t264 t265 t266 t267 t270 t271 t272 t273)) = some r := H
  have A6 := Aside0.mk A60
  clear A60
  have HC7 := Aside0.mk H
  clear H
  go_enter Try.func3, Try.ntmps3
  go_upto_region 6 with (first | ((with_reducible refine gate_callee (f := 5) rfl ?_); refine goesL_ (some 14) rfl rfl Try.func5 (by kernel_rfl) rfl #[.slice A0 l0.length c0] rfl au70 ?_; (with_reducible refine (laws_vBig.calls _ _ l0 _ _ ?side1 ?side2 A2.out).mono ?_); (case side1 => repeat (first | exact HR0.out | (with_reducible refine Kd.C_alloc ?_ _) | (with_reducible refine Kd.C_drewN ?_ _) | (with_reducible refine Kd.C_drew ?_))); (case side2 => exact HC0.out); rintro e w' ⟨rfl, ⟨nd, rfl⟩⟩; refine ⟨_, rfl, ?_⟩) | ((with_reducible refine gate_callee (f := 6) rfl ?_); refine goesL_ (some 17) rfl rfl Try.func6 (by kernel_rfl) rfl #[.slice A0 l0.length c0] rfl au70 ?_; (with_reducible refine (spec_DrawMergeDates.calls _ _ l0 t260 t261 t262 t263 t264 t265 t266 t267 _ ?side1 ?side2 A4.out).mono ?_); (case side1 => repeat (first | exact HR0.out | (with_reducible refine Kd.C_alloc ?_ _) | (with_reducible refine Kd.C_drewN ?_ _) | (with_reducible refine Kd.C_drew ?_))); (case side2 => exact HC0.out); rintro e w8 ⟨rfl, hb⟩; refine ⟨_, rfl, ?_⟩; have n0_ := Aside0.mk (below_step au71 hb); clear HB; have HB := n0_; clear n0_; (try clear hb); (try clear hb2); (try clear hk); (try clear hi)) | ((with_reducible refine gate_dst (N := 3) rfl ?_); refine box_event ?hg (N := 3) ?hd (cs := #[.int .i64 0, .int .i64 0, .int .i64 0, .bool false]) (t := 25) ?hr ?_; (case hd => rfl); (case hg => rfl); (case hr => first | (go_simp; done) | (go_simp; rfl)); intro gb268 hg w9 hbox hb; have n0_ := Aside0.mk (below_step au71 hb); have n1_ := Aside0.mk (hbox); have n2_ := Aside0.mk ((by rw [hg]; exact (below_size au71) : w.heap.size ≤ gb268)); have n3_ := Aside0.mk ((by rw [hg]; exact (below_size au71) : w.heap.size ≤ gb268)); clear HB; have HB := n0_; have BK268 := n1_; have GW268 := n2_; have GE268 := n3_; clear n0_ n1_ n2_ n3_; clear hb hbox hg) | ((with_reducible refine gate_dst (N := 4) rfl ?_); refine box_event ?hg (N := 4) ?hd (cs := #[.int .i64 0, .int .i64 0, .int .i64 0, .bool false]) (t := 25) ?hr ?_; (case hd => rfl); (case hg => rfl); (case hr => first | (go_simp; done) | (go_simp; rfl)); intro gb269 hg w10 hbox hb; have n0_ := Aside0.mk (blk_below (g := gb268) (o := .cells #[.int .i64 0, .int .i64 0, .int .i64 0, .bool false] 25 (0, 0)) au96 hb); have n1_ := Aside0.mk (below_step au68 hb); have n2_ := Aside0.mk (hbox); have n3_ := Aside0.mk ((by rw [hg]; exact (below_size au68) : w.heap.size ≤ gb269)); have n4_ := Aside0.mk ((by rw [hg]; exact (below_size au68) : w.heap.size ≤ gb269)); have n5_ := Aside0.mk ((by rw [hg]; exact Nat.ne_of_lt (blk_lt (g := gb268) (o := .cells #[.int .i64 0, .int .i64 0, .int .i64 0, .bool false] 25 (0, 0)) au96) : gb268 ≠ gb269)); have n6_ := Aside0.mk ((by rw [hg]; exact Nat.ne_of_gt (blk_lt (g := gb268) (o := .cells #[.int .i64 0, .int .i64 0, .int .i64 0, .bool false] 25 (0, 0)) au96) : gb269 ≠ gb268)); clear BK268; clear HB; have BK268 := n0_; have HB := n1_; have BK269 := n2_; have GW269 := n3_; have GE269 := n4_; have NB268_269 := n5_; have NB269_268 := n6_; clear n0_ n1_ n2_ n3_ n4_ n5_ n6_; clear hb hbox hg; have hnb11 := NB268_269.out; have hnc11 := NB269_268.out; have hcz12_0 : w10.cell? ⟨gb268, 0, none⟩ = some (.int .i64 0) := (blk_cell BK268.out 0).trans rfl; have hcz12_1 : w10.cell? ⟨gb268, 1, none⟩ = some (.int .i64 0) := (blk_cell BK268.out 1).trans rfl; have hcz12_2 : w10.cell? ⟨gb268, 2, none⟩ = some (.int .i64 0) := (blk_cell BK268.out 2).trans rfl; have hcz12_3 : w10.cell? ⟨gb268, 3, none⟩ = some (.bool false) := (blk_cell BK268.out 3).trans rfl; have hfz12_0 := blk_frozen BK268.out 0; have hfz12_1 := blk_frozen BK268.out 1; have hfz12_2 := blk_frozen BK268.out 2; have hfz12_3 := blk_frozen BK268.out 3; have hcz13_0 : w10.cell? ⟨gb269, 0, none⟩ = some (.int .i64 0) := (blk_cell BK269.out 0).trans rfl; have hcz13_1 : w10.cell? ⟨gb269, 1, none⟩ = some (.int .i64 0) := (blk_cell BK269.out 1).trans rfl; have hcz13_2 : w10.cell? ⟨gb269, 2, none⟩ = some (.int .i64 0) := (blk_cell BK269.out 2).trans rfl; have hcz13_3 : w10.cell? ⟨gb269, 3, none⟩ = some (.bool false) := (blk_cell BK269.out 3).trans rfl; have hfz13_0 := blk_frozen BK269.out 0; have hfz13_1 := blk_frozen BK269.out 1; have hfz13_2 := blk_frozen BK269.out 2; have hfz13_3 := blk_frozen BK269.out 3) | ((with_reducible refine gate_callee (f := 7) rfl ?_); refine goesL_ (some 23) rfl rfl Try.func7 (by kernel_rfl) rfl #[.agg #[.int .i64 t260, .int .i64 t261, .int .i64 t262, .bool t263], .agg #[.int .i64 t264, .int .i64 t265, .int .i64 t266, .bool t267]] rfl au70 ?_; (with_reducible refine (impl_MergeDates.calls k t260 t261 t262 t263 t264 t265 t266 t267 t270 t271 t272 t273 t274 _ A5.out).mono ?_); rintro e w14 ⟨rfl, hb⟩; refine ⟨_, rfl, ?_⟩; have n0_ := Aside0.mk (blk_below (g := gb268) (o := .cells #[.int .i64 t260, .int .i64 t261, .int .i64 t262, .bool t263] 25 (0, 0)) (by (with_reducible repeat (first | refine blk_drewN ?_ _ | refine blk_drew ?_ | refine blk_alloc ?_ _)); refine blk_far ?_ NB268_269.out _; (with_reducible repeat (first | refine blk_drewN ?_ _ | refine blk_drew ?_ | refine blk_alloc ?_ _)); refine blk_far ?_ NB268_269.out _; (with_reducible repeat (first | refine blk_drewN ?_ _ | refine blk_drew ?_ | refine blk_alloc ?_ _)); refine blk_far ?_ NB268_269.out _; (with_reducible repeat (first | refine blk_drewN ?_ _ | refine blk_drew ?_ | refine blk_alloc ?_ _)); refine blk_far ?_ NB268_269.out _; (with_reducible repeat (first | refine blk_drewN ?_ _ | refine blk_drew ?_ | refine blk_alloc ?_ _)); refine blk_put (cs := #[.int .i64 t260, .int .i64 t261, .int .i64 t262, .bool false]) ?_ 3 _ rfl; (with_reducible repeat (first | refine blk_drewN ?_ _ | refine blk_drew ?_ | refine blk_alloc ?_ _)); refine blk_put (cs := #[.int .i64 t260, .int .i64 t261, .int .i64 0, .bool false]) ?_ 2 _ rfl; (with_reducible repeat (first | refine blk_drewN ?_ _ | refine blk_drew ?_ | refine blk_alloc ?_ _)); refine blk_put (cs := #[.int .i64 t260, .int .i64 0, .int .i64 0, .bool false]) ?_ 1 _ rfl; (with_reducible repeat (first | refine blk_drewN ?_ _ | refine blk_drew ?_ | refine blk_alloc ?_ _)); refine blk_put (cs := #[.int .i64 0, .int .i64 0, .int .i64 0, .bool false]) ?_ 0 _ rfl; (with_reducible repeat (first | refine blk_drewN ?_ _ | refine blk_drew ?_ | refine blk_alloc ?_ _)); exact BK268.out) hb); have n1_ := Aside0.mk (blk_below (g := gb269) (o := .cells #[.int .i64 t264, .int .i64 t265, .int .i64 t266, .bool t267] 25 (0, 0)) (by (with_reducible repeat (first | refine blk_drewN ?_ _ | refine blk_drew ?_ | refine blk_alloc ?_ _)); refine blk_put (cs := #[.int .i64 t264, .int .i64 t265, .int .i64 t266, .bool false]) ?_ 3 _ rfl; (with_reducible repeat (first | refine blk_drewN ?_ _ | refine blk_drew ?_ | refine blk_alloc ?_ _)); refine blk_put (cs := #[.int .i64 t264, .int .i64 t265, .int .i64 0, .bool false]) ?_ 2 _ rfl; (with_reducible repeat (first | refine blk_drewN ?_ _ | refine blk_drew ?_ | refine blk_alloc ?_ _)); refine blk_put (cs := #[.int .i64 t264, .int .i64 0, .int .i64 0, .bool false]) ?_ 1 _ rfl; (with_reducible repeat (first | refine blk_drewN ?_ _ | refine blk_drew ?_ | refine blk_alloc ?_ _)); refine blk_put (cs := #[.int .i64 0, .int .i64 0, .int .i64 0, .bool false]) ?_ 0 _ rfl; (with_reducible repeat (first | refine blk_drewN ?_ _ | refine blk_drew ?_ | refine blk_alloc ?_ _)); refine blk_far ?_ NB269_268.out _; (with_reducible repeat (first | refine blk_drewN ?_ _ | refine blk_drew ?_ | refine blk_alloc ?_ _)); refine blk_far ?_ NB269_268.out _; (with_reducible repeat (first | refine blk_drewN ?_ _ | refine blk_drew ?_ | refine blk_alloc ?_ _)); refine blk_far ?_ NB269_268.out _; (with_reducible repeat (first | refine blk_drewN ?_ _ | refine blk_drew ?_ | refine blk_alloc ?_ _)); refine blk_far ?_ NB269_268.out _; (with_reducible repeat (first | refine blk_drewN ?_ _ | refine blk_drew ?_ | refine blk_alloc ?_ _)); exact BK269.out) hb); have n2_ := Aside0.mk (below_step au54 hb); clear BK268; clear BK269; clear HB; have BK268 := n0_; have BK269 := n1_; have HB := n2_; clear n0_ n1_ n2_; (try clear hb); (try clear hb2); (try clear hk); (try clear hi)) | ((with_reducible refine gate_dst (N := 5) rfl ?_); refine box_event ?hg (N := 5) ?hd (cs := #[.int .i64 0, .int .i64 0, .int .i64 0, .bool false]) (t := 25) ?hr ?_; (case hd => rfl); (case hg => rfl); (case hr => first | (go_simp; done) | (go_simp; rfl)); intro gb275 hg w15 hbox hb; have n0_ := Aside0.mk (blk_below (g := gb268) (o := .cells #[.int .i64 t260, .int .i64 t261, .int .i64 t262, .bool t263] 25 (0, 0)) au96 hb); have n1_ := Aside0.mk (blk_below (g := gb269) (o := .cells #[.int .i64 t264, .int .i64 t265, .int .i64 t266, .bool t267] 25 (0, 0)) au97 hb); have n2_ := Aside0.mk (below_step au54 hb); have n3_ := Aside0.mk (hbox); have n4_ := Aside0.mk ((by rw [hg]; exact (below_size au54) : w.heap.size ≤ gb275)); have n5_ := Aside0.mk ((by rw [hg]; exact (below_size au54) : w.heap.size ≤ gb275)); have n6_ := Aside0.mk ((by rw [hg]; exact Nat.ne_of_lt (blk_lt (g := gb268) (o := .cells #[.int .i64 t260, .int .i64 t261, .int .i64 t262, .bool t263] 25 (0, 0)) au96) : gb268 ≠ gb275)); have n7_ := Aside0.mk ((by rw [hg]; exact Nat.ne_of_gt (blk_lt (g := gb268) (o := .cells #[.int .i64 t260, .int .i64 t261, .int .i64 t262, .bool t263] 25 (0, 0)) au96) : gb275 ≠ gb268)); have n8_ := Aside0.mk ((by rw [hg]; exact Nat.ne_of_lt (blk_lt (g := gb269) (o := .cells #[.int .i64 t264, .int .i64 t265, .int .i64 t266, .bool t267] 25 (0, 0)) au97) : gb269 ≠ gb275)); have n9_ := Aside0.mk ((by rw [hg]; exact Nat.ne_of_gt (blk_lt (g := gb269) (o := .cells #[.int .i64 t264, .int .i64 t265, .int .i64 t266, .bool t267] 25 (0, 0)) au97) : gb275 ≠ gb269)); clear BK268; clear BK269; clear HB; have BK268 := n0_; have BK269 := n1_; have HB := n2_; have BK275 := n3_; have GW275 := n4_; have GE275 := n5_; have NB268_275 := n6_; have NB275_268 := n7_; have NB269_275 := n8_; have NB275_269 := n9_; clear n0_ n1_ n2_ n3_ n4_ n5_ n6_ n7_ n8_ n9_; clear hb hbox hg; have hnb16 := NB275_268.out; have hnc16 := NB268_275.out; have hnb17 := NB275_269.out; have hnc17 := NB269_275.out; have hcz18_0 : w15.cell? ⟨gb275, 0, none⟩ = some (.int .i64 0) := (blk_cell BK275.out 0).trans rfl; have hcz18_1 : w15.cell? ⟨gb275, 1, none⟩ = some (.int .i64 0) := (blk_cell BK275.out 1).trans rfl; have hcz18_2 : w15.cell? ⟨gb275, 2, none⟩ = some (.int .i64 0) := (blk_cell BK275.out 2).trans rfl; have hcz18_3 : w15.cell? ⟨gb275, 3, none⟩ = some (.bool false) := (blk_cell BK275.out 3).trans rfl; have hfz18_0 := blk_frozen BK275.out 0; have hfz18_1 := blk_frozen BK275.out 1; have hfz18_2 := blk_frozen BK275.out 2; have hfz18_3 := blk_frozen BK275.out 3; have hcz19_0 : w15.cell? ⟨gb268, 0, none⟩ = some (.int .i64 t260) := (blk_cell BK268.out 0).trans rfl; have hcz19_1 : w15.cell? ⟨gb268, 1, none⟩ = some (.int .i64 t261) := (blk_cell BK268.out 1).trans rfl; have hcz19_2 : w15.cell? ⟨gb268, 2, none⟩ = some (.int .i64 t262) := (blk_cell BK268.out 2).trans rfl; have hcz19_3 : w15.cell? ⟨gb268, 3, none⟩ = some (.bool t263) := (blk_cell BK268.out 3).trans rfl; have hfz19_0 := blk_frozen BK268.out 0; have hfz19_1 := blk_frozen BK268.out 1; have hfz19_2 := blk_frozen BK268.out 2; have hfz19_3 := blk_frozen BK268.out 3; have hcz20_0 : w15.cell? ⟨gb269, 0, none⟩ = some (.int .i64 t264) := (blk_cell BK269.out 0).trans rfl; have hcz20_1 : w15.cell? ⟨gb269, 1, none⟩ = some (.int .i64 t265) := (blk_cell BK269.out 1).trans rfl; have hcz20_2 : w15.cell? ⟨gb269, 2, none⟩ = some (.int .i64 t266) := (blk_cell BK269.out 2).trans rfl; have hcz20_3 : w15.cell? ⟨gb269, 3, none⟩ = some (.bool t267) := (blk_cell BK269.out 3).trans rfl; have hfz20_0 := blk_frozen BK269.out 0; have hfz20_1 := blk_frozen BK269.out 1; have hfz20_2 := blk_frozen BK269.out 2; have hfz20_3 := blk_frozen BK269.out 3) | ((with_reducible refine gate_callee (f := 8) rfl ?_); refine goesL_ (some 29) rfl rfl Try.func8 (by kernel_rfl) rfl #[.agg #[.int .i64 t260, .int .i64 t261, .int .i64 t262, .bool t263], .agg #[.int .i64 t264, .int .i64 t265, .int .i64 t266, .bool t267]] rfl au70 ?_; (with_reducible refine (spec_MergeDates.calls k t260 t261 t262 t263 t264 t265 t266 t267 t276 t277 t278 t279 t280 _ A6.out).mono ?_); rintro e w21 ⟨rfl, hb⟩; refine ⟨_, rfl, ?_⟩; have n0_ := Aside0.mk (blk_below (g := gb268) (o := .cells #[.int .i64 t260, .int .i64 t261, .int .i64 t262, .bool t263] 25 (0, 0)) (by (with_reducible repeat (first | refine blk_drewN ?_ _ | refine blk_drew ?_ | refine blk_alloc ?_ _)); refine blk_far ?_ NB268_275.out _; (with_reducible repeat (first | refine blk_drewN ?_ _ | refine blk_drew ?_ | refine blk_alloc ?_ _)); refine blk_far ?_ NB268_275.out _; (with_reducible repeat (first | refine blk_drewN ?_ _ | refine blk_drew ?_ | refine blk_alloc ?_ _)); refine blk_far ?_ NB268_275.out _; (with_reducible repeat (first | refine blk_drewN ?_ _ | refine blk_drew ?_ | refine blk_alloc ?_ _)); refine blk_far ?_ NB268_275.out _; (with_reducible repeat (first | refine blk_drewN ?_ _ | refine blk_drew ?_ | refine blk_alloc ?_ _)); exact BK268.out) hb); have n1_ := Aside0.mk (blk_below (g := gb269) (o := .cells #[.int .i64 t264, .int .i64 t265, .int .i64 t266, .bool t267] 25 (0, 0)) (by (with_reducible repeat (first | refine blk_drewN ?_ _ | refine blk_drew ?_ | refine blk_alloc ?_ _)); refine blk_far ?_ NB269_275.out _; (with_reducible repeat (first | refine blk_drewN ?_ _ | refine blk_drew ?_ | refine blk_alloc ?_ _)); refine blk_far ?_ NB269_275.out _; (with_reducible repeat (first | refine blk_drewN ?_ _ | refine blk_drew ?_ | refine blk_alloc ?_ _)); refine blk_far ?_ NB269_275.out _; (with_reducible repeat (first | refine blk_drewN ?_ _ | refine blk_drew ?_ | refine blk_alloc ?_ _)); refine blk_far ?_ NB269_275.out _; (with_reducible repeat (first | refine blk_drewN ?_ _ | refine blk_drew ?_ | refine blk_alloc ?_ _)); exact BK269.out) hb); have n2_ := Aside0.mk (blk_below (g := gb275) (o := .cells #[.int .i64 t270, .int .i64 t271, .int .i64 t272, .bool t273] 25 (0, 0)) (by (with_reducible repeat (first | refine blk_drewN ?_ _ | refine blk_drew ?_ | refine blk_alloc ?_ _)); refine blk_put (cs := #[.int .i64 t270, .int .i64 t271, .int .i64 t272, .bool false]) ?_ 3 _ rfl; (with_reducible repeat (first | refine blk_drewN ?_ _ | refine blk_drew ?_ | refine blk_alloc ?_ _)); refine blk_put (cs := #[.int .i64 t270, .int .i64 t271, .int .i64 0, .bool false]) ?_ 2 _ rfl; (with_reducible repeat (first | refine blk_drewN ?_ _ | refine blk_drew ?_ | refine blk_alloc ?_ _)); refine blk_put (cs := #[.int .i64 t270, .int .i64 0, .int .i64 0, .bool false]) ?_ 1 _ rfl; (with_reducible repeat (first | refine blk_drewN ?_ _ | refine blk_drew ?_ | refine blk_alloc ?_ _)); refine blk_put (cs := #[.int .i64 0, .int .i64 0, .int .i64 0, .bool false]) ?_ 0 _ rfl; (with_reducible repeat (first | refine blk_drewN ?_ _ | refine blk_drew ?_ | refine blk_alloc ?_ _)); exact BK275.out) hb); have n3_ := Aside0.mk (below_step au39 hb); clear BK268; clear BK269; clear BK275; clear HB; have BK268 := n0_; have BK269 := n1_; have BK275 := n2_; have HB := n3_; clear n0_ n1_ n2_ n3_; (try clear hb); (try clear hb2); (try clear hk); (try clear hi)) | ((with_reducible refine gate_dst (N := 7) rfl ?_); refine box_event ?hg (N := 7) ?hd (cs := #[.int .i64 0, .int .i64 0, .int .i64 0, .bool false]) (t := 25) ?hr ?_; (case hd => rfl); (case hg => rfl); (case hr => first | (go_simp; done) | (go_simp; rfl)); intro gb281 hg w22 hbox hb; have n0_ := Aside0.mk (blk_below (g := gb268) (o := .cells #[.int .i64 t260, .int .i64 t261, .int .i64 t262, .bool t263] 25 (0, 0)) au96 hb); have n1_ := Aside0.mk (blk_below (g := gb269) (o := .cells #[.int .i64 t264, .int .i64 t265, .int .i64 t266, .bool t267] 25 (0, 0)) au97 hb); have n2_ := Aside0.mk (blk_below (g := gb275) (o := .cells #[.int .i64 t270, .int .i64 t271, .int .i64 t272, .bool t273] 25 (0, 0)) au98 hb); have n3_ := Aside0.mk (below_step au39 hb); have n4_ := Aside0.mk (hbox); have n5_ := Aside0.mk ((by rw [hg]; exact (below_size au39) : w.heap.size ≤ gb281)); have n6_ := Aside0.mk ((by rw [hg]; exact (below_size au39) : w.heap.size ≤ gb281)); have n7_ := Aside0.mk ((by rw [hg]; exact Nat.ne_of_lt (blk_lt (g := gb268) (o := .cells #[.int .i64 t260, .int .i64 t261, .int .i64 t262, .bool t263] 25 (0, 0)) au96) : gb268 ≠ gb281)); have n8_ := Aside0.mk ((by rw [hg]; exact Nat.ne_of_gt (blk_lt (g := gb268) (o := .cells #[.int .i64 t260, .int .i64 t261, .int .i64 t262, .bool t263] 25 (0, 0)) au96) : gb281 ≠ gb268)); have n9_ := Aside0.mk ((by rw [hg]; exact Nat.ne_of_lt (blk_lt (g := gb269) (o := .cells #[.int .i64 t264, .int .i64 t265, .int .i64 t266, .bool t267] 25 (0, 0)) au97) : gb269 ≠ gb281)); have n10_ := Aside0.mk ((by rw [hg]; exact Nat.ne_of_gt (blk_lt (g := gb269) (o := .cells #[.int .i64 t264, .int .i64 t265, .int .i64 t266, .bool t267] 25 (0, 0)) au97) : gb281 ≠ gb269)); have n11_ := Aside0.mk ((by rw [hg]; exact Nat.ne_of_lt (blk_lt (g := gb275) (o := .cells #[.int .i64 t270, .int .i64 t271, .int .i64 t272, .bool t273] 25 (0, 0)) au98) : gb275 ≠ gb281)); have n12_ := Aside0.mk ((by rw [hg]; exact Nat.ne_of_gt (blk_lt (g := gb275) (o := .cells #[.int .i64 t270, .int .i64 t271, .int .i64 t272, .bool t273] 25 (0, 0)) au98) : gb281 ≠ gb275)); clear BK268; clear BK269; clear BK275; clear HB; have BK268 := n0_; have BK269 := n1_; have BK275 := n2_; have HB := n3_; have BK281 := n4_; have GW281 := n5_; have GE281 := n6_; have NB268_281 := n7_; have NB281_268 := n8_; have NB269_281 := n9_; have NB281_269 := n10_; have NB275_281 := n11_; have NB281_275 := n12_; clear n0_ n1_ n2_ n3_ n4_ n5_ n6_ n7_ n8_ n9_ n10_ n11_ n12_; clear hb hbox hg; have hnb23 := NB281_268.out; have hnc23 := NB268_281.out; have hnb24 := NB281_269.out; have hnc24 := NB269_281.out; have hnb25 := NB281_275.out; have hnc25 := NB275_281.out; have hcz26_0 : w22.cell? ⟨gb281, 0, none⟩ = some (.int .i64 0) := (blk_cell BK281.out 0).trans rfl; have hcz26_1 : w22.cell? ⟨gb281, 1, none⟩ = some (.int .i64 0) := (blk_cell BK281.out 1).trans rfl; have hcz26_2 : w22.cell? ⟨gb281, 2, none⟩ = some (.int .i64 0) := (blk_cell BK281.out 2).trans rfl; have hcz26_3 : w22.cell? ⟨gb281, 3, none⟩ = some (.bool false) := (blk_cell BK281.out 3).trans rfl; have hfz26_0 := blk_frozen BK281.out 0; have hfz26_1 := blk_frozen BK281.out 1; have hfz26_2 := blk_frozen BK281.out 2; have hfz26_3 := blk_frozen BK281.out 3))
  (try simp only [Act.put, List.setIfInBounds_toArray, List.set_cons_zero, List.set_cons_succ])
  go_cut [39] (fun v39 wc => ∃ (kq : Nat) (x39_6 : Bool), v39 = .bool x39_6 ∧ Aside0 (laws_FnDateMerging.j0 kq t274 x39_6 t260 t261 t262 t263 t264 t265 t266 t267 t270 t271 t272 t273 = some r) ∧ Aside0 (kq ≤ k) ∧ Aside0 (wc.heap[gb268]? = some (.cells #[.int .i64 t260, .int .i64 t261, .int .i64 t262, .bool t263] 25 (0, 0))) ∧ Aside0 (wc.heap[gb269]? = some (.cells #[.int .i64 t264, .int .i64 t265, .int .i64 t266, .bool t267] 25 (0, 0))) ∧ Aside0 (wc.heap[gb275]? = some (.cells #[.int .i64 t270, .int .i64 t271, .int .i64 t272, .bool t273] 25 (0, 0))) ∧ Aside0 (wc.heap[gb281]? = some (.cells #[.int .i64 t276, .int .i64 t277, .int .i64 t278, .bool t279] 25 (0, 0))) ∧ Aside0 (Below w.heap.size w wc))
  case first =>
   have H := HC7.out
   clear HC7
   by_cases c27 : (!(t270 == t276) || (!(t271 == t277) || (!(t272 == t278) || (!(t273 == t279))))) = true
   ·
    rw [if_pos c27] at H
    have c27b0 : (!(t270 == t276) || (!(t271 == t277) || (!(t272 == t278) || (!(t273 == t279))))) = true := c27
    clear c27
    (first | rw [c27b0] | (simp only [i64_w, i32_w]; rw [c27b0]) | skip)
    have H' := Aside0.mk H
    clear H
    exact laws_FnDateMerging.L0
   ·
    rw [if_neg c27] at H
    have c27b0 : (!(t270 == t276) || (!(t271 == t277) || (!(t272 == t278) || (!(t273 == t279))))) = false := by simpa using c27
    clear c27
    (first | rw [c27b0] | (simp only [i64_w, i32_w]; rw [c27b0]) | skip)
    have H' := Aside0.mk H
    clear H
    exact laws_FnDateMerging.L0
  case rest =>
   clear HC7
   try clear c1
   try clear c2
   try clear p2
   try clear c3
   try clear c4
   try clear c5
   try clear c6
   try clear c7
   try clear c8
   try clear c11
   try clear c16
   try clear c17
   try clear c23
   try clear c24
   try clear c25
   try clear c27
   try clear c27b0
   try clear c28
   try clear c29
   try clear c30
   try clear c32
   try clear c33
   try clear c35
   try clear c36
   try clear c37
   try clear c39
   try clear c40
   try clear hcz12_0
   try clear hcz12_1
   try clear hcz12_2
   try clear hcz12_3
   try clear hcz13_0
   try clear hcz13_1
   try clear hcz13_2
   try clear hcz13_3
   try clear hcz18_0
   try clear hcz18_1
   try clear hcz18_2
   try clear hcz18_3
   try clear hcz19_0
   try clear hcz19_1
   try clear hcz19_2
   try clear hcz19_3
   try clear hcz20_0
   try clear hcz20_1
   try clear hcz20_2
   try clear hcz20_3
   try clear hcz26_0
   try clear hcz26_1
   try clear hcz26_2
   try clear hcz26_3
   try clear hcz31_0
   try clear hcz31_1
   try clear hcz31_2
   try clear hcz31_3
   try clear hcz34_0
   try clear hcz34_1
   try clear hcz34_2
   try clear hcz34_3
   try clear hcz38_0
   try clear hcz38_1
   try clear hcz38_2
   try clear hcz38_3
   try clear hcz41_0
   try clear hcz41_1
   try clear hcz41_2
   try clear hcz41_3
   try clear hfz12_0
   try clear hfz12_1
   try clear hfz12_2
   try clear hfz12_3
   try clear hfz13_0
   try clear hfz13_1
   try clear hfz13_2
   try clear hfz13_3
   try clear hfz18_0
   try clear hfz18_1
   try clear hfz18_2
   try clear hfz18_3
   try clear hfz19_0
   try clear hfz19_1
   try clear hfz19_2
   try clear hfz19_3
   try clear hfz20_0
   try clear hfz20_1
   try clear hfz20_2
   try clear hfz20_3
   try clear hfz26_0
   try clear hfz26_1
   try clear hfz26_2
   try clear hfz26_3
   try clear hfz31_0
   try clear hfz31_1
   try clear hfz31_2
   try clear hfz31_3
   try clear hfz34_0
   try clear hfz34_1
   try clear hfz34_2
   try clear hfz34_3
   try clear hfz38_0
   try clear hfz38_1
   try clear hfz38_2
   try clear hfz38_3
   try clear hfz41_0
   try clear hfz41_1
   try clear hfz41_2
   try clear hfz41_3
   obtain ⟨kq, x39_6, rfl, HA, HJ6, BK268, BK269, BK275, BK281, HB⟩ := hcut
   cases kq with
   | zero => exact absurd HA.out (by simp [laws_FnDateMerging.j0])
   | succ kj6 =>
    have H := HA.out
    clear HA
    simp only [laws_FnDateMerging.j0] at H
    by_cases c42 : x39_6 = true
    ·
     subst c42
     replace H := (if_pos rfl).symm.trans H
     obtain rfl := Option.some.inj H
     go_wp2
     go_ret
     exact ax11
    ·
     replace c42 := Bool.eq_false_iff.mpr c42
     subst c42
     replace H := (if_neg (show ¬ (false = true) by decide)).symm.trans H
     by_cases c43 : t274 = true
     ·
      subst c43
      replace H := (if_pos rfl).symm.trans H
      replace H := Option.bind_eq_some_iff.mp H
      obtain ⟨⟨t282, t283⟩, A440, H⟩ := H
      replace H : ((impl_Refines.f kj6 t270 t271 t272 t273 t264 t265 t266 t267).bind fun bt284 => (if t283 = true then (if bt284.2 = true then (if t282 = true then (if bt284.1 = true then (if (t270 == t260 && (t271 == t261 && (t272 == t262 && (t273 == t263)))) = true then (some true) else (some (t270 == t264 && (t271 == t265 && (t272 == t266 && (t273 == t267)))))) else (some false)) else (some false)) else (some false)) else (some false))) = some r := H
      have A44 := Aside0.mk A440
      clear A440
      replace H := Option.bind_eq_some_iff.mp H
      obtain ⟨⟨t284, t285⟩, A450, H⟩ := H
      replace H : (if t283 = true then (if t285 = true then (if t282 = true then (if t284 = true then (if (t270 == t260 && (t271 == t261 && (t272 == t262 && (t273 == t263)))) = true then (some true) else (some (t270 == t264 && (t271 == t265 && (t272 == t266 && (t273 == t267)))))) else (some false)) else (some false)) else (some false)) else (some false)) = some r := H
      have A45 := Aside0.mk A450
      clear A450
      by_cases c46 : t283 = true
      ·
       subst c46
       replace H := (if_pos rfl).symm.trans H
       by_cases c47 : t285 = true
       ·
        subst c47
        replace H := (if_pos rfl).symm.trans H
        by_cases c48 : t282 = true
        ·
         subst c48
         replace H := (if_pos rfl).symm.trans H
         by_cases c49 : t284 = true
         ·
          subst c49
          replace H := (if_pos rfl).symm.trans H
          by_cases c50 : (t270 == t260 && (t271 == t261 && (t272 == t262 && (t273 == t263)))) = true
          ·
           rw [if_pos c50] at H
           have c50b0 : (t270 == t260 && (t271 == t261 && (t272 == t262 && (t273 == t263)))) = true := c50
           (try (have c50b1 : decide (t270 = t260 && (t271 == t261 && (t272 == t262 && (t273 == t263)))) = true := by simpa using c50))
           (try (have c50b2 : (t270 == t260 && (t271 == t261 && (t272 == t262 && (t273 == t263)))) = true := by simpa using c50))
           clear c50
           obtain rfl := Option.some.inj H
           have hnb51 := NB275_268.out
           have hnc51 := NB268_275.out
           have hnb52 := NB275_269.out
           have hnc52 := NB269_275.out
           have hnb53 := NB275_281.out
           have hnc53 := NB281_275.out
           have hcz54_0 : wc.cell? ⟨gb275, 0, none⟩ = some (.int .i64 t270) := (blk_cell BK275.out 0).trans rfl
           have hcz54_1 : wc.cell? ⟨gb275, 1, none⟩ = some (.int .i64 t271) := (blk_cell BK275.out 1).trans rfl
           have hcz54_2 : wc.cell? ⟨gb275, 2, none⟩ = some (.int .i64 t272) := (blk_cell BK275.out 2).trans rfl
           have hcz54_3 : wc.cell? ⟨gb275, 3, none⟩ = some (.bool t273) := (blk_cell BK275.out 3).trans rfl
           have hfz54_0 := blk_frozen BK275.out 0
           have hfz54_1 := blk_frozen BK275.out 1
           have hfz54_2 := blk_frozen BK275.out 2
           have hfz54_3 := blk_frozen BK275.out 3
           have hnb55 := NB268_269.out
           have hnc55 := NB269_268.out
           have hnb56 := NB268_281.out
           have hnc56 := NB281_268.out
           have hcz57_0 : wc.cell? ⟨gb268, 0, none⟩ = some (.int .i64 t260) := (blk_cell BK268.out 0).trans rfl
           have hcz57_1 : wc.cell? ⟨gb268, 1, none⟩ = some (.int .i64 t261) := (blk_cell BK268.out 1).trans rfl
           have hcz57_2 : wc.cell? ⟨gb268, 2, none⟩ = some (.int .i64 t262) := (blk_cell BK268.out 2).trans rfl
           have hcz57_3 : wc.cell? ⟨gb268, 3, none⟩ = some (.bool t263) := (blk_cell BK268.out 3).trans rfl
           have hfz57_0 := blk_frozen BK268.out 0
           have hfz57_1 := blk_frozen BK268.out 1
           have hfz57_2 := blk_frozen BK268.out 2
           have hfz57_3 := blk_frozen BK268.out 3
           go_wp2_with (first | ((with_reducible refine gate_callee (f := 9) rfl ?_); refine goesL_ (some 48) rfl rfl Try.func9 (by kernel_rfl) rfl #[.agg #[.int .i64 t270, .int .i64 t271, .int .i64 t272, .bool t273], .agg #[.int .i64 t260, .int .i64 t261, .int .i64 t262, .bool t263]] rfl au70 ?_; (with_reducible refine (impl_Refines.calls kj6 t270 t271 t272 t273 t260 t261 t262 t263 true _ _ A44.out).mono ?_); rintro e w58 ⟨rfl, hb⟩; refine ⟨_, rfl, ?_⟩; have n0_ := Aside0.mk (blk_below (g := gb268) (o := .cells #[.int .i64 t260, .int .i64 t261, .int .i64 t262, .bool t263] 25 (0, 0)) au96 hb); have n1_ := Aside0.mk (blk_below (g := gb269) (o := .cells #[.int .i64 t264, .int .i64 t265, .int .i64 t266, .bool t267] 25 (0, 0)) au97 hb); have n2_ := Aside0.mk (blk_below (g := gb275) (o := .cells #[.int .i64 t270, .int .i64 t271, .int .i64 t272, .bool t273] 25 (0, 0)) au98 hb); have n3_ := Aside0.mk (blk_below (g := gb281) (o := .cells #[.int .i64 t276, .int .i64 t277, .int .i64 t278, .bool t279] 25 (0, 0)) au99 hb); have n4_ := Aside0.mk (below_step au30 hb); clear BK268; clear BK269; clear BK275; clear BK281; clear HB; have BK268 := n0_; have BK269 := n1_; have BK275 := n2_; have BK281 := n3_; have HB := n4_; clear n0_ n1_ n2_ n3_ n4_; (try clear hb); (try clear hb2); (try clear hk); (try clear hi); have hcz59_0 : w58.cell? ⟨gb275, 0, none⟩ = some (.int .i64 t270) := (blk_cell BK275.out 0).trans rfl; have hcz59_1 : w58.cell? ⟨gb275, 1, none⟩ = some (.int .i64 t271) := (blk_cell BK275.out 1).trans rfl; have hcz59_2 : w58.cell? ⟨gb275, 2, none⟩ = some (.int .i64 t272) := (blk_cell BK275.out 2).trans rfl; have hcz59_3 : w58.cell? ⟨gb275, 3, none⟩ = some (.bool t273) := (blk_cell BK275.out 3).trans rfl; have hfz59_0 := blk_frozen BK275.out 0; have hfz59_1 := blk_frozen BK275.out 1; have hfz59_2 := blk_frozen BK275.out 2; have hfz59_3 := blk_frozen BK275.out 3; have hnb60 := NB269_281.out; have hnc60 := NB281_269.out; have hcz61_0 : w58.cell? ⟨gb269, 0, none⟩ = some (.int .i64 t264) := (blk_cell BK269.out 0).trans rfl; have hcz61_1 : w58.cell? ⟨gb269, 1, none⟩ = some (.int .i64 t265) := (blk_cell BK269.out 1).trans rfl; have hcz61_2 : w58.cell? ⟨gb269, 2, none⟩ = some (.int .i64 t266) := (blk_cell BK269.out 2).trans rfl; have hcz61_3 : w58.cell? ⟨gb269, 3, none⟩ = some (.bool t267) := (blk_cell BK269.out 3).trans rfl; have hfz61_0 := blk_frozen BK269.out 0; have hfz61_1 := blk_frozen BK269.out 1; have hfz61_2 := blk_frozen BK269.out 2; have hfz61_3 := blk_frozen BK269.out 3) | ((with_reducible refine gate_callee (f := 9) rfl ?_); refine goesL_ (some 54) rfl rfl Try.func9 (by kernel_rfl) rfl #[.agg #[.int .i64 t270, .int .i64 t271, .int .i64 t272, .bool t273], .agg #[.int .i64 t264, .int .i64 t265, .int .i64 t266, .bool t267]] rfl au70 ?_; (with_reducible refine (impl_Refines.calls kj6 t270 t271 t272 t273 t264 t265 t266 t267 true _ _ A45.out).mono ?_); rintro e w62 ⟨rfl, hb⟩; refine ⟨_, rfl, ?_⟩; have n0_ := Aside0.mk (blk_below (g := gb268) (o := .cells #[.int .i64 t260, .int .i64 t261, .int .i64 t262, .bool t263] 25 (0, 0)) au96 hb); have n1_ := Aside0.mk (blk_below (g := gb269) (o := .cells #[.int .i64 t264, .int .i64 t265, .int .i64 t266, .bool t267] 25 (0, 0)) au97 hb); have n2_ := Aside0.mk (blk_below (g := gb275) (o := .cells #[.int .i64 t270, .int .i64 t271, .int .i64 t272, .bool t273] 25 (0, 0)) au98 hb); have n3_ := Aside0.mk (blk_below (g := gb281) (o := .cells #[.int .i64 t276, .int .i64 t277, .int .i64 t278, .bool t279] 25 (0, 0)) au99 hb); have n4_ := Aside0.mk (below_step au30 hb); clear BK268; clear BK269; clear BK275; clear BK281; clear HB; have BK268 := n0_; have BK269 := n1_; have BK275 := n2_; have BK281 := n3_; have HB := n4_; clear n0_ n1_ n2_ n3_ n4_; (try clear hb); (try clear hb2); (try clear hk); (try clear hi); have hcz63_0 : w62.cell? ⟨gb275, 0, none⟩ = some (.int .i64 t270) := (blk_cell BK275.out 0).trans rfl; have hcz63_1 : w62.cell? ⟨gb275, 1, none⟩ = some (.int .i64 t271) := (blk_cell BK275.out 1).trans rfl; have hcz63_2 : w62.cell? ⟨gb275, 2, none⟩ = some (.int .i64 t272) := (blk_cell BK275.out 2).trans rfl; have hcz63_3 : w62.cell? ⟨gb275, 3, none⟩ = some (.bool t273) := (blk_cell BK275.out 3).trans rfl; have hfz63_0 := blk_frozen BK275.out 0; have hfz63_1 := blk_frozen BK275.out 1; have hfz63_2 := blk_frozen BK275.out 2; have hfz63_3 := blk_frozen BK275.out 3; have hcz64_0 : w62.cell? ⟨gb268, 0, none⟩ = some (.int .i64 t260) := (blk_cell BK268.out 0).trans rfl; have hcz64_1 : w62.cell? ⟨gb268, 1, none⟩ = some (.int .i64 t261) := (blk_cell BK268.out 1).trans rfl; have hcz64_2 : w62.cell? ⟨gb268, 2, none⟩ = some (.int .i64 t262) := (blk_cell BK268.out 2).trans rfl; have hcz64_3 : w62.cell? ⟨gb268, 3, none⟩ = some (.bool t263) := (blk_cell BK268.out 3).trans rfl; have hfz64_0 := blk_frozen BK268.out 0; have hfz64_1 := blk_frozen BK268.out 1; have hfz64_2 := blk_frozen BK268.out 2; have hfz64_3 := blk_frozen BK268.out 3))
           go_ret
           exact ax11
          ·
           rw [if_neg c50] at H
           have c50b0 : (t270 == t260 && (t271 == t261 && (t272 == t262 && (t273 == t263)))) = false := by simpa using c50
           (try (have c50b1 : decide (t270 = t260 && (t271 == t261 && (t272 == t262 && (t273 == t263)))) = false := by simpa using c50))
           (try (have c50b2 : (t270 == t260 && (t271 == t261 && (t272 == t262 && (t273 == t263)))) = false := by simpa using c50))
           (try (have c50b3 : ¬ (t270 = t260 && (t271 == t261 && (t272 == t262 && (t273 == t263)))) := by simpa using c50))
           clear c50
           obtain rfl := Option.some.inj H
           have hnb65 := NB275_268.out
           have hnc65 := NB268_275.out
           have hnb66 := NB275_269.out
           have hnc66 := NB269_275.out
           have hnb67 := NB275_281.out
           have hnc67 := NB281_275.out
           have hcz68_0 : wc.cell? ⟨gb275, 0, none⟩ = some (.int .i64 t270) := (blk_cell BK275.out 0).trans rfl
           have hcz68_1 : wc.cell? ⟨gb275, 1, none⟩ = some (.int .i64 t271) := (blk_cell BK275.out 1).trans rfl
           have hcz68_2 : wc.cell? ⟨gb275, 2, none⟩ = some (.int .i64 t272) := (blk_cell BK275.out 2).trans rfl
           have hcz68_3 : wc.cell? ⟨gb275, 3, none⟩ = some (.bool t273) := (blk_cell BK275.out 3).trans rfl
           have hfz68_0 := blk_frozen BK275.out 0
           have hfz68_1 := blk_frozen BK275.out 1
           have hfz68_2 := blk_frozen BK275.out 2
           have hfz68_3 := blk_frozen BK275.out 3
           have hnb69 := NB268_269.out
           have hnc69 := NB269_268.out
           have hnb70 := NB268_281.out
           have hnc70 := NB281_268.out
           have hcz71_0 : wc.cell? ⟨gb268, 0, none⟩ = some (.int .i64 t260) := (blk_cell BK268.out 0).trans rfl
           have hcz71_1 : wc.cell? ⟨gb268, 1, none⟩ = some (.int .i64 t261) := (blk_cell BK268.out 1).trans rfl
           have hcz71_2 : wc.cell? ⟨gb268, 2, none⟩ = some (.int .i64 t262) := (blk_cell BK268.out 2).trans rfl
           have hcz71_3 : wc.cell? ⟨gb268, 3, none⟩ = some (.bool t263) := (blk_cell BK268.out 3).trans rfl
           have hfz71_0 := blk_frozen BK268.out 0
           have hfz71_1 := blk_frozen BK268.out 1
           have hfz71_2 := blk_frozen BK268.out 2
           have hfz71_3 := blk_frozen BK268.out 3
           go_wp2_with (first | ((with_reducible refine gate_callee (f := 9) rfl ?_); refine goesL_ (some 48) rfl rfl Try.func9 (by kernel_rfl) rfl #[.agg #[.int .i64 t270, .int .i64 t271, .int .i64 t272, .bool t273], .agg #[.int .i64 t260, .int .i64 t261, .int .i64 t262, .bool t263]] rfl au70 ?_; (with_reducible refine (impl_Refines.calls kj6 t270 t271 t272 t273 t260 t261 t262 t263 true _ _ A44.out).mono ?_); rintro e w72 ⟨rfl, hb⟩; refine ⟨_, rfl, ?_⟩; have n0_ := Aside0.mk (blk_below (g := gb268) (o := .cells #[.int .i64 t260, .int .i64 t261, .int .i64 t262, .bool t263] 25 (0, 0)) au96 hb); have n1_ := Aside0.mk (blk_below (g := gb269) (o := .cells #[.int .i64 t264, .int .i64 t265, .int .i64 t266, .bool t267] 25 (0, 0)) au97 hb); have n2_ := Aside0.mk (blk_below (g := gb275) (o := .cells #[.int .i64 t270, .int .i64 t271, .int .i64 t272, .bool t273] 25 (0, 0)) au98 hb); have n3_ := Aside0.mk (blk_below (g := gb281) (o := .cells #[.int .i64 t276, .int .i64 t277, .int .i64 t278, .bool t279] 25 (0, 0)) au99 hb); have n4_ := Aside0.mk (below_step au30 hb); clear BK268; clear BK269; clear BK275; clear BK281; clear HB; have BK268 := n0_; have BK269 := n1_; have BK275 := n2_; have BK281 := n3_; have HB := n4_; clear n0_ n1_ n2_ n3_ n4_; (try clear hb); (try clear hb2); (try clear hk); (try clear hi); have hcz73_0 : w72.cell? ⟨gb275, 0, none⟩ = some (.int .i64 t270) := (blk_cell BK275.out 0).trans rfl; have hcz73_1 : w72.cell? ⟨gb275, 1, none⟩ = some (.int .i64 t271) := (blk_cell BK275.out 1).trans rfl; have hcz73_2 : w72.cell? ⟨gb275, 2, none⟩ = some (.int .i64 t272) := (blk_cell BK275.out 2).trans rfl; have hcz73_3 : w72.cell? ⟨gb275, 3, none⟩ = some (.bool t273) := (blk_cell BK275.out 3).trans rfl; have hfz73_0 := blk_frozen BK275.out 0; have hfz73_1 := blk_frozen BK275.out 1; have hfz73_2 := blk_frozen BK275.out 2; have hfz73_3 := blk_frozen BK275.out 3; have hnb74 := NB269_281.out; have hnc74 := NB281_269.out; have hcz75_0 : w72.cell? ⟨gb269, 0, none⟩ = some (.int .i64 t264) := (blk_cell BK269.out 0).trans rfl; have hcz75_1 : w72.cell? ⟨gb269, 1, none⟩ = some (.int .i64 t265) := (blk_cell BK269.out 1).trans rfl; have hcz75_2 : w72.cell? ⟨gb269, 2, none⟩ = some (.int .i64 t266) := (blk_cell BK269.out 2).trans rfl; have hcz75_3 : w72.cell? ⟨gb269, 3, none⟩ = some (.bool t267) := (blk_cell BK269.out 3).trans rfl; have hfz75_0 := blk_frozen BK269.out 0; have hfz75_1 := blk_frozen BK269.out 1; have hfz75_2 := blk_frozen BK269.out 2; have hfz75_3 := blk_frozen BK269.out 3) | ((with_reducible refine gate_callee (f := 9) rfl ?_); refine goesL_ (some 54) rfl rfl Try.func9 (by kernel_rfl) rfl #[.agg #[.int .i64 t270, .int .i64 t271, .int .i64 t272, .bool t273], .agg #[.int .i64 t264, .int .i64 t265, .int .i64 t266, .bool t267]] rfl au70 ?_; (with_reducible refine (impl_Refines.calls kj6 t270 t271 t272 t273 t264 t265 t266 t267 true _ _ A45.out).mono ?_); rintro e w76 ⟨rfl, hb⟩; refine ⟨_, rfl, ?_⟩; have n0_ := Aside0.mk (blk_below (g := gb268) (o := .cells #[.int .i64 t260, .int .i64 t261, .int .i64 t262, .bool t263] 25 (0, 0)) au96 hb); have n1_ := Aside0.mk (blk_below (g := gb269) (o := .cells #[.int .i64 t264, .int .i64 t265, .int .i64 t266, .bool t267] 25 (0, 0)) au97 hb); have n2_ := Aside0.mk (blk_below (g := gb275) (o := .cells #[.int .i64 t270, .int .i64 t271, .int .i64 t272, .bool t273] 25 (0, 0)) au98 hb); have n3_ := Aside0.mk (blk_below (g := gb281) (o := .cells #[.int .i64 t276, .int .i64 t277, .int .i64 t278, .bool t279] 25 (0, 0)) au99 hb); have n4_ := Aside0.mk (below_step au30 hb); clear BK268; clear BK269; clear BK275; clear BK281; clear HB; have BK268 := n0_; have BK269 := n1_; have BK275 := n2_; have BK281 := n3_; have HB := n4_; clear n0_ n1_ n2_ n3_ n4_; (try clear hb); (try clear hb2); (try clear hk); (try clear hi); have hcz77_0 : w76.cell? ⟨gb275, 0, none⟩ = some (.int .i64 t270) := (blk_cell BK275.out 0).trans rfl; have hcz77_1 : w76.cell? ⟨gb275, 1, none⟩ = some (.int .i64 t271) := (blk_cell BK275.out 1).trans rfl; have hcz77_2 : w76.cell? ⟨gb275, 2, none⟩ = some (.int .i64 t272) := (blk_cell BK275.out 2).trans rfl; have hcz77_3 : w76.cell? ⟨gb275, 3, none⟩ = some (.bool t273) := (blk_cell BK275.out 3).trans rfl; have hfz77_0 := blk_frozen BK275.out 0; have hfz77_1 := blk_frozen BK275.out 1; have hfz77_2 := blk_frozen BK275.out 2; have hfz77_3 := blk_frozen BK275.out 3; have hcz78_0 : w76.cell? ⟨gb268, 0, none⟩ = some (.int .i64 t260) := (blk_cell BK268.out 0).trans rfl; have hcz78_1 : w76.cell? ⟨gb268, 1, none⟩ = some (.int .i64 t261) := (blk_cell BK268.out 1).trans rfl; have hcz78_2 : w76.cell? ⟨gb268, 2, none⟩ = some (.int .i64 t262) := (blk_cell BK268.out 2).trans rfl; have hcz78_3 : w76.cell? ⟨gb268, 3, none⟩ = some (.bool t263) := (blk_cell BK268.out 3).trans rfl; have hfz78_0 := blk_frozen BK268.out 0; have hfz78_1 := blk_frozen BK268.out 1; have hfz78_2 := blk_frozen BK268.out 2; have hfz78_3 := blk_frozen BK268.out 3; have hcz79_0 : w76.cell? ⟨gb269, 0, none⟩ = some (.int .i64 t264) := (blk_cell BK269.out 0).trans rfl; have hcz79_1 : w76.cell? ⟨gb269, 1, none⟩ = some (.int .i64 t265) := (blk_cell BK269.out 1).trans rfl; have hcz79_2 : w76.cell? ⟨gb269, 2, none⟩ = some (.int .i64 t266) := (blk_cell BK269.out 2).trans rfl; have hcz79_3 : w76.cell? ⟨gb269, 3, none⟩ = some (.bool t267) := (blk_cell BK269.out 3).trans rfl; have hfz79_0 := blk_frozen BK269.out 0; have hfz79_1 := blk_frozen BK269.out 1; have hfz79_2 := blk_frozen BK269.out 2; have hfz79_3 := blk_frozen BK269.out 3))
           go_ret
           exact ax11
         ·
          replace c49 := Bool.eq_false_iff.mpr c49
          subst c49
          replace H := (if_neg (show ¬ (false = true) by decide)).symm.trans H
          obtain rfl := Option.some.inj H
          have hnb80 := NB275_268.out
          have hnc80 := NB268_275.out
          have hnb81 := NB275_269.out
          have hnc81 := NB269_275.out
          have hnb82 := NB275_281.out
          have hnc82 := NB281_275.out
          have hcz83_0 : wc.cell? ⟨gb275, 0, none⟩ = some (.int .i64 t270) := (blk_cell BK275.out 0).trans rfl
          have hcz83_1 : wc.cell? ⟨gb275, 1, none⟩ = some (.int .i64 t271) := (blk_cell BK275.out 1).trans rfl
          have hcz83_2 : wc.cell? ⟨gb275, 2, none⟩ = some (.int .i64 t272) := (blk_cell BK275.out 2).trans rfl
          have hcz83_3 : wc.cell? ⟨gb275, 3, none⟩ = some (.bool t273) := (blk_cell BK275.out 3).trans rfl
          have hfz83_0 := blk_frozen BK275.out 0
          have hfz83_1 := blk_frozen BK275.out 1
          have hfz83_2 := blk_frozen BK275.out 2
          have hfz83_3 := blk_frozen BK275.out 3
          have hnb84 := NB268_269.out
          have hnc84 := NB269_268.out
          have hnb85 := NB268_281.out
          have hnc85 := NB281_268.out
          have hcz86_0 : wc.cell? ⟨gb268, 0, none⟩ = some (.int .i64 t260) := (blk_cell BK268.out 0).trans rfl
          have hcz86_1 : wc.cell? ⟨gb268, 1, none⟩ = some (.int .i64 t261) := (blk_cell BK268.out 1).trans rfl
          have hcz86_2 : wc.cell? ⟨gb268, 2, none⟩ = some (.int .i64 t262) := (blk_cell BK268.out 2).trans rfl
          have hcz86_3 : wc.cell? ⟨gb268, 3, none⟩ = some (.bool t263) := (blk_cell BK268.out 3).trans rfl
          have hfz86_0 := blk_frozen BK268.out 0
          have hfz86_1 := blk_frozen BK268.out 1
          have hfz86_2 := blk_frozen BK268.out 2
          have hfz86_3 := blk_frozen BK268.out 3
          go_wp2_with (first | ((with_reducible refine gate_callee (f := 9) rfl ?_); refine goesL_ (some 48) rfl rfl Try.func9 (by kernel_rfl) rfl #[.agg #[.int .i64 t270, .int .i64 t271, .int .i64 t272, .bool t273], .agg #[.int .i64 t260, .int .i64 t261, .int .i64 t262, .bool t263]] rfl au70 ?_; (with_reducible refine (impl_Refines.calls kj6 t270 t271 t272 t273 t260 t261 t262 t263 true _ _ A44.out).mono ?_); rintro e w87 ⟨rfl, hb⟩; refine ⟨_, rfl, ?_⟩; have n0_ := Aside0.mk (blk_below (g := gb268) (o := .cells #[.int .i64 t260, .int .i64 t261, .int .i64 t262, .bool t263] 25 (0, 0)) au96 hb); have n1_ := Aside0.mk (blk_below (g := gb269) (o := .cells #[.int .i64 t264, .int .i64 t265, .int .i64 t266, .bool t267] 25 (0, 0)) au97 hb); have n2_ := Aside0.mk (blk_below (g := gb275) (o := .cells #[.int .i64 t270, .int .i64 t271, .int .i64 t272, .bool t273] 25 (0, 0)) au98 hb); have n3_ := Aside0.mk (blk_below (g := gb281) (o := .cells #[.int .i64 t276, .int .i64 t277, .int .i64 t278, .bool t279] 25 (0, 0)) au99 hb); have n4_ := Aside0.mk (below_step au30 hb); clear BK268; clear BK269; clear BK275; clear BK281; clear HB; have BK268 := n0_; have BK269 := n1_; have BK275 := n2_; have BK281 := n3_; have HB := n4_; clear n0_ n1_ n2_ n3_ n4_; (try clear hb); (try clear hb2); (try clear hk); (try clear hi); have hcz88_0 : w87.cell? ⟨gb275, 0, none⟩ = some (.int .i64 t270) := (blk_cell BK275.out 0).trans rfl; have hcz88_1 : w87.cell? ⟨gb275, 1, none⟩ = some (.int .i64 t271) := (blk_cell BK275.out 1).trans rfl; have hcz88_2 : w87.cell? ⟨gb275, 2, none⟩ = some (.int .i64 t272) := (blk_cell BK275.out 2).trans rfl; have hcz88_3 : w87.cell? ⟨gb275, 3, none⟩ = some (.bool t273) := (blk_cell BK275.out 3).trans rfl; have hfz88_0 := blk_frozen BK275.out 0; have hfz88_1 := blk_frozen BK275.out 1; have hfz88_2 := blk_frozen BK275.out 2; have hfz88_3 := blk_frozen BK275.out 3; have hnb89 := NB269_281.out; have hnc89 := NB281_269.out; have hcz90_0 : w87.cell? ⟨gb269, 0, none⟩ = some (.int .i64 t264) := (blk_cell BK269.out 0).trans rfl; have hcz90_1 : w87.cell? ⟨gb269, 1, none⟩ = some (.int .i64 t265) := (blk_cell BK269.out 1).trans rfl; have hcz90_2 : w87.cell? ⟨gb269, 2, none⟩ = some (.int .i64 t266) := (blk_cell BK269.out 2).trans rfl; have hcz90_3 : w87.cell? ⟨gb269, 3, none⟩ = some (.bool t267) := (blk_cell BK269.out 3).trans rfl; have hfz90_0 := blk_frozen BK269.out 0; have hfz90_1 := blk_frozen BK269.out 1; have hfz90_2 := blk_frozen BK269.out 2; have hfz90_3 := blk_frozen BK269.out 3) | ((with_reducible refine gate_callee (f := 9) rfl ?_); refine goesL_ (some 54) rfl rfl Try.func9 (by kernel_rfl) rfl #[.agg #[.int .i64 t270, .int .i64 t271, .int .i64 t272, .bool t273], .agg #[.int .i64 t264, .int .i64 t265, .int .i64 t266, .bool t267]] rfl au70 ?_; (with_reducible refine (impl_Refines.calls kj6 t270 t271 t272 t273 t264 t265 t266 t267 false _ _ A45.out).mono ?_); rintro e w91 ⟨rfl, hb⟩; refine ⟨_, rfl, ?_⟩; have n0_ := Aside0.mk (blk_below (g := gb268) (o := .cells #[.int .i64 t260, .int .i64 t261, .int .i64 t262, .bool t263] 25 (0, 0)) au96 hb); have n1_ := Aside0.mk (blk_below (g := gb269) (o := .cells #[.int .i64 t264, .int .i64 t265, .int .i64 t266, .bool t267] 25 (0, 0)) au97 hb); have n2_ := Aside0.mk (blk_below (g := gb275) (o := .cells #[.int .i64 t270, .int .i64 t271, .int .i64 t272, .bool t273] 25 (0, 0)) au98 hb); have n3_ := Aside0.mk (blk_below (g := gb281) (o := .cells #[.int .i64 t276, .int .i64 t277, .int .i64 t278, .bool t279] 25 (0, 0)) au99 hb); have n4_ := Aside0.mk (below_step au30 hb); clear BK268; clear BK269; clear BK275; clear BK281; clear HB; have BK268 := n0_; have BK269 := n1_; have BK275 := n2_; have BK281 := n3_; have HB := n4_; clear n0_ n1_ n2_ n3_ n4_; (try clear hb); (try clear hb2); (try clear hk); (try clear hi)))
          go_ret
          exact ax11
        ·
         replace c48 := Bool.eq_false_iff.mpr c48
         subst c48
         replace H := (if_neg (show ¬ (false = true) by decide)).symm.trans H
         obtain rfl := Option.some.inj H
         have hnb92 := NB275_268.out
         have hnc92 := NB268_275.out
         have hnb93 := NB275_269.out
         have hnc93 := NB269_275.out
         have hnb94 := NB275_281.out
         have hnc94 := NB281_275.out
         have hcz95_0 : wc.cell? ⟨gb275, 0, none⟩ = some (.int .i64 t270) := (blk_cell BK275.out 0).trans rfl
         have hcz95_1 : wc.cell? ⟨gb275, 1, none⟩ = some (.int .i64 t271) := (blk_cell BK275.out 1).trans rfl
         have hcz95_2 : wc.cell? ⟨gb275, 2, none⟩ = some (.int .i64 t272) := (blk_cell BK275.out 2).trans rfl
         have hcz95_3 : wc.cell? ⟨gb275, 3, none⟩ = some (.bool t273) := (blk_cell BK275.out 3).trans rfl
         have hfz95_0 := blk_frozen BK275.out 0
         have hfz95_1 := blk_frozen BK275.out 1
         have hfz95_2 := blk_frozen BK275.out 2
         have hfz95_3 := blk_frozen BK275.out 3
         have hnb96 := NB268_269.out
         have hnc96 := NB269_268.out
         have hnb97 := NB268_281.out
         have hnc97 := NB281_268.out
         have hcz98_0 : wc.cell? ⟨gb268, 0, none⟩ = some (.int .i64 t260) := (blk_cell BK268.out 0).trans rfl
         have hcz98_1 : wc.cell? ⟨gb268, 1, none⟩ = some (.int .i64 t261) := (blk_cell BK268.out 1).trans rfl
         have hcz98_2 : wc.cell? ⟨gb268, 2, none⟩ = some (.int .i64 t262) := (blk_cell BK268.out 2).trans rfl
         have hcz98_3 : wc.cell? ⟨gb268, 3, none⟩ = some (.bool t263) := (blk_cell BK268.out 3).trans rfl
         have hfz98_0 := blk_frozen BK268.out 0
         have hfz98_1 := blk_frozen BK268.out 1
         have hfz98_2 := blk_frozen BK268.out 2
         have hfz98_3 := blk_frozen BK268.out 3
         go_wp2_with (first | ((with_reducible refine gate_callee (f := 9) rfl ?_); refine goesL_ (some 48) rfl rfl Try.func9 (by kernel_rfl) rfl #[.agg #[.int .i64 t270, .int .i64 t271, .int .i64 t272, .bool t273], .agg #[.int .i64 t260, .int .i64 t261, .int .i64 t262, .bool t263]] rfl au70 ?_; (with_reducible refine (impl_Refines.calls kj6 t270 t271 t272 t273 t260 t261 t262 t263 false _ _ A44.out).mono ?_); rintro e w99 ⟨rfl, hb⟩; refine ⟨_, rfl, ?_⟩; have n0_ := Aside0.mk (blk_below (g := gb268) (o := .cells #[.int .i64 t260, .int .i64 t261, .int .i64 t262, .bool t263] 25 (0, 0)) au96 hb); have n1_ := Aside0.mk (blk_below (g := gb269) (o := .cells #[.int .i64 t264, .int .i64 t265, .int .i64 t266, .bool t267] 25 (0, 0)) au97 hb); have n2_ := Aside0.mk (blk_below (g := gb275) (o := .cells #[.int .i64 t270, .int .i64 t271, .int .i64 t272, .bool t273] 25 (0, 0)) au98 hb); have n3_ := Aside0.mk (blk_below (g := gb281) (o := .cells #[.int .i64 t276, .int .i64 t277, .int .i64 t278, .bool t279] 25 (0, 0)) au99 hb); have n4_ := Aside0.mk (below_step au30 hb); clear BK268; clear BK269; clear BK275; clear BK281; clear HB; have BK268 := n0_; have BK269 := n1_; have BK275 := n2_; have BK281 := n3_; have HB := n4_; clear n0_ n1_ n2_ n3_ n4_; (try clear hb); (try clear hb2); (try clear hk); (try clear hi); have hcz100_0 : w99.cell? ⟨gb275, 0, none⟩ = some (.int .i64 t270) := (blk_cell BK275.out 0).trans rfl; have hcz100_1 : w99.cell? ⟨gb275, 1, none⟩ = some (.int .i64 t271) := (blk_cell BK275.out 1).trans rfl; have hcz100_2 : w99.cell? ⟨gb275, 2, none⟩ = some (.int .i64 t272) := (blk_cell BK275.out 2).trans rfl; have hcz100_3 : w99.cell? ⟨gb275, 3, none⟩ = some (.bool t273) := (blk_cell BK275.out 3).trans rfl; have hfz100_0 := blk_frozen BK275.out 0; have hfz100_1 := blk_frozen BK275.out 1; have hfz100_2 := blk_frozen BK275.out 2; have hfz100_3 := blk_frozen BK275.out 3; have hnb101 := NB269_281.out; have hnc101 := NB281_269.out; have hcz102_0 : w99.cell? ⟨gb269, 0, none⟩ = some (.int .i64 t264) := (blk_cell BK269.out 0).trans rfl; have hcz102_1 : w99.cell? ⟨gb269, 1, none⟩ = some (.int .i64 t265) := (blk_cell BK269.out 1).trans rfl; have hcz102_2 : w99.cell? ⟨gb269, 2, none⟩ = some (.int .i64 t266) := (blk_cell BK269.out 2).trans rfl; have hcz102_3 : w99.cell? ⟨gb269, 3, none⟩ = some (.bool t267) := (blk_cell BK269.out 3).trans rfl; have hfz102_0 := blk_frozen BK269.out 0; have hfz102_1 := blk_frozen BK269.out 1; have hfz102_2 := blk_frozen BK269.out 2; have hfz102_3 := blk_frozen BK269.out 3) | ((with_reducible refine gate_callee (f := 9) rfl ?_); refine goesL_ (some 54) rfl rfl Try.func9 (by kernel_rfl) rfl #[.agg #[.int .i64 t270, .int .i64 t271, .int .i64 t272, .bool t273], .agg #[.int .i64 t264, .int .i64 t265, .int .i64 t266, .bool t267]] rfl au70 ?_; (with_reducible refine (impl_Refines.calls kj6 t270 t271 t272 t273 t264 t265 t266 t267 t284 _ _ A45.out).mono ?_); rintro e w103 ⟨rfl, hb⟩; refine ⟨_, rfl, ?_⟩; have n0_ := Aside0.mk (blk_below (g := gb268) (o := .cells #[.int .i64 t260, .int .i64 t261, .int .i64 t262, .bool t263] 25 (0, 0)) au96 hb); have n1_ := Aside0.mk (blk_below (g := gb269) (o := .cells #[.int .i64 t264, .int .i64 t265, .int .i64 t266, .bool t267] 25 (0, 0)) au97 hb); have n2_ := Aside0.mk (blk_below (g := gb275) (o := .cells #[.int .i64 t270, .int .i64 t271, .int .i64 t272, .bool t273] 25 (0, 0)) au98 hb); have n3_ := Aside0.mk (blk_below (g := gb281) (o := .cells #[.int .i64 t276, .int .i64 t277, .int .i64 t278, .bool t279] 25 (0, 0)) au99 hb); have n4_ := Aside0.mk (below_step au30 hb); clear BK268; clear BK269; clear BK275; clear BK281; clear HB; have BK268 := n0_; have BK269 := n1_; have BK275 := n2_; have BK281 := n3_; have HB := n4_; clear n0_ n1_ n2_ n3_ n4_; (try clear hb); (try clear hb2); (try clear hk); (try clear hi)))
         go_ret
         exact ax11
       ·
        replace c47 := Bool.eq_false_iff.mpr c47
        subst c47
        replace H := (if_neg (show ¬ (false = true) by decide)).symm.trans H
        obtain rfl := Option.some.inj H
        have hnb104 := NB275_268.out
        have hnc104 := NB268_275.out
        have hnb105 := NB275_269.out
        have hnc105 := NB269_275.out
        have hnb106 := NB275_281.out
        have hnc106 := NB281_275.out
        have hcz107_0 : wc.cell? ⟨gb275, 0, none⟩ = some (.int .i64 t270) := (blk_cell BK275.out 0).trans rfl
        have hcz107_1 : wc.cell? ⟨gb275, 1, none⟩ = some (.int .i64 t271) := (blk_cell BK275.out 1).trans rfl
        have hcz107_2 : wc.cell? ⟨gb275, 2, none⟩ = some (.int .i64 t272) := (blk_cell BK275.out 2).trans rfl
        have hcz107_3 : wc.cell? ⟨gb275, 3, none⟩ = some (.bool t273) := (blk_cell BK275.out 3).trans rfl
        have hfz107_0 := blk_frozen BK275.out 0
        have hfz107_1 := blk_frozen BK275.out 1
        have hfz107_2 := blk_frozen BK275.out 2
        have hfz107_3 := blk_frozen BK275.out 3
        have hnb108 := NB268_269.out
        have hnc108 := NB269_268.out
        have hnb109 := NB268_281.out
        have hnc109 := NB281_268.out
        have hcz110_0 : wc.cell? ⟨gb268, 0, none⟩ = some (.int .i64 t260) := (blk_cell BK268.out 0).trans rfl
        have hcz110_1 : wc.cell? ⟨gb268, 1, none⟩ = some (.int .i64 t261) := (blk_cell BK268.out 1).trans rfl
        have hcz110_2 : wc.cell? ⟨gb268, 2, none⟩ = some (.int .i64 t262) := (blk_cell BK268.out 2).trans rfl
        have hcz110_3 : wc.cell? ⟨gb268, 3, none⟩ = some (.bool t263) := (blk_cell BK268.out 3).trans rfl
        have hfz110_0 := blk_frozen BK268.out 0
        have hfz110_1 := blk_frozen BK268.out 1
        have hfz110_2 := blk_frozen BK268.out 2
        have hfz110_3 := blk_frozen BK268.out 3
        go_wp2_with (first | ((with_reducible refine gate_callee (f := 9) rfl ?_); refine goesL_ (some 48) rfl rfl Try.func9 (by kernel_rfl) rfl #[.agg #[.int .i64 t270, .int .i64 t271, .int .i64 t272, .bool t273], .agg #[.int .i64 t260, .int .i64 t261, .int .i64 t262, .bool t263]] rfl au70 ?_; (with_reducible refine (impl_Refines.calls kj6 t270 t271 t272 t273 t260 t261 t262 t263 t282 _ _ A44.out).mono ?_); rintro e w111 ⟨rfl, hb⟩; refine ⟨_, rfl, ?_⟩; have n0_ := Aside0.mk (blk_below (g := gb268) (o := .cells #[.int .i64 t260, .int .i64 t261, .int .i64 t262, .bool t263] 25 (0, 0)) au96 hb); have n1_ := Aside0.mk (blk_below (g := gb269) (o := .cells #[.int .i64 t264, .int .i64 t265, .int .i64 t266, .bool t267] 25 (0, 0)) au97 hb); have n2_ := Aside0.mk (blk_below (g := gb275) (o := .cells #[.int .i64 t270, .int .i64 t271, .int .i64 t272, .bool t273] 25 (0, 0)) au98 hb); have n3_ := Aside0.mk (blk_below (g := gb281) (o := .cells #[.int .i64 t276, .int .i64 t277, .int .i64 t278, .bool t279] 25 (0, 0)) au99 hb); have n4_ := Aside0.mk (below_step au30 hb); clear BK268; clear BK269; clear BK275; clear BK281; clear HB; have BK268 := n0_; have BK269 := n1_; have BK275 := n2_; have BK281 := n3_; have HB := n4_; clear n0_ n1_ n2_ n3_ n4_; (try clear hb); (try clear hb2); (try clear hk); (try clear hi); have hcz112_0 : w111.cell? ⟨gb275, 0, none⟩ = some (.int .i64 t270) := (blk_cell BK275.out 0).trans rfl; have hcz112_1 : w111.cell? ⟨gb275, 1, none⟩ = some (.int .i64 t271) := (blk_cell BK275.out 1).trans rfl; have hcz112_2 : w111.cell? ⟨gb275, 2, none⟩ = some (.int .i64 t272) := (blk_cell BK275.out 2).trans rfl; have hcz112_3 : w111.cell? ⟨gb275, 3, none⟩ = some (.bool t273) := (blk_cell BK275.out 3).trans rfl; have hfz112_0 := blk_frozen BK275.out 0; have hfz112_1 := blk_frozen BK275.out 1; have hfz112_2 := blk_frozen BK275.out 2; have hfz112_3 := blk_frozen BK275.out 3; have hnb113 := NB269_281.out; have hnc113 := NB281_269.out; have hcz114_0 : w111.cell? ⟨gb269, 0, none⟩ = some (.int .i64 t264) := (blk_cell BK269.out 0).trans rfl; have hcz114_1 : w111.cell? ⟨gb269, 1, none⟩ = some (.int .i64 t265) := (blk_cell BK269.out 1).trans rfl; have hcz114_2 : w111.cell? ⟨gb269, 2, none⟩ = some (.int .i64 t266) := (blk_cell BK269.out 2).trans rfl; have hcz114_3 : w111.cell? ⟨gb269, 3, none⟩ = some (.bool t267) := (blk_cell BK269.out 3).trans rfl; have hfz114_0 := blk_frozen BK269.out 0; have hfz114_1 := blk_frozen BK269.out 1; have hfz114_2 := blk_frozen BK269.out 2; have hfz114_3 := blk_frozen BK269.out 3) | ((with_reducible refine gate_callee (f := 9) rfl ?_); refine goesL_ (some 54) rfl rfl Try.func9 (by kernel_rfl) rfl #[.agg #[.int .i64 t270, .int .i64 t271, .int .i64 t272, .bool t273], .agg #[.int .i64 t264, .int .i64 t265, .int .i64 t266, .bool t267]] rfl au70 ?_; (with_reducible refine (impl_Refines.calls kj6 t270 t271 t272 t273 t264 t265 t266 t267 t284 _ _ A45.out).mono ?_); rintro e w115 ⟨rfl, hb⟩; refine ⟨_, rfl, ?_⟩; have n0_ := Aside0.mk (blk_below (g := gb268) (o := .cells #[.int .i64 t260, .int .i64 t261, .int .i64 t262, .bool t263] 25 (0, 0)) au96 hb); have n1_ := Aside0.mk (blk_below (g := gb269) (o := .cells #[.int .i64 t264, .int .i64 t265, .int .i64 t266, .bool t267] 25 (0, 0)) au97 hb); have n2_ := Aside0.mk (blk_below (g := gb275) (o := .cells #[.int .i64 t270, .int .i64 t271, .int .i64 t272, .bool t273] 25 (0, 0)) au98 hb); have n3_ := Aside0.mk (blk_below (g := gb281) (o := .cells #[.int .i64 t276, .int .i64 t277, .int .i64 t278, .bool t279] 25 (0, 0)) au99 hb); have n4_ := Aside0.mk (below_step au30 hb); clear BK268; clear BK269; clear BK275; clear BK281; clear HB; have BK268 := n0_; have BK269 := n1_; have BK275 := n2_; have BK281 := n3_; have HB := n4_; clear n0_ n1_ n2_ n3_ n4_; (try clear hb); (try clear hb2); (try clear hk); (try clear hi)))
        go_ret
        exact ax11
      ·
       replace c46 := Bool.eq_false_iff.mpr c46
       subst c46
       replace H := (if_neg (show ¬ (false = true) by decide)).symm.trans H
       obtain rfl := Option.some.inj H
       have hnb116 := NB275_268.out
       have hnc116 := NB268_275.out
       have hnb117 := NB275_269.out
       have hnc117 := NB269_275.out
       have hnb118 := NB275_281.out
       have hnc118 := NB281_275.out
       have hcz119_0 : wc.cell? ⟨gb275, 0, none⟩ = some (.int .i64 t270) := (blk_cell BK275.out 0).trans rfl
       have hcz119_1 : wc.cell? ⟨gb275, 1, none⟩ = some (.int .i64 t271) := (blk_cell BK275.out 1).trans rfl
       have hcz119_2 : wc.cell? ⟨gb275, 2, none⟩ = some (.int .i64 t272) := (blk_cell BK275.out 2).trans rfl
       have hcz119_3 : wc.cell? ⟨gb275, 3, none⟩ = some (.bool t273) := (blk_cell BK275.out 3).trans rfl
       have hfz119_0 := blk_frozen BK275.out 0
       have hfz119_1 := blk_frozen BK275.out 1
       have hfz119_2 := blk_frozen BK275.out 2
       have hfz119_3 := blk_frozen BK275.out 3
       have hnb120 := NB268_269.out
       have hnc120 := NB269_268.out
       have hnb121 := NB268_281.out
       have hnc121 := NB281_268.out
       have hcz122_0 : wc.cell? ⟨gb268, 0, none⟩ = some (.int .i64 t260) := (blk_cell BK268.out 0).trans rfl
       have hcz122_1 : wc.cell? ⟨gb268, 1, none⟩ = some (.int .i64 t261) := (blk_cell BK268.out 1).trans rfl
       have hcz122_2 : wc.cell? ⟨gb268, 2, none⟩ = some (.int .i64 t262) := (blk_cell BK268.out 2).trans rfl
       have hcz122_3 : wc.cell? ⟨gb268, 3, none⟩ = some (.bool t263) := (blk_cell BK268.out 3).trans rfl
       have hfz122_0 := blk_frozen BK268.out 0
       have hfz122_1 := blk_frozen BK268.out 1
       have hfz122_2 := blk_frozen BK268.out 2
       have hfz122_3 := blk_frozen BK268.out 3
       go_wp2_with (first | ((with_reducible refine gate_callee (f := 9) rfl ?_); refine goesL_ (some 48) rfl rfl Try.func9 (by kernel_rfl) rfl #[.agg #[.int .i64 t270, .int .i64 t271, .int .i64 t272, .bool t273], .agg #[.int .i64 t260, .int .i64 t261, .int .i64 t262, .bool t263]] rfl au70 ?_; (with_reducible refine (impl_Refines.calls kj6 t270 t271 t272 t273 t260 t261 t262 t263 t282 _ _ A44.out).mono ?_); rintro e w123 ⟨rfl, hb⟩; refine ⟨_, rfl, ?_⟩; have n0_ := Aside0.mk (blk_below (g := gb268) (o := .cells #[.int .i64 t260, .int .i64 t261, .int .i64 t262, .bool t263] 25 (0, 0)) au96 hb); have n1_ := Aside0.mk (blk_below (g := gb269) (o := .cells #[.int .i64 t264, .int .i64 t265, .int .i64 t266, .bool t267] 25 (0, 0)) au97 hb); have n2_ := Aside0.mk (blk_below (g := gb275) (o := .cells #[.int .i64 t270, .int .i64 t271, .int .i64 t272, .bool t273] 25 (0, 0)) au98 hb); have n3_ := Aside0.mk (blk_below (g := gb281) (o := .cells #[.int .i64 t276, .int .i64 t277, .int .i64 t278, .bool t279] 25 (0, 0)) au99 hb); have n4_ := Aside0.mk (below_step au30 hb); clear BK268; clear BK269; clear BK275; clear BK281; clear HB; have BK268 := n0_; have BK269 := n1_; have BK275 := n2_; have BK281 := n3_; have HB := n4_; clear n0_ n1_ n2_ n3_ n4_; (try clear hb); (try clear hb2); (try clear hk); (try clear hi); have hcz124_0 : w123.cell? ⟨gb275, 0, none⟩ = some (.int .i64 t270) := (blk_cell BK275.out 0).trans rfl; have hcz124_1 : w123.cell? ⟨gb275, 1, none⟩ = some (.int .i64 t271) := (blk_cell BK275.out 1).trans rfl; have hcz124_2 : w123.cell? ⟨gb275, 2, none⟩ = some (.int .i64 t272) := (blk_cell BK275.out 2).trans rfl; have hcz124_3 : w123.cell? ⟨gb275, 3, none⟩ = some (.bool t273) := (blk_cell BK275.out 3).trans rfl; have hfz124_0 := blk_frozen BK275.out 0; have hfz124_1 := blk_frozen BK275.out 1; have hfz124_2 := blk_frozen BK275.out 2; have hfz124_3 := blk_frozen BK275.out 3; have hnb125 := NB269_281.out; have hnc125 := NB281_269.out; have hcz126_0 : w123.cell? ⟨gb269, 0, none⟩ = some (.int .i64 t264) := (blk_cell BK269.out 0).trans rfl; have hcz126_1 : w123.cell? ⟨gb269, 1, none⟩ = some (.int .i64 t265) := (blk_cell BK269.out 1).trans rfl; have hcz126_2 : w123.cell? ⟨gb269, 2, none⟩ = some (.int .i64 t266) := (blk_cell BK269.out 2).trans rfl; have hcz126_3 : w123.cell? ⟨gb269, 3, none⟩ = some (.bool t267) := (blk_cell BK269.out 3).trans rfl; have hfz126_0 := blk_frozen BK269.out 0; have hfz126_1 := blk_frozen BK269.out 1; have hfz126_2 := blk_frozen BK269.out 2; have hfz126_3 := blk_frozen BK269.out 3) | ((with_reducible refine gate_callee (f := 9) rfl ?_); refine goesL_ (some 54) rfl rfl Try.func9 (by kernel_rfl) rfl #[.agg #[.int .i64 t270, .int .i64 t271, .int .i64 t272, .bool t273], .agg #[.int .i64 t264, .int .i64 t265, .int .i64 t266, .bool t267]] rfl au70 ?_; (with_reducible refine (impl_Refines.calls kj6 t270 t271 t272 t273 t264 t265 t266 t267 t284 t285 _ A45.out).mono ?_); rintro e w127 ⟨rfl, hb⟩; refine ⟨_, rfl, ?_⟩; have n0_ := Aside0.mk (blk_below (g := gb268) (o := .cells #[.int .i64 t260, .int .i64 t261, .int .i64 t262, .bool t263] 25 (0, 0)) au96 hb); have n1_ := Aside0.mk (blk_below (g := gb269) (o := .cells #[.int .i64 t264, .int .i64 t265, .int .i64 t266, .bool t267] 25 (0, 0)) au97 hb); have n2_ := Aside0.mk (blk_below (g := gb275) (o := .cells #[.int .i64 t270, .int .i64 t271, .int .i64 t272, .bool t273] 25 (0, 0)) au98 hb); have n3_ := Aside0.mk (blk_below (g := gb281) (o := .cells #[.int .i64 t276, .int .i64 t277, .int .i64 t278, .bool t279] 25 (0, 0)) au99 hb); have n4_ := Aside0.mk (below_step au30 hb); clear BK268; clear BK269; clear BK275; clear BK281; clear HB; have BK268 := n0_; have BK269 := n1_; have BK275 := n2_; have BK281 := n3_; have HB := n4_; clear n0_ n1_ n2_ n3_ n4_; (try clear hb); (try clear hb2); (try clear hk); (try clear hi)))
       go_ret
       exact ax11
     ·
      replace c43 := Bool.eq_false_iff.mpr c43
      subst c43
      replace H := (if_neg (show ¬ (false = true) by decide)).symm.trans H
      obtain rfl := Option.some.inj H
      have hnb128 := NB275_268.out
      have hnc128 := NB268_275.out
      have hnb129 := NB275_269.out
      have hnc129 := NB269_275.out
      have hnb130 := NB275_281.out
      have hnc130 := NB281_275.out
      have hcz131_0 : wc.cell? ⟨gb275, 0, none⟩ = some (.int .i64 t270) := (blk_cell BK275.out 0).trans rfl
      have hcz131_1 : wc.cell? ⟨gb275, 1, none⟩ = some (.int .i64 t271) := (blk_cell BK275.out 1).trans rfl
      have hcz131_2 : wc.cell? ⟨gb275, 2, none⟩ = some (.int .i64 t272) := (blk_cell BK275.out 2).trans rfl
      have hcz131_3 : wc.cell? ⟨gb275, 3, none⟩ = some (.bool t273) := (blk_cell BK275.out 3).trans rfl
      have hfz131_0 := blk_frozen BK275.out 0
      have hfz131_1 := blk_frozen BK275.out 1
      have hfz131_2 := blk_frozen BK275.out 2
      have hfz131_3 := blk_frozen BK275.out 3
      go_wp2
      go_ret
      exact ax11



end Go.Proofs.Ytbjlofabbikanaa.G

namespace Go.Proofs.Ytbjlofabbikanaa.Opn
open Go.RowKit Go.Proofs.YtbjlofabbikanaaW.PrintWords
set_option linter.unusedVariables false
set_option linter.unusedSimpArgs false
variable {H : Type} {enc : TypeId × Value → H} {P : Program} {w : World} {base : Nat} {spare : Nat → Bool} {held : Bool}
def okInt (k : IntKind) (n : Int) : Prop := (Lit.int k n).wf = true
def okList {α : Type} (p : α → Prop) (xs : List α) : Prop := xs.length ≤ 9223372036854775807 ∧ ∀ x ∈ xs, p x
theorem of_int {t : TypeId} {k : IntKind} {fuel : Nat} {cs : List Value} {x : DataW H × List MemPlace} (ht : P.underlying t = some (.int k)) (h : DataW.trod enc P w base spare held fuel t cs = some x) :
    ∃ n, (Kd.int k).K w n cs ∧ okInt k n := by
  obtain ⟨n, rfl, rfl, hw⟩ := DataW.trod_int ht h
  exact ⟨n, rfl, hw⟩
theorem add_add (a : Addr) (k i : Nat) : (a.add k).add i = a.add (k + i) := by
  unfold Addr.add
  by_cases hk : k = 0 <;> by_cases hi : i = 0 <;> simp [hk, hi, Nat.add_assoc]
theorem of_slice {α : Type} {d : Kd α} {ok : α → Prop} {t e : TypeId} {fuel : Nat} {cs : List Value} {x : DataW H × List MemPlace} (ht : P.underlying t = some (.slice e)) (hc : P.cellsOf e = d.sz)
    (ih : ∀ n cs x, DataW.trod enc P w base spare held n e cs = some x → ∃ y, d.K w y cs ∧ ok y) (h : DataW.trod enc P w base spare held fuel t cs = some x) :
    ∃ ys, (Kd.slice e d).K w ys cs ∧ okList ok ys := by
  rcases Go.Deep.open_slice ht h with ⟨rfl, _⟩ | ⟨a, len, cap, m, n, D, Pl, rfl, hb, hl, hm, hmm, hxe, hel⟩
  · exact ⟨[], ⟨none, 0, rfl, by simp, rfl, by simp, fun h => absurd h (by simp)⟩, by simp, fun x hx => by simp at hx⟩
  · have hlm : len ≤ m := by rw [hmm]; split <;> omega
    have hm' : len ≤ 9223372036854775807 := by unfold maxLen at hm; omega
    have key : ∀ i, i < len → ∃ cs' y, w.cells? base (a.add (i * P.cellsOf e)) (P.cellsOf e) = some cs' ∧ d.K w y cs' ∧ ok y := by
      intro i hi
      obtain ⟨cs', h1, h2⟩ := hel i (by omega)
      obtain ⟨y, hy, ho⟩ := ih _ _ _ h2
      exact ⟨cs', y, h1, hy, ho⟩
    obtain ⟨ys, hlen, hys⟩ : ∃ ys : List α, ys.length = len ∧ ∀ i (hi : i < ys.length), ∃ cs', w.cells? base (a.add (i * P.cellsOf e)) (P.cellsOf e) = some cs' ∧ d.K w ys[i] cs' ∧ ok ys[i] := by
      clear h hxe hel hmm hlm hl hm hm'
      induction len with
      | zero => exact ⟨[], rfl, fun i hi => by simp at hi⟩
      | succ len ihl =>
        obtain ⟨ys, h1, h2⟩ := ihl (fun i hi => key i (by omega))
        obtain ⟨cs', y, h3, h4, h5⟩ := key len (by omega)
        refine ⟨ys ++ [y], by simp [h1], fun i hi => ?_⟩
        by_cases hi' : i < ys.length
        · rw [List.getElem_append_left hi']; exact h2 i hi'
        · have : i = len := by simp at hi; omega
          subst this
          refine ⟨cs', h3, ?_, ?_⟩ <;> rw [List.getElem_append_right (by omega)] <;> simpa [h1]
    refine ⟨ys, ⟨some a, cap, by rw [hlen], by omega, rfl, by omega, fun _ => ⟨a, rfl, fun j p hj => ?_⟩⟩, by omega, fun y hy => ?_⟩
    · obtain ⟨hj', rfl⟩ := List.getElem?_eq_some_iff.1 hj
      obtain ⟨cs', h1, h2, _⟩ := hys j hj'
      rw [hc] at h1
      refine ⟨cs', d.K_len h2, h2, fun i u hu => ?_⟩
      obtain ⟨_, hl', hcell⟩ := World.cells?_some h1
      have hi : i < d.sz := by have := (List.getElem?_eq_some_iff.1 hu).1; omega
      have := hcell i hi
      rw [hu, add_add] at this
      exact this
    · obtain ⟨i, hi, rfl⟩ := List.getElem_of_mem hy
      obtain ⟨_, _, _, h3⟩ := hys i hi
      exact h3
end Go.Proofs.Ytbjlofabbikanaa.Opn

namespace Go.Proofs.Ytbjlofabbikanaa.G
open Go.Proofs.Ytbjlofabbikanaa.Opn
open Go.RowKit Go.Proofs.YtbjlofabbikanaaW.PrintWords Go.Proofs.YtbjlofabbikanaaW.PrintLast Go.Proofs.YtbjlofabbikanaaW.PrintMore
open Go.Proofs.Ytbjlofabbikanaa.Gl Go.Proofs.Ytbjlofabbikanaa.Ext
attribute [local go_sem] max2_int min2_int max_two min_two max_three min_three max_four min_four   -- for this text's walks alone
set_option linter.unusedVariables false
set_option linter.unusedSimpArgs false

theorem cells5 : Try.prog.cellsOf 5 = 1 := by kernel_rfl

def laws_FnDateMerging.Pur : Prop := ∀ (l0 : List Int), okList (okInt .u8) l0 → ∃ k, laws_FnDateMerging.f k l0 = some true
theorem laws_FnDateMerging.wlk (P : laws_FnDateMerging.Pur) (A0 : Option Addr) (c0 : Nat) (l0 : List Int) (w : World) (hr0 : Kd.C (Kd.int .u8) w A0 l0.length l0) (hc0 : l0.length ≤ c0) (bl0 : okList (okInt .u8) l0) :
    Calls Try.prog 3 #[.slice A0 l0.length c0] w fun e w' => e = .returned (.bool true) ∧ Below w.heap.size w w' := by
  obtain ⟨k, h⟩ := P l0 bl0
  refine (laws_FnDateMerging.calls k A0 c0 l0 true w hr0 hc0 h).mono ?_
  rintro e w' ⟨rfl, hd⟩
  exact ⟨rfl, hd⟩

end Go.Proofs.Ytbjlofabbikanaa.G

namespace Go.Proofs.Ytbjlofabbikanaa.G
open Go.RowKit Go.Proofs.YtbjlofabbikanaaW.PrintWords Go.Proofs.YtbjlofabbikanaaW.PrintLast
set_option linter.unusedVariables false
set_option linter.unusedSimpArgs false
def daysD (y m : Int) : Int :=
  if m = 2 then (if Int.tmod y 4 = 0 ∧ (Int.tmod y 100 ≠ 0 ∨ Int.tmod y 400 = 0) then 29 else 28) else if m = 4 ∨ m = 6 ∨ m = 9 ∨ m = 11 then 30 else 31
def goodD (y m d : Int) (c : Bool) : Bool :=
  if y = 0 ∧ m = 0 ∧ d = 0 ∧ c = false then true
  else if ¬ (1 ≤ y ∧ y ≤ 2999 ∧ 0 ≤ m ∧ m ≤ 12) then false
  else if m = 0 then decide (d = 0)
  else if c then false else decide (0 ≤ d ∧ d ≤ daysD y m)
theorem tmod_400_4 (y : Int) (h : Int.tmod y 400 = 0) : Int.tmod y 4 = 0 := by
  have h1 : (400 : Int) ∣ y := Int.dvd_of_tmod_eq_zero h
  exact Int.tmod_eq_zero_of_dvd (Int.dvd_trans (by decide) h1)
theorem spec_days (k : Nat) (y m : Int) : spec_l3Days.f (k + 1) y m = some (daysD y m) := by
  unfold spec_l3Days.f daysD
  by_cases h2 : m = 2
  · subst h2
    simp only [if_true, spec_l3Days.j0]
    by_cases a : Int.tmod y 4 = 0 <;> by_cases b : Int.tmod y 100 = 0 <;> by_cases c : Int.tmod y 400 = 0 <;> simp [a, b, c]
    · exact a (tmod_400_4 y c)
    · exact a (tmod_400_4 y c)
  · by_cases a : m = 4 <;> by_cases b : m = 6 <;> by_cases c : m = 9 <;> by_cases d : m = 11 <;> simp [h2, a, b, c, d]
theorem impl_days (y m : Int) : impl_daysInMonth.f y m = some (daysD y m) := by
  unfold impl_daysInMonth.f daysD
  by_cases h2 : m = 2
  · subst h2
    by_cases a : Int.tmod y 4 = 0 <;> by_cases b : Int.tmod y 100 = 0 <;> by_cases c : Int.tmod y 400 = 0 <;> simp [a, b, c]
  · by_cases a : m = 4 <;> by_cases b : m = 6 <;> by_cases c : m = 9 <;> by_cases d : m = 11 <;> simp [h2, a, b, c, d]
theorem spec_good (k : Nat) (y m d : Int) (c : Bool) : spec_l3Good.f (k + 2) y m d c = some (goodD y m d c) := by
  unfold spec_l3Good.f goodD
  by_cases z : y = 0 ∧ m = 0 ∧ d = 0 ∧ c = false
  · obtain ⟨rfl, rfl, rfl, rfl⟩ := z; simp
  · rw [if_neg (by simpa using z), if_neg z]
    simp only [spec_l1In.f]
    by_cases a : 1 ≤ y <;> by_cases b : y ≤ 2999 <;> by_cases e : 0 ≤ m <;> by_cases f : m ≤ 12 <;> simp [a, b, e, f, spec_l3Good.j0]
    rw [spec_days]
    by_cases g : m = 0 <;> by_cases h : d = 0 <;> by_cases i : 0 ≤ d <;> cases c <;> simp [g, h, i, spec_l1In.f, impl_inside.f]
theorem impl_good (k : Nat) (y m d : Int) (c : Bool) : impl_IsValidDate.f (k + 2) y m d c = some (goodD y m d c) := by
  unfold impl_IsValidDate.f goodD
  by_cases z : y = 0 ∧ m = 0 ∧ d = 0 ∧ c = false
  · obtain ⟨rfl, rfl, rfl, rfl⟩ := z; simp
  · rw [if_neg (by simpa using z), if_neg z]
    simp only [impl_inside.f]
    by_cases a : 1 ≤ y <;> by_cases b : y ≤ 2999 <;> by_cases e : 0 ≤ m <;> by_cases f : m ≤ 12 <;> simp [a, b, e, f, impl_IsValidDate.j0]
    rw [impl_days]
    by_cases g : m = 0 <;> by_cases h : d = 0 <;> by_cases i : 0 ≤ d <;> cases c <;> simp [g, h, i, spec_l1In.f, impl_inside.f]
def refD (y m d : Int) (c : Bool) (y' m' d' : Int) (c' : Bool) : Bool :=
  if y' = 0 then true else decide (y = y') && (decide (m' = 0 ∨ m = m') && (decide (d' = 0 ∨ d = d') && (!c || c')))
theorem spec_ref (y m d : Int) (c : Bool) (y' m' d' : Int) (c' : Bool) : spec_l3Refines.f y m d c y' m' d' c' = some (refD y m d c y' m' d' c') := by
  unfold spec_l3Refines.f refD
  by_cases a : y' = 0 <;> by_cases b : y = y' <;> by_cases e : m' = 0 <;> by_cases f : m = m' <;> by_cases g : d' = 0 <;> by_cases h : d = d' <;> cases c <;> simp [a, b, e, f, g, h]
theorem impl_ref (y m d : Int) (c : Bool) (y' m' d' : Int) (c' : Bool) : impl_refines.f y m d c y' m' d' c' = some (refD y m d c y' m' d' c') := by
  unfold impl_refines.f refD
  by_cases a : y' = 0 <;> by_cases b : y = y' <;> by_cases e : m' = 0 <;> by_cases f : m = m' <;> by_cases g : d' = 0 <;> by_cases h : d = d' <;> cases c <;> simp [a, b, e, f, g, h]
end Go.Proofs.Ytbjlofabbikanaa.G

namespace Go.Proofs.Ytbjlofabbikanaa.B
open Go.RowKit Go.Proofs.YtbjlofabbikanaaW.PrintWords Go.Proofs.YtbjlofabbikanaaW.PrintLast
set_option linter.unusedVariables false
set_option linter.unusedSimpArgs false
theorem w64 {x : Int} (h : -9223372036854775808 ≤ x) (h' : x ≤ 9223372036854775807) : wrap64 x = x := by unfold wrap64; omega
end Go.Proofs.Ytbjlofabbikanaa.B

namespace Go.Proofs.Ytbjlofabbikanaa.G
open Go.RowKit Go.Proofs.YtbjlofabbikanaaW.PrintWords Go.Proofs.YtbjlofabbikanaaW.PrintLast Go.Proofs.YtbjlofabbikanaaW.PrintMore
open Go.Proofs.Ytbjlofabbikanaa.Gl Go.Proofs.Ytbjlofabbikanaa.Ext
attribute [local go_sem] max2_int min2_int max_two min_two max_three min_three max_four min_four   -- for this text's walks alone
set_option linter.unusedVariables false
set_option linter.unusedSimpArgs false

/-! ### spec_l1Cur_of: function 25 -/
def spec_l1Cur_of.f (s0_0 : List Int) (s0_1 : Int) (s0_2 : Int) (l1 : List ByteArray) : Option (ByteArray × Int × Int) := (spec_l1Cur_pick.f s0_0 s0_1 s0_2 (l1.length : Int)).bind fun bt286 => (if 0 ≤ bt286.1 then (if bt286.1 < (l1.length : Int) then (some (rdOf ByteArray.empty l1 bt286.1, bt286.2.1, bt286.2.2)) else (none)) else (none))
set_option maxHeartbeats 8000000 in
set_option maxRecDepth 100000 in
theorem spec_l1Cur_of.calls (g : Nat) (s0_0 : List Int) (s0_1 : Int) (s0_2 : Int) (A1 : Option Addr) (c1 : Nat) (l1 : List ByteArray) (r1 : ByteArray) (r2 : Int) (r3 : Int) (w0 w : World) (hI : IsS47 w0 w g s0_0 s0_1 s0_2) (hB : Below w0.heap.size w0 w) (hr1 : Kd.C Kd.string w A1 l1.length l1) (hc1 : l1.length ≤ c1) (hf1 : ∀ ad, A1 = some ad → 0 < l1.length → ad.block ≠ g) (h : spec_l1Cur_of.f s0_0 s0_1 s0_2 l1 = some (r1, r2, r3)) :
  Calls Try.prog 25 #[.pointer (some ⟨g, 0, none⟩), .slice A1 l1.length c1] w fun e w' => e = .returned (.string r1) ∧ IsS47 w0 w' g s0_0 r2 r3 ∧ Below w0.heap.size w0 w' ∧ KeepBut w w' g none := by
 have HR1 := Aside0.mk hr1
 have HC1 := Aside0.mk hc1
 clear hr1 hc1
 have HI0 := Aside0.mk hI
 have HK := Aside0.mk (KeepBut.refl w g none)
 have HL := Aside0.mk hB.size
 clear hI
 have HW0 := Aside0.mk hB.size
 have HB := Aside0.mk hB
 clear hB
 have H : ((spec_l1Cur_pick.f s0_0 s0_1 s0_2 (l1.length : Int)).bind fun bt286 => (if 0 ≤ bt286.1 then (if bt286.1 < (l1.length : Int) then (some (rdOf ByteArray.empty l1 bt286.1, bt286.2.1, bt286.2.2)) else (none)) else (none))) = some (r1, r2, r3) := h
 clear h
 replace H := Option.bind_eq_some_iff.mp H
 obtain ⟨⟨t286, t287, t288⟩, A30, H⟩ := H
 replace H : (if 0 ≤ t286 then (if t286 < (l1.length : Int) then (some (rdOf ByteArray.empty l1 t286, t287, t288)) else (none)) else (none)) = some (r1, r2, r3) := H
 have A3 := Aside0.mk A30
 clear A30
 by_cases c4 : 0 ≤ t286
 ·
  rw [if_pos c4] at H
  have c4b0 : decide (0 ≤ t286) = true := decide_eq_true c4
  clear c4
  by_cases c5 : t286 < (l1.length : Int)
  ·
   rw [if_pos c5] at H
   have c5b0 : decide (t286 < (l1.length : Int)) = true := decide_eq_true c5
   clear c5
   simp only [Option.some.injEq, Prod.mk.injEq] at H
   obtain ⟨rfl, rfl, rfl⟩ := H
   go_enter Try.func25, Try.ntmps25
   go_wp2_with (first | ((with_reducible refine gate_callee (f := 26) rfl ?_); refine goesL_ (some 9) rfl rfl Try.func26 (by kernel_rfl) rfl #[.pointer (some ⟨g, 0, none⟩), .int .i64 (l1.length : Int)] rfl au70 ?_; (with_reducible refine (spec_l1Cur_pick.calls g s0_0 s0_1 s0_2 (l1.length : Int) t286 t287 t288 w0 _ ?side1 ?side2 A3.out).mono ?_); (case side1 => repeat (first | (with_reducible first | exact HI0.out | apply IsS47.alloc | apply IsS47.drewN | apply IsS47.drew | apply IsS47.set_1 | apply IsS47.set_2) | exact HI0.out)); (case side2 => repeat (first | (with_reducible first | exact HB.out | apply below_alloc | apply pw_below_drewN | apply below_drew1 | refine below_set ?_ (IsS47.ge HI0.out)) | exact HB.out)); rintro e w6 ⟨rfl, hi, hb, hk⟩; refine ⟨_, rfl, ?_⟩; have n0_ := Aside0.mk (KeepBut.trans au69 hk (.inl rfl)); have n1_ := Aside0.mk (hb); have n2_ := Aside0.mk (hi); clear HK; clear HB; clear HI0; have HK := n0_; have HB := n1_; have HI0 := n2_; clear n0_ n1_ n2_; (try clear hb); (try clear hb2); (try clear hk); (try clear hi); have p289 : 0 ≤ (t286 : Int) := of_decide_eq_true au101; have q289 : t286 < (l1.length : Int) := of_decide_eq_true au101; obtain ⟨ad289, e289, hx289_0⟩ := Kd.at_string HR1.out t286 p289 q289; cases e289; replace hx289_0 := keep_cell HK.out hx289_0 (by first | (rw [add_block]; exact hf1 _ rfl (by omega)) | exact hf1 _ rfl (by omega) | exact hf1 ad289 rfl (by omega)); replace p289 := eq_true p289; replace q289 := eq_true q289))
   go_ret
   exact ax1
  ·
   rw [if_neg c5] at H
   exact absurd H (by simp)
 ·
  rw [if_neg c4] at H
  exact absurd H (by simp)

end Go.Proofs.Ytbjlofabbikanaa.G

namespace Go.Proofs.Ytbjlofabbikanaa.G
open Go.RowKit Go.Proofs.YtbjlofabbikanaaW.PrintWords Go.Proofs.YtbjlofabbikanaaW.PrintLast Go.Proofs.Ytbjlofabbikanaa.B Go.Proofs.Ytbjlofabbikanaa.Opn
set_option linter.unusedVariables false
set_option linter.unusedSimpArgs false
def BtL (l : List Int) : Prop := l.length ≤ 65536 ∧ ∀ x ∈ l, 0 ≤ x ∧ x ≤ 255
theorem bt_of {l : List Int} (h : okList (okInt .u8) l) (hl : l.length ≤ 65536) : BtL l := by
  refine ⟨hl, fun x hx => ?_⟩
  have := h.2 x hx
  simp only [okInt, Lit.wf, Bool.and_eq_true, decide_eq_true_eq] at this
  have h1 : IntKind.u8.min = 0 := rfl
  have h2 : IntKind.u8.max = 255 := rfl
  omega
theorem rd_bd {l : List Int} (h : BtL l) (i : Int) : 0 ≤ rd l i ∧ rd l i ≤ 255 := by
  unfold rd
  by_cases c : i.toNat < l.length
  · rw [List.getD_eq_getElem?_getD, List.getElem?_eq_getElem c]
    exact h.2 _ (List.getElem_mem c)
  · rw [List.getD_eq_getElem?_getD, List.getElem?_eq_none (by omega)]
    exact ⟨by decide, by decide⟩
theorem and_bd (x : Int) : 0 ≤ wrap64 (Go.bits .and .u64 ((IntKind.u64.wrap x) / 1099511627776) 255) ∧ wrap64 (Go.bits .and .u64 ((IntKind.u64.wrap x) / 1099511627776) 255) ≤ 255 := by
  rw [IntKind.wrap_u64]
  obtain ⟨n, hn, hl⟩ : ∃ n : Nat, (x % 18446744073709551616) / 1099511627776 = (n : Int) ∧ n < 18446744073709551616 := ⟨((x % 18446744073709551616) / 1099511627776).toNat, by omega, by omega⟩
  rw [hn, show (255 : Int) = ((255 : Nat) : Int) from rfl, bits_and_u64_nat n 255 hl (by omega)]
  have := Nat.and_le_right (n := n) (m := 255)
  rw [w64 (by omega) (by omega)]
  omega
theorem next_ex {l : List Int} (h : BtL l) (a s : Int) (h0 : 0 ≤ a) (h1 : a ≤ 2305843009213693952) : ∃ x s', spec_l1Cur_next.f l a s = some (x, a + 1, s') ∧ 0 ≤ x ∧ x ≤ 255 := by
  unfold spec_l1Cur_next.f
  have hw : wrap64 (a + 1) = a + 1 := w64 (by omega) (by omega)
  rw [hw]
  have hr := rd_bd h a
  by_cases c : a < (l.length : Int)
  · rw [if_pos c, if_pos h0]
    by_cases c2 : a + 1 ≤ (l.length : Int)
    · rw [if_pos c2]; exact ⟨_, _, rfl, by rw [w64 (by omega) (by omega)]; exact hr⟩
    · rw [if_neg c2]; exact ⟨_, _, rfl, and_bd _⟩
  · rw [if_neg c]
    by_cases c2 : a + 1 ≤ (l.length : Int)
    · rw [if_pos c2]; exact ⟨_, _, rfl, by omega, by omega⟩
    · rw [if_neg c2]; exact ⟨_, _, rfl, and_bd _⟩
theorem tmod_bd {x n : Int} (h : 0 ≤ x) (hn : 1 ≤ n) : 0 ≤ Int.tmod x n ∧ Int.tmod x n < n := ⟨Int.tmod_nonneg n h, Int.tmod_lt_of_pos x (by omega)⟩
theorem pick_ex {l : List Int} (h : BtL l) (a s n : Int) (h0 : 0 ≤ a) (h1 : a ≤ 2305843009213693000) (hn : 1 ≤ n) : ∃ x a' s', spec_l1Cur_pick.f l a s n = some (x, a', s') ∧ 0 ≤ x ∧ x < n ∧ a ≤ a' ∧ a' ≤ a + 2 := by
  unfold spec_l1Cur_pick.f
  by_cases c : n ≤ 1
  · rw [if_pos c]; exact ⟨_, _, _, rfl, by omega, by omega, by omega, by omega⟩
  · rw [if_neg c]
    obtain ⟨x, s', e, b0, b1⟩ := next_ex h a s h0 (by omega)
    rw [e]
    by_cases c2 : n > 200
    · obtain ⟨x2, s2, e2, b2, b3⟩ := next_ex h (a + 1) s' (by omega) (by omega)
      refine ⟨Int.tmod (x * 256 + x2) n, a + 1 + 1, s2, ?_, (tmod_bd (x := x * 256 + x2) (n := n) (by omega) hn).1, (tmod_bd (x := x * 256 + x2) (n := n) (by omega) hn).2, ?_, ?_⟩
      · simp only [Option.bind_some]
        rw [if_pos c2, e2]
        simp only [Option.bind_some]
        rw [if_neg (by omega), w64 (x := x * 256) (by omega) (by omega), w64 (x := x * 256 + x2) (by omega) (by omega)]
      · omega
      · omega
    · refine ⟨Int.tmod x n, a + 1, s', ?_, (tmod_bd (x := x) (n := n) b0 hn).1, (tmod_bd (x := x) (n := n) b0 hn).2, ?_, ?_⟩
      · simp only [Option.bind_some]
        rw [if_neg c2, if_neg (by omega)]
      · omega
      · omega
end Go.Proofs.Ytbjlofabbikanaa.G

namespace Go.Proofs.Ytbjlofabbikanaa.Pure
open Go.RowKit Go.Proofs.Ytbjlofabbikanaa.G Go.Proofs.YtbjlofabbikanaaW.PrintWords Go.Proofs.YtbjlofabbikanaaW.PrintLast Go.Proofs.Ytbjlofabbikanaa.B Go.Proofs.Ytbjlofabbikanaa.Opn
set_option linter.unusedVariables false
set_option linter.unusedSimpArgs false
theorem among_ex {l : List Int} (h : BtL l) (a s : Int) (ts : List Int) (h0 : 0 ≤ a) (h1 : a ≤ 2305843009213693000) (hn : 1 ≤ ts.length) : ∃ x a' s', spec_l1Cur_among.f l a s ts = some (x, a', s') ∧ a ≤ a' ∧ a' ≤ a + 2 := by
  unfold spec_l1Cur_among.f
  obtain ⟨x, a', s', e, b0, b1, b2, b3⟩ := pick_ex h a s (ts.length : Int) h0 h1 (by omega)
  rw [e]
  simp only [Option.bind_some]
  rw [if_pos b0, if_pos b1]
  exact ⟨_, _, _, rfl, b2, b3⟩
theorem one_ex {l : List Int} (h : BtL l) (a s n : Int) (h0 : 0 ≤ a) (h1 : a ≤ 2305843009213693000) (hn : 1 ≤ n) : ∃ x a' s', spec_l1Cur_one.f l a s n = some (x, a', s') ∧ a ≤ a' ∧ a' ≤ a + 2 := by
  unfold spec_l1Cur_one.f
  obtain ⟨x, a', s', e, b0, b1, b2, b3⟩ := pick_ex h a s n h0 h1 hn
  rw [e]
  exact ⟨_, _, _, rfl, b2, b3⟩
theorem date_ex {l : List Int} (h : BtL l) (a s : Int) (h0 : 0 ≤ a) (h1 : a ≤ 2305843009213690000) : ∃ y m d c a' s', spec_l1Cur_date.f l a s = some (y, m, d, c, a', s') ∧ a ≤ a' ∧ a' ≤ a + 8 := by
  unfold spec_l1Cur_date.f
  obtain ⟨x1, a1, s1, e1, b1, c1⟩ := among_ex h a s [1999, 2000, 1850, 987, 1900, 2024] h0 (by omega) (by decide)
  obtain ⟨x2, a2, s2, e2, _, _, b2, c2⟩ := pick_ex h a1 s1 5 (by omega) (by omega) (by omega)
  obtain ⟨x3, a3, s3, e3, _, _, b3, c3⟩ := pick_ex h a2 s2 12 (by omega) (by omega) (by omega)
  obtain ⟨x4, a4, s4, e4, _, _, b4, c4⟩ := pick_ex h a3 s3 28 (by omega) (by omega) (by omega)
  rw [e1]; simp only [Option.bind_some]
  rw [e2]; simp only [Option.bind_some]
  rw [e3]; simp only [Option.bind_some]
  rw [e4]; simp only [Option.bind_some]
  repeat' split
  all_goals exact ⟨_, _, _, _, _, _, rfl, by omega, by omega⟩
theorem anyDate_ex {l : List Int} (h : BtL l) (a s : Int) (h0 : 0 ≤ a) (h1 : a ≤ 2305843009213680000) : ∃ y m d c a' s', spec_l1Cur_anyDate.f l a s = some (y, m, d, c, a', s') ∧ a ≤ a' ∧ a' ≤ a + 12 := by
  unfold spec_l1Cur_anyDate.f
  obtain ⟨y, m, d, c, a1, s1, e1, b1, c1⟩ := date_ex h a s h0 (by omega)
  obtain ⟨x2, a2, s2, e2, _, _, b2, c2⟩ := pick_ex h a1 s1 14 (by omega) (by omega) (by omega)
  obtain ⟨x3, a3, s3, e3, b3, c3⟩ := among_ex h a2 s2 [0, (-1), 2999, 3000, 1] (by omega) (by omega) (by decide)
  obtain ⟨x4, a4, s4, e4, b4, c4⟩ := among_ex h a2 s2 [13, (-1), 2] (by omega) (by omega) (by decide)
  obtain ⟨x5, a5, s5, e5, b5, c5⟩ := among_ex h a2 s2 [29, 30, 31, 32, (-1)] (by omega) (by omega) (by decide)
  rw [e1]; simp only [Option.bind_some]
  rw [e2]; simp only [Option.bind_some]
  rw [e3, e4, e5]; simp only [Option.bind_some]
  repeat' split
  all_goals exact ⟨_, _, _, _, _, _, rfl, by omega, by omega⟩
theorem two_ex {l : List Int} (h : BtL l) : ∃ y m d c y' m' d' c', spec_DrawMergeDates.f l = some (y, m, d, c, y', m', d', c') := by
  unfold spec_DrawMergeDates.f spec_DrawCompareDates.f spec_l1Cur_twoDates.f
  obtain ⟨y, m, d, c, a1, s1, e1, b1, c1⟩ := anyDate_ex h 0 0 (by omega) (by omega)
  obtain ⟨y', m', d', c', a2, s2, e2, b2, c2⟩ := anyDate_ex h a1 s1 (by omega) (by omega)
  obtain ⟨x3, a3, s3, e3, _, _, b3, c3⟩ := pick_ex h a2 s2 4 (by omega) (by omega) (by omega)
  obtain ⟨x4, a4, s4, e4, b4, c4⟩ := one_ex h a3 s3 2 (by omega) (by omega) (by omega)
  rw [e1]; simp only [Option.bind_some]
  rw [e2]; simp only [Option.bind_some]
  rw [e3]; simp only [Option.bind_some]
  rw [e4]; simp only [Option.bind_some]
  repeat' split
  all_goals exact ⟨_, _, _, _, _, _, _, _, rfl⟩
def mrgD (y m d : Int) (c : Bool) (y' m' d' : Int) (c' : Bool) : Int × Int × Int × Bool × Bool :=
  if goodD y m d c = true then (if goodD y' m' d' c' = true then (if refD y m d c y' m' d' c' = true then (y, m, d, c, true) else if refD y' m' d' c' y m d c = true then (y', m', d', c', true) else (0, 0, 0, false, false)) else (0, 0, 0, false, false)) else (0, 0, 0, false, false)
theorem spec_mrg (k : Nat) (y m d : Int) (c : Bool) (y' m' d' : Int) (c' : Bool) : spec_MergeDates.f (k + 2) y m d c y' m' d' c' = some (mrgD y m d c y' m' d' c') := by
  unfold spec_MergeDates.f mrgD
  simp only [spec_good, spec_MergeDates.j0, spec_ref, Option.bind_some]
  cases goodD y m d c <;> cases goodD y' m' d' c' <;> cases refD y m d c y' m' d' c' <;> cases refD y' m' d' c' y m d c <;> rfl
theorem impl_mrg (k : Nat) (y m d : Int) (c : Bool) (y' m' d' : Int) (c' : Bool) : impl_MergeDates.f (k + 2) y m d c y' m' d' c' = some (mrgD y m d c y' m' d' c') := by
  unfold impl_MergeDates.f impl_mergeDates.f mrgD
  simp only [impl_good, impl_ref, Option.bind_some]
  cases goodD y m d c <;> cases goodD y' m' d' c' <;> cases refD y m d c y' m' d' c' <;> cases refD y' m' d' c' y m d c <;> rfl
theorem impl_rf (k : Nat) (y m d : Int) (c : Bool) (y' m' d' : Int) (c' : Bool) (h : goodD y m d c = true) (h' : goodD y' m' d' c' = true) : impl_Refines.f (k + 2) y m d c y' m' d' c' = some (refD y m d c y' m' d' c', true) := by
  unfold impl_Refines.f
  simp only [impl_good, impl_ref, Option.bind_some, h, h', if_true]
theorem refD_self (y m d : Int) (c : Bool) : refD y m d c y m d c = true := by
  unfold refD
  cases c <;> simp
theorem mrg_law (y m d : Int) (c : Bool) (y' m' d' : Int) (c' : Bool) :
    laws_FnDateMerging.j0 3 (mrgD y m d c y' m' d' c').2.2.2.2 false y m d c y' m' d' c' (mrgD y m d c y' m' d' c').1 (mrgD y m d c y' m' d' c').2.1 (mrgD y m d c y' m' d' c').2.2.1 (mrgD y m d c y' m' d' c').2.2.2.1 = some true := by
  unfold mrgD
  by_cases g : goodD y m d c = true
  · rw [if_pos g]
    by_cases g' : goodD y' m' d' c' = true
    · rw [if_pos g']
      by_cases r : refD y m d c y' m' d' c' = true
      · rw [if_pos r]
        simp only [laws_FnDateMerging.j0, impl_rf 0 y m d c y m d c g g, impl_rf 0 y m d c y' m' d' c' g g', refD_self, r, Option.bind_some]
        simp
      · rw [if_neg r]
        by_cases r' : refD y' m' d' c' y m d c = true
        · rw [if_pos r']
          simp only [laws_FnDateMerging.j0, impl_rf 0 y' m' d' c' y' m' d' c' g' g', impl_rf 0 y' m' d' c' y m d c g' g, refD_self, r', Option.bind_some]
          simp
        · rw [if_neg r']; simp [laws_FnDateMerging.j0]
    · rw [if_neg g']; simp [laws_FnDateMerging.j0]
  · rw [if_neg g]; simp [laws_FnDateMerging.j0]
theorem FnDateMerging : laws_FnDateMerging.Pur := by
  intro l0 hl
  refine ⟨3, ?_⟩
  unfold laws_FnDateMerging.f laws_vBig.f
  simp only [Option.bind_some]
  by_cases c : decide ((l0.length : Int) > 65536) = true
  · rw [if_pos c]
  · rw [if_neg c]
    have c' : ¬ ((l0.length : Int) > 65536) := by simpa using c
    obtain ⟨y, m, d, c, y', m', d', c', e⟩ := two_ex (bt_of hl (by omega))
    have h1 : impl_MergeDates.f 3 y m d c y' m' d' c' = some (mrgD y m d c y' m' d' c') := impl_mrg 1 y m d c y' m' d' c'
    have h2 : spec_MergeDates.f 3 y m d c y' m' d' c' = some (mrgD y m d c y' m' d' c') := spec_mrg 1 y m d c y' m' d' c'
    rw [e]
    simp only [Option.bind_some]
    rw [h1, h2]
    simp only [Option.bind_some]
    rw [if_neg (by simp)]
    have := mrg_law y m d c y' m' d' c'
    simpa using this
end Go.Proofs.Ytbjlofabbikanaa.Pure
