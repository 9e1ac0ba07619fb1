/- Texts of this session for the law FnDateForms, put together by a program (merge.py): each ends with its namespace; conditions stand with each theorem. -/
import Derived.Test.YtmjmjfkjlblgaaaDoorKFnDateForms2
import Derived.Test.YtmjmjfkjlblgaaaDoorKFnDateForms3
import Derived.Test.YtmjmjfkjlblgaaaDoorKFnDateForms4
import Derived.Test.YtmjmjfkjlblgaaaDoorKFnDateForms5
import Derived.Test.YtmjmjfkjlblgaaaDoorKFnDateForms1
import Derived.Deep.Slices
import Derived.Lib.SplitLaws
import Derived.Lib.IndexBytes
import Derived.Lib.IndexLaws
import Derived.Lib.IndexMore
import Derived.Lib.ItoaLen
import Derived.Lib.ItoaNum
import Derived.Lib.Atoi
namespace Go.Proofs.YtmjmjfkjlblgaaaDoor.G
open Go.RowKit Go.Proofs.YtmjmjfkjlblgaaaDoorW.PrintWords Go.Proofs.YtmjmjfkjlblgaaaDoorW.PrintLast Go.Proofs.YtmjmjfkjlblgaaaDoorW.PrintMore
open Go.Proofs.YtmjmjfkjlblgaaaDoor.Gl Go.Proofs.YtmjmjfkjlblgaaaDoor.Ext
attribute [local go_sem] max2_int min2_int max_two min_two max_three min_three max_four min_four   -- for this text's walks alone
set_option linter.unusedVariables false
set_option linter.unusedSimpArgs false

attribute [local go_sem high] eqA33
/-! ### laws_FnDateForms: function 5 -/
mutual
def laws_FnDateForms.j0 : Nat → List Int → Bool → Bool → Int → Int → Int → Bool → Option (Bool)
 | 0, _, _, _, _, _, _, _ => none
 | k + 1, x0, x5, x59, x475000, x475001, x475002, x475003 => if x59 = true then (some false) else ((spec_DrawParseDate.f k x0).bind fun t484 => ((impl_ParseDate.f k t484).bind fun bt485 => ((impl_FormatDate.f k bt485.1 bt485.2.1 bt485.2.2.1 bt485.2.2.2.1).bind fun bt491 => (if bt485.2.2.2.2 = true then (if bt491.2 = true then (laws_FnDateForms.j1 k x0 x5 (bt491.1.toList != t484.toList) x475000 x475001 x475002 x475003) else (laws_FnDateForms.j1 k x0 x5 true x475000 x475001 x475002 x475003)) else (laws_FnDateForms.j1 k x0 x5 false x475000 x475001 x475002 x475003)))))
def laws_FnDateForms.j1 : Nat → List Int → Bool → Bool → Int → Int → Int → Bool → Option (Bool)
 | 0, _, _, _, _, _, _, _ => none
 | k + 1, x0, x5, x81, x475000, x475001, x475002, x475003 => if x81 = true then (some false) else ((spec_DrawCompareDates.f x0).bind fun bt493 => ((impl_CompareDates.f k bt493.1 bt493.2.1 bt493.2.2.1 bt493.2.2.2.1 bt493.2.2.2.2.1 bt493.2.2.2.2.2.1 bt493.2.2.2.2.2.2.1 bt493.2.2.2.2.2.2.2).bind fun bt503 => ((impl_CompareDates.f k bt493.2.2.2.2.1 bt493.2.2.2.2.2.1 bt493.2.2.2.2.2.2.1 bt493.2.2.2.2.2.2.2 bt493.1 bt493.2.1 bt493.2.2.1 bt493.2.2.2.1).bind fun bt505 => ((spec_CompareDates.f k bt493.1 bt493.2.1 bt493.2.2.1 bt493.2.2.2.1 bt493.2.2.2.2.1 bt493.2.2.2.2.2.1 bt493.2.2.2.2.2.2.1 bt493.2.2.2.2.2.2.2).bind fun bt507 => (if bt503.1 = bt507.1 then (if (bt503.2 != bt507.2) = true then (laws_FnDateForms.j2 k x5 true x475000 x475001 x475002 x475003) else (if (bt505.2 != bt503.2) = true then (laws_FnDateForms.j2 k x5 true x475000 x475001 x475002 x475003) else (if bt505.1 = (wrap64 (-bt503.1)) then (if bt503.2 = true then (laws_FnDateForms.j2 k x5 ((bt503.1 == 0) != (bt493.1 == bt493.2.2.2.2.1 && (bt493.2.1 == bt493.2.2.2.2.2.1 && (bt493.2.2.1 == bt493.2.2.2.2.2.2.1 && (bt493.2.2.2.1 == bt493.2.2.2.2.2.2.2))))) x475000 x475001 x475002 x475003) else (laws_FnDateForms.j2 k x5 false x475000 x475001 x475002 x475003)) else (laws_FnDateForms.j2 k x5 true x475000 x475001 x475002 x475003)))) else (laws_FnDateForms.j2 k x5 true x475000 x475001 x475002 x475003))))))
def laws_FnDateForms.j2 : Nat → Bool → Bool → Int → Int → Int → Bool → Option (Bool)
 | 0, _, _, _, _, _, _ => none
 | k + 1, x5, x134, x475000, x475001, x475002, x475003 => if x134 = true then (some false) else ((impl_Refines.f k x475000 x475001 x475002 x475003 x475000 x475001 x475002 x475003).bind fun bt509 => ((impl_DateBounds.f k x475000 x475001 x475002 x475003).bind fun bt511 => ((impl_Refines.f k bt511.1 bt511.2.1 bt511.2.2.1 bt511.2.2.2.1 x475000 x475001 x475002 x475003).bind fun bt522 => ((impl_CompareDates.f k bt511.1 bt511.2.1 bt511.2.2.1 bt511.2.2.2.1 bt511.2.2.2.2.1 bt511.2.2.2.2.2.1 bt511.2.2.2.2.2.2.1 bt511.2.2.2.2.2.2.2.1).bind fun bt524 => (if (bt509.2 == x5) = true then (if x5 = true then (if bt509.1 = true then (if bt511.2.2.2.2.2.2.2.2 = true then (if bt522.2 = true then (if bt522.1 = true then (if bt524.2 = true then (some (decide (bt524.1 ≤ 0))) else (some false)) else (some false)) else (some false)) else (some true)) else (some false)) else (if bt511.2.2.2.2.2.2.2.2 = true then (if bt522.2 = true then (if bt522.1 = true then (if bt524.2 = true then (some (decide (bt524.1 ≤ 0))) else (some false)) else (some false)) else (some false)) else (some true))) else (some false))))))
end
def laws_FnDateForms.f (k : Nat) (l0 : List Int) : Option (Bool) := (laws_vBig.f l0).bind fun t469 => (if t469 = true then (some true) else ((spec_DrawFormatDate.f l0).bind fun bt470 => ((impl_FormatDate.f k bt470.1 bt470.2.1 bt470.2.2.1 bt470.2.2.2).bind fun bt475 => ((impl_ParseDate.f k bt475.1).bind fun bt477 => ((spec_IsValidDate.f k bt470.1 bt470.2.1 bt470.2.2.1 bt470.2.2.2).bind fun t483 => (if (bt475.2 != t483) = true then (laws_FnDateForms.j0 k l0 bt475.2 true bt470.1 bt470.2.1 bt470.2.2.1 bt470.2.2.2) else (if bt475.2 = true then (if bt477.2.2.2.2 = true then (laws_FnDateForms.j0 k l0 bt475.2 (!(bt477.1 == bt470.1) || (!(bt477.2.1 == bt470.2.1) || (!(bt477.2.2.1 == bt470.2.2.1) || (!(bt477.2.2.2.1 == bt470.2.2.2))))) bt470.1 bt470.2.1 bt470.2.2.1 bt470.2.2.2) else (laws_FnDateForms.j0 k l0 bt475.2 true bt470.1 bt470.2.1 bt470.2.2.1 bt470.2.2.2)) else (laws_FnDateForms.j0 k l0 bt475.2 false bt470.1 bt470.2.1 bt470.2.2.1 bt470.2.2.2))))))))
theorem laws_FnDateForms.mono_l : ∀ k, (∀ y0 y1 y2 y3 y4 y5 y6, LeO (laws_FnDateForms.j0 k y0 y1 y2 y3 y4 y5 y6) (laws_FnDateForms.j0 (k + 1) y0 y1 y2 y3 y4 y5 y6)) ∧ (∀ y0 y1 y2 y3 y4 y5 y6, LeO (laws_FnDateForms.j1 k y0 y1 y2 y3 y4 y5 y6) (laws_FnDateForms.j1 (k + 1) y0 y1 y2 y3 y4 y5 y6)) ∧ (∀ y0 y1 y2 y3 y4 y5, LeO (laws_FnDateForms.j2 k y0 y1 y2 y3 y4 y5) (laws_FnDateForms.j2 (k + 1) y0 y1 y2 y3 y4 y5))
 | 0 => ⟨fun _ _ _ _ _ _ _ r h => by simp [laws_FnDateForms.j0] at h, fun _ _ _ _ _ _ _ r h => by simp [laws_FnDateForms.j1] at h, fun _ _ _ _ _ _ r h => by simp [laws_FnDateForms.j2] at h⟩
 | k + 1 => by
  obtain ⟨ih0, ih1, ih2⟩ := laws_FnDateForms.mono_l k
  refine ⟨?_, ?_, ?_⟩
  ·
   intro y0 y1 y2 y3 y4 y5 y6
   unfold laws_FnDateForms.j0
   repeat' first
   | (with_reducible exact ih0 _ _ _ _ _ _ _)
   | (with_reducible exact ih1 _ _ _ _ _ _ _)
   | (with_reducible exact ih2 _ _ _ _ _ _)
   | (with_reducible exact impl_CompareDates.mono _ _ _ _ _ _ _ _ _)
   | (with_reducible exact impl_DateBounds.mono _ _ _ _ _)
   | (with_reducible exact impl_FormatDate.mono _ _ _ _ _)
   | (with_reducible exact impl_ParseDate.mono _ _)
   | (with_reducible exact impl_Refines.mono _ _ _ _ _ _ _ _ _)
   | (with_reducible exact spec_CompareDates.mono _ _ _ _ _ _ _ _ _)
   | (with_reducible exact spec_DrawParseDate.mono _ _)
   | (with_reducible exact spec_IsValidDate.mono _ _ _ _ _)
   | (with_reducible exact LeO.refl _)
   | (with_reducible exact LeO.none _)
   | (with_reducible refine LeO.ite ?_ ?_)
   | (with_reducible refine LeO.bind ?_ (fun _ => ?_))
   | exact ih0 _ _ _ _ _ _ _
   | exact ih1 _ _ _ _ _ _ _
   | exact ih2 _ _ _ _ _ _
   | exact impl_CompareDates.mono _ _ _ _ _ _ _ _ _
   | exact impl_DateBounds.mono _ _ _ _ _
   | exact impl_FormatDate.mono _ _ _ _ _
   | exact impl_ParseDate.mono _ _
   | exact impl_Refines.mono _ _ _ _ _ _ _ _ _
   | exact spec_CompareDates.mono _ _ _ _ _ _ _ _ _
   | exact spec_DrawParseDate.mono _ _
   | exact spec_IsValidDate.mono _ _ _ _ _
   | exact LeO.none _
   | refine LeO.ite ?_ ?_
   | refine LeO.bind ?_ (fun _ => ?_)
  ·
   intro y0 y1 y2 y3 y4 y5 y6
   unfold laws_FnDateForms.j1
   repeat' first
   | (with_reducible exact ih0 _ _ _ _ _ _ _)
   | (with_reducible exact ih1 _ _ _ _ _ _ _)
   | (with_reducible exact ih2 _ _ _ _ _ _)
   | (with_reducible exact impl_CompareDates.mono _ _ _ _ _ _ _ _ _)
   | (with_reducible exact impl_DateBounds.mono _ _ _ _ _)
   | (with_reducible exact impl_FormatDate.mono _ _ _ _ _)
   | (with_reducible exact impl_ParseDate.mono _ _)
   | (with_reducible exact impl_Refines.mono _ _ _ _ _ _ _ _ _)
   | (with_reducible exact spec_CompareDates.mono _ _ _ _ _ _ _ _ _)
   | (with_reducible exact spec_DrawParseDate.mono _ _)
   | (with_reducible exact spec_IsValidDate.mono _ _ _ _ _)
   | (with_reducible exact LeO.refl _)
   | (with_reducible exact LeO.none _)
   | (with_reducible refine LeO.ite ?_ ?_)
   | (with_reducible refine LeO.bind ?_ (fun _ => ?_))
   | exact ih0 _ _ _ _ _ _ _
   | exact ih1 _ _ _ _ _ _ _
   | exact ih2 _ _ _ _ _ _
   | exact impl_CompareDates.mono _ _ _ _ _ _ _ _ _
   | exact impl_DateBounds.mono _ _ _ _ _
   | exact impl_FormatDate.mono _ _ _ _ _
   | exact impl_ParseDate.mono _ _
   | exact impl_Refines.mono _ _ _ _ _ _ _ _ _
   | exact spec_CompareDates.mono _ _ _ _ _ _ _ _ _
   | exact spec_DrawParseDate.mono _ _
   | exact spec_IsValidDate.mono _ _ _ _ _
   | exact LeO.none _
   | refine LeO.ite ?_ ?_
   | refine LeO.bind ?_ (fun _ => ?_)
  ·
   intro y0 y1 y2 y3 y4 y5
   unfold laws_FnDateForms.j2
   repeat' first
   | (with_reducible exact ih0 _ _ _ _ _ _ _)
   | (with_reducible exact ih1 _ _ _ _ _ _ _)
   | (with_reducible exact ih2 _ _ _ _ _ _)
   | (with_reducible exact impl_CompareDates.mono _ _ _ _ _ _ _ _ _)
   | (with_reducible exact impl_DateBounds.mono _ _ _ _ _)
   | (with_reducible exact impl_FormatDate.mono _ _ _ _ _)
   | (with_reducible exact impl_ParseDate.mono _ _)
   | (with_reducible exact impl_Refines.mono _ _ _ _ _ _ _ _ _)
   | (with_reducible exact spec_CompareDates.mono _ _ _ _ _ _ _ _ _)
   | (with_reducible exact spec_DrawParseDate.mono _ _)
   | (with_reducible exact spec_IsValidDate.mono _ _ _ _ _)
   | (with_reducible exact LeO.refl _)
   | (with_reducible exact LeO.none _)
   | (with_reducible refine LeO.ite ?_ ?_)
   | (with_reducible refine LeO.bind ?_ (fun _ => ?_))
   | exact ih0 _ _ _ _ _ _ _
   | exact ih1 _ _ _ _ _ _ _
   | exact ih2 _ _ _ _ _ _
   | exact impl_CompareDates.mono _ _ _ _ _ _ _ _ _
   | exact impl_DateBounds.mono _ _ _ _ _
   | exact impl_FormatDate.mono _ _ _ _ _
   | exact impl_ParseDate.mono _ _
   | exact impl_Refines.mono _ _ _ _ _ _ _ _ _
   | exact spec_CompareDates.mono _ _ _ _ _ _ _ _ _
   | exact spec_DrawParseDate.mono _ _
   | exact spec_IsValidDate.mono _ _ _ _ _
   | exact LeO.none _
   | refine LeO.ite ?_ ?_
   | refine LeO.bind ?_ (fun _ => ?_)
theorem laws_FnDateForms.mono : ∀ a0 k, LeO (laws_FnDateForms.f k a0) (laws_FnDateForms.f (k + 1) a0) := by
 intro a0 k
 obtain ⟨ih0, ih1, ih2⟩ := laws_FnDateForms.mono_l k
 unfold laws_FnDateForms.f
 repeat' first
   | (with_reducible exact ih0 _ _ _ _ _ _ _)
   | (with_reducible exact ih1 _ _ _ _ _ _ _)
   | (with_reducible exact ih2 _ _ _ _ _ _)
   | (with_reducible exact impl_CompareDates.mono _ _ _ _ _ _ _ _ _)
   | (with_reducible exact impl_DateBounds.mono _ _ _ _ _)
   | (with_reducible exact impl_FormatDate.mono _ _ _ _ _)
   | (with_reducible exact impl_ParseDate.mono _ _)
   | (with_reducible exact impl_Refines.mono _ _ _ _ _ _ _ _ _)
   | (with_reducible exact spec_CompareDates.mono _ _ _ _ _ _ _ _ _)
   | (with_reducible exact spec_DrawParseDate.mono _ _)
   | (with_reducible exact spec_IsValidDate.mono _ _ _ _ _)
   | (with_reducible exact LeO.refl _)
   | (with_reducible exact LeO.none _)
   | (with_reducible refine LeO.ite ?_ ?_)
   | (with_reducible refine LeO.bind ?_ (fun _ => ?_))
   | exact ih0 _ _ _ _ _ _ _
   | exact ih1 _ _ _ _ _ _ _
   | exact ih2 _ _ _ _ _ _
   | exact impl_CompareDates.mono _ _ _ _ _ _ _ _ _
   | exact impl_DateBounds.mono _ _ _ _ _
   | exact impl_FormatDate.mono _ _ _ _ _
   | exact impl_ParseDate.mono _ _
   | exact impl_Refines.mono _ _ _ _ _ _ _ _ _
   | exact spec_CompareDates.mono _ _ _ _ _ _ _ _ _
   | exact spec_DrawParseDate.mono _ _
   | exact spec_IsValidDate.mono _ _ _ _ _
   | exact LeO.none _
   | refine LeO.ite ?_ ?_
   | refine LeO.bind ?_ (fun _ => ?_)
set_option maxRecDepth 100000 in
theorem laws_FnDateForms.L0 {P : Prop} (h : P := by
  go_wp2_with (first | ((with_reducible refine gate_callee (f := 23) rfl ?_); refine goesL_ (some 46) rfl rfl Tryd.func23 (by kernel_rfl) rfl #[.agg #[.int .i64 t470, .int .i64 t471, .int .i64 t472, .bool t473]] rfl au100 ?_; (with_reducible refine (spec_IsValidDate.calls k t470 t471 t472 t473 t483 _ A16.out).mono ?_); rintro e w25 ⟨rfl, hb⟩; refine ⟨_, rfl, ?_⟩; replace BK474 := Aside0.mk (blk_below (g := gb474) (o := .cells #[.int .i64 t470, .int .i64 t471, .int .i64 t472, .bool t473] 33 (0, 0)) au35 hb); replace BK482 := Aside0.mk (blk_below (g := gb482) (o := .cells #[.int .i64 t477, .int .i64 t478, .int .i64 t479, .bool t480] 33 (0, 0)) au21 hb); replace HB := Aside0.mk (below_step au75 hb); (try clear hb); obtain ⟨hcz26_0, hcz26_1, hcz26_2, hcz26_3, hfz26_0, hfz26_1, hfz26_2, hfz26_3⟩ := blkc4 BK482.out; obtain ⟨hcz27_0, hcz27_1, hcz27_2, hcz27_3, hfz27_0, hfz27_1, hfz27_2, hfz27_3⟩ := blkc4 BK474.out))
  go_meet
  case rel => first | (exact ⟨_, ((!(t477 == t470) || (!(t478 == t471) || (!(t479 == t472) || (!(t480 == t473)))))), au153, H', ⟨by first | omega | exact Nat.le_refl _⟩, ⟨by (with_reducible repeat (first | refine blk_drewN ?_ _ | refine blk_drew ?_ | refine blk_alloc ?_ _)); exact BK474.out⟩, ⟨by (with_reducible repeat (first | refine blk_drewN ?_ _ | refine blk_drew ?_ | refine blk_alloc ?_ _)); exact BK482.out⟩, ⟨by repeat (first | (with_reducible first | exact HB.out | apply below_alloc | apply pw_below_drewN | apply below_drew1 | refine below_set ?_ GE474.out | refine below_set ?_ GE482.out) | exact HB.out)⟩⟩) | (exact ⟨_, (((t503 == 0) != (t493 == t497 && (t494 == t498 && (t495 == t499 && (t496 == t500)))))), au153, H', ⟨by have := HJ6.out; have := HJ37.out; first | omega | exact Nat.le_refl _⟩, ⟨by (with_reducible repeat (first | refine blk_drewN ?_ _ | refine blk_drew ?_ | refine blk_alloc ?_ _)); exact BK474.out⟩, ⟨by (with_reducible repeat (first | refine blk_drewN ?_ _ | refine blk_drew ?_ | refine blk_alloc ?_ _)); exact BK482.out⟩, ⟨by (with_reducible repeat (first | refine blk_drewN ?_ _ | refine blk_drew ?_ | refine blk_alloc ?_ _)); exact BK490.out⟩, ⟨by (with_reducible repeat (first | refine blk_drewN ?_ _ | refine blk_drew ?_ | refine blk_alloc ?_ _)); exact BK501.out⟩, ⟨by (with_reducible repeat (first | refine blk_drewN ?_ _ | refine blk_drew ?_ | refine blk_alloc ?_ _)); exact BK502.out⟩, ⟨by repeat (first | (with_reducible first | exact HB.out | apply below_alloc | apply pw_below_drewN | apply below_drew1 | refine below_set ?_ GE474.out | refine below_set ?_ GE482.out | refine below_set ?_ GE490.out | refine below_set ?_ GE501.out | refine below_set ?_ GE502.out) | exact HB.out)⟩⟩) | (exact ⟨_, (false), au153, H', ⟨by have := HJ6.out; have := HJ37.out; first | omega | exact Nat.le_refl _⟩, ⟨by (with_reducible repeat (first | refine blk_drewN ?_ _ | refine blk_drew ?_ | refine blk_alloc ?_ _)); exact BK474.out⟩, ⟨by (with_reducible repeat (first | refine blk_drewN ?_ _ | refine blk_drew ?_ | refine blk_alloc ?_ _)); exact BK482.out⟩, ⟨by (with_reducible repeat (first | refine blk_drewN ?_ _ | refine blk_drew ?_ | refine blk_alloc ?_ _)); exact BK490.out⟩, ⟨by (with_reducible repeat (first | refine blk_drewN ?_ _ | refine blk_drew ?_ | refine blk_alloc ?_ _)); exact BK501.out⟩, ⟨by (with_reducible repeat (first | refine blk_drewN ?_ _ | refine blk_drew ?_ | refine blk_alloc ?_ _)); exact BK502.out⟩, ⟨by repeat (first | (with_reducible first | exact HB.out | apply below_alloc | apply pw_below_drewN | apply below_drew1 | refine below_set ?_ GE474.out | refine below_set ?_ GE482.out | refine below_set ?_ GE490.out | refine below_set ?_ GE501.out | refine below_set ?_ GE502.out) | exact HB.out)⟩⟩) | (exact ⟨_, (true), au153, H', ⟨by have := HJ6.out; have := HJ37.out; first | omega | exact Nat.le_refl _⟩, ⟨by (with_reducible repeat (first | refine blk_drewN ?_ _ | refine blk_drew ?_ | refine blk_alloc ?_ _)); exact BK474.out⟩, ⟨by (with_reducible repeat (first | refine blk_drewN ?_ _ | refine blk_drew ?_ | refine blk_alloc ?_ _)); exact BK482.out⟩, ⟨by (with_reducible repeat (first | refine blk_drewN ?_ _ | refine blk_drew ?_ | refine blk_alloc ?_ _)); exact BK490.out⟩, ⟨by (with_reducible repeat (first | refine blk_drewN ?_ _ | refine blk_drew ?_ | refine blk_alloc ?_ _)); exact BK501.out⟩, ⟨by (with_reducible repeat (first | refine blk_drewN ?_ _ | refine blk_drew ?_ | refine blk_alloc ?_ _)); exact BK502.out⟩, ⟨by repeat (first | (with_reducible first | exact HB.out | apply below_alloc | apply pw_below_drewN | apply below_drew1 | refine below_set ?_ GE474.out | refine below_set ?_ GE482.out | refine below_set ?_ GE490.out | refine below_set ?_ GE501.out | refine below_set ?_ GE502.out) | exact HB.out)⟩⟩) | (exact ⟨_, ((t491.toList != t484.toList)), au153, H', ⟨by have := HJ6.out; first | omega | exact Nat.le_refl _⟩, ⟨by (with_reducible repeat (first | refine blk_drewN ?_ _ | refine blk_drew ?_ | refine blk_alloc ?_ _)); exact BK474.out⟩, ⟨by (with_reducible repeat (first | refine blk_drewN ?_ _ | refine blk_drew ?_ | refine blk_alloc ?_ _)); exact BK482.out⟩, ⟨by (with_reducible repeat (first | refine blk_drewN ?_ _ | refine blk_drew ?_ | refine blk_alloc ?_ _)); exact BK490.out⟩, ⟨by repeat (first | (with_reducible first | exact HB.out | apply below_alloc | apply pw_below_drewN | apply below_drew1 | refine below_set ?_ GE474.out | refine below_set ?_ GE482.out | refine below_set ?_ GE490.out) | exact HB.out)⟩⟩) | (exact ⟨_, (false), au153, H', ⟨by have := HJ6.out; first | omega | exact Nat.le_refl _⟩, ⟨by (with_reducible repeat (first | refine blk_drewN ?_ _ | refine blk_drew ?_ | refine blk_alloc ?_ _)); exact BK474.out⟩, ⟨by (with_reducible repeat (first | refine blk_drewN ?_ _ | refine blk_drew ?_ | refine blk_alloc ?_ _)); exact BK482.out⟩, ⟨by (with_reducible repeat (first | refine blk_drewN ?_ _ | refine blk_drew ?_ | refine blk_alloc ?_ _)); exact BK490.out⟩, ⟨by repeat (first | (with_reducible first | exact HB.out | apply below_alloc | apply pw_below_drewN | apply below_drew1 | refine below_set ?_ GE474.out | refine below_set ?_ GE482.out | refine below_set ?_ GE490.out) | exact HB.out)⟩⟩) | (exact ⟨_, (true), au153, H', ⟨by have := HJ6.out; first | omega | exact Nat.le_refl _⟩, ⟨by (with_reducible repeat (first | refine blk_drewN ?_ _ | refine blk_drew ?_ | refine blk_alloc ?_ _)); exact BK474.out⟩, ⟨by (with_reducible repeat (first | refine blk_drewN ?_ _ | refine blk_drew ?_ | refine blk_alloc ?_ _)); exact BK482.out⟩, ⟨by (with_reducible repeat (first | refine blk_drewN ?_ _ | refine blk_drew ?_ | refine blk_alloc ?_ _)); exact BK490.out⟩, ⟨by repeat (first | (with_reducible first | exact HB.out | apply below_alloc | apply pw_below_drewN | apply below_drew1 | refine below_set ?_ GE474.out | refine below_set ?_ GE482.out | refine below_set ?_ GE490.out) | exact HB.out)⟩⟩)) : P := h
set_option maxRecDepth 100000 in
theorem laws_FnDateForms.L1 {P : Prop} (h : P := by
  go_wp2_with (first | ((with_reducible refine gate_callee (f := 23) rfl ?_); refine goesL_ (some 46) rfl rfl Tryd.func23 (by kernel_rfl) rfl #[.agg #[.int .i64 t470, .int .i64 t471, .int .i64 t472, .bool t473]] rfl au100 ?_; (with_reducible refine (spec_IsValidDate.calls k t470 t471 t472 t473 t483 _ A16.out).mono ?_); rintro e w33 ⟨rfl, hb⟩; refine ⟨_, rfl, ?_⟩; replace BK474 := Aside0.mk (blk_below (g := gb474) (o := .cells #[.int .i64 t470, .int .i64 t471, .int .i64 t472, .bool t473] 33 (0, 0)) au35 hb); replace BK482 := Aside0.mk (blk_below (g := gb482) (o := .cells #[.int .i64 t477, .int .i64 t478, .int .i64 t479, .bool t480] 33 (0, 0)) au21 hb); replace HB := Aside0.mk (below_step au75 hb); (try clear hb)))
  go_meet
  case rel => first | (exact ⟨_, (false), au153, H', ⟨by first | omega | exact Nat.le_refl _⟩, ⟨by (with_reducible repeat (first | refine blk_drewN ?_ _ | refine blk_drew ?_ | refine blk_alloc ?_ _)); exact BK474.out⟩, ⟨by (with_reducible repeat (first | refine blk_drewN ?_ _ | refine blk_drew ?_ | refine blk_alloc ?_ _)); exact BK482.out⟩, ⟨by repeat (first | (with_reducible first | exact HB.out | apply below_alloc | apply pw_below_drewN | apply below_drew1 | refine below_set ?_ GE474.out | refine below_set ?_ GE482.out) | exact HB.out)⟩⟩) | (exact ⟨_, (true), au153, H', ⟨by first | omega | exact Nat.le_refl _⟩, ⟨by (with_reducible repeat (first | refine blk_drewN ?_ _ | refine blk_drew ?_ | refine blk_alloc ?_ _)); exact BK474.out⟩, ⟨by (with_reducible repeat (first | refine blk_drewN ?_ _ | refine blk_drew ?_ | refine blk_alloc ?_ _)); exact BK482.out⟩, ⟨by repeat (first | (with_reducible first | exact HB.out | apply below_alloc | apply pw_below_drewN | apply below_drew1 | refine below_set ?_ GE474.out | refine below_set ?_ GE482.out) | exact HB.out)⟩⟩)) : P := h
set_option maxHeartbeats 8000000 in
set_option maxRecDepth 100000 in
theorem laws_FnDateForms.calls (k : Nat) (A0 : Option Addr) (c0 : Nat) (l0 : List Int) (w : World) {gF3 : Bool} (hG : GL true true gF3 w) (hr0 : Kd.C (Kd.int .u8) w A0 l0.length l0) (hc0 : l0.length ≤ c0) (h : laws_FnDateForms.f k l0 = some true) :
  Calls Tryd.prog 5 #[.slice A0 l0.length c0] w fun e w' => e = .returned (.bool true) ∧ Below w.heap.size w w' := by
 obtain ⟨r, hr_⟩ : ∃ r, r = true := ⟨true, rfl⟩
 rw [← hr_] at h ⊢
 have HRT := Aside0.mk hr_
 clear hr_
 have HG := Aside0.mk hG
 clear hG
 have hu33 := Tryd.underlying33
 have HR0 := Aside0.mk hr0
 have HC0 := Aside0.mk hc0
 clear hr0 hc0
 have HB := Aside0.mk (Below.refl w.heap.size w)
 have H : ((laws_vBig.f l0).bind fun t469 => (if t469 = true then (some true) else ((spec_DrawFormatDate.f l0).bind fun bt470 => ((impl_FormatDate.f k bt470.1 bt470.2.1 bt470.2.2.1 bt470.2.2.2).bind fun bt475 => ((impl_ParseDate.f k bt475.1).bind fun bt477 => ((spec_IsValidDate.f k bt470.1 bt470.2.1 bt470.2.2.1 bt470.2.2.2).bind fun t483 => (if (bt475.2 != t483) = true then (laws_FnDateForms.j0 k l0 bt475.2 true bt470.1 bt470.2.1 bt470.2.2.1 bt470.2.2.2) else (if bt475.2 = true then (if bt477.2.2.2.2 = true then (laws_FnDateForms.j0 k l0 bt475.2 (!(bt477.1 == bt470.1) || (!(bt477.2.1 == bt470.2.1) || (!(bt477.2.2.1 == bt470.2.2.1) || (!(bt477.2.2.2.1 == bt470.2.2.2))))) bt470.1 bt470.2.1 bt470.2.2.1 bt470.2.2.2) else (laws_FnDateForms.j0 k l0 bt475.2 true bt470.1 bt470.2.1 bt470.2.2.1 bt470.2.2.2)) else (laws_FnDateForms.j0 k l0 bt475.2 false bt470.1 bt470.2.1 bt470.2.2.1 bt470.2.2.2))))))))) = some r := h
 clear h
 replace H := Option.bind_eq_some_iff.mp H
 obtain ⟨t469, A20, H⟩ := H
 try dsimp only at H
 have A2 := Aside0.mk A20
 clear A20
 by_cases c3 : t469 = true
 ·
  subst c3
  replace H := (if_pos rfl).symm.trans H
  obtain rfl := Option.some.inj H
  go_enter Tryd.func5, Tryd.ntmps5
  go_wp2_with (first | ((with_reducible refine gate_callee (f := 6) rfl ?_); refine goesL_ (some 31) rfl rfl Tryd.func6 (by kernel_rfl) rfl #[.slice A0 l0.length c0] rfl au100 ?_; (with_reducible refine (laws_vBig.calls _ _ l0 _ _ ?side1 ?side2 A2.out).mono ?_); (case side1 => repeat (first | exact HR0.out | (with_reducible refine Kd.C_alloc ?_ _) | (with_reducible refine Kd.C_drewN ?_ _) | (with_reducible refine Kd.C_drew ?_))); (case side2 => exact HC0.out); rintro e w' ⟨rfl, ⟨nd, rfl⟩⟩; refine ⟨_, rfl, ?_⟩))
  go_ret
  exact ax2
 ·
  replace c3 := Bool.eq_false_iff.mpr c3
  subst c3
  replace H := (if_neg (show ¬ (false = true) by decide)).symm.trans H
  replace H := Option.bind_eq_some_iff.mp H
  obtain ⟨⟨t470, t471, t472, t473⟩, A40, H⟩ := H
  replace H : ((impl_FormatDate.f k t470 t471 t472 t473).bind fun bt475 => ((impl_ParseDate.f k bt475.1).bind fun bt477 => ((spec_IsValidDate.f k t470 t471 t472 t473).bind fun t483 => (if (bt475.2 != t483) = true then (laws_FnDateForms.j0 k l0 bt475.2 true t470 t471 t472 t473) else (if bt475.2 = true then (if bt477.2.2.2.2 = true then (laws_FnDateForms.j0 k l0 bt475.2 (!(bt477.1 == t470) || (!(bt477.2.1 == t471) || (!(bt477.2.2.1 == t472) || (!(bt477.2.2.2.1 == t473))))) t470 t471 t472 t473) else (laws_FnDateForms.j0 k l0 bt475.2 true t470 t471 t472 t473)) else (laws_FnDateForms.j0 k l0 bt475.2 false t470 t471 t472 t473)))))) = some r := H
  have A4 := Aside0.mk A40
  clear A40
  replace H := Option.bind_eq_some_iff.mp H
  obtain ⟨⟨t475, t476⟩, A50, H⟩ := H
  replace H : ((impl_ParseDate.f k t475).bind fun bt477 => ((spec_IsValidDate.f k t470 t471 t472 t473).bind fun t483 => (if (t476 != t483) = true then (laws_FnDateForms.j0 k l0 t476 true t470 t471 t472 t473) else (if t476 = true then (if bt477.2.2.2.2 = true then (laws_FnDateForms.j0 k l0 t476 (!(bt477.1 == t470) || (!(bt477.2.1 == t471) || (!(bt477.2.2.1 == t472) || (!(bt477.2.2.2.1 == t473))))) t470 t471 t472 t473) else (laws_FnDateForms.j0 k l0 t476 true t470 t471 t472 t473)) else (laws_FnDateForms.j0 k l0 t476 false t470 t471 t472 t473))))) = some r := H
  have A5 := Aside0.mk A50
  clear A50
  replace H := Option.bind_eq_some_iff.mp H
  obtain ⟨⟨t477, t478, t479, t480, t481⟩, A60, H⟩ := H
  replace H : ((spec_IsValidDate.f k t470 t471 t472 t473).bind fun t483 => (if (t476 != t483) = true then (laws_FnDateForms.j0 k l0 t476 true t470 t471 t472 t473) else (if t476 = true then (if t481 = true then (laws_FnDateForms.j0 k l0 t476 (!(t477 == t470) || (!(t478 == t471) || (!(t479 == t472) || (!(t480 == t473))))) t470 t471 t472 t473) else (laws_FnDateForms.j0 k l0 t476 true t470 t471 t472 t473)) else (laws_FnDateForms.j0 k l0 t476 false t470 t471 t472 t473)))) = some r := H
  have A6 := Aside0.mk A60
  clear A60
  have HC7 := Aside0.mk H
  clear H
  go_enter Tryd.func5, Tryd.ntmps5
  go_upto_region 6 with (first | ((with_reducible refine gate_callee (f := 6) rfl ?_); refine goesL_ (some 31) rfl rfl Tryd.func6 (by kernel_rfl) rfl #[.slice A0 l0.length c0] rfl au100 ?_; (with_reducible refine (laws_vBig.calls _ _ l0 _ _ ?side1 ?side2 A2.out).mono ?_); (case side1 => repeat (first | exact HR0.out | (with_reducible refine Kd.C_alloc ?_ _) | (with_reducible refine Kd.C_drewN ?_ _) | (with_reducible refine Kd.C_drew ?_))); (case side2 => exact HC0.out); rintro e w' ⟨rfl, ⟨nd, rfl⟩⟩; refine ⟨_, rfl, ?_⟩) | ((with_reducible refine gate_callee (f := 21) rfl ?_); refine goesL_ (some 33) rfl rfl Tryd.func21 (by kernel_rfl) rfl #[.slice A0 l0.length c0] rfl au100 ?_; (with_reducible refine (spec_DrawFormatDate.calls _ _ l0 t470 t471 t472 t473 _ ?side1 ?side2 A4.out).mono ?_); (case side1 => repeat (first | exact HR0.out | (with_reducible refine Kd.C_alloc ?_ _) | (with_reducible refine Kd.C_drewN ?_ _) | (with_reducible refine Kd.C_drew ?_))); (case side2 => exact HC0.out); rintro e w8 ⟨rfl, hb⟩; refine ⟨_, rfl, ?_⟩; replace HB := Aside0.mk (below_step au101 hb); (try clear hb)) | ((with_reducible refine gate_dst (N := 3) rfl ?_); refine box_event ?hg (N := 3) ?hd (cs := #[.int .i64 0, .int .i64 0, .int .i64 0, .bool false]) (t := 33) ?hr ?_; (case hd => rfl); (case hg => rfl); (case hr => first | (go_simp; done) | (go_simp; rfl)); intro gb474 hg w9 hbox hb; have BK474 := Aside0.mk (hbox); have GW474 := Aside0.mk (bsz hg au101); have GE474 := Aside0.mk (bsz hg au101); replace HB := Aside0.mk (below_step au101 hb); clear hb hbox hg; obtain ⟨hcz10_0, hcz10_1, hcz10_2, hcz10_3, hfz10_0, hfz10_1, hfz10_2, hfz10_3⟩ := blkc4 BK474.out) | ((with_reducible refine gate_callee (f := 22) rfl ?_); refine goesL_ (some 36) rfl rfl Tryd.func22 (by kernel_rfl) rfl #[.agg #[.int .i64 t470, .int .i64 t471, .int .i64 t472, .bool t473]] rfl au100 ?_; (with_reducible refine (impl_FormatDate.calls (hG := au40) k t470 t471 t472 t473 t475 t476 _ A5.out).mono ?_); rintro e w11 ⟨rfl, hb⟩; refine ⟨_, rfl, ?_⟩; replace BK474 := Aside0.mk (blk_below (g := gb474) (o := .cells #[.int .i64 t470, .int .i64 t471, .int .i64 t472, .bool t473] 33 (0, 0)) (by (with_reducible repeat (first | refine blk_drewN ?_ _ | refine blk_drew ?_ | refine blk_alloc ?_ _)); refine blk_put (cs := #[.int .i64 t470, .int .i64 t471, .int .i64 t472, .bool false]) ?_ 3 _ rfl; (with_reducible repeat (first | refine blk_drewN ?_ _ | refine blk_drew ?_ | refine blk_alloc ?_ _)); refine blk_put (cs := #[.int .i64 t470, .int .i64 t471, .int .i64 0, .bool false]) ?_ 2 _ rfl; (with_reducible repeat (first | refine blk_drewN ?_ _ | refine blk_drew ?_ | refine blk_alloc ?_ _)); refine blk_put (cs := #[.int .i64 t470, .int .i64 0, .int .i64 0, .bool false]) ?_ 1 _ rfl; (with_reducible repeat (first | refine blk_drewN ?_ _ | refine blk_drew ?_ | refine blk_alloc ?_ _)); refine blk_put (cs := #[.int .i64 0, .int .i64 0, .int .i64 0, .bool false]) ?_ 0 _ rfl; (with_reducible repeat (first | refine blk_drewN ?_ _ | refine blk_drew ?_ | refine blk_alloc ?_ _)); exact BK474.out) hb); replace HB := Aside0.mk (below_step au97 hb); (try clear hb)) | ((with_reducible refine gate_callee (f := 19) rfl ?_); refine goesL_ (some 41) rfl rfl Tryd.func19 (by kernel_rfl) rfl #[.string t475] rfl au100 ?_; (with_reducible refine (impl_ParseDate.calls (hG := au40) k t475 t477 t478 t479 t480 t481 _ A6.out).mono ?_); rintro e w12 ⟨rfl, hb⟩; refine ⟨_, rfl, ?_⟩; replace BK474 := Aside0.mk (blk_below (g := gb474) au136 hb); replace HB := Aside0.mk (below_step au97 hb); (try clear hb)) | ((with_reducible refine gate_dst (N := 6) rfl ?_); refine box_event ?hg (N := 6) ?hd (cs := #[.int .i64 0, .int .i64 0, .int .i64 0, .bool false]) (t := 33) ?hr ?_; (case hd => rfl); (case hg => rfl); (case hr => first | (go_simp; done) | (go_simp; rfl)); intro gb482 hg w13 hbox hb; have BK482 := Aside0.mk (hbox); have GW482 := Aside0.mk (bsz hg au97); have GE482 := Aside0.mk (bsz hg au97); replace HB := Aside0.mk (below_step au97 hb); have NB474_482 := Aside0.mk (bne (g := gb474) hg au136); have NB482_474 := Aside0.mk (ben (g := gb474) hg au136); replace BK474 := Aside0.mk (blk_below (g := gb474) au136 hb); clear hb hbox hg; have hnb14 := NB482_474.out; have hnc14 := NB474_482.out; obtain ⟨hcz15_0, hcz15_1, hcz15_2, hcz15_3, hfz15_0, hfz15_1, hfz15_2, hfz15_3⟩ := blkc4 BK482.out))
  (try simp only [Act.put, List.setIfInBounds_toArray, List.set_cons_zero, List.set_cons_succ])
  go_cut [59] (fun v59 wc => ∃ (kq : Nat) (x59_6 : Bool), v59 = .bool x59_6 ∧ Aside0 (laws_FnDateForms.j0 kq l0 t476 x59_6 t470 t471 t472 t473 = some r) ∧ Aside0 (kq ≤ k) ∧ Aside0 (wc.heap[gb474]? = some (.cells #[.int .i64 t470, .int .i64 t471, .int .i64 t472, .bool t473] 33 (0, 0))) ∧ Aside0 (wc.heap[gb482]? = some (.cells #[.int .i64 t477, .int .i64 t478, .int .i64 t479, .bool t480] 33 (0, 0))) ∧ Aside0 (Below w.heap.size w wc))
  case first =>
   have H := HC7.out
   clear HC7
   replace H := Option.bind_eq_some_iff.mp H
   obtain ⟨t483, A160, H⟩ := H
   try dsimp only at H
   have A16 := Aside0.mk A160
   clear A160
   by_cases c17 : (t476 != t483) = true
   ·
    rw [if_pos c17] at H
    have c17b0 : (t476 != t483) = true := c17
    (try (have c17b1 : decide (t476 = t483) = false := by simpa using c17))
    (try (have c17b2 : (t476 == t483) = false := by simpa using c17))
    (try (have c17b3 : ¬ (t476 = t483) := by simpa using c17))
    clear c17
    (first | rw [c17b0] | (simp only [i64_w, i32_w]; rw [c17b0]) | skip)
    have H' := Aside0.mk H
    clear H
    have hnb18 := NB474_482.out
    have hnc18 := NB482_474.out
    obtain ⟨hcz19_0, hcz19_1, hcz19_2, hcz19_3, hfz19_0, hfz19_1, hfz19_2, hfz19_3⟩ := blkc4 BK474.out
    exact laws_FnDateForms.L1
   ·
    rw [if_neg c17] at H
    have c17b0 : (t476 != t483) = false := by simpa using c17
    (try (have c17b1 : decide (t476 = t483) = true := by simpa using c17))
    (try (have c17b2 : (t476 == t483) = true := by simpa using c17))
    clear c17
    (first | rw [c17b0] | (simp only [i64_w, i32_w]; rw [c17b0]) | skip)
    by_cases c21 : t476 = true
    ·
     subst c21
     replace H := (if_pos rfl).symm.trans H
     by_cases c22 : t481 = true
     ·
      subst c22
      replace H := (if_pos rfl).symm.trans H
      have H' := Aside0.mk H
      clear H
      have hnb23 := NB474_482.out
      have hnc23 := NB482_474.out
      obtain ⟨hcz24_0, hcz24_1, hcz24_2, hcz24_3, hfz24_0, hfz24_1, hfz24_2, hfz24_3⟩ := blkc4 BK474.out
      exact laws_FnDateForms.L0
     ·
      replace c22 := Bool.eq_false_iff.mpr c22
      subst c22
      replace H := (if_neg (show ¬ (false = true) by decide)).symm.trans H
      have H' := Aside0.mk H
      clear H
      have hnb28 := NB474_482.out
      have hnc28 := NB482_474.out
      obtain ⟨hcz29_0, hcz29_1, hcz29_2, hcz29_3, hfz29_0, hfz29_1, hfz29_2, hfz29_3⟩ := blkc4 BK474.out
      exact laws_FnDateForms.L1
    ·
     replace c21 := Bool.eq_false_iff.mpr c21
     subst c21
     replace H := (if_neg (show ¬ (false = true) by decide)).symm.trans H
     have H' := Aside0.mk H
     clear H
     have hnb31 := NB474_482.out
     have hnc31 := NB482_474.out
     obtain ⟨hcz32_0, hcz32_1, hcz32_2, hcz32_3, hfz32_0, hfz32_1, hfz32_2, hfz32_3⟩ := blkc4 BK474.out
     exact laws_FnDateForms.L1
  case rest =>
   clear HC7
   try clear c1
   try clear c2
   try clear p2
   try clear c3
   try clear c5
   try clear c6
   try clear c14
   try clear c17
   try clear c17b0
   try clear c17b1
   try clear c17b2
   try clear c18
   try clear c19
   try clear c21
   try clear c22
   try clear c23
   try clear c28
   try clear c31
   try clear hcz10_0
   try clear hcz10_1
   try clear hcz10_2
   try clear hcz10_3
   try clear hcz15_0
   try clear hcz15_1
   try clear hcz15_2
   try clear hcz15_3
   try clear hcz19_0
   try clear hcz19_1
   try clear hcz19_2
   try clear hcz19_3
   try clear hcz24_0
   try clear hcz24_1
   try clear hcz24_2
   try clear hcz24_3
   try clear hcz26_0
   try clear hcz26_1
   try clear hcz26_2
   try clear hcz26_3
   try clear hcz27_0
   try clear hcz27_1
   try clear hcz27_2
   try clear hcz27_3
   try clear hcz29_0
   try clear hcz29_1
   try clear hcz29_2
   try clear hcz29_3
   try clear hcz32_0
   try clear hcz32_1
   try clear hcz32_2
   try clear hcz32_3
   try clear hfz10_0
   try clear hfz10_1
   try clear hfz10_2
   try clear hfz10_3
   try clear hfz15_0
   try clear hfz15_1
   try clear hfz15_2
   try clear hfz15_3
   try clear hfz19_0
   try clear hfz19_1
   try clear hfz19_2
   try clear hfz19_3
   try clear hfz24_0
   try clear hfz24_1
   try clear hfz24_2
   try clear hfz24_3
   try clear hfz26_0
   try clear hfz26_1
   try clear hfz26_2
   try clear hfz26_3
   try clear hfz27_0
   try clear hfz27_1
   try clear hfz27_2
   try clear hfz27_3
   try clear hfz29_0
   try clear hfz29_1
   try clear hfz29_2
   try clear hfz29_3
   try clear hfz32_0
   try clear hfz32_1
   try clear hfz32_2
   try clear hfz32_3
   obtain ⟨kq, x59_6, rfl, HA, HJ6, BK474, BK482, HB⟩ := hcut
   cases kq with
   | zero => exact absurd HA.out (by simp [laws_FnDateForms.j0])
   | succ kj6 =>
    have H := HA.out
    clear HA
    simp only [laws_FnDateForms.j0] at H
    by_cases c34 : x59_6 = true
    ·
     subst c34
     replace H := (if_pos rfl).symm.trans H
     exact absurd ((Option.some.inj H).trans HRT.out) (by simp)
    ·
     replace c34 := Bool.eq_false_iff.mpr c34
     subst c34
     replace H := (if_neg (show ¬ (false = true) by decide)).symm.trans H
     replace H := Option.bind_eq_some_iff.mp H
     obtain ⟨t484, A350, H⟩ := H
     try dsimp only at H
     have A35 := Aside0.mk A350
     clear A350
     replace H := Option.bind_eq_some_iff.mp H
     obtain ⟨⟨t485, t486, t487, t488, t489⟩, A360, H⟩ := H
     replace H : ((impl_FormatDate.f kj6 t485 t486 t487 t488).bind fun bt491 => (if t489 = true then (if bt491.2 = true then (laws_FnDateForms.j1 kj6 l0 t476 (bt491.1.toList != t484.toList) t470 t471 t472 t473) else (laws_FnDateForms.j1 kj6 l0 t476 true t470 t471 t472 t473)) else (laws_FnDateForms.j1 kj6 l0 t476 false t470 t471 t472 t473))) = some r := H
     have A36 := Aside0.mk A360
     clear A360
     replace H := Option.bind_eq_some_iff.mp H
     obtain ⟨⟨t491, t492⟩, A370, H⟩ := H
     replace H : (if t489 = true then (if t492 = true then (laws_FnDateForms.j1 kj6 l0 t476 (t491.toList != t484.toList) t470 t471 t472 t473) else (laws_FnDateForms.j1 kj6 l0 t476 true t470 t471 t472 t473)) else (laws_FnDateForms.j1 kj6 l0 t476 false t470 t471 t472 t473)) = some r := H
     have A37 := Aside0.mk A370
     clear A370
     have HC38 := Aside0.mk H
     clear H
     go_upto_region 11 with (first | ((with_reducible refine gate_callee (f := 24) rfl ?_); refine goesL_ (some 61) rfl rfl Tryd.func24 (by kernel_rfl) rfl #[.slice A0 l0.length c0] rfl au100 ?_; (with_reducible refine (spec_DrawParseDate.calls kj6 _ _ l0 t484 _ ?side1 ?side2 A35.out).mono ?_); (case side1 => repeat (first | exact (Kd.C_below HR0.out HB.out) | (with_reducible refine Kd.C_alloc ?_ _) | (with_reducible refine Kd.C_drewN ?_ _) | (with_reducible refine Kd.C_drew ?_))); (case side2 => exact HC0.out); rintro e w39 ⟨rfl, hb⟩; refine ⟨_, rfl, ?_⟩; replace BK474 := Aside0.mk (blk_below (g := gb474) au136 hb); replace BK482 := Aside0.mk (blk_below (g := gb482) au137 hb); replace HB := Aside0.mk (below_step au75 hb); (try clear hb)) | ((with_reducible refine gate_callee (f := 19) rfl ?_); refine goesL_ (some 64) rfl rfl Tryd.func19 (by kernel_rfl) rfl #[.string t484] rfl au100 ?_; (with_reducible refine (impl_ParseDate.calls (hG := au40) kj6 t484 t485 t486 t487 t488 t489 _ A36.out).mono ?_); rintro e w40 ⟨rfl, hb⟩; refine ⟨_, rfl, ?_⟩; replace BK474 := Aside0.mk (blk_below (g := gb474) au136 hb); replace BK482 := Aside0.mk (blk_below (g := gb482) au137 hb); replace HB := Aside0.mk (below_step au75 hb); (try clear hb)) | ((with_reducible refine gate_dst (N := 9) rfl ?_); refine box_event ?hg (N := 9) ?hd (cs := #[.int .i64 0, .int .i64 0, .int .i64 0, .bool false]) (t := 33) ?hr ?_; (case hd => rfl); (case hg => rfl); (case hr => first | (go_simp; done) | (go_simp; rfl)); intro gb490 hg w41 hbox hb; have BK490 := Aside0.mk (hbox); have GW490 := Aside0.mk (bsz hg au75); have GE490 := Aside0.mk (bsz hg au75); replace HB := Aside0.mk (below_step au75 hb); have NB474_490 := Aside0.mk (bne (g := gb474) hg au136); have NB490_474 := Aside0.mk (ben (g := gb474) hg au136); replace BK474 := Aside0.mk (blk_below (g := gb474) au136 hb); have NB482_490 := Aside0.mk (bne (g := gb482) hg au137); have NB490_482 := Aside0.mk (ben (g := gb482) hg au137); replace BK482 := Aside0.mk (blk_below (g := gb482) au137 hb); clear hb hbox hg; have hnb42 := NB490_474.out; have hnc42 := NB474_490.out; have hnb43 := NB490_482.out; have hnc43 := NB482_490.out; obtain ⟨hcz44_0, hcz44_1, hcz44_2, hcz44_3, hfz44_0, hfz44_1, hfz44_2, hfz44_3⟩ := blkc4 BK490.out) | ((with_reducible refine gate_callee (f := 22) rfl ?_); refine goesL_ (some 69) rfl rfl Tryd.func22 (by kernel_rfl) rfl #[.agg #[.int .i64 t485, .int .i64 t486, .int .i64 t487, .bool t488]] rfl au100 ?_; (with_reducible refine (impl_FormatDate.calls (hG := au40) kj6 t485 t486 t487 t488 t491 t492 _ A37.out).mono ?_); rintro e w45 ⟨rfl, hb⟩; refine ⟨_, rfl, ?_⟩; replace BK474 := Aside0.mk (blk_below (g := gb474) (o := .cells #[.int .i64 t470, .int .i64 t471, .int .i64 t472, .bool t473] 33 (0, 0)) (by (with_reducible repeat (first | refine blk_drewN ?_ _ | refine blk_drew ?_ | refine blk_alloc ?_ _)); refine blk_far ?_ NB474_490.out _; (with_reducible repeat (first | refine blk_drewN ?_ _ | refine blk_drew ?_ | refine blk_alloc ?_ _)); refine blk_far ?_ NB474_490.out _; (with_reducible repeat (first | refine blk_drewN ?_ _ | refine blk_drew ?_ | refine blk_alloc ?_ _)); refine blk_far ?_ NB474_490.out _; (with_reducible repeat (first | refine blk_drewN ?_ _ | refine blk_drew ?_ | refine blk_alloc ?_ _)); refine blk_far ?_ NB474_490.out _; (with_reducible repeat (first | refine blk_drewN ?_ _ | refine blk_drew ?_ | refine blk_alloc ?_ _)); exact BK474.out) hb); replace BK482 := Aside0.mk (blk_below (g := gb482) (o := .cells #[.int .i64 t477, .int .i64 t478, .int .i64 t479, .bool t480] 33 (0, 0)) (by (with_reducible repeat (first | refine blk_drewN ?_ _ | refine blk_drew ?_ | refine blk_alloc ?_ _)); refine blk_far ?_ NB482_490.out _; (with_reducible repeat (first | refine blk_drewN ?_ _ | refine blk_drew ?_ | refine blk_alloc ?_ _)); refine blk_far ?_ NB482_490.out _; (with_reducible repeat (first | refine blk_drewN ?_ _ | refine blk_drew ?_ | refine blk_alloc ?_ _)); refine blk_far ?_ NB482_490.out _; (with_reducible repeat (first | refine blk_drewN ?_ _ | refine blk_drew ?_ | refine blk_alloc ?_ _)); refine blk_far ?_ NB482_490.out _; (with_reducible repeat (first | refine blk_drewN ?_ _ | refine blk_drew ?_ | refine blk_alloc ?_ _)); exact BK482.out) hb); replace BK490 := Aside0.mk (blk_below (g := gb490) (o := .cells #[.int .i64 t485, .int .i64 t486, .int .i64 t487, .bool t488] 33 (0, 0)) (by (with_reducible repeat (first | refine blk_drewN ?_ _ | refine blk_drew ?_ | refine blk_alloc ?_ _)); refine blk_put (cs := #[.int .i64 t485, .int .i64 t486, .int .i64 t487, .bool false]) ?_ 3 _ rfl; (with_reducible repeat (first | refine blk_drewN ?_ _ | refine blk_drew ?_ | refine blk_alloc ?_ _)); refine blk_put (cs := #[.int .i64 t485, .int .i64 t486, .int .i64 0, .bool false]) ?_ 2 _ rfl; (with_reducible repeat (first | refine blk_drewN ?_ _ | refine blk_drew ?_ | refine blk_alloc ?_ _)); refine blk_put (cs := #[.int .i64 t485, .int .i64 0, .int .i64 0, .bool false]) ?_ 1 _ rfl; (with_reducible repeat (first | refine blk_drewN ?_ _ | refine blk_drew ?_ | refine blk_alloc ?_ _)); refine blk_put (cs := #[.int .i64 0, .int .i64 0, .int .i64 0, .bool false]) ?_ 0 _ rfl; (with_reducible repeat (first | refine blk_drewN ?_ _ | refine blk_drew ?_ | refine blk_alloc ?_ _)); exact BK490.out) hb); replace HB := Aside0.mk (below_step au58 hb); (try clear hb)))
     (try simp only [Act.put, List.setIfInBounds_toArray, List.set_cons_zero, List.set_cons_succ])
     go_cut [81] (fun v81 wc => ∃ (kq : Nat) (x81_37 : Bool), v81 = .bool x81_37 ∧ Aside0 (laws_FnDateForms.j1 kq l0 t476 x81_37 t470 t471 t472 t473 = some r) ∧ Aside0 (kq ≤ kj6) ∧ Aside0 (wc.heap[gb474]? = some (.cells #[.int .i64 t470, .int .i64 t471, .int .i64 t472, .bool t473] 33 (0, 0))) ∧ Aside0 (wc.heap[gb482]? = some (.cells #[.int .i64 t477, .int .i64 t478, .int .i64 t479, .bool t480] 33 (0, 0))) ∧ Aside0 (wc.heap[gb490]? = some (.cells #[.int .i64 t485, .int .i64 t486, .int .i64 t487, .bool t488] 33 (0, 0))) ∧ Aside0 (Below w.heap.size w wc))
     case first =>
      have H := HC38.out
      clear HC38
      by_cases c46 : t489 = true
      ·
       subst c46
       replace H := (if_pos rfl).symm.trans H
       by_cases c47 : t492 = true
       ·
        subst c47
        replace H := (if_pos rfl).symm.trans H
        have H' := Aside0.mk H
        clear H
        exact laws_FnDateForms.L0
       ·
        replace c47 := Bool.eq_false_iff.mpr c47
        subst c47
        replace H := (if_neg (show ¬ (false = true) by decide)).symm.trans H
        have H' := Aside0.mk H
        clear H
        exact laws_FnDateForms.L0
      ·
       replace c46 := Bool.eq_false_iff.mpr c46
       subst c46
       replace H := (if_neg (show ¬ (false = true) by decide)).symm.trans H
       have H' := Aside0.mk H
       clear H
       exact laws_FnDateForms.L0
     case rest =>
      clear HC38
      try clear c1
      try clear c2
      try clear p2
      try clear c3
      try clear c4
      try clear c5
      try clear c6
      try clear c14
      try clear c17
      try clear c17b0
      try clear c17b1
      try clear c17b2
      try clear c18
      try clear c19
      try clear c21
      try clear c22
      try clear c23
      try clear c24
      try clear c28
      try clear c31
      try clear c34
      try clear c42
      try clear c43
      try clear c46
      try clear c47
      try clear hcz10_0
      try clear hcz10_1
      try clear hcz10_2
      try clear hcz10_3
      try clear hcz15_0
      try clear hcz15_1
      try clear hcz15_2
      try clear hcz15_3
      try clear hcz19_0
      try clear hcz19_1
      try clear hcz19_2
      try clear hcz19_3
      try clear hcz24_0
      try clear hcz24_1
      try clear hcz24_2
      try clear hcz24_3
      try clear hcz26_0
      try clear hcz26_1
      try clear hcz26_2
      try clear hcz26_3
      try clear hcz27_0
      try clear hcz27_1
      try clear hcz27_2
      try clear hcz27_3
      try clear hcz29_0
      try clear hcz29_1
      try clear hcz29_2
      try clear hcz29_3
      try clear hcz32_0
      try clear hcz32_1
      try clear hcz32_2
      try clear hcz32_3
      try clear hcz44_0
      try clear hcz44_1
      try clear hcz44_2
      try clear hcz44_3
      try clear hfz10_0
      try clear hfz10_1
      try clear hfz10_2
      try clear hfz10_3
      try clear hfz15_0
      try clear hfz15_1
      try clear hfz15_2
      try clear hfz15_3
      try clear hfz19_0
      try clear hfz19_1
      try clear hfz19_2
      try clear hfz19_3
      try clear hfz24_0
      try clear hfz24_1
      try clear hfz24_2
      try clear hfz24_3
      try clear hfz26_0
      try clear hfz26_1
      try clear hfz26_2
      try clear hfz26_3
      try clear hfz27_0
      try clear hfz27_1
      try clear hfz27_2
      try clear hfz27_3
      try clear hfz29_0
      try clear hfz29_1
      try clear hfz29_2
      try clear hfz29_3
      try clear hfz32_0
      try clear hfz32_1
      try clear hfz32_2
      try clear hfz32_3
      try clear hfz44_0
      try clear hfz44_1
      try clear hfz44_2
      try clear hfz44_3
      try clear p2
      obtain ⟨kq, x81_37, rfl, HA, HJ37, BK474, BK482, BK490, HB⟩ := hcut
      cases kq with
      | zero => exact absurd HA.out (by simp [laws_FnDateForms.j1])
      | succ kj37 =>
       have H := HA.out
       clear HA
       simp only [laws_FnDateForms.j1] at H
       by_cases c48 : x81_37 = true
       ·
        subst c48
        replace H := (if_pos rfl).symm.trans H
        exact absurd ((Option.some.inj H).trans HRT.out) (by simp)
       ·
        replace c48 := Bool.eq_false_iff.mpr c48
        subst c48
        replace H := (if_neg (show ¬ (false = true) by decide)).symm.trans H
        replace H := Option.bind_eq_some_iff.mp H
        obtain ⟨⟨t493, t494, t495, t496, t497, t498, t499, t500⟩, A490, H⟩ := H
        replace H : ((impl_CompareDates.f kj37 t493 t494 t495 t496 t497 t498 t499 t500).bind fun bt503 => ((impl_CompareDates.f kj37 t497 t498 t499 t500 t493 t494 t495 t496).bind fun bt505 => ((spec_CompareDates.f kj37 t493 t494 t495 t496 t497 t498 t499 t500).bind fun bt507 => (if bt503.1 = bt507.1 then (if (bt503.2 != bt507.2) = true then (laws_FnDateForms.j2 kj37 t476 true t470 t471 t472 t473) else (if (bt505.2 != bt503.2) = true then (laws_FnDateForms.j2 kj37 t476 true t470 t471 t472 t473) else (if bt505.1 = (wrap64 (-bt503.1)) then (if bt503.2 = true then (laws_FnDateForms.j2 kj37 t476 ((bt503.1 == 0) != (t493 == t497 && (t494 == t498 && (t495 == t499 && (t496 == t500))))) t470 t471 t472 t473) else (laws_FnDateForms.j2 kj37 t476 false t470 t471 t472 t473)) else (laws_FnDateForms.j2 kj37 t476 true t470 t471 t472 t473)))) else (laws_FnDateForms.j2 kj37 t476 true t470 t471 t472 t473))))) = some r := H
        have A49 := Aside0.mk A490
        clear A490
        replace H := Option.bind_eq_some_iff.mp H
        obtain ⟨⟨t503, t504⟩, A500, H⟩ := H
        replace H : ((impl_CompareDates.f kj37 t497 t498 t499 t500 t493 t494 t495 t496).bind fun bt505 => ((spec_CompareDates.f kj37 t493 t494 t495 t496 t497 t498 t499 t500).bind fun bt507 => (if t503 = bt507.1 then (if (t504 != bt507.2) = true then (laws_FnDateForms.j2 kj37 t476 true t470 t471 t472 t473) else (if (bt505.2 != t504) = true then (laws_FnDateForms.j2 kj37 t476 true t470 t471 t472 t473) else (if bt505.1 = (wrap64 (-t503)) then (if t504 = true then (laws_FnDateForms.j2 kj37 t476 ((t503 == 0) != (t493 == t497 && (t494 == t498 && (t495 == t499 && (t496 == t500))))) t470 t471 t472 t473) else (laws_FnDateForms.j2 kj37 t476 false t470 t471 t472 t473)) else (laws_FnDateForms.j2 kj37 t476 true t470 t471 t472 t473)))) else (laws_FnDateForms.j2 kj37 t476 true t470 t471 t472 t473)))) = some r := H
        have A50 := Aside0.mk A500
        clear A500
        replace H := Option.bind_eq_some_iff.mp H
        obtain ⟨⟨t505, t506⟩, A510, H⟩ := H
        replace H : ((spec_CompareDates.f kj37 t493 t494 t495 t496 t497 t498 t499 t500).bind fun bt507 => (if t503 = bt507.1 then (if (t504 != bt507.2) = true then (laws_FnDateForms.j2 kj37 t476 true t470 t471 t472 t473) else (if (t506 != t504) = true then (laws_FnDateForms.j2 kj37 t476 true t470 t471 t472 t473) else (if t505 = (wrap64 (-t503)) then (if t504 = true then (laws_FnDateForms.j2 kj37 t476 ((t503 == 0) != (t493 == t497 && (t494 == t498 && (t495 == t499 && (t496 == t500))))) t470 t471 t472 t473) else (laws_FnDateForms.j2 kj37 t476 false t470 t471 t472 t473)) else (laws_FnDateForms.j2 kj37 t476 true t470 t471 t472 t473)))) else (laws_FnDateForms.j2 kj37 t476 true t470 t471 t472 t473))) = some r := H
        have A51 := Aside0.mk A510
        clear A510
        replace H := Option.bind_eq_some_iff.mp H
        obtain ⟨⟨t507, t508⟩, A520, H⟩ := H
        replace H : (if t503 = t507 then (if (t504 != t508) = true then (laws_FnDateForms.j2 kj37 t476 true t470 t471 t472 t473) else (if (t506 != t504) = true then (laws_FnDateForms.j2 kj37 t476 true t470 t471 t472 t473) else (if t505 = (wrap64 (-t503)) then (if t504 = true then (laws_FnDateForms.j2 kj37 t476 ((t503 == 0) != (t493 == t497 && (t494 == t498 && (t495 == t499 && (t496 == t500))))) t470 t471 t472 t473) else (laws_FnDateForms.j2 kj37 t476 false t470 t471 t472 t473)) else (laws_FnDateForms.j2 kj37 t476 true t470 t471 t472 t473)))) else (laws_FnDateForms.j2 kj37 t476 true t470 t471 t472 t473)) = some r := H
        have A52 := Aside0.mk A520
        clear A520
        have HC53 := Aside0.mk H
        clear H
        go_upto_region 17 with (first | ((with_reducible refine gate_callee (f := 25) rfl ?_); refine goesL_ (some 84) rfl rfl Tryd.func25 (by kernel_rfl) rfl #[.slice A0 l0.length c0] rfl au100 ?_; (with_reducible refine (spec_DrawCompareDates.calls _ _ l0 t493 t494 t495 t496 t497 t498 t499 t500 _ ?side1 ?side2 A49.out).mono ?_); (case side1 => repeat (first | exact (Kd.C_below HR0.out HB.out) | (with_reducible refine Kd.C_alloc ?_ _) | (with_reducible refine Kd.C_drewN ?_ _) | (with_reducible refine Kd.C_drew ?_))); (case side2 => exact HC0.out); rintro e w54 ⟨rfl, hb⟩; refine ⟨_, rfl, ?_⟩; replace BK474 := Aside0.mk (blk_below (g := gb474) au136 hb); replace BK482 := Aside0.mk (blk_below (g := gb482) au137 hb); replace BK490 := Aside0.mk (blk_below (g := gb490) au138 hb); replace HB := Aside0.mk (below_step au58 hb); (try clear hb)) | ((with_reducible refine gate_dst (N := 13) rfl ?_); refine box_event ?hg (N := 13) ?hd (cs := #[.int .i64 0, .int .i64 0, .int .i64 0, .bool false]) (t := 33) ?hr ?_; (case hd => rfl); (case hg => rfl); (case hr => first | (go_simp; done) | (go_simp; rfl)); intro gb501 hg w55 hbox hb; have BK501 := Aside0.mk (hbox); have GW501 := Aside0.mk (bsz hg au58); have GE501 := Aside0.mk (bsz hg au58); replace HB := Aside0.mk (below_step au58 hb); have NB474_501 := Aside0.mk (bne (g := gb474) hg au136); have NB501_474 := Aside0.mk (ben (g := gb474) hg au136); replace BK474 := Aside0.mk (blk_below (g := gb474) au136 hb); have NB482_501 := Aside0.mk (bne (g := gb482) hg au137); have NB501_482 := Aside0.mk (ben (g := gb482) hg au137); replace BK482 := Aside0.mk (blk_below (g := gb482) au137 hb); have NB490_501 := Aside0.mk (bne (g := gb490) hg au138); have NB501_490 := Aside0.mk (ben (g := gb490) hg au138); replace BK490 := Aside0.mk (blk_below (g := gb490) au138 hb); clear hb hbox hg) | ((with_reducible refine gate_dst (N := 14) rfl ?_); refine box_event ?hg (N := 14) ?hd (cs := #[.int .i64 0, .int .i64 0, .int .i64 0, .bool false]) (t := 33) ?hr ?_; (case hd => rfl); (case hg => rfl); (case hr => first | (go_simp; done) | (go_simp; rfl)); intro gb502 hg w56 hbox hb; have BK502 := Aside0.mk (hbox); have GW502 := Aside0.mk (bsz hg au51); have GE502 := Aside0.mk (bsz hg au51); replace HB := Aside0.mk (below_step au51 hb); have NB474_502 := Aside0.mk (bne (g := gb474) hg au136); have NB502_474 := Aside0.mk (ben (g := gb474) hg au136); replace BK474 := Aside0.mk (blk_below (g := gb474) au136 hb); have NB482_502 := Aside0.mk (bne (g := gb482) hg au137); have NB502_482 := Aside0.mk (ben (g := gb482) hg au137); replace BK482 := Aside0.mk (blk_below (g := gb482) au137 hb); have NB490_502 := Aside0.mk (bne (g := gb490) hg au138); have NB502_490 := Aside0.mk (ben (g := gb490) hg au138); replace BK490 := Aside0.mk (blk_below (g := gb490) au138 hb); have NB501_502 := Aside0.mk (bne (g := gb501) hg au139); have NB502_501 := Aside0.mk (ben (g := gb501) hg au139); replace BK501 := Aside0.mk (blk_below (g := gb501) au139 hb); clear hb hbox hg; have hnb57 := NB501_474.out; have hnc57 := NB474_501.out; have hnb58 := NB501_482.out; have hnc58 := NB482_501.out; have hnb59 := NB501_490.out; have hnc59 := NB490_501.out; have hnb60 := NB501_502.out; have hnc60 := NB502_501.out; obtain ⟨hcz61_0, hcz61_1, hcz61_2, hcz61_3, hfz61_0, hfz61_1, hfz61_2, hfz61_3⟩ := blkc4 BK501.out; have hnb62 := NB502_474.out; have hnc62 := NB474_502.out; have hnb63 := NB502_482.out; have hnc63 := NB482_502.out; have hnb64 := NB502_490.out; have hnc64 := NB490_502.out; obtain ⟨hcz65_0, hcz65_1, hcz65_2, hcz65_3, hfz65_0, hfz65_1, hfz65_2, hfz65_3⟩ := blkc4 BK502.out) | ((with_reducible refine gate_callee (f := 26) rfl ?_); refine goesL_ (some 90) rfl rfl Tryd.func26 (by kernel_rfl) rfl #[.agg #[.int .i64 t493, .int .i64 t494, .int .i64 t495, .bool t496], .agg #[.int .i64 t497, .int .i64 t498, .int .i64 t499, .bool t500]] rfl au100 ?_; (with_reducible refine (impl_CompareDates.calls kj37 t493 t494 t495 t496 t497 t498 t499 t500 t503 t504 _ A50.out).mono ?_); rintro e w66 ⟨rfl, hb⟩; refine ⟨_, rfl, ?_⟩; replace BK474 := Aside0.mk (blk_below (g := gb474) (o := .cells #[.int .i64 t470, .int .i64 t471, .int .i64 t472, .bool t473] 33 (0, 0)) (by (with_reducible repeat (first | refine blk_drewN ?_ _ | refine blk_drew ?_ | refine blk_alloc ?_ _)); refine blk_far ?_ NB474_502.out _; (with_reducible repeat (first | refine blk_drewN ?_ _ | refine blk_drew ?_ | refine blk_alloc ?_ _)); refine blk_far ?_ NB474_502.out _; (with_reducible repeat (first | refine blk_drewN ?_ _ | refine blk_drew ?_ | refine blk_alloc ?_ _)); refine blk_far ?_ NB474_502.out _; (with_reducible repeat (first | refine blk_drewN ?_ _ | refine blk_drew ?_ | refine blk_alloc ?_ _)); refine blk_far ?_ NB474_502.out _; (with_reducible repeat (first | refine blk_drewN ?_ _ | refine blk_drew ?_ | refine blk_alloc ?_ _)); refine blk_far ?_ NB474_501.out _; (with_reducible repeat (first | refine blk_drewN ?_ _ | refine blk_drew ?_ | refine blk_alloc ?_ _)); refine blk_far ?_ NB474_501.out _; (with_reducible repeat (first | refine blk_drewN ?_ _ | refine blk_drew ?_ | refine blk_alloc ?_ _)); refine blk_far ?_ NB474_501.out _; (with_reducible repeat (first | refine blk_drewN ?_ _ | refine blk_drew ?_ | refine blk_alloc ?_ _)); refine blk_far ?_ NB474_501.out _; (with_reducible repeat (first | refine blk_drewN ?_ _ | refine blk_drew ?_ | refine blk_alloc ?_ _)); exact BK474.out) hb); replace BK482 := Aside0.mk (blk_below (g := gb482) (o := .cells #[.int .i64 t477, .int .i64 t478, .int .i64 t479, .bool t480] 33 (0, 0)) (by (with_reducible repeat (first | refine blk_drewN ?_ _ | refine blk_drew ?_ | refine blk_alloc ?_ _)); refine blk_far ?_ NB482_502.out _; (with_reducible repeat (first | refine blk_drewN ?_ _ | refine blk_drew ?_ | refine blk_alloc ?_ _)); refine blk_far ?_ NB482_502.out _; (with_reducible repeat (first | refine blk_drewN ?_ _ | refine blk_drew ?_ | refine blk_alloc ?_ _)); refine blk_far ?_ NB482_502.out _; (with_reducible repeat (first | refine blk_drewN ?_ _ | refine blk_drew ?_ | refine blk_alloc ?_ _)); refine blk_far ?_ NB482_502.out _; (with_reducible repeat (first | refine blk_drewN ?_ _ | refine blk_drew ?_ | refine blk_alloc ?_ _)); refine blk_far ?_ NB482_501.out _; (with_reducible repeat (first | refine blk_drewN ?_ _ | refine blk_drew ?_ | refine blk_alloc ?_ _)); refine blk_far ?_ NB482_501.out _; (with_reducible repeat (first | refine blk_drewN ?_ _ | refine blk_drew ?_ | refine blk_alloc ?_ _)); refine blk_far ?_ NB482_501.out _; (with_reducible repeat (first | refine blk_drewN ?_ _ | refine blk_drew ?_ | refine blk_alloc ?_ _)); refine blk_far ?_ NB482_501.out _; (with_reducible repeat (first | refine blk_drewN ?_ _ | refine blk_drew ?_ | refine blk_alloc ?_ _)); exact BK482.out) hb); replace BK490 := Aside0.mk (blk_below (g := gb490) (o := .cells #[.int .i64 t485, .int .i64 t486, .int .i64 t487, .bool t488] 33 (0, 0)) (by (with_reducible repeat (first | refine blk_drewN ?_ _ | refine blk_drew ?_ | refine blk_alloc ?_ _)); refine blk_far ?_ NB490_502.out _; (with_reducible repeat (first | refine blk_drewN ?_ _ | refine blk_drew ?_ | refine blk_alloc ?_ _)); refine blk_far ?_ NB490_502.out _; (with_reducible repeat (first | refine blk_drewN ?_ _ | refine blk_drew ?_ | refine blk_alloc ?_ _)); refine blk_far ?_ NB490_502.out _; (with_reducible repeat (first | refine blk_drewN ?_ _ | refine blk_drew ?_ | refine blk_alloc ?_ _)); refine blk_far ?_ NB490_502.out _; (with_reducible repeat (first | refine blk_drewN ?_ _ | refine blk_drew ?_ | refine blk_alloc ?_ _)); refine blk_far ?_ NB490_501.out _; (with_reducible repeat (first | refine blk_drewN ?_ _ | refine blk_drew ?_ | refine blk_alloc ?_ _)); refine blk_far ?_ NB490_501.out _; (with_reducible repeat (first | refine blk_drewN ?_ _ | refine blk_drew ?_ | refine blk_alloc ?_ _)); refine blk_far ?_ NB490_501.out _; (with_reducible repeat (first | refine blk_drewN ?_ _ | refine blk_drew ?_ | refine blk_alloc ?_ _)); refine blk_far ?_ NB490_501.out _; (with_reducible repeat (first | refine blk_drewN ?_ _ | refine blk_drew ?_ | refine blk_alloc ?_ _)); exact BK490.out) hb); replace BK501 := Aside0.mk (blk_below (g := gb501) (o := .cells #[.int .i64 t493, .int .i64 t494, .int .i64 t495, .bool t496] 33 (0, 0)) (by (with_reducible repeat (first | refine blk_drewN ?_ _ | refine blk_drew ?_ | refine blk_alloc ?_ _)); refine blk_far ?_ NB501_502.out _; (with_reducible repeat (first | refine blk_drewN ?_ _ | refine blk_drew ?_ | refine blk_alloc ?_ _)); refine blk_far ?_ NB501_502.out _; (with_reducible repeat (first | refine blk_drewN ?_ _ | refine blk_drew ?_ | refine blk_alloc ?_ _)); refine blk_far ?_ NB501_502.out _; (with_reducible repeat (first | refine blk_drewN ?_ _ | refine blk_drew ?_ | refine blk_alloc ?_ _)); refine blk_far ?_ NB501_502.out _; (with_reducible repeat (first | refine blk_drewN ?_ _ | refine blk_drew ?_ | refine blk_alloc ?_ _)); refine blk_put (cs := #[.int .i64 t493, .int .i64 t494, .int .i64 t495, .bool false]) ?_ 3 _ rfl; (with_reducible repeat (first | refine blk_drewN ?_ _ | refine blk_drew ?_ | refine blk_alloc ?_ _)); refine blk_put (cs := #[.int .i64 t493, .int .i64 t494, .int .i64 0, .bool false]) ?_ 2 _ rfl; (with_reducible repeat (first | refine blk_drewN ?_ _ | refine blk_drew ?_ | refine blk_alloc ?_ _)); refine blk_put (cs := #[.int .i64 t493, .int .i64 0, .int .i64 0, .bool false]) ?_ 1 _ rfl; (with_reducible repeat (first | refine blk_drewN ?_ _ | refine blk_drew ?_ | refine blk_alloc ?_ _)); refine blk_put (cs := #[.int .i64 0, .int .i64 0, .int .i64 0, .bool false]) ?_ 0 _ rfl; (with_reducible repeat (first | refine blk_drewN ?_ _ | refine blk_drew ?_ | refine blk_alloc ?_ _)); exact BK501.out) hb); replace BK502 := Aside0.mk (blk_below (g := gb502) (o := .cells #[.int .i64 t497, .int .i64 t498, .int .i64 t499, .bool t500] 33 (0, 0)) (by (with_reducible repeat (first | refine blk_drewN ?_ _ | refine blk_drew ?_ | refine blk_alloc ?_ _)); refine blk_put (cs := #[.int .i64 t497, .int .i64 t498, .int .i64 t499, .bool false]) ?_ 3 _ rfl; (with_reducible repeat (first | refine blk_drewN ?_ _ | refine blk_drew ?_ | refine blk_alloc ?_ _)); refine blk_put (cs := #[.int .i64 t497, .int .i64 t498, .int .i64 0, .bool false]) ?_ 2 _ rfl; (with_reducible repeat (first | refine blk_drewN ?_ _ | refine blk_drew ?_ | refine blk_alloc ?_ _)); refine blk_put (cs := #[.int .i64 t497, .int .i64 0, .int .i64 0, .bool false]) ?_ 1 _ rfl; (with_reducible repeat (first | refine blk_drewN ?_ _ | refine blk_drew ?_ | refine blk_alloc ?_ _)); refine blk_put (cs := #[.int .i64 0, .int .i64 0, .int .i64 0, .bool false]) ?_ 0 _ rfl; (with_reducible repeat (first | refine blk_drewN ?_ _ | refine blk_drew ?_ | refine blk_alloc ?_ _)); refine blk_far ?_ NB502_501.out _; (with_reducible repeat (first | refine blk_drewN ?_ _ | refine blk_drew ?_ | refine blk_alloc ?_ _)); refine blk_far ?_ NB502_501.out _; (with_reducible repeat (first | refine blk_drewN ?_ _ | refine blk_drew ?_ | refine blk_alloc ?_ _)); refine blk_far ?_ NB502_501.out _; (with_reducible repeat (first | refine blk_drewN ?_ _ | refine blk_drew ?_ | refine blk_alloc ?_ _)); refine blk_far ?_ NB502_501.out _; (with_reducible repeat (first | refine blk_drewN ?_ _ | refine blk_drew ?_ | refine blk_alloc ?_ _)); exact BK502.out) hb); replace HB := Aside0.mk (below_step au45 hb); (try clear hb); obtain ⟨hcz67_0, hcz67_1, hcz67_2, hcz67_3, hfz67_0, hfz67_1, hfz67_2, hfz67_3⟩ := blkc4 BK502.out; obtain ⟨hcz68_0, hcz68_1, hcz68_2, hcz68_3, hfz68_0, hfz68_1, hfz68_2, hfz68_3⟩ := blkc4 BK501.out) | ((with_reducible refine gate_callee (f := 26) rfl ?_); refine goesL_ (some 96) rfl rfl Tryd.func26 (by kernel_rfl) rfl #[.agg #[.int .i64 t497, .int .i64 t498, .int .i64 t499, .bool t500], .agg #[.int .i64 t493, .int .i64 t494, .int .i64 t495, .bool t496]] rfl au100 ?_; (with_reducible refine (impl_CompareDates.calls kj37 t497 t498 t499 t500 t493 t494 t495 t496 t505 t506 _ A51.out).mono ?_); rintro e w69 ⟨rfl, hb⟩; refine ⟨_, rfl, ?_⟩; replace BK474 := Aside0.mk (blk_below (g := gb474) au136 hb); replace BK482 := Aside0.mk (blk_below (g := gb482) au137 hb); replace BK490 := Aside0.mk (blk_below (g := gb490) au138 hb); replace BK501 := Aside0.mk (blk_below (g := gb501) au139 hb); replace BK502 := Aside0.mk (blk_below (g := gb502) au140 hb); replace HB := Aside0.mk (below_step au45 hb); (try clear hb); obtain ⟨hcz70_0, hcz70_1, hcz70_2, hcz70_3, hfz70_0, hfz70_1, hfz70_2, hfz70_3⟩ := blkc4 BK501.out; obtain ⟨hcz71_0, hcz71_1, hcz71_2, hcz71_3, hfz71_0, hfz71_1, hfz71_2, hfz71_3⟩ := blkc4 BK502.out) | ((with_reducible refine gate_callee (f := 27) rfl ?_); refine goesL_ (some 102) rfl rfl Tryd.func27 (by kernel_rfl) rfl #[.agg #[.int .i64 t493, .int .i64 t494, .int .i64 t495, .bool t496], .agg #[.int .i64 t497, .int .i64 t498, .int .i64 t499, .bool t500]] rfl au100 ?_; (with_reducible refine (spec_CompareDates.calls kj37 t493 t494 t495 t496 t497 t498 t499 t500 t507 t508 _ A52.out).mono ?_); rintro e w72 ⟨rfl, hb⟩; refine ⟨_, rfl, ?_⟩; replace BK474 := Aside0.mk (blk_below (g := gb474) au136 hb); replace BK482 := Aside0.mk (blk_below (g := gb482) au137 hb); replace BK490 := Aside0.mk (blk_below (g := gb490) au138 hb); replace BK501 := Aside0.mk (blk_below (g := gb501) au139 hb); replace BK502 := Aside0.mk (blk_below (g := gb502) au140 hb); replace HB := Aside0.mk (below_step au45 hb); (try clear hb)))
        (try simp only [Act.put, List.setIfInBounds_toArray, List.set_cons_zero, List.set_cons_succ])
        go_cut [134] (fun v134 wc => ∃ (kq : Nat) (x134_52 : Bool), v134 = .bool x134_52 ∧ Aside0 (laws_FnDateForms.j2 kq t476 x134_52 t470 t471 t472 t473 = some r) ∧ Aside0 (kq ≤ kj37) ∧ Aside0 (wc.heap[gb474]? = some (.cells #[.int .i64 t470, .int .i64 t471, .int .i64 t472, .bool t473] 33 (0, 0))) ∧ Aside0 (wc.heap[gb482]? = some (.cells #[.int .i64 t477, .int .i64 t478, .int .i64 t479, .bool t480] 33 (0, 0))) ∧ Aside0 (wc.heap[gb490]? = some (.cells #[.int .i64 t485, .int .i64 t486, .int .i64 t487, .bool t488] 33 (0, 0))) ∧ Aside0 (wc.heap[gb501]? = some (.cells #[.int .i64 t493, .int .i64 t494, .int .i64 t495, .bool t496] 33 (0, 0))) ∧ Aside0 (wc.heap[gb502]? = some (.cells #[.int .i64 t497, .int .i64 t498, .int .i64 t499, .bool t500] 33 (0, 0))) ∧ Aside0 (Below w.heap.size w wc))
        case first =>
         have H := HC53.out
         clear HC53
         by_cases c73 : t503 = t507
         ·
          rw [if_pos c73] at H
          have c73b0 : (t503 == t507) = true := beq_iff_eq.mpr c73
          have c73b1 : (t503 != t507) = false := bne_eq_false_iff_eq.mpr c73
          clear c73
          (first | rw [c73b0] | (simp only [i64_w, i32_w]; rw [c73b0]) | skip)
          by_cases c74 : (t504 != t508) = true
          ·
           rw [if_pos c74] at H
           have c74b0 : (t504 != t508) = true := c74
           (try (have c74b1 : decide (t504 = t508) = false := by simpa using c74))
           (try (have c74b2 : (t504 == t508) = false := by simpa using c74))
           (try (have c74b3 : ¬ (t504 = t508) := by simpa using c74))
           clear c74
           have H' := Aside0.mk H
           clear H
           exact laws_FnDateForms.L0
          ·
           rw [if_neg c74] at H
           have c74b0 : (t504 != t508) = false := by simpa using c74
           (try (have c74b1 : decide (t504 = t508) = true := by simpa using c74))
           (try (have c74b2 : (t504 == t508) = true := by simpa using c74))
           clear c74
           by_cases c75 : (t506 != t504) = true
           ·
            rw [if_pos c75] at H
            have c75b0 : (t506 != t504) = true := c75
            (try (have c75b1 : decide (t506 = t504) = false := by simpa using c75))
            (try (have c75b2 : (t506 == t504) = false := by simpa using c75))
            (try (have c75b3 : ¬ (t506 = t504) := by simpa using c75))
            clear c75
            have H' := Aside0.mk H
            clear H
            exact laws_FnDateForms.L0
           ·
            rw [if_neg c75] at H
            have c75b0 : (t506 != t504) = false := by simpa using c75
            (try (have c75b1 : decide (t506 = t504) = true := by simpa using c75))
            (try (have c75b2 : (t506 == t504) = true := by simpa using c75))
            clear c75
            by_cases c76 : t505 = (wrap64 (-t503))
            ·
             rw [if_pos c76] at H
             have c76b0 : (t505 == (wrap64 (-t503))) = true := beq_iff_eq.mpr c76
             have c76b1 : (t505 != (wrap64 (-t503))) = false := bne_eq_false_iff_eq.mpr c76
             clear c76
             by_cases c77 : t504 = true
             ·
              subst c77
              replace H := (if_pos rfl).symm.trans H
              have H' := Aside0.mk H
              clear H
              have hnb78 := NB501_474.out
              have hnc78 := NB474_501.out
              have hnb79 := NB501_482.out
              have hnc79 := NB482_501.out
              have hnb80 := NB501_490.out
              have hnc80 := NB490_501.out
              have hnb81 := NB501_502.out
              have hnc81 := NB502_501.out
              obtain ⟨hcz82_0, hcz82_1, hcz82_2, hcz82_3, hfz82_0, hfz82_1, hfz82_2, hfz82_3⟩ := blkc4 BK501.out
              have hnb83 := NB502_474.out
              have hnc83 := NB474_502.out
              have hnb84 := NB502_482.out
              have hnc84 := NB482_502.out
              have hnb85 := NB502_490.out
              have hnc85 := NB490_502.out
              obtain ⟨hcz86_0, hcz86_1, hcz86_2, hcz86_3, hfz86_0, hfz86_1, hfz86_2, hfz86_3⟩ := blkc4 BK502.out
              exact laws_FnDateForms.L0
             ·
              replace c77 := Bool.eq_false_iff.mpr c77
              subst c77
              replace H := (if_neg (show ¬ (false = true) by decide)).symm.trans H
              have H' := Aside0.mk H
              clear H
              exact laws_FnDateForms.L0
            ·
             rw [if_neg c76] at H
             have c76b0 : (t505 == (wrap64 (-t503))) = false := beq_eq_false_iff_ne.mpr c76
             have c76b1 : (t505 != (wrap64 (-t503))) = true := bne_iff_ne.mpr c76
             have H' := Aside0.mk H
             clear H
             exact laws_FnDateForms.L0
         ·
          rw [if_neg c73] at H
          have c73b0 : (t503 == t507) = false := beq_eq_false_iff_ne.mpr c73
          have c73b1 : (t503 != t507) = true := bne_iff_ne.mpr c73
          (first | rw [c73b0] | (simp only [i64_w, i32_w]; rw [c73b0]) | skip)
          have H' := Aside0.mk H
          clear H
          exact laws_FnDateForms.L0
        case rest =>
         clear HC53
         try clear c1
         try clear c2
         try clear p2
         try clear c3
         try clear c4
         try clear c5
         try clear c6
         try clear p6
         try clear c7
         try clear c8
         try clear c14
         try clear c17
         try clear c17b0
         try clear c17b1
         try clear c17b2
         try clear c18
         try clear c19
         try clear c21
         try clear c22
         try clear c23
         try clear c24
         try clear c25
         try clear c26
         try clear c27
         try clear c28
         try clear c31
         try clear c34
         try clear c42
         try clear c43
         try clear c46
         try clear c47
         try clear c48
         try clear c57
         try clear c58
         try clear c59
         try clear c60
         try clear c62
         try clear c63
         try clear c64
         try clear p64
         try clear c73
         try clear c73b0
         try clear c73b1
         try clear c74
         try clear c74b0
         try clear c74b1
         try clear c74b2
         try clear c75
         try clear c75b0
         try clear c75b1
         try clear c75b2
         try clear c76
         try clear c76b0
         try clear c76b1
         try clear c77
         try clear c78
         try clear c79
         try clear c80
         try clear c81
         try clear c83
         try clear c84
         try clear c85
         try clear hcz10_0
         try clear hcz10_1
         try clear hcz10_2
         try clear hcz10_3
         try clear hcz15_0
         try clear hcz15_1
         try clear hcz15_2
         try clear hcz15_3
         try clear hcz19_0
         try clear hcz19_1
         try clear hcz19_2
         try clear hcz19_3
         try clear hcz24_0
         try clear hcz24_1
         try clear hcz24_2
         try clear hcz24_3
         try clear hcz26_0
         try clear hcz26_1
         try clear hcz26_2
         try clear hcz26_3
         try clear hcz27_0
         try clear hcz27_1
         try clear hcz27_2
         try clear hcz27_3
         try clear hcz29_0
         try clear hcz29_1
         try clear hcz29_2
         try clear hcz29_3
         try clear hcz32_0
         try clear hcz32_1
         try clear hcz32_2
         try clear hcz32_3
         try clear hcz44_0
         try clear hcz44_1
         try clear hcz44_2
         try clear hcz44_3
         try clear hcz61_0
         try clear hcz61_1
         try clear hcz61_2
         try clear hcz61_3
         try clear hcz65_0
         try clear hcz65_1
         try clear hcz65_2
         try clear hcz65_3
         try clear hcz67_0
         try clear hcz67_1
         try clear hcz67_2
         try clear hcz67_3
         try clear hcz68_0
         try clear hcz68_1
         try clear hcz68_2
         try clear hcz68_3
         try clear hcz70_0
         try clear hcz70_1
         try clear hcz70_2
         try clear hcz70_3
         try clear hcz71_0
         try clear hcz71_1
         try clear hcz71_2
         try clear hcz71_3
         try clear hcz82_0
         try clear hcz82_1
         try clear hcz82_2
         try clear hcz82_3
         try clear hcz86_0
         try clear hcz86_1
         try clear hcz86_2
         try clear hcz86_3
         try clear hfz10_0
         try clear hfz10_1
         try clear hfz10_2
         try clear hfz10_3
         try clear hfz15_0
         try clear hfz15_1
         try clear hfz15_2
         try clear hfz15_3
         try clear hfz19_0
         try clear hfz19_1
         try clear hfz19_2
         try clear hfz19_3
         try clear hfz24_0
         try clear hfz24_1
         try clear hfz24_2
         try clear hfz24_3
         try clear hfz26_0
         try clear hfz26_1
         try clear hfz26_2
         try clear hfz26_3
         try clear hfz27_0
         try clear hfz27_1
         try clear hfz27_2
         try clear hfz27_3
         try clear hfz29_0
         try clear hfz29_1
         try clear hfz29_2
         try clear hfz29_3
         try clear hfz32_0
         try clear hfz32_1
         try clear hfz32_2
         try clear hfz32_3
         try clear hfz44_0
         try clear hfz44_1
         try clear hfz44_2
         try clear hfz44_3
         try clear hfz61_0
         try clear hfz61_1
         try clear hfz61_2
         try clear hfz61_3
         try clear hfz65_0
         try clear hfz65_1
         try clear hfz65_2
         try clear hfz65_3
         try clear hfz67_0
         try clear hfz67_1
         try clear hfz67_2
         try clear hfz67_3
         try clear hfz68_0
         try clear hfz68_1
         try clear hfz68_2
         try clear hfz68_3
         try clear hfz70_0
         try clear hfz70_1
         try clear hfz70_2
         try clear hfz70_3
         try clear hfz71_0
         try clear hfz71_1
         try clear hfz71_2
         try clear hfz71_3
         try clear hfz82_0
         try clear hfz82_1
         try clear hfz82_2
         try clear hfz82_3
         try clear hfz86_0
         try clear hfz86_1
         try clear hfz86_2
         try clear hfz86_3
         try clear p2
         obtain ⟨kq, x134_52, rfl, HA, HJ52, BK474, BK482, BK490, BK501, BK502, HB⟩ := hcut
         cases kq with
         | zero => exact absurd HA.out (by simp [laws_FnDateForms.j2])
         | succ kj52 =>
          have H := HA.out
          clear HA
          simp only [laws_FnDateForms.j2] at H
          by_cases c87 : x134_52 = true
          ·
           subst c87
           replace H := (if_pos rfl).symm.trans H
           exact absurd ((Option.some.inj H).trans HRT.out) (by simp)
          ·
           replace c87 := Bool.eq_false_iff.mpr c87
           subst c87
           replace H := (if_neg (show ¬ (false = true) by decide)).symm.trans H
           replace H := Option.bind_eq_some_iff.mp H
           obtain ⟨⟨t509, t510⟩, A880, H⟩ := H
           replace H : ((impl_DateBounds.f kj52 t470 t471 t472 t473).bind fun bt511 => ((impl_Refines.f kj52 bt511.1 bt511.2.1 bt511.2.2.1 bt511.2.2.2.1 t470 t471 t472 t473).bind fun bt522 => ((impl_CompareDates.f kj52 bt511.1 bt511.2.1 bt511.2.2.1 bt511.2.2.2.1 bt511.2.2.2.2.1 bt511.2.2.2.2.2.1 bt511.2.2.2.2.2.2.1 bt511.2.2.2.2.2.2.2.1).bind fun bt524 => (if (t510 == t476) = true then (if t476 = true then (if t509 = true then (if bt511.2.2.2.2.2.2.2.2 = true then (if bt522.2 = true then (if bt522.1 = true then (if bt524.2 = true then (some (decide (bt524.1 ≤ 0))) else (some false)) else (some false)) else (some false)) else (some true)) else (some false)) else (if bt511.2.2.2.2.2.2.2.2 = true then (if bt522.2 = true then (if bt522.1 = true then (if bt524.2 = true then (some (decide (bt524.1 ≤ 0))) else (some false)) else (some false)) else (some false)) else (some true))) else (some false))))) = some r := H
           have A88 := Aside0.mk A880
           clear A880
           replace H := Option.bind_eq_some_iff.mp H
           obtain ⟨⟨t511, t512, t513, t514, t515, t516, t517, t518, t519⟩, A890, H⟩ := H
           replace H : ((impl_Refines.f kj52 t511 t512 t513 t514 t470 t471 t472 t473).bind fun bt522 => ((impl_CompareDates.f kj52 t511 t512 t513 t514 t515 t516 t517 t518).bind fun bt524 => (if (t510 == t476) = true then (if t476 = true then (if t509 = true then (if t519 = true then (if bt522.2 = true then (if bt522.1 = true then (if bt524.2 = true then (some (decide (bt524.1 ≤ 0))) else (some false)) else (some false)) else (some false)) else (some true)) else (some false)) else (if t519 = true then (if bt522.2 = true then (if bt522.1 = true then (if bt524.2 = true then (some (decide (bt524.1 ≤ 0))) else (some false)) else (some false)) else (some false)) else (some true))) else (some false)))) = some r := H
           have A89 := Aside0.mk A890
           clear A890
           replace H := Option.bind_eq_some_iff.mp H
           obtain ⟨⟨t522, t523⟩, A900, H⟩ := H
           replace H : ((impl_CompareDates.f kj52 t511 t512 t513 t514 t515 t516 t517 t518).bind fun bt524 => (if (t510 == t476) = true then (if t476 = true then (if t509 = true then (if t519 = true then (if t523 = true then (if t522 = true then (if bt524.2 = true then (some (decide (bt524.1 ≤ 0))) else (some false)) else (some false)) else (some false)) else (some true)) else (some false)) else (if t519 = true then (if t523 = true then (if t522 = true then (if bt524.2 = true then (some (decide (bt524.1 ≤ 0))) else (some false)) else (some false)) else (some false)) else (some true))) else (some false))) = some r := H
           have A90 := Aside0.mk A900
           clear A900
           replace H := Option.bind_eq_some_iff.mp H
           obtain ⟨⟨t524, t525⟩, A910, H⟩ := H
           replace H : (if (t510 == t476) = true then (if t476 = true then (if t509 = true then (if t519 = true then (if t523 = true then (if t522 = true then (if t525 = true then (some (decide (t524 ≤ 0))) else (some false)) else (some false)) else (some false)) else (some true)) else (some false)) else (if t519 = true then (if t523 = true then (if t522 = true then (if t525 = true then (some (decide (t524 ≤ 0))) else (some false)) else (some false)) else (some false)) else (some true))) else (some false)) = some r := H
           have A91 := Aside0.mk A910
           clear A910
           by_cases c92 : (t510 == t476) = true
           ·
            rw [if_pos c92] at H
            have c92b0 : (t510 == t476) = true := c92
            (try (have c92b1 : decide (t510 = t476) = true := by simpa using c92))
            (try (have c92b2 : (t510 == t476) = true := by simpa using c92))
            clear c92
            by_cases c93 : t476 = true
            ·
             subst c93
             replace H := (if_pos rfl).symm.trans H
             by_cases c94 : t509 = true
             ·
              subst c94
              replace H := (if_pos rfl).symm.trans H
              by_cases c95 : t519 = true
              ·
               subst c95
               replace H := (if_pos rfl).symm.trans H
               by_cases c96 : t523 = true
               ·
                subst c96
                replace H := (if_pos rfl).symm.trans H
                by_cases c97 : t522 = true
                ·
                 subst c97
                 replace H := (if_pos rfl).symm.trans H
                 by_cases c98 : t525 = true
                 ·
                  subst c98
                  replace H := (if_pos rfl).symm.trans H
                  obtain rfl := Option.some.inj H
                  have hnb99 := NB474_482.out
                  have hnc99 := NB482_474.out
                  have hnb100 := NB474_490.out
                  have hnc100 := NB490_474.out
                  have hnb101 := NB474_501.out
                  have hnc101 := NB501_474.out
                  have hnb102 := NB474_502.out
                  have hnc102 := NB502_474.out
                  obtain ⟨hcz103_0, hcz103_1, hcz103_2, hcz103_3, hfz103_0, hfz103_1, hfz103_2, hfz103_3⟩ := blkc4 BK474.out
                  go_wp2_with (first | ((with_reducible refine gate_callee (f := 28) rfl ?_); refine goesL_ (some 138) rfl rfl Tryd.func28 (by kernel_rfl) rfl #[.agg #[.int .i64 t470, .int .i64 t471, .int .i64 t472, .bool t473], .agg #[.int .i64 t470, .int .i64 t471, .int .i64 t472, .bool t473]] rfl au100 ?_; (with_reducible refine (impl_Refines.calls kj52 t470 t471 t472 t473 t470 t471 t472 t473 true t510 _ A88.out).mono ?_); rintro e w104 ⟨rfl, hb⟩; refine ⟨_, rfl, ?_⟩; replace BK474 := Aside0.mk (blk_below (g := gb474) au136 hb); replace BK482 := Aside0.mk (blk_below (g := gb482) au137 hb); replace BK490 := Aside0.mk (blk_below (g := gb490) au138 hb); replace BK501 := Aside0.mk (blk_below (g := gb501) au139 hb); replace BK502 := Aside0.mk (blk_below (g := gb502) au140 hb); replace HB := Aside0.mk (below_step au45 hb); (try clear hb); obtain ⟨hcz105_0, hcz105_1, hcz105_2, hcz105_3, hfz105_0, hfz105_1, hfz105_2, hfz105_3⟩ := blkc4 BK474.out) | ((with_reducible refine gate_callee (f := 29) rfl ?_); refine goesL_ (some 143) rfl rfl Tryd.func29 (by kernel_rfl) rfl #[.agg #[.int .i64 t470, .int .i64 t471, .int .i64 t472, .bool t473]] rfl au100 ?_; (with_reducible refine (impl_DateBounds.calls kj52 t470 t471 t472 t473 t511 t512 t513 t514 t515 t516 t517 t518 _ _ A89.out).mono ?_); rintro e w106 ⟨rfl, hb⟩; refine ⟨_, rfl, ?_⟩; replace BK474 := Aside0.mk (blk_below (g := gb474) au136 hb); replace BK482 := Aside0.mk (blk_below (g := gb482) au137 hb); replace BK490 := Aside0.mk (blk_below (g := gb490) au138 hb); replace BK501 := Aside0.mk (blk_below (g := gb501) au139 hb); replace BK502 := Aside0.mk (blk_below (g := gb502) au140 hb); replace HB := Aside0.mk (below_step au45 hb); (try clear hb)) | ((with_reducible refine gate_dst (N := 23) rfl ?_); refine box_event ?hg (N := 23) ?hd (cs := #[.int .i64 0, .int .i64 0, .int .i64 0, .bool false]) (t := 33) ?hr ?_; (case hd => rfl); (case hg => rfl); (case hr => first | (go_simp; done) | (go_simp; rfl)); intro gb520 hg w107 hbox hb; have BK520 := Aside0.mk (hbox); have GW520 := Aside0.mk (bsz hg au45); have GE520 := Aside0.mk (bsz hg au45); replace HB := Aside0.mk (below_step au45 hb); have NB474_520 := Aside0.mk (bne (g := gb474) hg au136); have NB520_474 := Aside0.mk (ben (g := gb474) hg au136); replace BK474 := Aside0.mk (blk_below (g := gb474) au136 hb); have NB482_520 := Aside0.mk (bne (g := gb482) hg au137); have NB520_482 := Aside0.mk (ben (g := gb482) hg au137); replace BK482 := Aside0.mk (blk_below (g := gb482) au137 hb); have NB490_520 := Aside0.mk (bne (g := gb490) hg au138); have NB520_490 := Aside0.mk (ben (g := gb490) hg au138); replace BK490 := Aside0.mk (blk_below (g := gb490) au138 hb); have NB501_520 := Aside0.mk (bne (g := gb501) hg au139); have NB520_501 := Aside0.mk (ben (g := gb501) hg au139); replace BK501 := Aside0.mk (blk_below (g := gb501) au139 hb); have NB502_520 := Aside0.mk (bne (g := gb502) hg au140); have NB520_502 := Aside0.mk (ben (g := gb502) hg au140); replace BK502 := Aside0.mk (blk_below (g := gb502) au140 hb); clear hb hbox hg) | ((with_reducible refine gate_dst (N := 24) rfl ?_); refine box_event ?hg (N := 24) ?hd (cs := #[.int .i64 0, .int .i64 0, .int .i64 0, .bool false]) (t := 33) ?hr ?_; (case hd => rfl); (case hg => rfl); (case hr => first | (go_simp; done) | (go_simp; rfl)); intro gb521 hg w108 hbox hb; have BK521 := Aside0.mk (hbox); have GW521 := Aside0.mk (bsz hg au42); have GE521 := Aside0.mk (bsz hg au42); replace HB := Aside0.mk (below_step au42 hb); have NB474_521 := Aside0.mk (bne (g := gb474) hg au136); have NB521_474 := Aside0.mk (ben (g := gb474) hg au136); replace BK474 := Aside0.mk (blk_below (g := gb474) au136 hb); have NB482_521 := Aside0.mk (bne (g := gb482) hg au137); have NB521_482 := Aside0.mk (ben (g := gb482) hg au137); replace BK482 := Aside0.mk (blk_below (g := gb482) au137 hb); have NB490_521 := Aside0.mk (bne (g := gb490) hg au138); have NB521_490 := Aside0.mk (ben (g := gb490) hg au138); replace BK490 := Aside0.mk (blk_below (g := gb490) au138 hb); have NB501_521 := Aside0.mk (bne (g := gb501) hg au139); have NB521_501 := Aside0.mk (ben (g := gb501) hg au139); replace BK501 := Aside0.mk (blk_below (g := gb501) au139 hb); have NB502_521 := Aside0.mk (bne (g := gb502) hg au140); have NB521_502 := Aside0.mk (ben (g := gb502) hg au140); replace BK502 := Aside0.mk (blk_below (g := gb502) au140 hb); have NB520_521 := Aside0.mk (bne (g := gb520) hg au141); have NB521_520 := Aside0.mk (ben (g := gb520) hg au141); replace BK520 := Aside0.mk (blk_below (g := gb520) au141 hb); clear hb hbox hg; have hnb109 := NB520_474.out; have hnc109 := NB474_520.out; have hnb110 := NB520_482.out; have hnc110 := NB482_520.out; have hnb111 := NB520_490.out; have hnc111 := NB490_520.out; have hnb112 := NB520_501.out; have hnc112 := NB501_520.out; have hnb113 := NB520_502.out; have hnc113 := NB502_520.out; have hnb114 := NB520_521.out; have hnc114 := NB521_520.out; obtain ⟨hcz115_0, hcz115_1, hcz115_2, hcz115_3, hfz115_0, hfz115_1, hfz115_2, hfz115_3⟩ := blkc4 BK520.out; have hnb116 := NB521_474.out; have hnc116 := NB474_521.out; have hnb117 := NB521_482.out; have hnc117 := NB482_521.out; have hnb118 := NB521_490.out; have hnc118 := NB490_521.out; have hnb119 := NB521_501.out; have hnc119 := NB501_521.out; have hnb120 := NB521_502.out; have hnc120 := NB502_521.out; obtain ⟨hcz121_0, hcz121_1, hcz121_2, hcz121_3, hfz121_0, hfz121_1, hfz121_2, hfz121_3⟩ := blkc4 BK521.out; obtain ⟨hcz122_0, hcz122_1, hcz122_2, hcz122_3, hfz122_0, hfz122_1, hfz122_2, hfz122_3⟩ := blkc4 BK474.out) | ((with_reducible refine gate_callee (f := 28) rfl ?_); refine goesL_ (some 150) rfl rfl Tryd.func28 (by kernel_rfl) rfl #[.agg #[.int .i64 t511, .int .i64 t512, .int .i64 t513, .bool t514], .agg #[.int .i64 t470, .int .i64 t471, .int .i64 t472, .bool t473]] rfl au100 ?_; (with_reducible refine (impl_Refines.calls kj52 t511 t512 t513 t514 t470 t471 t472 t473 true _ _ A90.out).mono ?_); rintro e w123 ⟨rfl, hb⟩; refine ⟨_, rfl, ?_⟩; replace BK474 := Aside0.mk (blk_below (g := gb474) (o := .cells #[.int .i64 t470, .int .i64 t471, .int .i64 t472, .bool t473] 33 (0, 0)) au7 hb); replace BK482 := Aside0.mk (blk_below (g := gb482) (o := .cells #[.int .i64 t477, .int .i64 t478, .int .i64 t479, .bool t480] 33 (0, 0)) au8 hb); replace BK490 := Aside0.mk (blk_below (g := gb490) (o := .cells #[.int .i64 t485, .int .i64 t486, .int .i64 t487, .bool t488] 33 (0, 0)) au9 hb); replace BK501 := Aside0.mk (blk_below (g := gb501) (o := .cells #[.int .i64 t493, .int .i64 t494, .int .i64 t495, .bool t496] 33 (0, 0)) au10 hb); replace BK502 := Aside0.mk (blk_below (g := gb502) (o := .cells #[.int .i64 t497, .int .i64 t498, .int .i64 t499, .bool t500] 33 (0, 0)) au11 hb); replace BK520 := Aside0.mk (blk_below (g := gb520) (o := .cells #[.int .i64 t511, .int .i64 t512, .int .i64 t513, .bool t514] 33 (0, 0)) au2 hb); replace BK521 := Aside0.mk (blk_below (g := gb521) (o := .cells #[.int .i64 t515, .int .i64 t516, .int .i64 t517, .bool t518] 33 (0, 0)) au3 hb); replace HB := Aside0.mk (below_step au41 hb); (try clear hb); obtain ⟨hcz124_0, hcz124_1, hcz124_2, hcz124_3, hfz124_0, hfz124_1, hfz124_2, hfz124_3⟩ := blkc4 BK520.out; obtain ⟨hcz125_0, hcz125_1, hcz125_2, hcz125_3, hfz125_0, hfz125_1, hfz125_2, hfz125_3⟩ := blkc4 BK521.out) | ((with_reducible refine gate_callee (f := 26) rfl ?_); refine goesL_ (some 156) rfl rfl Tryd.func26 (by kernel_rfl) rfl #[.agg #[.int .i64 t511, .int .i64 t512, .int .i64 t513, .bool t514], .agg #[.int .i64 t515, .int .i64 t516, .int .i64 t517, .bool t518]] rfl au100 ?_; (with_reducible refine (impl_CompareDates.calls kj52 t511 t512 t513 t514 t515 t516 t517 t518 t524 _ _ A91.out).mono ?_); rintro e w126 ⟨rfl, hb⟩; refine ⟨_, rfl, ?_⟩; replace BK474 := Aside0.mk (blk_below (g := gb474) au136 hb); replace BK482 := Aside0.mk (blk_below (g := gb482) au137 hb); replace BK490 := Aside0.mk (blk_below (g := gb490) au138 hb); replace BK501 := Aside0.mk (blk_below (g := gb501) au139 hb); replace BK502 := Aside0.mk (blk_below (g := gb502) au140 hb); replace BK520 := Aside0.mk (blk_below (g := gb520) au141 hb); replace BK521 := Aside0.mk (blk_below (g := gb521) au142 hb); replace HB := Aside0.mk (below_step au41 hb); (try clear hb)))
                  go_ret
                  exact ax18
                 ·
                  replace c98 := Bool.eq_false_iff.mpr c98
                  subst c98
                  replace H := (if_neg (show ¬ (false = true) by decide)).symm.trans H
                  exact absurd ((Option.some.inj H).trans HRT.out) (by simp)
                ·
                 replace c97 := Bool.eq_false_iff.mpr c97
                 subst c97
                 replace H := (if_neg (show ¬ (false = true) by decide)).symm.trans H
                 exact absurd ((Option.some.inj H).trans HRT.out) (by simp)
               ·
                replace c96 := Bool.eq_false_iff.mpr c96
                subst c96
                replace H := (if_neg (show ¬ (false = true) by decide)).symm.trans H
                exact absurd ((Option.some.inj H).trans HRT.out) (by simp)
              ·
               replace c95 := Bool.eq_false_iff.mpr c95
               subst c95
               replace H := (if_neg (show ¬ (false = true) by decide)).symm.trans H
               obtain rfl := Option.some.inj H
               have hnb211 := NB474_482.out
               have hnc211 := NB482_474.out
               have hnb212 := NB474_490.out
               have hnc212 := NB490_474.out
               have hnb213 := NB474_501.out
               have hnc213 := NB501_474.out
               have hnb214 := NB474_502.out
               have hnc214 := NB502_474.out
               obtain ⟨hcz215_0, hcz215_1, hcz215_2, hcz215_3, hfz215_0, hfz215_1, hfz215_2, hfz215_3⟩ := blkc4 BK474.out
               go_wp2_with (first | ((with_reducible refine gate_callee (f := 28) rfl ?_); refine goesL_ (some 138) rfl rfl Tryd.func28 (by kernel_rfl) rfl #[.agg #[.int .i64 t470, .int .i64 t471, .int .i64 t472, .bool t473], .agg #[.int .i64 t470, .int .i64 t471, .int .i64 t472, .bool t473]] rfl au100 ?_; (with_reducible refine (impl_Refines.calls kj52 t470 t471 t472 t473 t470 t471 t472 t473 true t510 _ A88.out).mono ?_); rintro e w216 ⟨rfl, hb⟩; refine ⟨_, rfl, ?_⟩; replace BK474 := Aside0.mk (blk_below (g := gb474) au136 hb); replace BK482 := Aside0.mk (blk_below (g := gb482) au137 hb); replace BK490 := Aside0.mk (blk_below (g := gb490) au138 hb); replace BK501 := Aside0.mk (blk_below (g := gb501) au139 hb); replace BK502 := Aside0.mk (blk_below (g := gb502) au140 hb); replace HB := Aside0.mk (below_step au45 hb); (try clear hb); obtain ⟨hcz217_0, hcz217_1, hcz217_2, hcz217_3, hfz217_0, hfz217_1, hfz217_2, hfz217_3⟩ := blkc4 BK474.out) | ((with_reducible refine gate_callee (f := 29) rfl ?_); refine goesL_ (some 143) rfl rfl Tryd.func29 (by kernel_rfl) rfl #[.agg #[.int .i64 t470, .int .i64 t471, .int .i64 t472, .bool t473]] rfl au100 ?_; (with_reducible refine (impl_DateBounds.calls kj52 t470 t471 t472 t473 t511 t512 t513 t514 t515 t516 t517 t518 _ _ A89.out).mono ?_); rintro e w218 ⟨rfl, hb⟩; refine ⟨_, rfl, ?_⟩; replace BK474 := Aside0.mk (blk_below (g := gb474) au136 hb); replace BK482 := Aside0.mk (blk_below (g := gb482) au137 hb); replace BK490 := Aside0.mk (blk_below (g := gb490) au138 hb); replace BK501 := Aside0.mk (blk_below (g := gb501) au139 hb); replace BK502 := Aside0.mk (blk_below (g := gb502) au140 hb); replace HB := Aside0.mk (below_step au45 hb); (try clear hb)) | ((with_reducible refine gate_dst (N := 23) rfl ?_); refine box_event ?hg (N := 23) ?hd (cs := #[.int .i64 0, .int .i64 0, .int .i64 0, .bool false]) (t := 33) ?hr ?_; (case hd => rfl); (case hg => rfl); (case hr => first | (go_simp; done) | (go_simp; rfl)); intro gb520 hg w219 hbox hb; have BK520 := Aside0.mk (hbox); have GW520 := Aside0.mk (bsz hg au45); have GE520 := Aside0.mk (bsz hg au45); replace HB := Aside0.mk (below_step au45 hb); have NB474_520 := Aside0.mk (bne (g := gb474) hg au136); have NB520_474 := Aside0.mk (ben (g := gb474) hg au136); replace BK474 := Aside0.mk (blk_below (g := gb474) au136 hb); have NB482_520 := Aside0.mk (bne (g := gb482) hg au137); have NB520_482 := Aside0.mk (ben (g := gb482) hg au137); replace BK482 := Aside0.mk (blk_below (g := gb482) au137 hb); have NB490_520 := Aside0.mk (bne (g := gb490) hg au138); have NB520_490 := Aside0.mk (ben (g := gb490) hg au138); replace BK490 := Aside0.mk (blk_below (g := gb490) au138 hb); have NB501_520 := Aside0.mk (bne (g := gb501) hg au139); have NB520_501 := Aside0.mk (ben (g := gb501) hg au139); replace BK501 := Aside0.mk (blk_below (g := gb501) au139 hb); have NB502_520 := Aside0.mk (bne (g := gb502) hg au140); have NB520_502 := Aside0.mk (ben (g := gb502) hg au140); replace BK502 := Aside0.mk (blk_below (g := gb502) au140 hb); clear hb hbox hg) | ((with_reducible refine gate_dst (N := 24) rfl ?_); refine box_event ?hg (N := 24) ?hd (cs := #[.int .i64 0, .int .i64 0, .int .i64 0, .bool false]) (t := 33) ?hr ?_; (case hd => rfl); (case hg => rfl); (case hr => first | (go_simp; done) | (go_simp; rfl)); intro gb521 hg w220 hbox hb; have BK521 := Aside0.mk (hbox); have GW521 := Aside0.mk (bsz hg au42); have GE521 := Aside0.mk (bsz hg au42); replace HB := Aside0.mk (below_step au42 hb); have NB474_521 := Aside0.mk (bne (g := gb474) hg au136); have NB521_474 := Aside0.mk (ben (g := gb474) hg au136); replace BK474 := Aside0.mk (blk_below (g := gb474) au136 hb); have NB482_521 := Aside0.mk (bne (g := gb482) hg au137); have NB521_482 := Aside0.mk (ben (g := gb482) hg au137); replace BK482 := Aside0.mk (blk_below (g := gb482) au137 hb); have NB490_521 := Aside0.mk (bne (g := gb490) hg au138); have NB521_490 := Aside0.mk (ben (g := gb490) hg au138); replace BK490 := Aside0.mk (blk_below (g := gb490) au138 hb); have NB501_521 := Aside0.mk (bne (g := gb501) hg au139); have NB521_501 := Aside0.mk (ben (g := gb501) hg au139); replace BK501 := Aside0.mk (blk_below (g := gb501) au139 hb); have NB502_521 := Aside0.mk (bne (g := gb502) hg au140); have NB521_502 := Aside0.mk (ben (g := gb502) hg au140); replace BK502 := Aside0.mk (blk_below (g := gb502) au140 hb); have NB520_521 := Aside0.mk (bne (g := gb520) hg au141); have NB521_520 := Aside0.mk (ben (g := gb520) hg au141); replace BK520 := Aside0.mk (blk_below (g := gb520) au141 hb); clear hb hbox hg; have hnb221 := NB520_474.out; have hnc221 := NB474_520.out; have hnb222 := NB520_482.out; have hnc222 := NB482_520.out; have hnb223 := NB520_490.out; have hnc223 := NB490_520.out; have hnb224 := NB520_501.out; have hnc224 := NB501_520.out; have hnb225 := NB520_502.out; have hnc225 := NB502_520.out; have hnb226 := NB520_521.out; have hnc226 := NB521_520.out; obtain ⟨hcz227_0, hcz227_1, hcz227_2, hcz227_3, hfz227_0, hfz227_1, hfz227_2, hfz227_3⟩ := blkc4 BK520.out; have hnb228 := NB521_474.out; have hnc228 := NB474_521.out; have hnb229 := NB521_482.out; have hnc229 := NB482_521.out; have hnb230 := NB521_490.out; have hnc230 := NB490_521.out; have hnb231 := NB521_501.out; have hnc231 := NB501_521.out; have hnb232 := NB521_502.out; have hnc232 := NB502_521.out; obtain ⟨hcz233_0, hcz233_1, hcz233_2, hcz233_3, hfz233_0, hfz233_1, hfz233_2, hfz233_3⟩ := blkc4 BK521.out; obtain ⟨hcz234_0, hcz234_1, hcz234_2, hcz234_3, hfz234_0, hfz234_1, hfz234_2, hfz234_3⟩ := blkc4 BK474.out) | ((with_reducible refine gate_callee (f := 28) rfl ?_); refine goesL_ (some 150) rfl rfl Tryd.func28 (by kernel_rfl) rfl #[.agg #[.int .i64 t511, .int .i64 t512, .int .i64 t513, .bool t514], .agg #[.int .i64 t470, .int .i64 t471, .int .i64 t472, .bool t473]] rfl au100 ?_; (with_reducible refine (impl_Refines.calls kj52 t511 t512 t513 t514 t470 t471 t472 t473 t522 t523 _ A90.out).mono ?_); rintro e w235 ⟨rfl, hb⟩; refine ⟨_, rfl, ?_⟩; replace BK474 := Aside0.mk (blk_below (g := gb474) (o := .cells #[.int .i64 t470, .int .i64 t471, .int .i64 t472, .bool t473] 33 (0, 0)) au7 hb); replace BK482 := Aside0.mk (blk_below (g := gb482) (o := .cells #[.int .i64 t477, .int .i64 t478, .int .i64 t479, .bool t480] 33 (0, 0)) au8 hb); replace BK490 := Aside0.mk (blk_below (g := gb490) (o := .cells #[.int .i64 t485, .int .i64 t486, .int .i64 t487, .bool t488] 33 (0, 0)) au9 hb); replace BK501 := Aside0.mk (blk_below (g := gb501) (o := .cells #[.int .i64 t493, .int .i64 t494, .int .i64 t495, .bool t496] 33 (0, 0)) au10 hb); replace BK502 := Aside0.mk (blk_below (g := gb502) (o := .cells #[.int .i64 t497, .int .i64 t498, .int .i64 t499, .bool t500] 33 (0, 0)) au11 hb); replace BK520 := Aside0.mk (blk_below (g := gb520) (o := .cells #[.int .i64 t511, .int .i64 t512, .int .i64 t513, .bool t514] 33 (0, 0)) au2 hb); replace BK521 := Aside0.mk (blk_below (g := gb521) (o := .cells #[.int .i64 t515, .int .i64 t516, .int .i64 t517, .bool t518] 33 (0, 0)) au3 hb); replace HB := Aside0.mk (below_step au41 hb); (try clear hb); obtain ⟨hcz236_0, hcz236_1, hcz236_2, hcz236_3, hfz236_0, hfz236_1, hfz236_2, hfz236_3⟩ := blkc4 BK520.out; obtain ⟨hcz237_0, hcz237_1, hcz237_2, hcz237_3, hfz237_0, hfz237_1, hfz237_2, hfz237_3⟩ := blkc4 BK521.out) | ((with_reducible refine gate_callee (f := 26) rfl ?_); refine goesL_ (some 156) rfl rfl Tryd.func26 (by kernel_rfl) rfl #[.agg #[.int .i64 t511, .int .i64 t512, .int .i64 t513, .bool t514], .agg #[.int .i64 t515, .int .i64 t516, .int .i64 t517, .bool t518]] rfl au100 ?_; (with_reducible refine (impl_CompareDates.calls kj52 t511 t512 t513 t514 t515 t516 t517 t518 t524 t525 _ A91.out).mono ?_); rintro e w238 ⟨rfl, hb⟩; refine ⟨_, rfl, ?_⟩; replace BK474 := Aside0.mk (blk_below (g := gb474) au136 hb); replace BK482 := Aside0.mk (blk_below (g := gb482) au137 hb); replace BK490 := Aside0.mk (blk_below (g := gb490) au138 hb); replace BK501 := Aside0.mk (blk_below (g := gb501) au139 hb); replace BK502 := Aside0.mk (blk_below (g := gb502) au140 hb); replace BK520 := Aside0.mk (blk_below (g := gb520) au141 hb); replace BK521 := Aside0.mk (blk_below (g := gb521) au142 hb); replace HB := Aside0.mk (below_step au41 hb); (try clear hb)))
               go_ret
               exact ax18
             ·
              replace c94 := Bool.eq_false_iff.mpr c94
              subst c94
              replace H := (if_neg (show ¬ (false = true) by decide)).symm.trans H
              exact absurd ((Option.some.inj H).trans HRT.out) (by simp)
            ·
             replace c93 := Bool.eq_false_iff.mpr c93
             subst c93
             replace H := (if_neg (show ¬ (false = true) by decide)).symm.trans H
             by_cases c267 : t519 = true
             ·
              subst c267
              replace H := (if_pos rfl).symm.trans H
              by_cases c268 : t523 = true
              ·
               subst c268
               replace H := (if_pos rfl).symm.trans H
               by_cases c269 : t522 = true
               ·
                subst c269
                replace H := (if_pos rfl).symm.trans H
                by_cases c270 : t525 = true
                ·
                 subst c270
                 replace H := (if_pos rfl).symm.trans H
                 obtain rfl := Option.some.inj H
                 have hnb271 := NB474_482.out
                 have hnc271 := NB482_474.out
                 have hnb272 := NB474_490.out
                 have hnc272 := NB490_474.out
                 have hnb273 := NB474_501.out
                 have hnc273 := NB501_474.out
                 have hnb274 := NB474_502.out
                 have hnc274 := NB502_474.out
                 obtain ⟨hcz275_0, hcz275_1, hcz275_2, hcz275_3, hfz275_0, hfz275_1, hfz275_2, hfz275_3⟩ := blkc4 BK474.out
                 go_wp2_with (first | ((with_reducible refine gate_callee (f := 28) rfl ?_); refine goesL_ (some 138) rfl rfl Tryd.func28 (by kernel_rfl) rfl #[.agg #[.int .i64 t470, .int .i64 t471, .int .i64 t472, .bool t473], .agg #[.int .i64 t470, .int .i64 t471, .int .i64 t472, .bool t473]] rfl au100 ?_; (with_reducible refine (impl_Refines.calls kj52 t470 t471 t472 t473 t470 t471 t472 t473 t509 t510 _ A88.out).mono ?_); rintro e w276 ⟨rfl, hb⟩; refine ⟨_, rfl, ?_⟩; replace BK474 := Aside0.mk (blk_below (g := gb474) au136 hb); replace BK482 := Aside0.mk (blk_below (g := gb482) au137 hb); replace BK490 := Aside0.mk (blk_below (g := gb490) au138 hb); replace BK501 := Aside0.mk (blk_below (g := gb501) au139 hb); replace BK502 := Aside0.mk (blk_below (g := gb502) au140 hb); replace HB := Aside0.mk (below_step au45 hb); (try clear hb); obtain ⟨hcz277_0, hcz277_1, hcz277_2, hcz277_3, hfz277_0, hfz277_1, hfz277_2, hfz277_3⟩ := blkc4 BK474.out) | ((with_reducible refine gate_callee (f := 29) rfl ?_); refine goesL_ (some 143) rfl rfl Tryd.func29 (by kernel_rfl) rfl #[.agg #[.int .i64 t470, .int .i64 t471, .int .i64 t472, .bool t473]] rfl au100 ?_; (with_reducible refine (impl_DateBounds.calls kj52 t470 t471 t472 t473 t511 t512 t513 t514 t515 t516 t517 t518 _ _ A89.out).mono ?_); rintro e w278 ⟨rfl, hb⟩; refine ⟨_, rfl, ?_⟩; replace BK474 := Aside0.mk (blk_below (g := gb474) au136 hb); replace BK482 := Aside0.mk (blk_below (g := gb482) au137 hb); replace BK490 := Aside0.mk (blk_below (g := gb490) au138 hb); replace BK501 := Aside0.mk (blk_below (g := gb501) au139 hb); replace BK502 := Aside0.mk (blk_below (g := gb502) au140 hb); replace HB := Aside0.mk (below_step au45 hb); (try clear hb)) | ((with_reducible refine gate_dst (N := 23) rfl ?_); refine box_event ?hg (N := 23) ?hd (cs := #[.int .i64 0, .int .i64 0, .int .i64 0, .bool false]) (t := 33) ?hr ?_; (case hd => rfl); (case hg => rfl); (case hr => first | (go_simp; done) | (go_simp; rfl)); intro gb520 hg w279 hbox hb; have BK520 := Aside0.mk (hbox); have GW520 := Aside0.mk (bsz hg au45); have GE520 := Aside0.mk (bsz hg au45); replace HB := Aside0.mk (below_step au45 hb); have NB474_520 := Aside0.mk (bne (g := gb474) hg au136); have NB520_474 := Aside0.mk (ben (g := gb474) hg au136); replace BK474 := Aside0.mk (blk_below (g := gb474) au136 hb); have NB482_520 := Aside0.mk (bne (g := gb482) hg au137); have NB520_482 := Aside0.mk (ben (g := gb482) hg au137); replace BK482 := Aside0.mk (blk_below (g := gb482) au137 hb); have NB490_520 := Aside0.mk (bne (g := gb490) hg au138); have NB520_490 := Aside0.mk (ben (g := gb490) hg au138); replace BK490 := Aside0.mk (blk_below (g := gb490) au138 hb); have NB501_520 := Aside0.mk (bne (g := gb501) hg au139); have NB520_501 := Aside0.mk (ben (g := gb501) hg au139); replace BK501 := Aside0.mk (blk_below (g := gb501) au139 hb); have NB502_520 := Aside0.mk (bne (g := gb502) hg au140); have NB520_502 := Aside0.mk (ben (g := gb502) hg au140); replace BK502 := Aside0.mk (blk_below (g := gb502) au140 hb); clear hb hbox hg) | ((with_reducible refine gate_dst (N := 24) rfl ?_); refine box_event ?hg (N := 24) ?hd (cs := #[.int .i64 0, .int .i64 0, .int .i64 0, .bool false]) (t := 33) ?hr ?_; (case hd => rfl); (case hg => rfl); (case hr => first | (go_simp; done) | (go_simp; rfl)); intro gb521 hg w280 hbox hb; have BK521 := Aside0.mk (hbox); have GW521 := Aside0.mk (bsz hg au42); have GE521 := Aside0.mk (bsz hg au42); replace HB := Aside0.mk (below_step au42 hb); have NB474_521 := Aside0.mk (bne (g := gb474) hg au136); have NB521_474 := Aside0.mk (ben (g := gb474) hg au136); replace BK474 := Aside0.mk (blk_below (g := gb474) au136 hb); have NB482_521 := Aside0.mk (bne (g := gb482) hg au137); have NB521_482 := Aside0.mk (ben (g := gb482) hg au137); replace BK482 := Aside0.mk (blk_below (g := gb482) au137 hb); have NB490_521 := Aside0.mk (bne (g := gb490) hg au138); have NB521_490 := Aside0.mk (ben (g := gb490) hg au138); replace BK490 := Aside0.mk (blk_below (g := gb490) au138 hb); have NB501_521 := Aside0.mk (bne (g := gb501) hg au139); have NB521_501 := Aside0.mk (ben (g := gb501) hg au139); replace BK501 := Aside0.mk (blk_below (g := gb501) au139 hb); have NB502_521 := Aside0.mk (bne (g := gb502) hg au140); have NB521_502 := Aside0.mk (ben (g := gb502) hg au140); replace BK502 := Aside0.mk (blk_below (g := gb502) au140 hb); have NB520_521 := Aside0.mk (bne (g := gb520) hg au141); have NB521_520 := Aside0.mk (ben (g := gb520) hg au141); replace BK520 := Aside0.mk (blk_below (g := gb520) au141 hb); clear hb hbox hg; have hnb281 := NB520_474.out; have hnc281 := NB474_520.out; have hnb282 := NB520_482.out; have hnc282 := NB482_520.out; have hnb283 := NB520_490.out; have hnc283 := NB490_520.out; have hnb284 := NB520_501.out; have hnc284 := NB501_520.out; have hnb285 := NB520_502.out; have hnc285 := NB502_520.out; have hnb286 := NB520_521.out; have hnc286 := NB521_520.out; obtain ⟨hcz287_0, hcz287_1, hcz287_2, hcz287_3, hfz287_0, hfz287_1, hfz287_2, hfz287_3⟩ := blkc4 BK520.out; have hnb288 := NB521_474.out; have hnc288 := NB474_521.out; have hnb289 := NB521_482.out; have hnc289 := NB482_521.out; have hnb290 := NB521_490.out; have hnc290 := NB490_521.out; have hnb291 := NB521_501.out; have hnc291 := NB501_521.out; have hnb292 := NB521_502.out; have hnc292 := NB502_521.out; obtain ⟨hcz293_0, hcz293_1, hcz293_2, hcz293_3, hfz293_0, hfz293_1, hfz293_2, hfz293_3⟩ := blkc4 BK521.out; obtain ⟨hcz294_0, hcz294_1, hcz294_2, hcz294_3, hfz294_0, hfz294_1, hfz294_2, hfz294_3⟩ := blkc4 BK474.out) | ((with_reducible refine gate_callee (f := 28) rfl ?_); refine goesL_ (some 150) rfl rfl Tryd.func28 (by kernel_rfl) rfl #[.agg #[.int .i64 t511, .int .i64 t512, .int .i64 t513, .bool t514], .agg #[.int .i64 t470, .int .i64 t471, .int .i64 t472, .bool t473]] rfl au100 ?_; (with_reducible refine (impl_Refines.calls kj52 t511 t512 t513 t514 t470 t471 t472 t473 true _ _ A90.out).mono ?_); rintro e w295 ⟨rfl, hb⟩; refine ⟨_, rfl, ?_⟩; replace BK474 := Aside0.mk (blk_below (g := gb474) (o := .cells #[.int .i64 t470, .int .i64 t471, .int .i64 t472, .bool t473] 33 (0, 0)) au7 hb); replace BK482 := Aside0.mk (blk_below (g := gb482) (o := .cells #[.int .i64 t477, .int .i64 t478, .int .i64 t479, .bool t480] 33 (0, 0)) au8 hb); replace BK490 := Aside0.mk (blk_below (g := gb490) (o := .cells #[.int .i64 t485, .int .i64 t486, .int .i64 t487, .bool t488] 33 (0, 0)) au9 hb); replace BK501 := Aside0.mk (blk_below (g := gb501) (o := .cells #[.int .i64 t493, .int .i64 t494, .int .i64 t495, .bool t496] 33 (0, 0)) au10 hb); replace BK502 := Aside0.mk (blk_below (g := gb502) (o := .cells #[.int .i64 t497, .int .i64 t498, .int .i64 t499, .bool t500] 33 (0, 0)) au11 hb); replace BK520 := Aside0.mk (blk_below (g := gb520) (o := .cells #[.int .i64 t511, .int .i64 t512, .int .i64 t513, .bool t514] 33 (0, 0)) au2 hb); replace BK521 := Aside0.mk (blk_below (g := gb521) (o := .cells #[.int .i64 t515, .int .i64 t516, .int .i64 t517, .bool t518] 33 (0, 0)) au3 hb); replace HB := Aside0.mk (below_step au41 hb); (try clear hb); obtain ⟨hcz296_0, hcz296_1, hcz296_2, hcz296_3, hfz296_0, hfz296_1, hfz296_2, hfz296_3⟩ := blkc4 BK520.out; obtain ⟨hcz297_0, hcz297_1, hcz297_2, hcz297_3, hfz297_0, hfz297_1, hfz297_2, hfz297_3⟩ := blkc4 BK521.out) | ((with_reducible refine gate_callee (f := 26) rfl ?_); refine goesL_ (some 156) rfl rfl Tryd.func26 (by kernel_rfl) rfl #[.agg #[.int .i64 t511, .int .i64 t512, .int .i64 t513, .bool t514], .agg #[.int .i64 t515, .int .i64 t516, .int .i64 t517, .bool t518]] rfl au100 ?_; (with_reducible refine (impl_CompareDates.calls kj52 t511 t512 t513 t514 t515 t516 t517 t518 t524 _ _ A91.out).mono ?_); rintro e w298 ⟨rfl, hb⟩; refine ⟨_, rfl, ?_⟩; replace BK474 := Aside0.mk (blk_below (g := gb474) au136 hb); replace BK482 := Aside0.mk (blk_below (g := gb482) au137 hb); replace BK490 := Aside0.mk (blk_below (g := gb490) au138 hb); replace BK501 := Aside0.mk (blk_below (g := gb501) au139 hb); replace BK502 := Aside0.mk (blk_below (g := gb502) au140 hb); replace BK520 := Aside0.mk (blk_below (g := gb520) au141 hb); replace BK521 := Aside0.mk (blk_below (g := gb521) au142 hb); replace HB := Aside0.mk (below_step au41 hb); (try clear hb)))
                 go_ret
                 exact ax18
                ·
                 replace c270 := Bool.eq_false_iff.mpr c270
                 subst c270
                 replace H := (if_neg (show ¬ (false = true) by decide)).symm.trans H
                 exact absurd ((Option.some.inj H).trans HRT.out) (by simp)
               ·
                replace c269 := Bool.eq_false_iff.mpr c269
                subst c269
                replace H := (if_neg (show ¬ (false = true) by decide)).symm.trans H
                exact absurd ((Option.some.inj H).trans HRT.out) (by simp)
              ·
               replace c268 := Bool.eq_false_iff.mpr c268
               subst c268
               replace H := (if_neg (show ¬ (false = true) by decide)).symm.trans H
               exact absurd ((Option.some.inj H).trans HRT.out) (by simp)
             ·
              replace c267 := Bool.eq_false_iff.mpr c267
              subst c267
              replace H := (if_neg (show ¬ (false = true) by decide)).symm.trans H
              obtain rfl := Option.some.inj H
              have hnb383 := NB474_482.out
              have hnc383 := NB482_474.out
              have hnb384 := NB474_490.out
              have hnc384 := NB490_474.out
              have hnb385 := NB474_501.out
              have hnc385 := NB501_474.out
              have hnb386 := NB474_502.out
              have hnc386 := NB502_474.out
              obtain ⟨hcz387_0, hcz387_1, hcz387_2, hcz387_3, hfz387_0, hfz387_1, hfz387_2, hfz387_3⟩ := blkc4 BK474.out
              go_wp2_with (first | ((with_reducible refine gate_callee (f := 28) rfl ?_); refine goesL_ (some 138) rfl rfl Tryd.func28 (by kernel_rfl) rfl #[.agg #[.int .i64 t470, .int .i64 t471, .int .i64 t472, .bool t473], .agg #[.int .i64 t470, .int .i64 t471, .int .i64 t472, .bool t473]] rfl au100 ?_; (with_reducible refine (impl_Refines.calls kj52 t470 t471 t472 t473 t470 t471 t472 t473 t509 t510 _ A88.out).mono ?_); rintro e w388 ⟨rfl, hb⟩; refine ⟨_, rfl, ?_⟩; replace BK474 := Aside0.mk (blk_below (g := gb474) au136 hb); replace BK482 := Aside0.mk (blk_below (g := gb482) au137 hb); replace BK490 := Aside0.mk (blk_below (g := gb490) au138 hb); replace BK501 := Aside0.mk (blk_below (g := gb501) au139 hb); replace BK502 := Aside0.mk (blk_below (g := gb502) au140 hb); replace HB := Aside0.mk (below_step au45 hb); (try clear hb); obtain ⟨hcz389_0, hcz389_1, hcz389_2, hcz389_3, hfz389_0, hfz389_1, hfz389_2, hfz389_3⟩ := blkc4 BK474.out) | ((with_reducible refine gate_callee (f := 29) rfl ?_); refine goesL_ (some 143) rfl rfl Tryd.func29 (by kernel_rfl) rfl #[.agg #[.int .i64 t470, .int .i64 t471, .int .i64 t472, .bool t473]] rfl au100 ?_; (with_reducible refine (impl_DateBounds.calls kj52 t470 t471 t472 t473 t511 t512 t513 t514 t515 t516 t517 t518 _ _ A89.out).mono ?_); rintro e w390 ⟨rfl, hb⟩; refine ⟨_, rfl, ?_⟩; replace BK474 := Aside0.mk (blk_below (g := gb474) au136 hb); replace BK482 := Aside0.mk (blk_below (g := gb482) au137 hb); replace BK490 := Aside0.mk (blk_below (g := gb490) au138 hb); replace BK501 := Aside0.mk (blk_below (g := gb501) au139 hb); replace BK502 := Aside0.mk (blk_below (g := gb502) au140 hb); replace HB := Aside0.mk (below_step au45 hb); (try clear hb)) | ((with_reducible refine gate_dst (N := 23) rfl ?_); refine box_event ?hg (N := 23) ?hd (cs := #[.int .i64 0, .int .i64 0, .int .i64 0, .bool false]) (t := 33) ?hr ?_; (case hd => rfl); (case hg => rfl); (case hr => first | (go_simp; done) | (go_simp; rfl)); intro gb520 hg w391 hbox hb; have BK520 := Aside0.mk (hbox); have GW520 := Aside0.mk (bsz hg au45); have GE520 := Aside0.mk (bsz hg au45); replace HB := Aside0.mk (below_step au45 hb); have NB474_520 := Aside0.mk (bne (g := gb474) hg au136); have NB520_474 := Aside0.mk (ben (g := gb474) hg au136); replace BK474 := Aside0.mk (blk_below (g := gb474) au136 hb); have NB482_520 := Aside0.mk (bne (g := gb482) hg au137); have NB520_482 := Aside0.mk (ben (g := gb482) hg au137); replace BK482 := Aside0.mk (blk_below (g := gb482) au137 hb); have NB490_520 := Aside0.mk (bne (g := gb490) hg au138); have NB520_490 := Aside0.mk (ben (g := gb490) hg au138); replace BK490 := Aside0.mk (blk_below (g := gb490) au138 hb); have NB501_520 := Aside0.mk (bne (g := gb501) hg au139); have NB520_501 := Aside0.mk (ben (g := gb501) hg au139); replace BK501 := Aside0.mk (blk_below (g := gb501) au139 hb); have NB502_520 := Aside0.mk (bne (g := gb502) hg au140); have NB520_502 := Aside0.mk (ben (g := gb502) hg au140); replace BK502 := Aside0.mk (blk_below (g := gb502) au140 hb); clear hb hbox hg) | ((with_reducible refine gate_dst (N := 24) rfl ?_); refine box_event ?hg (N := 24) ?hd (cs := #[.int .i64 0, .int .i64 0, .int .i64 0, .bool false]) (t := 33) ?hr ?_; (case hd => rfl); (case hg => rfl); (case hr => first | (go_simp; done) | (go_simp; rfl)); intro gb521 hg w392 hbox hb; have BK521 := Aside0.mk (hbox); have GW521 := Aside0.mk (bsz hg au42); have GE521 := Aside0.mk (bsz hg au42); replace HB := Aside0.mk (below_step au42 hb); have NB474_521 := Aside0.mk (bne (g := gb474) hg au136); have NB521_474 := Aside0.mk (ben (g := gb474) hg au136); replace BK474 := Aside0.mk (blk_below (g := gb474) au136 hb); have NB482_521 := Aside0.mk (bne (g := gb482) hg au137); have NB521_482 := Aside0.mk (ben (g := gb482) hg au137); replace BK482 := Aside0.mk (blk_below (g := gb482) au137 hb); have NB490_521 := Aside0.mk (bne (g := gb490) hg au138); have NB521_490 := Aside0.mk (ben (g := gb490) hg au138); replace BK490 := Aside0.mk (blk_below (g := gb490) au138 hb); have NB501_521 := Aside0.mk (bne (g := gb501) hg au139); have NB521_501 := Aside0.mk (ben (g := gb501) hg au139); replace BK501 := Aside0.mk (blk_below (g := gb501) au139 hb); have NB502_521 := Aside0.mk (bne (g := gb502) hg au140); have NB521_502 := Aside0.mk (ben (g := gb502) hg au140); replace BK502 := Aside0.mk (blk_below (g := gb502) au140 hb); have NB520_521 := Aside0.mk (bne (g := gb520) hg au141); have NB521_520 := Aside0.mk (ben (g := gb520) hg au141); replace BK520 := Aside0.mk (blk_below (g := gb520) au141 hb); clear hb hbox hg; have hnb393 := NB520_474.out; have hnc393 := NB474_520.out; have hnb394 := NB520_482.out; have hnc394 := NB482_520.out; have hnb395 := NB520_490.out; have hnc395 := NB490_520.out; have hnb396 := NB520_501.out; have hnc396 := NB501_520.out; have hnb397 := NB520_502.out; have hnc397 := NB502_520.out; have hnb398 := NB520_521.out; have hnc398 := NB521_520.out; obtain ⟨hcz399_0, hcz399_1, hcz399_2, hcz399_3, hfz399_0, hfz399_1, hfz399_2, hfz399_3⟩ := blkc4 BK520.out; have hnb400 := NB521_474.out; have hnc400 := NB474_521.out; have hnb401 := NB521_482.out; have hnc401 := NB482_521.out; have hnb402 := NB521_490.out; have hnc402 := NB490_521.out; have hnb403 := NB521_501.out; have hnc403 := NB501_521.out; have hnb404 := NB521_502.out; have hnc404 := NB502_521.out; obtain ⟨hcz405_0, hcz405_1, hcz405_2, hcz405_3, hfz405_0, hfz405_1, hfz405_2, hfz405_3⟩ := blkc4 BK521.out; obtain ⟨hcz406_0, hcz406_1, hcz406_2, hcz406_3, hfz406_0, hfz406_1, hfz406_2, hfz406_3⟩ := blkc4 BK474.out) | ((with_reducible refine gate_callee (f := 28) rfl ?_); refine goesL_ (some 150) rfl rfl Tryd.func28 (by kernel_rfl) rfl #[.agg #[.int .i64 t511, .int .i64 t512, .int .i64 t513, .bool t514], .agg #[.int .i64 t470, .int .i64 t471, .int .i64 t472, .bool t473]] rfl au100 ?_; (with_reducible refine (impl_Refines.calls kj52 t511 t512 t513 t514 t470 t471 t472 t473 t522 t523 _ A90.out).mono ?_); rintro e w407 ⟨rfl, hb⟩; refine ⟨_, rfl, ?_⟩; replace BK474 := Aside0.mk (blk_below (g := gb474) (o := .cells #[.int .i64 t470, .int .i64 t471, .int .i64 t472, .bool t473] 33 (0, 0)) au7 hb); replace BK482 := Aside0.mk (blk_below (g := gb482) (o := .cells #[.int .i64 t477, .int .i64 t478, .int .i64 t479, .bool t480] 33 (0, 0)) au8 hb); replace BK490 := Aside0.mk (blk_below (g := gb490) (o := .cells #[.int .i64 t485, .int .i64 t486, .int .i64 t487, .bool t488] 33 (0, 0)) au9 hb); replace BK501 := Aside0.mk (blk_below (g := gb501) (o := .cells #[.int .i64 t493, .int .i64 t494, .int .i64 t495, .bool t496] 33 (0, 0)) au10 hb); replace BK502 := Aside0.mk (blk_below (g := gb502) (o := .cells #[.int .i64 t497, .int .i64 t498, .int .i64 t499, .bool t500] 33 (0, 0)) au11 hb); replace BK520 := Aside0.mk (blk_below (g := gb520) (o := .cells #[.int .i64 t511, .int .i64 t512, .int .i64 t513, .bool t514] 33 (0, 0)) au2 hb); replace BK521 := Aside0.mk (blk_below (g := gb521) (o := .cells #[.int .i64 t515, .int .i64 t516, .int .i64 t517, .bool t518] 33 (0, 0)) au3 hb); replace HB := Aside0.mk (below_step au41 hb); (try clear hb); obtain ⟨hcz408_0, hcz408_1, hcz408_2, hcz408_3, hfz408_0, hfz408_1, hfz408_2, hfz408_3⟩ := blkc4 BK520.out; obtain ⟨hcz409_0, hcz409_1, hcz409_2, hcz409_3, hfz409_0, hfz409_1, hfz409_2, hfz409_3⟩ := blkc4 BK521.out) | ((with_reducible refine gate_callee (f := 26) rfl ?_); refine goesL_ (some 156) rfl rfl Tryd.func26 (by kernel_rfl) rfl #[.agg #[.int .i64 t511, .int .i64 t512, .int .i64 t513, .bool t514], .agg #[.int .i64 t515, .int .i64 t516, .int .i64 t517, .bool t518]] rfl au100 ?_; (with_reducible refine (impl_CompareDates.calls kj52 t511 t512 t513 t514 t515 t516 t517 t518 t524 t525 _ A91.out).mono ?_); rintro e w410 ⟨rfl, hb⟩; refine ⟨_, rfl, ?_⟩; replace BK474 := Aside0.mk (blk_below (g := gb474) au136 hb); replace BK482 := Aside0.mk (blk_below (g := gb482) au137 hb); replace BK490 := Aside0.mk (blk_below (g := gb490) au138 hb); replace BK501 := Aside0.mk (blk_below (g := gb501) au139 hb); replace BK502 := Aside0.mk (blk_below (g := gb502) au140 hb); replace BK520 := Aside0.mk (blk_below (g := gb520) au141 hb); replace BK521 := Aside0.mk (blk_below (g := gb521) au142 hb); replace HB := Aside0.mk (below_step au41 hb); (try clear hb)))
              go_ret
              exact ax18
           ·
            rw [if_neg c92] at H
            have c92b0 : (t510 == t476) = false := by simpa using c92
            (try (have c92b1 : decide (t510 = t476) = false := by simpa using c92))
            (try (have c92b2 : (t510 == t476) = false := by simpa using c92))
            (try (have c92b3 : ¬ (t510 = t476) := by simpa using c92))
            clear c92
            exact absurd ((Option.some.inj H).trans HRT.out) (by simp)



end Go.Proofs.YtmjmjfkjlblgaaaDoor.G

namespace Go.Proofs.YtmjmjfkjlblgaaaDoor.Opn
open Go.RowKit Go.Proofs.YtmjmjfkjlblgaaaDoorW.PrintWords
set_option linter.unusedVariables false
set_option linter.unusedSimpArgs false
variable {H : Type} {enc : TypeId × Value → H} {P : Program} {w : World} {base : Nat} {spare : Nat → Bool} {held : Bool}
def okInt (k : IntKind) (n : Int) : Prop := (Lit.int k n).wf = true
def okList {α : Type} (p : α → Prop) (xs : List α) : Prop := xs.length ≤ 9223372036854775807 ∧ ∀ x ∈ xs, p x
theorem of_int {t : TypeId} {k : IntKind} {fuel : Nat} {cs : List Value} {x : DataW H × List MemPlace} (ht : P.underlying t = some (.int k)) (h : DataW.trod enc P w base spare held fuel t cs = some x) :
    ∃ n, (Kd.int k).K w n cs ∧ okInt k n := by
  obtain ⟨n, rfl, rfl, hw⟩ := DataW.trod_int ht h
  exact ⟨n, rfl, hw⟩
theorem add_add (a : Addr) (k i : Nat) : (a.add k).add i = a.add (k + i) := by
  unfold Addr.add
  by_cases hk : k = 0 <;> by_cases hi : i = 0 <;> simp [hk, hi, Nat.add_assoc]
theorem of_slice {α : Type} {d : Kd α} {ok : α → Prop} {t e : TypeId} {fuel : Nat} {cs : List Value} {x : DataW H × List MemPlace} (ht : P.underlying t = some (.slice e)) (hc : P.cellsOf e = d.sz)
    (ih : ∀ n cs x, DataW.trod enc P w base spare held n e cs = some x → ∃ y, d.K w y cs ∧ ok y) (h : DataW.trod enc P w base spare held fuel t cs = some x) :
    ∃ ys, (Kd.slice e d).K w ys cs ∧ okList ok ys := by
  rcases Go.Deep.open_slice ht h with ⟨rfl, _⟩ | ⟨a, len, cap, m, n, D, Pl, rfl, hb, hl, hm, hmm, hxe, hel⟩
  · exact ⟨[], ⟨none, 0, rfl, by simp, rfl, by simp, fun h => absurd h (by simp)⟩, by simp, fun x hx => by simp at hx⟩
  · have hlm : len ≤ m := by rw [hmm]; split <;> omega
    have hm' : len ≤ 9223372036854775807 := by unfold maxLen at hm; omega
    have key : ∀ i, i < len → ∃ cs' y, w.cells? base (a.add (i * P.cellsOf e)) (P.cellsOf e) = some cs' ∧ d.K w y cs' ∧ ok y := by
      intro i hi
      obtain ⟨cs', h1, h2⟩ := hel i (by omega)
      obtain ⟨y, hy, ho⟩ := ih _ _ _ h2
      exact ⟨cs', y, h1, hy, ho⟩
    obtain ⟨ys, hlen, hys⟩ : ∃ ys : List α, ys.length = len ∧ ∀ i (hi : i < ys.length), ∃ cs', w.cells? base (a.add (i * P.cellsOf e)) (P.cellsOf e) = some cs' ∧ d.K w ys[i] cs' ∧ ok ys[i] := by
      clear h hxe hel hmm hlm hl hm hm'
      induction len with
      | zero => exact ⟨[], rfl, fun i hi => by simp at hi⟩
      | succ len ihl =>
        obtain ⟨ys, h1, h2⟩ := ihl (fun i hi => key i (by omega))
        obtain ⟨cs', y, h3, h4, h5⟩ := key len (by omega)
        refine ⟨ys ++ [y], by simp [h1], fun i hi => ?_⟩
        by_cases hi' : i < ys.length
        · rw [List.getElem_append_left hi']; exact h2 i hi'
        · have : i = len := by simp at hi; omega
          subst this
          refine ⟨cs', h3, ?_, ?_⟩ <;> rw [List.getElem_append_right (by omega)] <;> simpa [h1]
    refine ⟨ys, ⟨some a, cap, by rw [hlen], by omega, rfl, by omega, fun _ => ⟨a, rfl, fun j p hj => ?_⟩⟩, by omega, fun y hy => ?_⟩
    · obtain ⟨hj', rfl⟩ := List.getElem?_eq_some_iff.1 hj
      obtain ⟨cs', h1, h2, _⟩ := hys j hj'
      rw [hc] at h1
      refine ⟨cs', d.K_len h2, h2, fun i u hu => ?_⟩
      obtain ⟨_, hl', hcell⟩ := World.cells?_some h1
      have hi : i < d.sz := by have := (List.getElem?_eq_some_iff.1 hu).1; omega
      have := hcell i hi
      rw [hu, add_add] at this
      exact this
    · obtain ⟨i, hi, rfl⟩ := List.getElem_of_mem hy
      obtain ⟨_, _, _, h3⟩ := hys i hi
      exact h3
end Go.Proofs.YtmjmjfkjlblgaaaDoor.Opn

namespace Go.Proofs.YtmjmjfkjlblgaaaDoor.G
open Go.Proofs.YtmjmjfkjlblgaaaDoor.Opn
open Go.RowKit Go.Proofs.YtmjmjfkjlblgaaaDoorW.PrintWords Go.Proofs.YtmjmjfkjlblgaaaDoorW.PrintLast Go.Proofs.YtmjmjfkjlblgaaaDoorW.PrintMore
open Go.Proofs.YtmjmjfkjlblgaaaDoor.Gl Go.Proofs.YtmjmjfkjlblgaaaDoor.Ext
attribute [local go_sem] max2_int min2_int max_two min_two max_three min_three max_four min_four   -- for this text's walks alone
set_option linter.unusedVariables false
set_option linter.unusedSimpArgs false

theorem cells5 : Tryd.prog.cellsOf 5 = 1 := by kernel_rfl

def laws_FnDateForms.Pur : Prop := ∀ (l0 : List Int), okList (okInt .u8) l0 → ∃ k, laws_FnDateForms.f k l0 = some true
theorem laws_FnDateForms.wlk (P : laws_FnDateForms.Pur) (A0 : Option Addr) (c0 : Nat) (l0 : List Int) (w : World) (hr0 : Kd.C (Kd.int .u8) w A0 l0.length l0) (hc0 : l0.length ≤ c0) {gF3 : Bool} (hG : GL true true gF3 w) (bl0 : okList (okInt .u8) l0) :
    Calls Tryd.prog 5 #[.slice A0 l0.length c0] w fun e w' => e = .returned (.bool true) ∧ Below w.heap.size w w' := by
  obtain ⟨k, h⟩ := P l0 bl0
  refine (laws_FnDateForms.calls k A0 c0 l0 w hG hr0 hc0 h).mono ?_
  rintro e w' ⟨rfl, hd⟩
  exact ⟨rfl, hd⟩

end Go.Proofs.YtmjmjfkjlblgaaaDoor.G

namespace Go.Proofs.YtmjmjfkjlblgaaaDoor.B
open Go.RowKit Go.Proofs.YtmjmjfkjlblgaaaDoorW.PrintWords Go.Proofs.YtmjmjfkjlblgaaaDoorW.PrintLast
set_option linter.unusedVariables false
set_option linter.unusedSimpArgs false
def ahd (seg : List UInt8) : List (List UInt8) → List (List UInt8)
  | [] => [seg]
  | h :: t => (seg ++ h) :: t
def spl (b : UInt8) : List UInt8 → List (List UInt8)
  | [] => [[]]
  | c :: cs => if c = b then [] :: spl b cs else ahd [c] (spl b cs)
theorem spl_nil (b : UInt8) : spl b [] = [[]] := rfl
theorem spl_cons (b c : UInt8) (cs : List UInt8) : spl b (c :: cs) = if c = b then [] :: spl b cs else ahd [c] (spl b cs) := rfl
theorem spl_ne (b : UInt8) (l : List UInt8) : spl b l ≠ [] := by
  cases l with
  | nil => simp [spl]
  | cons c cs => unfold spl; split <;> simp; unfold ahd; split <;> simp
theorem spl_length (b : UInt8) (l : List UInt8) : (spl b l).length ≤ l.length + 1 := by
  induction l with
  | nil => simp [spl]
  | cons c cs ih =>
    unfold spl
    split
    · simp; omega
    · cases h : spl b cs with
      | nil => exact absurd h (spl_ne b cs)
      | cons p q => rw [h] at ih; simp [ahd] at ih ⊢; omega
theorem spl_none (c : UInt8) : ∀ l : List UInt8, (∀ k : Nat, l[k]? ≠ some c) → spl c l = [l]
  | [], _ => rfl
  | a :: l, h => by
    have h0 : a ≠ c := fun e => h 0 (by simp [e])
    rw [spl_cons, if_neg h0, spl_none c l (fun k => by simpa using h (k + 1))]; rfl
theorem spl_first (c : UInt8) : ∀ (i : Nat) (l : List UInt8), l[i]? = some c → (∀ k : Nat, k < i → l[k]? ≠ some c) → spl c l = l.take i :: spl c (l.drop (i + 1))
  | 0, [], h, _ => by simp at h
  | 0, a :: l, h, _ => by
    have h0 : a = c := by simpa using h
    rw [spl_cons, if_pos h0]; rfl
  | i + 1, [], h, _ => by simp at h
  | i + 1, a :: l, h, hk => by
    have h0 : a ≠ c := fun e => hk 0 (by omega) (by simp [e])
    rw [spl_cons, if_neg h0, spl_first c i l (by simpa using h) (fun k hk' => by simpa using hk (k + 1) (by omega))]
    rfl
theorem indexB_one (s : ByteArray) (c : UInt8) : Lib.indexB s (mkB [c]) = Lib.indexByte (L s) c := by
  unfold Lib.indexB
  have : (mkB [c]).data.toList = [c] := L_mk [c]
  rw [this]
  exact Lib.index_one _ _
theorem splitB_spl (c : UInt8) (n : Nat) : ∀ s : ByteArray, s.size ≤ n → (Lib.splitB (mkB [c]) 0 (Lib.countB s (mkB [c])) s).map L = spl c (L s) := by
  have h1 : (mkB [c]).size = 1 := by rw [size_mk]; rfl
  induction n with
  | zero =>
    intro s hs
    rcases Lib.indexB_cases s (mkB [c]) with hm | ⟨i, hi, hr⟩
    · rw [Lib.splitB_miss _ _ _ _ hm]
      have := Lib.indexByte_none (by rw [← indexB_one]; exact hm : Lib.indexByte (L s) c = -1)
      rw [spl_none c (L s) this]; rfl
    · omega
  | succ n ih =>
    intro s hs
    rcases Lib.indexB_cases s (mkB [c]) with hm | ⟨i, hi, hr⟩
    · rw [Lib.splitB_miss _ _ _ _ hm]
      have := Lib.indexByte_none (by rw [← indexB_one]; exact hm : Lib.indexByte (L s) c = -1)
      rw [spl_none c (L s) this]; rfl
    · rw [h1] at hr
      have hc := Lib.countB_hit s (mkB [c]) i (by omega) hi
      rw [h1] at hc
      rw [hc, Nat.add_comm 1, Lib.splitB_hit _ _ _ _ i hi, h1, List.map_cons, ih (s.extract (i + 1) s.size) (by rw [ByteArray.size_extract]; omega)]
      obtain ⟨a, b⟩ := Lib.indexByte_some (by rw [← indexB_one]; exact hi : Lib.indexByte (L s) c = i)
      rw [spl_first c i (L s) a b, L_extract, L_extract]
      congr 1
      congr 1
      rw [List.take_of_length_le (by rw [List.length_drop, L_len]; omega)]
theorem splitB_eq (c : UInt8) (s : ByteArray) : Lib.splitB (mkB [c]) 0 (Lib.countB s (mkB [c])) s = (spl c (L s)).map mkB := by
  rw [← splitB_spl c s.size s (Nat.le_refl _), List.map_map]
  have : (mkB ∘ L) = id := by funext x; exact mk_L x
  rw [this, List.map_id]
end Go.Proofs.YtmjmjfkjlblgaaaDoor.B

namespace Go.Proofs.YtmjmjfkjlblgaaaDoor.G
open Go.RowKit Go.Proofs.YtmjmjfkjlblgaaaDoorW.PrintWords Go.Proofs.YtmjmjfkjlblgaaaDoorW.PrintLast Go.Proofs.YtmjmjfkjlblgaaaDoor.B
set_option linter.unusedVariables false
set_option linter.unusedSimpArgs false
def tenB : ByteArray := (⟨#[48, 49, 50, 51, 52, 53, 54, 55, 56, 57]⟩ : ByteArray)
theorem ten_fin : ∀ i : Fin 10, ((L tenB).drop i.val).take 1 = [UInt8.ofNat (48 + i.val)] := by decide
theorem ten_at (i : Nat) (h : i < 10) (x : Int) (hx : x = i) (y : Int) (hy : y = (i + 1 : Nat)) : tenB.extract x.toNat y.toNat = mkB [UInt8.ofNat (48 + i)] := by
  apply L_inj
  have e1 : x.toNat = i := by omega
  have e2 : y.toNat = i + 1 := by omega
  rw [L_extract, L_mk, e1, e2, show i + 1 - i = 1 by omega]
  exact ten_fin ⟨i, h⟩
theorem dec_len (u : Nat) (h : u ≤ 9223372036854775807) : (Lib.decDigits u).length ≤ 21 := by
  have := Lib.itoa_length_le (u : Int) (by omega) (by omega)
  unfold Lib.itoa at this
  rw [if_neg (by omega)] at this
  simpa using this
theorem num_nat (n : Nat) : ∀ u : Nat, u ≤ n → u ≤ 4611686018427387904 → Ev (fun k => spec_l1Num.f k (u : Int)) (mkB (Lib.decDigits u)) := by
  induction n with
  | zero =>
    intro u hu _
    have : u = 0 := by omega
    subst this
    refine Ev.step (f := fun _ => some (mkB (Lib.decDigits 0))) (fun k => ?_) (Ev.now _)
    have hd : Lib.decDigits 0 = [UInt8.ofNat (48 + 0)] := Lib.decDigits_one (by omega)
    simp only [spec_l1Num.f]
    rw [hd, if_neg (by omega), if_pos (by omega), if_pos (by omega), w64 (by omega) (by omega), if_pos (by omega), if_pos (by omega)]
    exact congrArg some (ten_at 0 (by omega) _ (by omega) _ (by omega))
  | succ n ih =>
    intro u hu hb
    by_cases h : u < 10
    · refine Ev.step (f := fun _ => some (mkB (Lib.decDigits u))) (fun k => ?_) (Ev.now _)
      simp only [spec_l1Num.f]
      rw [Lib.decDigits_one h, if_neg (by omega), if_pos (by omega), if_pos (by omega), w64 (by omega) (by omega), if_pos (by omega), if_pos (by omega)]
      exact congrArg some (ten_at u h _ rfl _ (by omega))
    · have hdiv : Int.tdiv (u : Int) 10 = ((u / 10 : Nat) : Int) := rfl
      have hmod : Int.tmod (u : Int) 10 = ((u % 10 : Nat) : Int) := rfl
      have hm : u % 10 < 10 := Nat.mod_lt _ (by omega)
      have hq := ih (u / 10) (by omega) (by omega)
      have hl := dec_len (u / 10) (by omega)
      have hw1 : wrap64 (((u / 10 : Nat) : Int)) = ((u / 10 : Nat) : Int) := w64 (by omega) (by omega)
      have hw2 : wrap64 (((u % 10 : Nat) : Int) + 1) = ((u % 10 + 1 : Nat) : Int) := by rw [w64 (by omega) (by omega)]; rfl
      have ht := ten_at (u % 10) hm ((u % 10 : Nat) : Int) rfl ((u % 10 + 1 : Nat) : Int) rfl
      have hd : Lib.decDigits u = Lib.decDigits (u / 10) ++ [UInt8.ofNat (48 + u % 10)] := by rw [Lib.decDigits, dif_neg h]
      have a1 : (0 : Int) ≤ ((u % 10 : Nat) : Int) := by omega
      have a2 : ((u % 10 : Nat) : Int) ≤ ((u % 10 + 1 : Nat) : Int) := by omega
      have a3 : ((u % 10 + 1 : Nat) : Int) ≤ 10 := by omega
      refine Ev.step (f := fun k => (spec_l1Num.f k ((u / 10 : Nat) : Int)).bind fun t => if t.size + (tenB.extract ((u % 10 : Nat) : Int).toNat ((u % 10 + 1 : Nat) : Int).toNat).size ≤ 9223372036854775807 then some (t ++ tenB.extract ((u % 10 : Nat) : Int).toNat ((u % 10 + 1 : Nat) : Int).toNat) else none) (fun k => ?_) ?_
      · simp only [spec_l1Num.f]
        rw [if_neg (show ¬ (u : Int) < 0 by omega), if_neg (show ¬ (u : Int) < 10 by omega)]
        simp only [hdiv, hmod, hw1, hw2, if_pos a1, if_pos a2, if_pos a3]
        rfl
      · rw [ht]
        refine Ev.bind hq (ev_pos ?_ (ev_eq (Ev.now _) ?_))
        · rw [size_mk, size_mk, List.length_singleton]; omega
        · rw [hd, mk_append]
theorem num_ev (x : Int) (h0 : -4611686018427387904 ≤ x) (h1 : x ≤ 4611686018427387904) : Ev (fun k => spec_l1Num.f k x) (mkB (Lib.itoa x)) := by
  unfold Lib.itoa
  by_cases h : x < 0
  · rw [if_pos h]
    have hq := num_nat x.natAbs x.natAbs (Nat.le_refl _) (by omega)
    have hl := dec_len x.natAbs (by omega)
    have hw : wrap64 (-x) = ((x.natAbs : Nat) : Int) := by rw [w64 (by omega) (by omega)]; omega
    refine Ev.step (f := fun k => (spec_l1Num.f k ((x.natAbs : Nat) : Int)).bind fun t => if 1 + t.size ≤ 9223372036854775807 then some ((⟨#[45]⟩ : ByteArray) ++ t) else none) (fun k => ?_) ?_
    · simp only [spec_l1Num.f]; rw [if_pos h, hw]
    · refine Ev.bind hq (ev_pos (by rw [size_mk]; omega) (ev_eq (Ev.now _) ?_))
      rw [show (⟨#[45]⟩ : ByteArray) = mkB [45] from rfl, mk_append]; rfl
  · rw [if_neg h]
    have hq := num_nat x.toNat x.toNat (Nat.le_refl _) (by omega)
    rw [show ((x.toNat : Nat) : Int) = x by omega] at hq
    exact hq
end Go.Proofs.YtmjmjfkjlblgaaaDoor.G



namespace Go.Proofs.YtmjmjfkjlblgaaaDoor.G
open Go.RowKit Go.Proofs.YtmjmjfkjlblgaaaDoorW.PrintWords Go.Proofs.YtmjmjfkjlblgaaaDoorW.PrintLast Go.Proofs.YtmjmjfkjlblgaaaDoor.B
set_option linter.unusedVariables false
set_option linter.unusedSimpArgs false
theorem pad_same (k : Nat) : ∀ (w : Int) (t : ByteArray), impl_digits.l0 k w t = spec_l3Pad.l0 k w t := by
  induction k with
  | zero => intro w t; rfl
  | succ k ih => intro w t; simp only [impl_digits.l0, spec_l3Pad.l0, ih]
theorem pad_loop (w : Nat) (hw : w ≤ 10) (d : Nat) : ∀ t : ByteArray, w - t.size = d → t.size ≤ 1000 → ∃ u, Ev (fun k => spec_l3Pad.l0 k (w : Int) t) u ∧ u.size ≤ max w t.size := by
  induction d with
  | zero =>
    intro t h ht
    refine ⟨t, Ev.step (f := fun _ => some t) (fun k => ?_) (Ev.now _), by omega⟩
    simp only [spec_l3Pad.l0]; rw [if_neg (by omega)]
  | succ d ih =>
    intro t h ht
    have hs : ((⟨#[48]⟩ : ByteArray) ++ t).size = 1 + t.size := by rw [size_append]; rfl
    obtain ⟨u, hu, hz⟩ := ih ((⟨#[48]⟩ : ByteArray) ++ t) (by omega) (by omega)
    refine ⟨u, Ev.step (fun k => ?_) hu, by omega⟩
    simp only [spec_l3Pad.l0]; rw [if_pos (by omega), if_pos (by omega)]
theorem pad_ev (n : Int) (w : Nat) (h0 : 0 ≤ n) (h1 : n ≤ 1000000) (hw : w ≤ 10) : ∃ u, Ev (fun k => spec_l3Pad.f k n (w : Int)) u ∧ Ev (fun k => impl_digits.f k n (w : Int)) u ∧ u.size ≤ 30 := by
  have hl := Lib.itoa_length_le n (by omega) (by omega)
  have hz : (mkB (Lib.itoa n)).size ≤ 21 := by rw [size_mk]; exact hl
  obtain ⟨u, hu, hs⟩ := pad_loop w hw _ (mkB (Lib.itoa n)) rfl (by omega)
  refine ⟨u, ?_, ?_, by omega⟩
  · unfold spec_l3Pad.f
    exact Ev.bind (num_ev n (by omega) (by omega)) hu
  · have hi : strconv_Itoa.f n = some (mkB (Lib.itoa n)) := by
      unfold strconv_Itoa.f
      rw [if_pos ⟨by omega, by omega⟩]; rfl
    unfold impl_digits.f
    exact ev_bind0 hi (Ev.congr (fun k => pad_same k _ _) hu)
theorem sz1 (b : UInt8) (t : ByteArray) : ((⟨#[b]⟩ : ByteArray) ++ t).size = 1 + t.size := by rw [size_append]; rfl
theorem sz2 (b : UInt8) (t : ByteArray) : (t ++ (⟨#[b]⟩ : ByteArray)).size = t.size + 1 := by rw [size_append]; rfl
theorem assoc3 (a b c : ByteArray) : (a ++ b) ++ c = a ++ (b ++ c) := L_inj (by rw [L_append, L_append, L_append, L_append, List.append_assoc])
theorem date_text (y m d : Int) (c : Bool) (hy : 1 ≤ y ∧ y ≤ 2999) (hm : 0 ≤ m ∧ m ≤ 12) (hd : 0 ≤ d ∧ d ≤ 31) : ∃ v, Ev (fun k => spec_l3Text.f k y m d c) v ∧ Ev (fun k => impl_formatDate.f k y m d c) v := by
  obtain ⟨Y, sY, iY, zY⟩ := pad_ev y 4 (by omega) (by omega) (by omega)
  obtain ⟨M, sM, iM, zM⟩ := pad_ev m 2 (by omega) (by omega) (by omega)
  obtain ⟨D, sD, iD, zD⟩ := pad_ev d 2 (by omega) (by omega) (by omega)
  have e2 := sz2 45 Y
  have e1 := sz1 45 M
  have e1' := sz1 45 D
  have ny : ¬ y = 0 := by omega
  -- the program: behind the year
  have impl_rest : ∀ x : ByteArray, x.size ≤ 60 → Ev (fun k => impl_formatDate.j0 k x y m d c) (if m > 0 then (if d > 0 then (x ++ ((⟨#[45]⟩ : ByteArray) ++ M)) ++ ((⟨#[45]⟩ : ByteArray) ++ D) else x ++ ((⟨#[45]⟩ : ByteArray) ++ M)) else (if d > 0 then x ++ ((⟨#[45]⟩ : ByteArray) ++ D) else x)) := by
    intro x hx
    have xm : (x ++ ((⟨#[45]⟩ : ByteArray) ++ M)).size = x.size + (1 + M.size) := by rw [size_append, e1]
    by_cases cm : m > 0
    · rw [if_pos cm]
      by_cases cd : d > 0
      · rw [if_pos cd]
        refine Ev.step (f := fun k => (impl_digits.f k m 2).bind fun t135 => (if 1 + t135.size ≤ 9223372036854775807 then (if x.size + ((⟨#[45]⟩ : ByteArray) ++ t135).size ≤ 9223372036854775807 then ((impl_digits.f k d 2).bind fun t136 => (if 1 + t136.size ≤ 9223372036854775807 then (if (x ++ ((⟨#[45]⟩ : ByteArray) ++ t135)).size + ((⟨#[45]⟩ : ByteArray) ++ t136).size ≤ 9223372036854775807 then (some ((x ++ ((⟨#[45]⟩ : ByteArray) ++ t135)) ++ ((⟨#[45]⟩ : ByteArray) ++ t136))) else (none)) else (none))) else (none)) else (none))) (fun k => by simp only [impl_formatDate.j0, if_pos cm, if_pos cd]) ?_
        exact Ev.bind iM (ev_pos (by omega) (ev_pos (by omega) (Ev.bind iD (ev_pos (by omega) (ev_pos (by omega) (Ev.now _))))))
      · rw [if_neg cd]
        refine Ev.step (f := fun k => (impl_digits.f k m 2).bind fun t135 => (if 1 + t135.size ≤ 9223372036854775807 then (if x.size + ((⟨#[45]⟩ : ByteArray) ++ t135).size ≤ 9223372036854775807 then (some (x ++ ((⟨#[45]⟩ : ByteArray) ++ t135))) else (none)) else (none))) (fun k => by simp only [impl_formatDate.j0, if_pos cm, if_neg cd]) ?_
        exact Ev.bind iM (ev_pos (by omega) (ev_pos (by omega) (Ev.now _)))
    · rw [if_neg cm]
      by_cases cd : d > 0
      · rw [if_pos cd]
        refine Ev.step (f := fun k => (impl_digits.f k d 2).bind fun t137 => (if 1 + t137.size ≤ 9223372036854775807 then (if x.size + ((⟨#[45]⟩ : ByteArray) ++ t137).size ≤ 9223372036854775807 then (some (x ++ ((⟨#[45]⟩ : ByteArray) ++ t137))) else (none)) else (none))) (fun k => by simp only [impl_formatDate.j0, if_neg cm, if_pos cd]) ?_
        exact Ev.bind iD (ev_pos (by omega) (ev_pos (by omega) (Ev.now _)))
      · rw [if_neg cd]
        exact Ev.step (f := fun _ => some x) (fun k => by simp only [impl_formatDate.j0, if_neg cm, if_neg cd]) (Ev.now _)
  -- the reference: behind the month
  have spec_rest : ∀ x : ByteArray, x.size ≤ 100 → Ev (fun k => spec_l3Text.j0 k x y m d c) (if d > 0 then (if c = true then (⟨#[99]⟩ : ByteArray) ++ ((x ++ (⟨#[45]⟩ : ByteArray)) ++ D) else (x ++ (⟨#[45]⟩ : ByteArray)) ++ D) else (if c = true then (⟨#[99]⟩ : ByteArray) ++ x else x)) := by
    intro x hx
    have x2 := sz2 45 x
    have x3 : ((x ++ (⟨#[45]⟩ : ByteArray)) ++ D).size = x.size + 1 + D.size := by rw [size_append, x2]
    by_cases cd : d > 0
    · rw [if_pos cd]
      by_cases cc : c = true
      · rw [if_pos cc]
        refine Ev.step (f := fun k => if x.size + 1 ≤ 9223372036854775807 then ((spec_l3Pad.f k d 2).bind fun t120 => (if (x ++ (⟨#[45]⟩ : ByteArray)).size + t120.size ≤ 9223372036854775807 then (if 1 + ((x ++ (⟨#[45]⟩ : ByteArray)) ++ t120).size ≤ 9223372036854775807 then (some ((⟨#[99]⟩ : ByteArray) ++ ((x ++ (⟨#[45]⟩ : ByteArray)) ++ t120))) else (none)) else (none))) else (none)) (fun k => by simp only [spec_l3Text.j0, if_pos cd, if_pos cc]) ?_
        exact ev_pos (by omega) (Ev.bind sD (ev_pos (by omega) (ev_pos (by omega) (Ev.now _))))
      · rw [if_neg cc]
        refine Ev.step (f := fun k => if x.size + 1 ≤ 9223372036854775807 then ((spec_l3Pad.f k d 2).bind fun t120 => (if (x ++ (⟨#[45]⟩ : ByteArray)).size + t120.size ≤ 9223372036854775807 then (some ((x ++ (⟨#[45]⟩ : ByteArray)) ++ t120)) else (none))) else (none)) (fun k => by simp only [spec_l3Text.j0, if_pos cd, if_neg cc]) ?_
        exact ev_pos (by omega) (Ev.bind sD (ev_pos (by omega) (Ev.now _)))
    · rw [if_neg cd]
      by_cases cc : c = true
      · rw [if_pos cc]
        refine Ev.step (f := fun k => if 1 + x.size ≤ 9223372036854775807 then (some ((⟨#[99]⟩ : ByteArray) ++ x)) else (none)) (fun k => by simp only [spec_l3Text.j0, if_neg cd, if_pos cc]) ?_
        exact ev_pos (by omega) (Ev.now _)
      · rw [if_neg cc]
        exact Ev.step (f := fun _ => some x) (fun k => by simp only [spec_l3Text.j0, if_neg cd, if_neg cc]) (Ev.now _)
  have ym : ((Y ++ (⟨#[45]⟩ : ByteArray)) ++ M).size = Y.size + 1 + M.size := by rw [size_append, e2]
  have hspec : Ev (fun k => spec_l3Text.f k y m d c) (if m > 0 then (if d > 0 then (if c = true then (⟨#[99]⟩ : ByteArray) ++ ((((Y ++ (⟨#[45]⟩ : ByteArray)) ++ M) ++ (⟨#[45]⟩ : ByteArray)) ++ D) else (((Y ++ (⟨#[45]⟩ : ByteArray)) ++ M) ++ (⟨#[45]⟩ : ByteArray)) ++ D) else (if c = true then (⟨#[99]⟩ : ByteArray) ++ ((Y ++ (⟨#[45]⟩ : ByteArray)) ++ M) else (Y ++ (⟨#[45]⟩ : ByteArray)) ++ M))
      else (if d > 0 then (if c = true then (⟨#[99]⟩ : ByteArray) ++ ((Y ++ (⟨#[45]⟩ : ByteArray)) ++ D) else (Y ++ (⟨#[45]⟩ : ByteArray)) ++ D) else (if c = true then (⟨#[99]⟩ : ByteArray) ++ Y else Y))) := by
    unfold spec_l3Text.f
    refine ev_neg ny (Ev.bind sY ?_)
    by_cases cm : m > 0
    · rw [if_pos cm]
      exact ev_pos cm (ev_pos (by omega) (Ev.bind sM (ev_pos (by omega) (spec_rest _ (by omega)))))
    · rw [if_neg cm]
      exact ev_neg cm (spec_rest _ (by omega))
  have himpl : Ev (fun k => impl_formatDate.f k y m d c) (if c = true then (if m > 0 then (if d > 0 then (((⟨#[99]⟩ : ByteArray) ++ Y) ++ ((⟨#[45]⟩ : ByteArray) ++ M)) ++ ((⟨#[45]⟩ : ByteArray) ++ D) else ((⟨#[99]⟩ : ByteArray) ++ Y) ++ ((⟨#[45]⟩ : ByteArray) ++ M)) else (if d > 0 then ((⟨#[99]⟩ : ByteArray) ++ Y) ++ ((⟨#[45]⟩ : ByteArray) ++ D) else (⟨#[99]⟩ : ByteArray) ++ Y))
      else (if m > 0 then (if d > 0 then (Y ++ ((⟨#[45]⟩ : ByteArray) ++ M)) ++ ((⟨#[45]⟩ : ByteArray) ++ D) else Y ++ ((⟨#[45]⟩ : ByteArray) ++ M)) else (if d > 0 then Y ++ ((⟨#[45]⟩ : ByteArray) ++ D) else Y))) := by
    unfold impl_formatDate.f
    refine ev_neg ny (Ev.bind iY ?_)
    by_cases cc : c = true
    · rw [if_pos cc]
      have := sz1 99 Y
      exact ev_pos cc (ev_pos (by omega) (impl_rest _ (by omega)))
    · rw [if_neg cc]
      exact ev_neg cc (impl_rest _ (by omega))
  refine ⟨_, hspec, ev_eq himpl ?_⟩
  · by_cases cm : m > 0 <;> by_cases cd : d > 0 <;> cases c <;> simp [cm, cd] <;> simp only [assoc3]
end Go.Proofs.YtmjmjfkjlblgaaaDoor.G

namespace Go.Proofs.YtmjmjfkjlblgaaaDoor.G
open Go.RowKit Go.Proofs.YtmjmjfkjlblgaaaDoorW.PrintWords Go.Proofs.YtmjmjfkjlblgaaaDoorW.PrintLast Go.Proofs.YtmjmjfkjlblgaaaDoorW.PrintMore
open Go.Proofs.YtmjmjfkjlblgaaaDoor.Gl Go.Proofs.YtmjmjfkjlblgaaaDoor.Ext
attribute [local go_sem] max2_int min2_int max_two min_two max_three min_three max_four min_four   -- for this text's walks alone
set_option linter.unusedVariables false
set_option linter.unusedSimpArgs false

/-! ### spec_l1Read: function 39 -/
mutual
def spec_l1Read.j0 : Nat → ByteArray → ByteArray → Bool → Option (Int × Bool)
 | 0, _, _, _ => none
 | k + 1, x0, x4, x15 => if x15 = true then (if 1 ≤ (x4.size : Int) then (spec_l1Read.j1 k x0 (x4.extract 1 x4.size)) else (none)) else (spec_l1Read.j1 k x0 x4)
def spec_l1Read.j1 : Nat → ByteArray → ByteArray → Option (Int × Bool)
 | 0, _, _ => none
 | k + 1, x0, x4 => (spec_l1In.f (x4.size : Int) 1 6).bind fun t149 => (if t149 = true then (spec_l1Read.l0 k x0 x4 0 0) else (some (0, false)))
def spec_l1Read.l0 : Nat → ByteArray → ByteArray → Int → Int → Option (Int × Bool)
 | 0, _, _, _, _ => none
 | k + 1, x0, x4, x5, x6 => if x6 < (x4.size : Int) then (if 0 ≤ x6 then (if (bt x4 x6) < 48 then (some (0, false)) else (if (bt x4 x6) > 57 then (some (0, false)) else (spec_l1Read.l0 k x0 x4 (wrap64 ((wrap64 (10 * x5)) + (((bt x4 x6) - 48) % 256))) (wrap64 (x6 + 1))))) else (none)) else (if (x4.size : Int) < (x0.size : Int) then ((spec_l1Num.f k (wrap64 (-x5))).bind fun t150 => (if t150.toList = x0.toList then (some (wrap64 (-x5), true)) else (some (0, false)))) else ((spec_l1Num.f k x5).bind fun t151 => (if t151.toList = x0.toList then (some (x5, true)) else (some (0, false)))))
end
def spec_l1Read.f (k : Nat) (a0 : ByteArray) : Option (Int × Bool) := if (a0.size : Int) > 1 then (if 0 < (a0.size : Int) then (spec_l1Read.j0 k a0 a0 ((bt a0 0) == 45)) else (none)) else (spec_l1Read.j0 k a0 a0 false)
theorem spec_l1Read.mono_l : ∀ k, (∀ y0 y1 y2, LeO (spec_l1Read.j0 k y0 y1 y2) (spec_l1Read.j0 (k + 1) y0 y1 y2)) ∧ (∀ y0 y1, LeO (spec_l1Read.j1 k y0 y1) (spec_l1Read.j1 (k + 1) y0 y1)) ∧ (∀ y0 y1 y2 y3, LeO (spec_l1Read.l0 k y0 y1 y2 y3) (spec_l1Read.l0 (k + 1) y0 y1 y2 y3))
 | 0 => ⟨fun _ _ _ r h => by simp [spec_l1Read.j0] at h, fun _ _ r h => by simp [spec_l1Read.j1] at h, fun _ _ _ _ r h => by simp [spec_l1Read.l0] at h⟩
 | k + 1 => by
  obtain ⟨ih0, ih1, ih2⟩ := spec_l1Read.mono_l k
  refine ⟨?_, ?_, ?_⟩
  ·
   intro y0 y1 y2
   unfold spec_l1Read.j0
   repeat' first
   | (with_reducible exact ih0 _ _ _)
   | (with_reducible exact ih1 _ _)
   | (with_reducible exact ih2 _ _ _ _)
   | (with_reducible exact spec_l1Num.mono _ _)
   | (with_reducible exact LeO.refl _)
   | (with_reducible exact LeO.none _)
   | (with_reducible refine LeO.ite ?_ ?_)
   | (with_reducible refine LeO.bind ?_ (fun _ => ?_))
   | exact ih0 _ _ _
   | exact ih1 _ _
   | exact ih2 _ _ _ _
   | exact spec_l1Num.mono _ _
   | exact LeO.none _
   | refine LeO.ite ?_ ?_
   | refine LeO.bind ?_ (fun _ => ?_)
  ·
   intro y0 y1
   unfold spec_l1Read.j1
   repeat' first
   | (with_reducible exact ih0 _ _ _)
   | (with_reducible exact ih1 _ _)
   | (with_reducible exact ih2 _ _ _ _)
   | (with_reducible exact spec_l1Num.mono _ _)
   | (with_reducible exact LeO.refl _)
   | (with_reducible exact LeO.none _)
   | (with_reducible refine LeO.ite ?_ ?_)
   | (with_reducible refine LeO.bind ?_ (fun _ => ?_))
   | exact ih0 _ _ _
   | exact ih1 _ _
   | exact ih2 _ _ _ _
   | exact spec_l1Num.mono _ _
   | exact LeO.none _
   | refine LeO.ite ?_ ?_
   | refine LeO.bind ?_ (fun _ => ?_)
  ·
   intro y0 y1 y2 y3
   unfold spec_l1Read.l0
   repeat' first
   | (with_reducible exact ih0 _ _ _)
   | (with_reducible exact ih1 _ _)
   | (with_reducible exact ih2 _ _ _ _)
   | (with_reducible exact spec_l1Num.mono _ _)
   | (with_reducible exact LeO.refl _)
   | (with_reducible exact LeO.none _)
   | (with_reducible refine LeO.ite ?_ ?_)
   | (with_reducible refine LeO.bind ?_ (fun _ => ?_))
   | exact ih0 _ _ _
   | exact ih1 _ _
   | exact ih2 _ _ _ _
   | exact spec_l1Num.mono _ _
   | exact LeO.none _
   | refine LeO.ite ?_ ?_
   | refine LeO.bind ?_ (fun _ => ?_)
theorem spec_l1Read.mono : ∀ a0 k, LeO (spec_l1Read.f k a0) (spec_l1Read.f (k + 1) a0) := by
 intro a0 k
 obtain ⟨ih0, ih1, ih2⟩ := spec_l1Read.mono_l k
 unfold spec_l1Read.f
 repeat' first
   | (with_reducible exact ih0 _ _ _)
   | (with_reducible exact ih1 _ _)
   | (with_reducible exact ih2 _ _ _ _)
   | (with_reducible exact spec_l1Num.mono _ _)
   | (with_reducible exact LeO.refl _)
   | (with_reducible exact LeO.none _)
   | (with_reducible refine LeO.ite ?_ ?_)
   | (with_reducible refine LeO.bind ?_ (fun _ => ?_))
   | exact ih0 _ _ _
   | exact ih1 _ _
   | exact ih2 _ _ _ _
   | exact spec_l1Num.mono _ _
   | exact LeO.none _
   | refine LeO.ite ?_ ?_
   | refine LeO.bind ?_ (fun _ => ?_)
set_option maxRecDepth 100000 in
theorem spec_l1Read.L0 {P : Prop} (h : P := by
  go_wp2_with (first | ((with_reducible refine gate_callee (f := 35) rfl ?_); refine goesL_ (some 54) rfl rfl Tryd.func35 (by kernel_rfl) rfl #[.int .i64 (wrap64 (-x5_3))] rfl au100 ?_; (with_reducible refine (spec_l1Num.calls k3 (wrap64 (-x5_3)) t150 _ A19.out).mono ?_); rintro e w21 ⟨rfl, hb⟩; refine ⟨_, rfl, ?_⟩; replace HB := Aside0.mk (below_step au101 hb); (try clear hb)))
  go_ret2
  exact ax2) : P := h
set_option maxHeartbeats 8000000 in
set_option maxRecDepth 100000 in
theorem spec_l1Read.calls (k : Nat) (a0 : ByteArray) (r1 : Int) (r2 : Bool) (w : World) (h : spec_l1Read.f k a0 = some (r1, r2)) :
  Calls Tryd.prog 39 #[.string a0] w fun e w' => e = .returned (.tuple #[.int .i64 r1, .bool r2]) ∧ Below w.heap.size w w' := by
 have HB := Aside0.mk (Below.refl w.heap.size w)
 have H : (if (a0.size : Int) > 1 then (if 0 < (a0.size : Int) then (spec_l1Read.j0 k a0 a0 ((bt a0 0) == 45)) else (none)) else (spec_l1Read.j0 k a0 a0 false)) = some (r1, r2) := h
 clear h
 have HC2 := Aside0.mk H
 clear H
 go_enter Tryd.func39, Tryd.ntmps39
 go_upto_region 2 with (fail)
 go_cut [15] (fun v15 wc => ∃ (kq : Nat) (x15_1 : Bool), v15 = .bool x15_1 ∧ Aside0 (spec_l1Read.j0 kq a0 a0 x15_1 = some (r1, r2)) ∧ Aside0 (kq ≤ k) ∧ Aside0 (Below w.heap.size w wc))
 case first =>
  have H := HC2.out
  clear HC2
  by_cases c3 : (a0.size : Int) > 1
  ·
   rw [if_pos c3] at H
   have c3b0 : decide (1 < (a0.size : Int)) = true := decide_eq_true c3
   have c3b1 : decide (1 < a0.size) = true := decide_eq_true (by omega)
   clear c3
   (first | rw [c3b0] | (simp only [i64_w, i32_w]; rw [c3b0]) | skip)
   by_cases c4 : 0 < (a0.size : Int)
   ·
    rw [if_pos c4] at H
    have c4b0 : decide (0 < (a0.size : Int)) = true := decide_eq_true c4
    have c4b1 : decide (0 < a0.size) = true := decide_eq_true (by omega)
    clear c4
    have H' := Aside0.mk H
    clear H
    have p5 : 0 ≤ (0 : Int) := (by omega)
    have q5 : 0 < a0.size := (by have : (0 : Int) < (a0.size : Int) := of_decide_eq_true au152; omega)
    have hx5 : ∀ h : 0 < a0.size, ((a0[0]'h).toNat : Int) = bt a0 0 := bt_at a0 0
    clear p5
    have qi5 : (0 < (a0.size : Int)) = True := eq_true (of_decide_eq_true au152)
    replace q5 := eq_true q5
    go_wp2
    go_meet
    case rel => exact ⟨_, (((bt a0 0) == 45)), au153, H', ⟨by first | omega | exact Nat.le_refl _⟩, ⟨by repeat (first | (with_reducible first | exact HB.out | apply below_alloc | apply pw_below_drewN | apply below_drew1) | exact HB.out)⟩⟩
   ·
    rw [if_neg c4] at H
    exact absurd H (by simp)
  ·
   rw [if_neg c3] at H
   have c3b0 : decide (1 < (a0.size : Int)) = false := decide_eq_false c3
   have c3b1 : decide (1 < a0.size) = false := decide_eq_false (by omega)
   clear c3
   (first | rw [c3b0] | (simp only [i64_w, i32_w]; rw [c3b0]) | skip)
   have H' := Aside0.mk H
   clear H
   go_wp2
   go_meet
   case rel => exact ⟨_, (false), au153, H', ⟨by first | omega | exact Nat.le_refl _⟩, ⟨by repeat (first | (with_reducible first | exact HB.out | apply below_alloc | apply pw_below_drewN | apply below_drew1) | exact HB.out)⟩⟩
 case rest =>
  clear HC2
  try clear p2
  try clear c3
  try clear c3b0
  try clear c3b1
  try clear c4
  try clear c4b0
  try clear c4b1
  try clear p5
  try clear q5
  try clear hx5
  try clear qi5
  try clear p5
  try clear q5
  obtain ⟨kq, x15_1, rfl, HA, HJ1, HB⟩ := hcut
  cases kq with
  | zero => exact absurd HA.out (by simp [spec_l1Read.j0])
  | succ kj1 =>
   have H := HA.out
   clear HA
   simp only [spec_l1Read.j0] at H
   have HC6 := Aside0.mk H
   clear H
   go_upto_if 15 with (fail)
   go_cut [4] (fun v4 wc => ∃ (kq : Nat) (x4_5 : ByteArray), v4 = .string x4_5 ∧ Aside0 (spec_l1Read.j1 kq a0 x4_5 = some (r1, r2)) ∧ Aside0 (kq ≤ kj1) ∧ Aside0 (Below w.heap.size w wc))
   case first =>
    have H := HC6.out
    clear HC6
    by_cases c7 : x15_1 = true
    ·
     subst c7
     replace H := (if_pos rfl).symm.trans H
     by_cases c8 : 1 ≤ (a0.size : Int)
     ·
      rw [if_pos c8] at H
      have c8b0 := eq_true c8
      have c8b1 : decide (1 ≤ (a0.size : Int)) = true := decide_eq_true c8
      clear c8
      have H' := Aside0.mk H
      clear H
      go_wp2
      go_meet
      case rel => exact ⟨_, (a0.extract 1 a0.size), au153, H', ⟨by have := HJ1.out; first | omega | exact Nat.le_refl _⟩, ⟨by repeat (first | (with_reducible first | exact HB.out | apply below_alloc | apply pw_below_drewN | apply below_drew1) | exact HB.out)⟩⟩
     ·
      rw [if_neg c8] at H
      exact absurd H (by simp)
    ·
     replace c7 := Bool.eq_false_iff.mpr c7
     subst c7
     replace H := (if_neg (show ¬ (false = true) by decide)).symm.trans H
     have H' := Aside0.mk H
     clear H
     go_wp2
     go_meet
     case rel => exact ⟨_, (a0), au153, H', ⟨by have := HJ1.out; first | omega | exact Nat.le_refl _⟩, ⟨by repeat (first | (with_reducible first | exact HB.out | apply below_alloc | apply pw_below_drewN | apply below_drew1) | exact HB.out)⟩⟩
   case rest =>
    clear HC6
    try clear p2
    try clear c3
    try clear c3b0
    try clear c3b1
    try clear c4
    try clear c4b0
    try clear c4b1
    try clear p5
    try clear q5
    try clear hx5
    try clear qi5
    try clear c7
    try clear c8
    try clear c8b0
    try clear c8b1
    try clear p2
    try clear p5
    try clear q5
    obtain ⟨kq, x4_5, rfl, HA, HJ5, HB⟩ := hcut
    cases kq with
    | zero => exact absurd HA.out (by simp [spec_l1Read.j1])
    | succ kj5 =>
     have H := HA.out
     clear HA
     simp only [spec_l1Read.j1] at H
     replace H := Option.bind_eq_some_iff.mp H
     obtain ⟨t149, A90, H⟩ := H
     try dsimp only at H
     have A9 := Aside0.mk A90
     clear A90
     by_cases c10 : t149 = true
     ·
      subst c10
      replace H := (if_pos rfl).symm.trans H
      have H' := Aside0.mk H
      clear H
      go_wp2_with (first | ((with_reducible refine gate_callee (f := 34) rfl ?_); refine goesL_ (some 20) rfl rfl Tryd.func34 (by kernel_rfl) rfl #[.int .i64 (x4_5.size : Int), .int .i64 1, .int .i64 6] rfl au100 ?_; (with_reducible refine (spec_l1In.calls (x4_5.size : Int) 1 6 _ _ A9.out).mono ?_); rintro e w' ⟨rfl, ⟨nd, rfl⟩⟩; refine ⟨_, rfl, ?_⟩))
      go_loopg [5, 6] kj5 (fun kq v5 v6 w' => ∃ (x5_3 : Int) (x6_3 : Int), v5 = .int .i64 x5_3 ∧ v6 = .int .i64 x6_3 ∧ Aside0 (spec_l1Read.l0 kq a0 x4_5 x5_3 x6_3 = some (r1, r2)) ∧ Aside0 (kq ≤ kj5) ∧ Aside0 (Below w.heap.size w w'))
      case atStart => exact ⟨(0), (0), au153, au153, H', ⟨Nat.le_refl _⟩, ⟨by repeat (first | (with_reducible first | exact HB.out | apply below_alloc | apply pw_below_drewN | apply below_drew1) | exact HB.out)⟩⟩
      case round =>
       clear H'
       try clear c1
       try clear p2
       try clear c3
       try clear c3b0
       try clear c3b1
       try clear c4
       try clear c4b0
       try clear c4b1
       try clear p5
       try clear q5
       try clear hx5
       try clear qi5
       try clear c7
       try clear c8
       try clear c8b0
       try clear c8b1
       try clear c10
       try clear p2
       try clear p5
       try clear q5
       obtain ⟨x5_3, x6_3, rfl, rfl, HA, HK3, HB⟩ := hrel
       cases gk with
       | zero => exact absurd HA.out (by simp [spec_l1Read.l0])
       | succ k3 =>
        have H := HA.out
        clear HA
        simp only [spec_l1Read.l0] at H
        by_cases c11 : x6_3 < (x4_5.size : Int)
        ·
         rw [if_pos c11] at H
         have c11b0 : decide (x6_3 < (x4_5.size : Int)) = true := decide_eq_true c11
         clear c11
         by_cases c12 : 0 ≤ x6_3
         ·
          rw [if_pos c12] at H
          have c12b0 : decide (0 ≤ x6_3) = true := decide_eq_true c12
          clear c12
          by_cases c14 : (bt x4_5 x6_3) < 48
          ·
           rw [if_pos c14] at H
           have c14b0 : decide ((bt x4_5 x6_3) < 48) = true := decide_eq_true c14
           clear c14
           simp only [Option.some.injEq, Prod.mk.injEq] at H
           obtain ⟨rfl, rfl⟩ := H
           have p13 : 0 ≤ (x6_3 : Int) := of_decide_eq_true au152
           have q13 : x6_3 < (x4_5.size : Int) := of_decide_eq_true au152
           have hx13 := bt_at x4_5 x6_3
           replace p13 := eq_true p13
           replace q13 := eq_true q13
           exact spec_l1Read.L0
          ·
           rw [if_neg c14] at H
           have c14b0 : decide ((bt x4_5 x6_3) < 48) = false := decide_eq_false c14
           clear c14
           by_cases c16 : (bt x4_5 x6_3) > 57
           ·
            rw [if_pos c16] at H
            have c16b0 : decide (57 < (bt x4_5 x6_3)) = true := decide_eq_true c16
            clear c16
            simp only [Option.some.injEq, Prod.mk.injEq] at H
            obtain ⟨rfl, rfl⟩ := H
            have p13 : 0 ≤ (x6_3 : Int) := of_decide_eq_true au152
            have q13 : x6_3 < (x4_5.size : Int) := of_decide_eq_true au152
            have hx13 := bt_at x4_5 x6_3
            replace p13 := eq_true p13
            replace q13 := eq_true q13
            have p15 : 0 ≤ (x6_3 : Int) := of_decide_eq_true au152
            have q15 : x6_3 < (x4_5.size : Int) := of_decide_eq_true au152
            have hx15 := bt_at x4_5 x6_3
            replace p15 := eq_true p15
            replace q15 := eq_true q15
            exact spec_l1Read.L0
           ·
            rw [if_neg c16] at H
            have c16b0 : decide (57 < (bt x4_5 x6_3)) = false := decide_eq_false c16
            clear c16
            have H' := Aside0.mk H
            clear H
            have p13 : 0 ≤ (x6_3 : Int) := of_decide_eq_true au152
            have q13 : x6_3 < (x4_5.size : Int) := of_decide_eq_true au152
            have hx13 := bt_at x4_5 x6_3
            replace p13 := eq_true p13
            replace q13 := eq_true q13
            have p15 : 0 ≤ (x6_3 : Int) := of_decide_eq_true au152
            have q15 : x6_3 < (x4_5.size : Int) := of_decide_eq_true au152
            have hx15 := bt_at x4_5 x6_3
            replace p15 := eq_true p15
            replace q15 := eq_true q15
            have p17 : 0 ≤ (x6_3 : Int) := of_decide_eq_true au152
            have q17 : x6_3 < (x4_5.size : Int) := of_decide_eq_true au152
            have hx17 := bt_at x4_5 x6_3
            replace p17 := eq_true p17
            replace q17 := eq_true q17
            go_wp2
            go_roundg k3
            case measure => have := HJ1.out; have := HJ5.out; have := HK3.out; omega
            case rel => exact ⟨(wrap64 ((wrap64 (10 * x5_3)) + (((bt x4_5 x6_3) - 48) % 256))), (wrap64 (x6_3 + 1)), au153, au153, H', ⟨by have := HJ1.out; have := HJ5.out; have := HK3.out; omega⟩, ⟨by repeat (first | (with_reducible first | exact HB.out | apply below_alloc | apply pw_below_drewN | apply below_drew1) | exact HB.out)⟩⟩
         ·
          rw [if_neg c12] at H
          exact absurd H (by simp)
        ·
         rw [if_neg c11] at H
         have c11b0 : decide (x6_3 < (x4_5.size : Int)) = false := decide_eq_false c11
         clear c11
         by_cases c18 : (x4_5.size : Int) < (a0.size : Int)
         ·
          rw [if_pos c18] at H
          have c18b0 : decide ((x4_5.size : Int) < (a0.size : Int)) = true := decide_eq_true c18
          have c18b1 : decide (x4_5.size < a0.size) = true := decide_eq_true (Int.ofNat_lt.mp c18)
          clear c18
          replace H := Option.bind_eq_some_iff.mp H
          obtain ⟨t150, A190, H⟩ := H
          try dsimp only at H
          have A19 := Aside0.mk A190
          clear A190
          by_cases c20 : t150.toList = a0.toList
          ·
           rw [if_pos c20] at H
           have c20b0 : (t150.toList == a0.toList) = true := beq_iff_eq.mpr c20
           have c20b1 : (t150.toList != a0.toList) = false := bne_eq_false_iff_eq.mpr c20
           clear c20
           simp only [Option.some.injEq, Prod.mk.injEq] at H
           obtain ⟨rfl, rfl⟩ := H
           exact spec_l1Read.L0
          ·
           rw [if_neg c20] at H
           have c20b0 : (t150.toList == a0.toList) = false := beq_eq_false_iff_ne.mpr c20
           have c20b1 : (t150.toList != a0.toList) = true := bne_iff_ne.mpr c20
           simp only [Option.some.injEq, Prod.mk.injEq] at H
           obtain ⟨rfl, rfl⟩ := H
           exact spec_l1Read.L0
         ·
          rw [if_neg c18] at H
          have c18b0 : decide ((x4_5.size : Int) < (a0.size : Int)) = false := decide_eq_false c18
          have c18b1 : decide (x4_5.size < a0.size) = false := decide_eq_false (fun h => c18 (Int.ofNat_lt.mpr h))
          clear c18
          replace H := Option.bind_eq_some_iff.mp H
          obtain ⟨t151, A230, H⟩ := H
          try dsimp only at H
          have A23 := Aside0.mk A230
          clear A230
          by_cases c24 : t151.toList = a0.toList
          ·
           rw [if_pos c24] at H
           have c24b0 : (t151.toList == a0.toList) = true := beq_iff_eq.mpr c24
           have c24b1 : (t151.toList != a0.toList) = false := bne_eq_false_iff_eq.mpr c24
           clear c24
           simp only [Option.some.injEq, Prod.mk.injEq] at H
           obtain ⟨rfl, rfl⟩ := H
           go_wp2_with (first | ((with_reducible refine gate_callee (f := 35) rfl ?_); refine goesL_ (some 54) rfl rfl Tryd.func35 (by kernel_rfl) rfl #[.int .i64 x5_3] rfl au100 ?_; (with_reducible refine (spec_l1Num.calls k3 x5_3 t151 _ A23.out).mono ?_); rintro e w25 ⟨rfl, hb⟩; refine ⟨_, rfl, ?_⟩; replace HB := Aside0.mk (below_step au101 hb); (try clear hb)))
           go_ret2
           exact ax2
          ·
           rw [if_neg c24] at H
           have c24b0 : (t151.toList == a0.toList) = false := beq_eq_false_iff_ne.mpr c24
           have c24b1 : (t151.toList != a0.toList) = true := bne_iff_ne.mpr c24
           simp only [Option.some.injEq, Prod.mk.injEq] at H
           obtain ⟨rfl, rfl⟩ := H
           go_wp2_with (first | ((with_reducible refine gate_callee (f := 35) rfl ?_); refine goesL_ (some 54) rfl rfl Tryd.func35 (by kernel_rfl) rfl #[.int .i64 x5_3] rfl au100 ?_; (with_reducible refine (spec_l1Num.calls k3 x5_3 t151 _ A23.out).mono ?_); rintro e w26 ⟨rfl, hb⟩; refine ⟨_, rfl, ?_⟩; replace HB := Aside0.mk (below_step au101 hb); (try clear hb)))
           go_ret2
           exact ax2
     ·
      replace c10 := Bool.eq_false_iff.mpr c10
      subst c10
      replace H := (if_neg (show ¬ (false = true) by decide)).symm.trans H
      simp only [Option.some.injEq, Prod.mk.injEq] at H
      obtain ⟨rfl, rfl⟩ := H
      go_wp2_with (first | ((with_reducible refine gate_callee (f := 34) rfl ?_); refine goesL_ (some 20) rfl rfl Tryd.func34 (by kernel_rfl) rfl #[.int .i64 (x4_5.size : Int), .int .i64 1, .int .i64 6] rfl au100 ?_; (with_reducible refine (spec_l1In.calls (x4_5.size : Int) 1 6 _ _ A9.out).mono ?_); rintro e w' ⟨rfl, ⟨nd, rfl⟩⟩; refine ⟨_, rfl, ?_⟩))
      go_ret2
      exact ax2


/-! ### impl_ParseInt: function 11 -/
def impl_ParseInt.f (a0 : ByteArray) : Option (Int × Bool) :=
 if a0.size ≤ 7 then (match Lib.atoi a0.data.toList with
  | some n => if (-999999 ≤ n ∧ n ≤ 999999) ∧ (⟨(Lib.itoa n).toArray⟩ : ByteArray).toList = a0.toList then some (n, true) else some (0, false)
  | none => some (0, false)) else some (0, false)
set_option maxHeartbeats 8000000 in
set_option maxRecDepth 100000 in
theorem impl_ParseInt.calls (a0 : ByteArray) (r1 : Int) (r2 : Bool) (w : World) {gF3 : Bool} (hG : GL true true gF3 w) (h : impl_ParseInt.f a0 = some (r1, r2)) :
  Calls Tryd.prog 11 #[.string a0] w fun e w' => e = .returned (.tuple #[.int .i64 r1, .bool r2]) ∧ Below w.heap.size w w' := by
 unfold impl_ParseInt.f at h
 by_cases hs : a0.size ≤ 7
 ·
  rw [if_pos hs] at h
  have c0 : decide ((a0.size : Int) > 7) = false := decide_eq_false (by omega)
  have c0' : decide ((7 : Int) < (a0.size : Int)) = false := decide_eq_false (by omega)
  cases ha : Lib.atoi a0.data.toList with
  | none =>
   rw [ha] at h
   obtain ⟨rfl, rfl⟩ := (Prod.mk.injEq _ _ _ _).mp (Option.some.inj h)
   obtain ⟨tp, p, hv⟩ := hG.es rfl
   have hcall := Tryd.strconv_Atoi_err_var a0 (by omega) ha tp p w hv
   have hc := Aside0.mk hcall
   clear hcall hv ha hG
   go_enter Tryd.func11, Tryd.ntmps11
   go_wp2_with (first | (go_at_call 38; refine hc.out.mono ?_; rintro e w' ⟨N, rfl, hN, hcell, hb⟩))
   go_ret2
   exact ⟨rfl, hb⟩
  | some n =>
   rw [ha] at h
   obtain ⟨t0, ht0⟩ : ∃ t : ByteArray, t = ⟨(Lib.itoa n).toArray⟩ := ⟨_, rfl⟩
   have hcall : Calls Tryd.prog 38 #[.string a0] w fun e w' => e = .returned (.tuple #[.int .i64 n, .nilIface]) ∧ Below w.heap.size w w' := by
    refine (Tryd.strconv_Atoi a0 n (by omega) ha w).mono ?_
    rintro e w' ⟨rfl, t, rfl⟩
    exact ⟨rfl, Go.Proofs.YtmjmjfkjlblgaaaDoor.B.ByRow.below_made w _ t⟩
   have hc := Aside0.mk hcall
   have hGA := Aside0.mk hG
   clear hcall ha hG
   replace h : (if (-999999 ≤ n ∧ n ≤ 999999) ∧ (⟨(Lib.itoa n).toArray⟩ : ByteArray).toList = a0.toList then some (n, true) else some (0, false)) = some (r1, r2) := h
   rw [← ht0] at h
   by_cases hin : -999999 ≤ n ∧ n ≤ 999999
   ·
    have hi : impl_inside.f n (-999999) 999999 = some true := by
     unfold impl_inside.f; rw [if_pos hin.1, decide_eq_true hin.2]
    have hI := Aside0.mk hi
    have hT := Aside0.mk (show strconv_Itoa.f n = some t0 by unfold strconv_Itoa.f; rw [if_pos (by omega), ht0])
    clear hi ht0
    by_cases he : t0.toList = a0.toList
    ·
     rw [if_pos ⟨hin, he⟩] at h
     obtain ⟨rfl, rfl⟩ := (Prod.mk.injEq _ _ _ _).mp (Option.some.inj h)
     have e1 : (t0.toList == a0.toList) = true := beq_iff_eq.2 he
     have e2 : (t0.toList != a0.toList) = false := bne_eq_false_iff_eq.2 he
     clear he hin
     go_enter Tryd.func11, Tryd.ntmps11
     go_wp2_with (first | (go_at_call 38; refine hc.out.mono ?_; rintro e w1 ⟨rfl, hb1⟩; have hB1 := Aside0.mk hb1; clear hb1) | (go_at_call 32; refine (impl_inside.calls _ _ _ _ _ hI.out).mono ?_; rintro e w2 ⟨rfl, q, rfl⟩) | (go_at_call 33; refine (strconv_Itoa.calls (gF2 := true) _ _ _ (hGA.out.below (pw_below_drewN hB1.out _)) hT.out).mono ?_; rintro e w3 ⟨rfl, hb3⟩; have hB3 := Aside0.mk (below_step (pw_below_drewN hB1.out _) hb3); clear hb3))
     go_ret2
     exact ⟨rfl, hB3.out⟩
    ·
     rw [if_neg (fun x => he x.2)] at h
     obtain ⟨rfl, rfl⟩ := (Prod.mk.injEq _ _ _ _).mp (Option.some.inj h)
     have e1 : (t0.toList == a0.toList) = false := beq_eq_false_iff_ne.2 he
     have e2 : (t0.toList != a0.toList) = true := bne_iff_ne.2 he
     clear he hin
     go_enter Tryd.func11, Tryd.ntmps11
     go_wp2_with (first | (go_at_call 38; refine hc.out.mono ?_; rintro e w1 ⟨rfl, hb1⟩; have hB1 := Aside0.mk hb1; clear hb1) | (go_at_call 32; refine (impl_inside.calls _ _ _ _ _ hI.out).mono ?_; rintro e w2 ⟨rfl, q, rfl⟩) | (go_at_call 33; refine (strconv_Itoa.calls (gF2 := true) _ _ _ (hGA.out.below (pw_below_drewN hB1.out _)) hT.out).mono ?_; rintro e w3 ⟨rfl, hb3⟩; have hB3 := Aside0.mk (below_step (pw_below_drewN hB1.out _) hb3); clear hb3))
     go_ret2
     exact ⟨rfl, hB3.out⟩
   ·
    rw [if_neg (fun x => hin x.1)] at h
    obtain ⟨rfl, rfl⟩ := (Prod.mk.injEq _ _ _ _).mp (Option.some.inj h)
    have hi : impl_inside.f n (-999999) 999999 = some false := by
     unfold impl_inside.f
     by_cases h1 : n ≥ -999999
     ·
      rw [if_pos h1, decide_eq_false (by omega)]
     ·
      rw [if_neg h1]
    have hI := Aside0.mk hi
    clear hi hin ht0
    go_enter Tryd.func11, Tryd.ntmps11
    go_wp2_with (first | (go_at_call 38; refine hc.out.mono ?_; rintro e w1 ⟨rfl, hb1⟩; have hB1 := Aside0.mk hb1; clear hb1) | (go_at_call 32; refine (impl_inside.calls _ _ _ _ _ hI.out).mono ?_; rintro e w2 ⟨rfl, q, rfl⟩))
    go_ret2
    exact ⟨rfl, pw_below_drewN hB1.out _⟩
 ·
  rw [if_neg hs] at h
  obtain ⟨rfl, rfl⟩ := (Prod.mk.injEq _ _ _ _).mp (Option.some.inj h)
  have c0 : decide ((a0.size : Int) > 7) = true := decide_eq_true (by omega)
  have c0' : decide ((7 : Int) < (a0.size : Int)) = true := decide_eq_true (by omega)
  clear hG
  go_enter Tryd.func11, Tryd.ntmps11
  go_wp2
  go_ret2
  exact ⟨rfl, Below.refl _ _⟩

end Go.Proofs.YtmjmjfkjlblgaaaDoor.G

namespace Go.Proofs.YtmjmjfkjlblgaaaDoor.G
open Go.RowKit Go.Proofs.YtmjmjfkjlblgaaaDoorW.PrintWords Go.Proofs.YtmjmjfkjlblgaaaDoorW.PrintLast Go.Proofs.YtmjmjfkjlblgaaaDoor.B
set_option linter.unusedVariables false
set_option linter.unusedSimpArgs false
theorem dec_app (l r : List UInt8) : ∀ acc, Lib.decFrom acc (l ++ r) = (Lib.decFrom acc l).bind fun a => Lib.decFrom a r := by
  induction l with
  | nil => intro acc; rfl
  | cons b l ih =>
    intro acc
    simp only [List.cons_append, Lib.decFrom]
    cases Lib.digitVal b with
    | none => rfl
    | some d => exact ih _
theorem dig_val (d : Nat) (h : d < 10) : Lib.digitVal (UInt8.ofNat (48 + d)) = some d := by
  have e : (UInt8.ofNat (48 + d)).toNat = 48 + d := by simp; omega
  unfold Lib.digitVal
  rw [e, if_pos ⟨by omega, by omega⟩]
  congr 1; omega
theorem dec_digits (n : Nat) : ∀ u, u ≤ n → Lib.decFrom 0 (Lib.decDigits u) = some u := by
  induction n with
  | zero =>
    intro u hu
    rw [Lib.decDigits_one (by omega)]
    simp only [Lib.decFrom]
    rw [dig_val u (by omega)]
    simp
  | succ n ih =>
    intro u hu
    by_cases h : u < 10
    · rw [Lib.decDigits_one h]
      simp only [Lib.decFrom]
      rw [dig_val u h]
      simp
    · rw [show Lib.decDigits u = Lib.decDigits (u / 10) ++ [UInt8.ofNat (48 + u % 10)] by rw [Lib.decDigits, dif_neg h], dec_app, ih (u / 10) (by omega)]
      simp only [Option.bind_some, Lib.decFrom]
      rw [dig_val (u % 10) (by omega)]
      show some (u / 10 * 10 + u % 10) = some u
      congr 1; omega
theorem nd_le (k : Nat) : ∀ u, u < 10 ^ (k + 1) → (Lib.decDigits u).length ≤ k + 1 := by
  induction k with
  | zero => intro u h; rw [Lib.decDigits_one (by simpa using h)]; simp
  | succ k ih =>
    intro u h
    by_cases h1 : u < 10
    · rw [Lib.decDigits_one h1]; simp
    · rw [show Lib.decDigits u = Lib.decDigits (u / 10) ++ [UInt8.ofNat (48 + u % 10)] by rw [Lib.decDigits, dif_neg h1], List.length_append, List.length_singleton]
      have := ih (u / 10) (by rw [Nat.pow_succ] at h; omega)
      omega
theorem dec_pos (u : Nat) : 1 ≤ (Lib.decDigits u).length := by
  by_cases h1 : u < 10
  · rw [Lib.decDigits_one h1]; simp
  · rw [show Lib.decDigits u = Lib.decDigits (u / 10) ++ [UInt8.ofNat (48 + u % 10)] by rw [Lib.decDigits, dif_neg h1], List.length_append, List.length_singleton]
    omega
def zer (d : Nat) (l : List UInt8) : List UInt8 := List.replicate d 48 ++ l
def padB (w : Nat) (n : Int) : ByteArray := mkB (zer (w - (Lib.itoa n).length) (Lib.itoa n))
theorem zer_up (d : Nat) (l : List UInt8) : zer d (48 :: l) = zer (d + 1) l := by
  unfold zer
  rw [List.replicate_succ']
  simp
theorem pad_loopV (w : Nat) (hw : w ≤ 10) (d : Nat) : ∀ t : ByteArray, w - t.size = d → t.size ≤ 1000 → Ev (fun k => spec_l3Pad.l0 k (w : Int) t) (mkB (zer d (L t))) := by
  induction d with
  | zero =>
    intro t h ht
    refine Ev.step (f := fun _ => some t) (fun k => ?_) (ev_eq (Ev.now _) (by simp [zer, mk_L]))
    simp only [spec_l3Pad.l0]; rw [if_neg (by omega)]
  | succ d ih =>
    intro t h ht
    have hs : ((⟨#[48]⟩ : ByteArray) ++ t).size = 1 + t.size := by rw [size_append]; rfl
    have hL : L ((⟨#[48]⟩ : ByteArray) ++ t) = 48 :: L t := by rw [L_append]; rfl
    have := ih ((⟨#[48]⟩ : ByteArray) ++ t) (by omega) (by omega)
    rw [hL, zer_up] at this
    refine Ev.step (fun k => ?_) this
    simp only [spec_l3Pad.l0]; rw [if_pos (by omega), if_pos (by omega)]
theorem pad_evV (n : Int) (w : Nat) (h0 : 0 ≤ n) (h1 : n ≤ 1000000) (hw : w ≤ 10) : Ev (fun k => spec_l3Pad.f k n (w : Int)) (padB w n) ∧ Ev (fun k => impl_digits.f k n (w : Int)) (padB w n) := by
  have hl := Lib.itoa_length_le n (by omega) (by omega)
  have hz : (mkB (Lib.itoa n)).size = (Lib.itoa n).length := by rw [size_mk]
  have hu := pad_loopV w hw (w - (Lib.itoa n).length) (mkB (Lib.itoa n)) (by rw [hz]) (by omega)
  rw [L_mk] at hu
  refine ⟨?_, ?_⟩
  · unfold spec_l3Pad.f
    exact Ev.bind (num_ev n (by omega) (by omega)) hu
  · have hi : strconv_Itoa.f n = some (mkB (Lib.itoa n)) := by
      unfold strconv_Itoa.f
      rw [if_pos ⟨by omega, by omega⟩]; rfl
    unfold impl_digits.f
    exact ev_bind0 hi (Ev.congr (fun k => pad_same k _ _) hu)
theorem dec_zer (d : Nat) (l : List UInt8) : Lib.decFrom 0 (zer d l) = Lib.decFrom 0 l := by
  induction d with
  | zero => rfl
  | succ d ih =>
    have : zer (d + 1) l = 48 :: zer d l := by simp [zer, List.replicate_succ]
    rw [this, ← ih]
    rfl
theorem pad_dec (w n : Nat) : Lib.decFrom 0 (L (padB w (n : Int))) = some n := by
  unfold padB
  rw [L_mk, dec_zer]
  have e : Lib.itoa (n : Int) = Lib.decDigits n := by unfold Lib.itoa; rw [if_neg (by omega)]; rfl
  rw [e]
  exact dec_digits n n (Nat.le_refl n)
def txtD (y m d : Int) (c : Bool) : ByteArray :=
  mkB ((if c = true then [99] else []) ++ L (padB 4 y) ++ (if m > 0 then 45 :: L (padB 2 m) else []) ++ (if d > 0 then 45 :: L (padB 2 d) else []))
theorem padB_size (w : Nat) (n : Int) (h0 : 0 ≤ n) (h1 : n ≤ 1000000) (hw : w ≤ 10) : (padB w n).size ≤ 31 := by
  have hl := Lib.itoa_length_le n (by omega) (by omega)
  unfold padB zer
  rw [size_mk, List.length_append, List.length_replicate]
  omega
theorem impl_txt (y m d : Int) (c : Bool) (hy : 1 ≤ y ∧ y ≤ 2999) (hm : 0 ≤ m ∧ m ≤ 12) (hd : 0 ≤ d ∧ d ≤ 31) : Ev (fun k => impl_formatDate.f k y m d c) (txtD y m d c) := by
  have iY := (pad_evV y 4 (by omega) (by omega) (by omega)).2
  have iM := (pad_evV m 2 (by omega) (by omega) (by omega)).2
  have iD := (pad_evV d 2 (by omega) (by omega) (by omega)).2
  have zY := padB_size 4 y (by omega) (by omega) (by omega)
  have zM := padB_size 2 m (by omega) (by omega) (by omega)
  have zD := padB_size 2 d (by omega) (by omega) (by omega)
  have e1 := sz1 45 (padB 2 m)
  have e1' := sz1 45 (padB 2 d)
  have rest : ∀ x : ByteArray, x.size ≤ 60 → Ev (fun k => impl_formatDate.j0 k x y m d c) (mkB (L x ++ (if m > 0 then 45 :: L (padB 2 m) else []) ++ (if d > 0 then 45 :: L (padB 2 d) else []))) := by
    intro x hx
    have xm : (x ++ ((⟨#[45]⟩ : ByteArray) ++ padB 2 m)).size = x.size + (1 + (padB 2 m).size) := by rw [size_append, e1]
    have h45 : L (⟨#[45]⟩ : ByteArray) = [45] := rfl
    by_cases cm : m > 0
    · by_cases cd : d > 0
      · refine ev_eq (Ev.step (f := fun k => (impl_digits.f k m 2).bind fun t261 => (if 1 + t261.size ≤ 9223372036854775807 then (if x.size + ((⟨#[45]⟩ : ByteArray) ++ t261).size ≤ 9223372036854775807 then ((impl_digits.f k d 2).bind fun t262 => (if 1 + t262.size ≤ 9223372036854775807 then (if (x ++ ((⟨#[45]⟩ : ByteArray) ++ t261)).size + ((⟨#[45]⟩ : ByteArray) ++ t262).size ≤ 9223372036854775807 then (some ((x ++ ((⟨#[45]⟩ : ByteArray) ++ t261)) ++ ((⟨#[45]⟩ : ByteArray) ++ t262))) else none) else none)) else none) else none)) (fun k => by simp only [impl_formatDate.j0]; rw [if_pos cm]; simp only [if_pos cd]) (Ev.bind iM (ev_pos (by omega) (ev_pos (by omega) (Ev.bind iD (ev_pos (by omega) (ev_pos (by omega) (Ev.now _)))))))) ?_
        rw [if_pos cm, if_pos cd]
        exact L_inj (by rw [L_append, L_append, L_append, L_append, L_mk, h45]; simp)
      · refine ev_eq (Ev.step (f := fun k => (impl_digits.f k m 2).bind fun t261 => (if 1 + t261.size ≤ 9223372036854775807 then (if x.size + ((⟨#[45]⟩ : ByteArray) ++ t261).size ≤ 9223372036854775807 then (some (x ++ ((⟨#[45]⟩ : ByteArray) ++ t261))) else none) else none)) (fun k => by simp only [impl_formatDate.j0]; rw [if_pos cm]; simp only [if_neg cd]) (Ev.bind iM (ev_pos (by omega) (ev_pos (by omega) (Ev.now _))))) ?_
        rw [if_pos cm, if_neg cd]
        exact L_inj (by rw [L_append, L_append, L_mk, h45]; simp)
    · by_cases cd : d > 0
      · refine ev_eq (Ev.step (f := fun k => (impl_digits.f k d 2).bind fun t263 => (if 1 + t263.size ≤ 9223372036854775807 then (if x.size + ((⟨#[45]⟩ : ByteArray) ++ t263).size ≤ 9223372036854775807 then (some (x ++ ((⟨#[45]⟩ : ByteArray) ++ t263))) else none) else none)) (fun k => by simp only [impl_formatDate.j0]; rw [if_neg cm, if_pos cd]) (Ev.bind iD (ev_pos (by omega) (ev_pos (by omega) (Ev.now _))))) ?_
        rw [if_neg cm, if_pos cd]
        exact L_inj (by rw [L_append, L_append, L_mk, h45]; simp)
      · refine ev_eq (Ev.step (f := fun _ => some x) (fun k => by simp only [impl_formatDate.j0]; rw [if_neg cm, if_neg cd]) (Ev.now _)) ?_
        rw [if_neg cm, if_neg cd]
        exact L_inj (by rw [L_mk]; simp)
  unfold impl_formatDate.f
  refine ev_neg (by omega) (Ev.bind iY ?_)
  cases c with
  | true =>
    refine ev_pos rfl (ev_pos (by omega) (ev_eq (rest _ (by rw [sz1]; omega)) ?_))
    have h99 : L (⟨#[99]⟩ : ByteArray) = [99] := rfl
    rw [L_append, h99]; rfl
  | false => exact ev_neg (by simp) (rest _ (by omega))
theorem spec_txt (y m d : Int) (c : Bool) (hy : 1 ≤ y ∧ y ≤ 2999) (hm : 0 ≤ m ∧ m ≤ 12) (hd : 0 ≤ d ∧ d ≤ 31) : Ev (fun k => spec_l3Text.f k y m d c) (txtD y m d c) := by
  obtain ⟨v, h1, h2⟩ := date_text y m d c hy hm hd
  rw [ev_uniq (impl_txt y m d c hy hm hd) h2]
  exact h1
end Go.Proofs.YtmjmjfkjlblgaaaDoor.G

namespace Go.Proofs.YtmjmjfkjlblgaaaDoor.G
open Go.RowKit Go.Proofs.YtmjmjfkjlblgaaaDoorW.PrintWords Go.Proofs.YtmjmjfkjlblgaaaDoorW.PrintLast
set_option linter.unusedVariables false
set_option linter.unusedSimpArgs false
def daysD (y m : Int) : Int :=
  if m = 2 then (if Int.tmod y 4 = 0 ∧ (Int.tmod y 100 ≠ 0 ∨ Int.tmod y 400 = 0) then 29 else 28) else if m = 4 ∨ m = 6 ∨ m = 9 ∨ m = 11 then 30 else 31
def goodD (y m d : Int) (c : Bool) : Bool :=
  if y = 0 ∧ m = 0 ∧ d = 0 ∧ c = false then true
  else if ¬ (1 ≤ y ∧ y ≤ 2999 ∧ 0 ≤ m ∧ m ≤ 12) then false
  else if m = 0 then decide (d = 0)
  else if c then false else decide (0 ≤ d ∧ d ≤ daysD y m)
theorem tmod_400_4 (y : Int) (h : Int.tmod y 400 = 0) : Int.tmod y 4 = 0 := by
  have h1 : (400 : Int) ∣ y := Int.dvd_of_tmod_eq_zero h
  exact Int.tmod_eq_zero_of_dvd (Int.dvd_trans (by decide) h1)
theorem spec_days (k : Nat) (y m : Int) : spec_l3Days.f (k + 1) y m = some (daysD y m) := by
  unfold spec_l3Days.f daysD
  by_cases h2 : m = 2
  · subst h2
    simp only [if_true, spec_l3Days.j0]
    by_cases a : Int.tmod y 4 = 0 <;> by_cases b : Int.tmod y 100 = 0 <;> by_cases c : Int.tmod y 400 = 0 <;> simp [a, b, c]
    · exact a (tmod_400_4 y c)
    · exact a (tmod_400_4 y c)
  · by_cases a : m = 4 <;> by_cases b : m = 6 <;> by_cases c : m = 9 <;> by_cases d : m = 11 <;> simp [h2, a, b, c, d]
theorem impl_days (y m : Int) : impl_daysInMonth.f y m = some (daysD y m) := by
  unfold impl_daysInMonth.f daysD
  by_cases h2 : m = 2
  · subst h2
    by_cases a : Int.tmod y 4 = 0 <;> by_cases b : Int.tmod y 100 = 0 <;> by_cases c : Int.tmod y 400 = 0 <;> simp [a, b, c]
  · by_cases a : m = 4 <;> by_cases b : m = 6 <;> by_cases c : m = 9 <;> by_cases d : m = 11 <;> simp [h2, a, b, c, d]
theorem spec_good (k : Nat) (y m d : Int) (c : Bool) : spec_l3Good.f (k + 2) y m d c = some (goodD y m d c) := by
  unfold spec_l3Good.f goodD
  by_cases z : y = 0 ∧ m = 0 ∧ d = 0 ∧ c = false
  · obtain ⟨rfl, rfl, rfl, rfl⟩ := z; simp
  · rw [if_neg (by simpa using z), if_neg z]
    simp only [spec_l1In.f]
    by_cases a : 1 ≤ y <;> by_cases b : y ≤ 2999 <;> by_cases e : 0 ≤ m <;> by_cases f : m ≤ 12 <;> simp [a, b, e, f, spec_l3Good.j0]
    rw [spec_days]
    by_cases g : m = 0 <;> by_cases h : d = 0 <;> by_cases i : 0 ≤ d <;> cases c <;> simp [g, h, i, spec_l1In.f, impl_inside.f]
theorem impl_good (k : Nat) (y m d : Int) (c : Bool) : impl_IsValidDate.f (k + 2) y m d c = some (goodD y m d c) := by
  unfold impl_IsValidDate.f goodD
  by_cases z : y = 0 ∧ m = 0 ∧ d = 0 ∧ c = false
  · obtain ⟨rfl, rfl, rfl, rfl⟩ := z; simp
  · rw [if_neg (by simpa using z), if_neg z]
    simp only [impl_inside.f]
    by_cases a : 1 ≤ y <;> by_cases b : y ≤ 2999 <;> by_cases e : 0 ≤ m <;> by_cases f : m ≤ 12 <;> simp [a, b, e, f, impl_IsValidDate.j0]
    rw [impl_days]
    by_cases g : m = 0 <;> by_cases h : d = 0 <;> by_cases i : 0 ≤ d <;> cases c <;> simp [g, h, i, spec_l1In.f, impl_inside.f]
theorem daysD_le (y m : Int) : daysD y m ≤ 31 := by
  unfold daysD
  split
  · split <;> omega
  · split <;> omega
theorem good_bds {y m d : Int} {c : Bool} (h : goodD y m d c = true) (hy : y ≠ 0) : 1 ≤ y ∧ y ≤ 2999 ∧ 0 ≤ m ∧ m ≤ 12 ∧ 0 ≤ d ∧ d ≤ 31 := by
  unfold goodD at h
  rw [if_neg (fun z => hy z.1)] at h
  by_cases c1 : 1 ≤ y ∧ y ≤ 2999 ∧ 0 ≤ m ∧ m ≤ 12
  · rw [if_neg (fun z => z c1)] at h
    refine ⟨c1.1, c1.2.1, c1.2.2.1, c1.2.2.2, ?_⟩
    by_cases c2 : m = 0
    · rw [if_pos c2] at h
      have := of_decide_eq_true h
      omega
    · rw [if_neg c2] at h
      cases c with
      | true => simp at h
      | false =>
        have h2 := of_decide_eq_true (by simpa using h : decide (0 ≤ d ∧ d ≤ daysD y m) = true)
        have := daysD_le y m
        omega
  · rw [if_pos c1] at h; cases h
end Go.Proofs.YtmjmjfkjlblgaaaDoor.G

namespace Go.Proofs.YtmjmjfkjlblgaaaDoor.G
open Go.RowKit Go.Proofs.YtmjmjfkjlblgaaaDoorW.PrintWords Go.Proofs.YtmjmjfkjlblgaaaDoorW.PrintLast Go.Proofs.YtmjmjfkjlblgaaaDoorW.PrintMore
open Go.Proofs.YtmjmjfkjlblgaaaDoor.Gl Go.Proofs.YtmjmjfkjlblgaaaDoor.Ext
attribute [local go_sem] max2_int min2_int max_two min_two max_three min_three max_four min_four   -- for this text's walks alone
set_option linter.unusedVariables false
set_option linter.unusedSimpArgs false

/-! ### spec_l1Split: function 68 -/
def spec_l1Split.l0 : Nat → ByteArray → Int → List ByteArray → Int → Int → Option (List ByteArray)
 | 0, _, _, _, _, _ => none
 | k + 1, x0, x1, x5, x6, x7 => if x7 < (x0.size : Int) then (if 0 ≤ x7 then (if (bt x0 x7) = x1 then (if 0 ≤ x6 then (if x6 ≤ x7 then (if x7 ≤ (x0.size : Int) then (if x5.length < 8796093022208 then (spec_l1Split.l0 k x0 x1 (x5 ++ [x0.extract (x6 : Int).toNat (x7 : Int).toNat]) (wrap64 (x7 + 1)) (wrap64 (x7 + 1))) else (none)) else (none)) else (none)) else (none)) else (spec_l1Split.l0 k x0 x1 x5 x6 (wrap64 (x7 + 1)))) else (none)) else (if 0 ≤ x6 then (if x6 ≤ (x0.size : Int) then (if x5.length < 8796093022208 then (some (x5 ++ [x0.extract (x6 : Int).toNat x0.size])) else (none)) else (none)) else (none))
def spec_l1Split.f (k : Nat) (a0 : ByteArray) (a1 : Int) : Option (List ByteArray) := spec_l1Split.l0 k a0 a1 (([] : List ByteArray)) 0 0
theorem spec_l1Split.mono_l : ∀ k, (∀ y0 y1 y2 y3 y4, LeO (spec_l1Split.l0 k y0 y1 y2 y3 y4) (spec_l1Split.l0 (k + 1) y0 y1 y2 y3 y4))
 | 0 => fun _ _ _ _ _ r h => by simp [spec_l1Split.l0] at h
 | k + 1 => by
  have ih0 := spec_l1Split.mono_l k
  ·
   intro y0 y1 y2 y3 y4
   unfold spec_l1Split.l0
   repeat' first
   | (with_reducible exact ih0 _ _ _ _ _)
   | (with_reducible exact LeO.refl _)
   | (with_reducible exact LeO.none _)
   | (with_reducible refine LeO.ite ?_ ?_)
   | (with_reducible refine LeO.bind ?_ (fun _ => ?_))
   | exact ih0 _ _ _ _ _
   | exact LeO.none _
   | refine LeO.ite ?_ ?_
   | refine LeO.bind ?_ (fun _ => ?_)
theorem spec_l1Split.mono : ∀ a0 a1 k, LeO (spec_l1Split.f k a0 a1) (spec_l1Split.f (k + 1) a0 a1) := by
 intro a0 a1 k
 have ih0 := spec_l1Split.mono_l k
 unfold spec_l1Split.f
 repeat' first
   | (with_reducible exact ih0 _ _ _ _ _)
   | (with_reducible exact LeO.refl _)
   | (with_reducible exact LeO.none _)
   | (with_reducible refine LeO.ite ?_ ?_)
   | (with_reducible refine LeO.bind ?_ (fun _ => ?_))
   | exact ih0 _ _ _ _ _
   | exact LeO.none _
   | refine LeO.ite ?_ ?_
   | refine LeO.bind ?_ (fun _ => ?_)
set_option maxRecDepth 100000 in
theorem spec_l1Split.L0 {P : Prop} (h : P := by
  go_wp2_with (first | ((with_reducible refine gate_builtin (b := .append) (xs := #[.tmp 20, .tmp 25]) rfl ?_); at_builtin; refine Kd.R_append Kd.string (w0 := w) w.heap.size rfl (.tmp 20) (.tmp 25) 59 9 (.string ⟨#[]⟩) 16 rfl Tryd.underlying59 info9 rfl (by decide) (by omega) u5 x5_1 (a0.extract (x6_1 : Int).toNat (x7_1 : Int).toNat) [.string (a0.extract (x6_1 : Int).toNat (x7_1 : Int).toNat)] (fun _ => True) (fun _ => False) rfl rfl ?aP (fun _ hk => hk.elim) ?aF ?aO ?aB ?aS ?aL ?_; (case aP => exact rfl); (case aB => exact au101); (case aF => exact (fun _ _ => trivial)); (case aO => exact au147); (case aS => exact (below_size au101)); (case aL => have := LMc12.out; omega); intro v221 w13 ho hb hg hat; rw [← Ny220.out] at ho; have n0_ := Aside0.mk (hb); have n1_ := Aside0.mk (ho); clear HB; clear HO_5; have HB := n0_; have HO222 := n1_; clear n0_ n1_; clear ho hb hg hat))
  go_roundg k1
  case measure => have := HK1.out; omega
  case rel => first | (exact ⟨(y220), (wrap64 (x7_1 + 1)), (wrap64 (x7_1 + 1)), au153, au153, H', ⟨by have := HK1.out; omega⟩, ⟨by (with_reducible repeat (first | apply Kd.R_alloc | apply Kd.R_drewN | apply Kd.R_drew)); exact HO222.out⟩, ⟨by repeat (first | (with_reducible first | exact HB.out | apply below_alloc | apply pw_below_drewN | apply below_drew1) | exact HB.out)⟩⟩) | (exact ⟨(x5_1), (x6_1), (wrap64 (x7_1 + 1)), au153, au153, H', ⟨by have := HK1.out; omega⟩, ⟨by (with_reducible repeat (first | apply Kd.R_alloc | apply Kd.R_drewN | apply Kd.R_drew)); exact HO_5.out⟩, ⟨by repeat (first | (with_reducible first | exact HB.out | apply below_alloc | apply pw_below_drewN | apply below_drew1) | exact HB.out)⟩⟩)) : P := h
set_option maxHeartbeats 8000000 in
set_option maxRecDepth 100000 in
theorem spec_l1Split.calls (k : Nat) (a0 : ByteArray) (a1 : Int) (r : List ByteArray) (w : World) (h : spec_l1Split.f k a0 a1 = some r) :
  Calls Tryd.prog 68 #[.string a0, .int .u8 a1] w fun e w' => ∃ v0_ : Value, e = .returned (v0_) ∧ Kd.R Kd.string 9 w' w.heap.size (fun _ => True) v0_ r ∧ Below w.heap.size w w' := by
 have HB := Aside0.mk (Below.refl w.heap.size w)
 have H : (spec_l1Split.l0 k a0 a1 (([] : List ByteArray)) 0 0) = some r := h
 clear h
 obtain ⟨y217, hy217⟩ : ∃ y_ : List ByteArray, y_ = (([] : List ByteArray)) := ⟨_, rfl⟩
 replace H : (spec_l1Split.l0 k a0 a1 y217 0 0) = some r := by first | (rw [hy217]; with_reducible exact H) | (have H2_ := (Option.bind_some _ _).symm.trans H; rw [hy217]; with_reducible exact H2_) | (have H2_ := (Option.bind_some _ _).symm.trans H; with_reducible exact H2_) | with_reducible exact H | (rw [hy217]; exact H) | exact H
 have Ny217 := Aside0.mk hy217
 clear hy217
 have H' := Aside0.mk H
 clear H
 go_enter Tryd.func68, Tryd.ntmps68
 go_wp2_with (first | ((with_reducible refine gate_dst (N := 8) rfl ?_); refine Kd.R_lit Kd.string _ 9 ?hg (N := 8) ?hd (xs := ([] : List ByteArray)) (inner := []) (ok := fun _ => True) (okp := fun _ => True) ?hr ?hp (fun _ hk => hk) trivial (Below.refl _ _) (Nat.le_refl _) (by simp) ?_; (case hd => rfl); (case hg => rfl); (case hr => first | (go_simp; done) | (go_simp; rfl)); (case hp => exact (Reps.none _ _)); intro v218 w3 ho4 hb hg_ hnew_; clear hg_ hnew_; (first | rw [← Ny217.out] at ho4 | (simp only [Int.reduceToNat] at ho4; rw [← Ny217.out] at ho4)); have HO219 := Aside0.mk (Kd.R_lower ho4 (below_size au101)); replace HB := Aside0.mk (below_step au101 hb); clear hb ho4))
 go_loopg [5, 6, 7] k (fun kq v5 v6 v7 w' => ∃ (x5_1 : List ByteArray) (x6_1 : Int) (x7_1 : Int), v6 = .int .i64 x6_1 ∧ v7 = .int .i64 x7_1 ∧ Aside0 (spec_l1Split.l0 kq a0 a1 x5_1 x6_1 x7_1 = some r) ∧ Aside0 (kq ≤ k) ∧ Aside0 (Kd.R Kd.string 9 w' w.heap.size (fun _ => True) v5 x5_1) ∧ Aside0 (Below w.heap.size w w'))
 case atStart => exact ⟨(y217), (0), (0), au153, au153, H', ⟨Nat.le_refl _⟩, ⟨by (with_reducible repeat (first | apply Kd.R_alloc | apply Kd.R_drewN | apply Kd.R_drew)); exact HO219.out⟩, ⟨by repeat (first | (with_reducible first | exact HB.out | apply below_alloc | apply pw_below_drewN | apply below_drew1) | exact HB.out)⟩⟩
 case round =>
  clear H'
  try clear p2
  obtain ⟨x5_1, x6_1, x7_1, rfl, rfl, HA, HK1, HO_5, HB⟩ := hrel
  cases gk with
  | zero => exact absurd HA.out (by simp [spec_l1Split.l0])
  | succ k1 =>
   have H := HA.out
   clear HA
   simp only [spec_l1Split.l0] at H
   by_cases c5 : x7_1 < (a0.size : Int)
   ·
    rw [if_pos c5] at H
    have c5b0 : decide (x7_1 < (a0.size : Int)) = true := decide_eq_true c5
    clear c5
    by_cases c6 : 0 ≤ x7_1
    ·
     rw [if_pos c6] at H
     have c6b0 : decide (0 ≤ x7_1) = true := decide_eq_true c6
     clear c6
     by_cases c8 : (bt a0 x7_1) = a1
     ·
      rw [if_pos c8] at H
      have c8b0 : ((bt a0 x7_1) == a1) = true := beq_iff_eq.mpr c8
      have c8b1 : ((bt a0 x7_1) != a1) = false := bne_eq_false_iff_eq.mpr c8
      clear c8
      by_cases c9 : 0 ≤ x6_1
      ·
       rw [if_pos c9] at H
       have c9b0 := eq_true c9
       have c9b1 : decide (0 ≤ x6_1) = true := decide_eq_true c9
       clear c9
       by_cases c10 : x6_1 ≤ x7_1
       ·
        rw [if_pos c10] at H
        have c10b0 := eq_true c10
        have c10b1 : decide (x6_1 ≤ x7_1) = true := decide_eq_true c10
        clear c10
        by_cases c11 : x7_1 ≤ (a0.size : Int)
        ·
         rw [if_pos c11] at H
         have c11b0 := eq_true c11
         have c11b1 : decide (x7_1 ≤ (a0.size : Int)) = true := decide_eq_true c11
         clear c11
         by_cases c12 : x5_1.length < 8796093022208
         ·
          rw [if_pos c12] at H
          have LMc12 := Aside0.mk c12
          clear c12
          obtain ⟨y220, hy220⟩ : ∃ y_ : List ByteArray, y_ = (x5_1 ++ [a0.extract (x6_1 : Int).toNat (x7_1 : Int).toNat]) := ⟨_, rfl⟩
          replace H : (spec_l1Split.l0 k1 a0 a1 y220 (wrap64 (x7_1 + 1)) (wrap64 (x7_1 + 1))) = some r := by first | (rw [hy220]; with_reducible exact H) | (have H2_ := (Option.bind_some _ _).symm.trans H; rw [hy220]; with_reducible exact H2_) | (have H2_ := (Option.bind_some _ _).symm.trans H; with_reducible exact H2_) | with_reducible exact H | (rw [hy220]; exact H) | exact H
          have Ny220 := Aside0.mk hy220
          clear hy220
          have H' := Aside0.mk H
          clear H
          have p7 : 0 ≤ (x7_1 : Int) := of_decide_eq_true au152
          have q7 : x7_1 < (a0.size : Int) := of_decide_eq_true au152
          have hx7 := bt_at a0 x7_1
          replace p7 := eq_true p7
          replace q7 := eq_true q7
          exact spec_l1Split.L0
         ·
          rw [if_neg c12] at H
          exact absurd H (by simp)
        ·
         rw [if_neg c11] at H
         exact absurd H (by simp)
       ·
        rw [if_neg c10] at H
        exact absurd H (by simp)
      ·
       rw [if_neg c9] at H
       exact absurd H (by simp)
     ·
      rw [if_neg c8] at H
      have c8b0 : ((bt a0 x7_1) == a1) = false := beq_eq_false_iff_ne.mpr c8
      have c8b1 : ((bt a0 x7_1) != a1) = true := bne_iff_ne.mpr c8
      have H' := Aside0.mk H
      clear H
      have p7 : 0 ≤ (x7_1 : Int) := of_decide_eq_true au152
      have q7 : x7_1 < (a0.size : Int) := of_decide_eq_true au152
      have hx7 := bt_at a0 x7_1
      replace p7 := eq_true p7
      replace q7 := eq_true q7
      exact spec_l1Split.L0
    ·
     rw [if_neg c6] at H
     exact absurd H (by simp)
   ·
    rw [if_neg c5] at H
    have c5b0 : decide (x7_1 < (a0.size : Int)) = false := decide_eq_false c5
    clear c5
    by_cases c14 : 0 ≤ x6_1
    ·
     rw [if_pos c14] at H
     have c14b0 := eq_true c14
     have c14b1 : decide (0 ≤ x6_1) = true := decide_eq_true c14
     clear c14
     by_cases c15 : x6_1 ≤ (a0.size : Int)
     ·
      rw [if_pos c15] at H
      have c15b0 := eq_true c15
      have c15b1 : decide (x6_1 ≤ (a0.size : Int)) = true := decide_eq_true c15
      clear c15
      by_cases c16 : x5_1.length < 8796093022208
      ·
       rw [if_pos c16] at H
       have LMc16 := Aside0.mk c16
       clear c16
       obtain ⟨y223, hy223⟩ : ∃ y_ : List ByteArray, y_ = (x5_1 ++ [a0.extract (x6_1 : Int).toNat a0.size]) := ⟨_, rfl⟩
       replace H : (some y223) = some r := by first | (rw [hy223]; with_reducible exact H) | (have H2_ := (Option.bind_some _ _).symm.trans H; rw [hy223]; with_reducible exact H2_) | (have H2_ := (Option.bind_some _ _).symm.trans H; with_reducible exact H2_) | with_reducible exact H | (rw [hy223]; exact H) | exact H
       have Ny223 := Aside0.mk hy223
       clear hy223
       obtain rfl := Option.some.inj H
       go_wp2_with (first | ((with_reducible refine gate_builtin (b := .append) (xs := #[.tmp 29, .tmp 33]) rfl ?_); at_builtin; refine Kd.R_append Kd.string (w0 := w) w.heap.size rfl (.tmp 29) (.tmp 33) 59 9 (.string ⟨#[]⟩) 16 rfl Tryd.underlying59 info9 rfl (by decide) (by omega) u5 x5_1 (a0.extract (x6_1 : Int).toNat a0.size) [.string (a0.extract (x6_1 : Int).toNat a0.size)] (fun _ => True) (fun _ => False) rfl rfl ?aP (fun _ hk => hk.elim) ?aF ?aO ?aB ?aS ?aL ?_; (case aP => exact rfl); (case aB => exact au101); (case aF => exact (fun _ _ => trivial)); (case aO => exact au147); (case aS => exact (below_size au101)); (case aL => have := LMc16.out; omega); intro v224 w17 ho hb hg hat; rw [← Ny223.out] at ho; have n0_ := Aside0.mk (hb); have n1_ := Aside0.mk (ho); clear HB; clear HO_5; have HB := n0_; have HO225 := n1_; clear n0_ n1_; clear ho hb hg hat))
       go_ret
       exact ⟨_, by first | rfl | (simp [errW_none, errW_some] <;> rfl) | (simp [*, errW_none, errW_some] <;> rfl), by (with_reducible repeat (first | apply Kd.R_alloc | apply Kd.R_drewN | apply Kd.R_drew)); exact HO225.out, by repeat (first | (with_reducible first | exact HB.out | apply below_alloc | apply pw_below_drewN | apply below_drew1) | exact HB.out)⟩
      ·
       rw [if_neg c16] at H
       exact absurd H (by simp)
     ·
      rw [if_neg c15] at H
      exact absurd H (by simp)
    ·
     rw [if_neg c14] at H
     exact absurd H (by simp)

end Go.Proofs.YtmjmjfkjlblgaaaDoor.G

namespace Go.Proofs.YtmjmjfkjlblgaaaDoor.G
open Go.RowKit Go.Proofs.YtmjmjfkjlblgaaaDoorW.PrintWords Go.Proofs.YtmjmjfkjlblgaaaDoorW.PrintLast Go.Proofs.YtmjmjfkjlblgaaaDoor.B
set_option linter.unusedVariables false
set_option linter.unusedSimpArgs false
end Go.Proofs.YtmjmjfkjlblgaaaDoor.G

namespace Go.Proofs.YtmjmjfkjlblgaaaDoor.G
open Go.RowKit Go.Proofs.YtmjmjfkjlblgaaaDoorW.PrintWords Go.Proofs.YtmjmjfkjlblgaaaDoorW.PrintLast Go.Proofs.YtmjmjfkjlblgaaaDoorW.PrintMore
open Go.Proofs.YtmjmjfkjlblgaaaDoor.Gl Go.Proofs.YtmjmjfkjlblgaaaDoor.Ext
attribute [local go_sem] max2_int min2_int max_two min_two max_three min_three max_four min_four   -- for this text's walks alone
set_option linter.unusedVariables false
set_option linter.unusedSimpArgs false

/-! ### spec_l3Parse: function 46 -/
mutual
def spec_l3Parse.j0 : Nat → ByteArray → ByteArray → Bool → Int → Int → Int → Bool → Option (Int × Int × Int × Bool × Bool)
 | 0, _, _, _, _, _, _, _ => none
 | k + 1, x0, x5, x22, x228000, x228001, x228002, x228003 => if x22 = true then (if 1 ≤ (x5.size : Int) then (spec_l3Parse.j1 k x0 (x5.extract 1 x5.size) x228000 x228001 x228002 true) else (none)) else (spec_l3Parse.j1 k x0 x5 x228000 x228001 x228002 x228003)
def spec_l3Parse.j1 : Nat → ByteArray → ByteArray → Int → Int → Int → Bool → Option (Int × Int × Int × Bool × Bool)
 | 0, _, _, _, _, _, _ => none
 | k + 1, x0, x5, x228000, x228001, x228002, x228003 => (spec_l1Split.f k x5 45).bind fun t228 => (if (t228.length : Int) > 3 then (some (0, 0, 0, false, false)) else (spec_l3Parse.l0 k x0 t228 (([0, 0, 0] : List Int)) 0 x228000 x228001 x228002 x228003))
def spec_l3Parse.l0 : Nat → ByteArray → List ByteArray → List Int → Int → Int → Int → Int → Bool → Option (Int × Int × Int × Bool × Bool)
 | 0, _, _, _, _, _, _, _, _ => none
 | k + 1, x0, x6, x7, x8, x228000, x228001, x228002, x228003 => if x8 < (x6.length : Int) then (spec_l3Parse.l1 k x0 x6 x7 x8 0 0 x228000 x228001 x228002 x228003) else (if 0 < (x7.length : Int) then (if 1 < (x7.length : Int) then (if 2 < (x7.length : Int) then (if (rd x7 0) = 0 then (some (0, 0, 0, false, false)) else ((spec_l3Good.f k (rd x7 0) (rd x7 1) (rd x7 2) x228003).bind fun t242 => (if t242 = true then ((spec_l3Text.f k (rd x7 0) (rd x7 1) (rd x7 2) x228003).bind fun t243 => (if t243.toList = x0.toList then (some (rd x7 0, rd x7 1, rd x7 2, x228003, true)) else (some (0, 0, 0, false, false)))) else (some (0, 0, 0, false, false))))) else (none)) else (none)) else (none))
def spec_l3Parse.l1 : Nat → ByteArray → List ByteArray → List Int → Int → Int → Int → Int → Int → Int → Bool → Option (Int × Int × Int × Bool × Bool)
 | 0, _, _, _, _, _, _, _, _, _, _ => none
 | k + 1, x0, x6, x7, x8, x9, x10, x228000, x228001, x228002, x228003 => if 0 ≤ x8 then (if x8 < (x6.length : Int) then (if x10 < ((rdOf ByteArray.empty x6 x8).size : Int) then (if ((rdOf ByteArray.empty x6 x8).size : Int) ≤ 4 then (if 0 ≤ x10 then (spec_l3Parse.l1 k x0 x6 x7 x8 (wrap64 ((wrap64 ((wrap64 (10 * x9)) + (wrap64 (bt (rdOf ByteArray.empty x6 x8) x10)))) - 48)) (wrap64 (x10 + 1)) x228000 x228001 x228002 x228003) else (none)) else (if x8 < (x7.length : Int) then (spec_l3Parse.l0 k x0 x6 (x7.set (x8 : Int).toNat x9) (wrap64 (x8 + 1)) x228000 x228001 x228002 x228003) else (none))) else (if x8 < (x7.length : Int) then (spec_l3Parse.l0 k x0 x6 (x7.set (x8 : Int).toNat x9) (wrap64 (x8 + 1)) x228000 x228001 x228002 x228003) else (none))) else (none)) else (none)
end
def spec_l3Parse.f (k : Nat) (a0 : ByteArray) : Option (Int × Int × Int × Bool × Bool) := if a0.toList = ([117, 110, 107, 110, 111, 119, 110] : List UInt8) then (some (0, 0, 0, false, true)) else (if a0.toList = ([] : List UInt8) then (spec_l3Parse.j0 k a0 a0 false 0 0 0 false) else (if 0 < (a0.size : Int) then (spec_l3Parse.j0 k a0 a0 ((bt a0 0) == 99) 0 0 0 false) else (none)))
theorem spec_l3Parse.mono_l : ∀ k, (∀ y0 y1 y2 y3 y4 y5 y6, LeO (spec_l3Parse.j0 k y0 y1 y2 y3 y4 y5 y6) (spec_l3Parse.j0 (k + 1) y0 y1 y2 y3 y4 y5 y6)) ∧ (∀ y0 y1 y2 y3 y4 y5, LeO (spec_l3Parse.j1 k y0 y1 y2 y3 y4 y5) (spec_l3Parse.j1 (k + 1) y0 y1 y2 y3 y4 y5)) ∧ (∀ y0 y1 y2 y3 y4 y5 y6 y7, LeO (spec_l3Parse.l0 k y0 y1 y2 y3 y4 y5 y6 y7) (spec_l3Parse.l0 (k + 1) y0 y1 y2 y3 y4 y5 y6 y7)) ∧ (∀ y0 y1 y2 y3 y4 y5 y6 y7 y8 y9, LeO (spec_l3Parse.l1 k y0 y1 y2 y3 y4 y5 y6 y7 y8 y9) (spec_l3Parse.l1 (k + 1) y0 y1 y2 y3 y4 y5 y6 y7 y8 y9))
 | 0 => ⟨fun _ _ _ _ _ _ _ r h => by simp [spec_l3Parse.j0] at h, fun _ _ _ _ _ _ r h => by simp [spec_l3Parse.j1] at h, fun _ _ _ _ _ _ _ _ r h => by simp [spec_l3Parse.l0] at h, fun _ _ _ _ _ _ _ _ _ _ r h => by simp [spec_l3Parse.l1] at h⟩
 | k + 1 => by
  obtain ⟨ih0, ih1, ih2, ih3⟩ := spec_l3Parse.mono_l k
  refine ⟨?_, ?_, ?_, ?_⟩
  ·
   intro y0 y1 y2 y3 y4 y5 y6
   unfold spec_l3Parse.j0
   repeat' first
   | (with_reducible exact ih0 _ _ _ _ _ _ _)
   | (with_reducible exact ih1 _ _ _ _ _ _)
   | (with_reducible exact ih2 _ _ _ _ _ _ _ _)
   | (with_reducible exact ih3 _ _ _ _ _ _ _ _ _ _)
   | (with_reducible exact spec_l1Split.mono _ _ _)
   | (with_reducible exact spec_l3Good.mono _ _ _ _ _)
   | (with_reducible exact spec_l3Text.mono _ _ _ _ _)
   | (with_reducible exact LeO.refl _)
   | (with_reducible exact LeO.none _)
   | (with_reducible refine LeO.ite ?_ ?_)
   | (with_reducible refine LeO.bind ?_ (fun _ => ?_))
   | exact ih0 _ _ _ _ _ _ _
   | exact ih1 _ _ _ _ _ _
   | exact ih2 _ _ _ _ _ _ _ _
   | exact ih3 _ _ _ _ _ _ _ _ _ _
   | exact spec_l1Split.mono _ _ _
   | exact spec_l3Good.mono _ _ _ _ _
   | exact spec_l3Text.mono _ _ _ _ _
   | exact LeO.none _
   | refine LeO.ite ?_ ?_
   | refine LeO.bind ?_ (fun _ => ?_)
  ·
   intro y0 y1 y2 y3 y4 y5
   unfold spec_l3Parse.j1
   repeat' first
   | (with_reducible exact ih0 _ _ _ _ _ _ _)
   | (with_reducible exact ih1 _ _ _ _ _ _)
   | (with_reducible exact ih2 _ _ _ _ _ _ _ _)
   | (with_reducible exact ih3 _ _ _ _ _ _ _ _ _ _)
   | (with_reducible exact spec_l1Split.mono _ _ _)
   | (with_reducible exact spec_l3Good.mono _ _ _ _ _)
   | (with_reducible exact spec_l3Text.mono _ _ _ _ _)
   | (with_reducible exact LeO.refl _)
   | (with_reducible exact LeO.none _)
   | (with_reducible refine LeO.ite ?_ ?_)
   | (with_reducible refine LeO.bind ?_ (fun _ => ?_))
   | exact ih0 _ _ _ _ _ _ _
   | exact ih1 _ _ _ _ _ _
   | exact ih2 _ _ _ _ _ _ _ _
   | exact ih3 _ _ _ _ _ _ _ _ _ _
   | exact spec_l1Split.mono _ _ _
   | exact spec_l3Good.mono _ _ _ _ _
   | exact spec_l3Text.mono _ _ _ _ _
   | exact LeO.none _
   | refine LeO.ite ?_ ?_
   | refine LeO.bind ?_ (fun _ => ?_)
  ·
   intro y0 y1 y2 y3 y4 y5 y6 y7
   unfold spec_l3Parse.l0
   repeat' first
   | (with_reducible exact ih0 _ _ _ _ _ _ _)
   | (with_reducible exact ih1 _ _ _ _ _ _)
   | (with_reducible exact ih2 _ _ _ _ _ _ _ _)
   | (with_reducible exact ih3 _ _ _ _ _ _ _ _ _ _)
   | (with_reducible exact spec_l1Split.mono _ _ _)
   | (with_reducible exact spec_l3Good.mono _ _ _ _ _)
   | (with_reducible exact spec_l3Text.mono _ _ _ _ _)
   | (with_reducible exact LeO.refl _)
   | (with_reducible exact LeO.none _)
   | (with_reducible refine LeO.ite ?_ ?_)
   | (with_reducible refine LeO.bind ?_ (fun _ => ?_))
   | exact ih0 _ _ _ _ _ _ _
   | exact ih1 _ _ _ _ _ _
   | exact ih2 _ _ _ _ _ _ _ _
   | exact ih3 _ _ _ _ _ _ _ _ _ _
   | exact spec_l1Split.mono _ _ _
   | exact spec_l3Good.mono _ _ _ _ _
   | exact spec_l3Text.mono _ _ _ _ _
   | exact LeO.none _
   | refine LeO.ite ?_ ?_
   | refine LeO.bind ?_ (fun _ => ?_)
  ·
   intro y0 y1 y2 y3 y4 y5 y6 y7 y8 y9
   unfold spec_l3Parse.l1
   repeat' first
   | (with_reducible exact ih0 _ _ _ _ _ _ _)
   | (with_reducible exact ih1 _ _ _ _ _ _)
   | (with_reducible exact ih2 _ _ _ _ _ _ _ _)
   | (with_reducible exact ih3 _ _ _ _ _ _ _ _ _ _)
   | (with_reducible exact spec_l1Split.mono _ _ _)
   | (with_reducible exact spec_l3Good.mono _ _ _ _ _)
   | (with_reducible exact spec_l3Text.mono _ _ _ _ _)
   | (with_reducible exact LeO.refl _)
   | (with_reducible exact LeO.none _)
   | (with_reducible refine LeO.ite ?_ ?_)
   | (with_reducible refine LeO.bind ?_ (fun _ => ?_))
   | exact ih0 _ _ _ _ _ _ _
   | exact ih1 _ _ _ _ _ _
   | exact ih2 _ _ _ _ _ _ _ _
   | exact ih3 _ _ _ _ _ _ _ _ _ _
   | exact spec_l1Split.mono _ _ _
   | exact spec_l3Good.mono _ _ _ _ _
   | exact spec_l3Text.mono _ _ _ _ _
   | exact LeO.none _
   | refine LeO.ite ?_ ?_
   | refine LeO.bind ?_ (fun _ => ?_)
theorem spec_l3Parse.mono : ∀ a0 k, LeO (spec_l3Parse.f k a0) (spec_l3Parse.f (k + 1) a0) := by
 intro a0 k
 obtain ⟨ih0, ih1, ih2, ih3⟩ := spec_l3Parse.mono_l k
 unfold spec_l3Parse.f
 repeat' first
   | (with_reducible exact ih0 _ _ _ _ _ _ _)
   | (with_reducible exact ih1 _ _ _ _ _ _)
   | (with_reducible exact ih2 _ _ _ _ _ _ _ _)
   | (with_reducible exact ih3 _ _ _ _ _ _ _ _ _ _)
   | (with_reducible exact spec_l1Split.mono _ _ _)
   | (with_reducible exact spec_l3Good.mono _ _ _ _ _)
   | (with_reducible exact spec_l3Text.mono _ _ _ _ _)
   | (with_reducible exact LeO.refl _)
   | (with_reducible exact LeO.none _)
   | (with_reducible refine LeO.ite ?_ ?_)
   | (with_reducible refine LeO.bind ?_ (fun _ => ?_))
   | exact ih0 _ _ _ _ _ _ _
   | exact ih1 _ _ _ _ _ _
   | exact ih2 _ _ _ _ _ _ _ _
   | exact ih3 _ _ _ _ _ _ _ _ _ _
   | exact spec_l1Split.mono _ _ _
   | exact spec_l3Good.mono _ _ _ _ _
   | exact spec_l3Text.mono _ _ _ _ _
   | exact LeO.none _
   | refine LeO.ite ?_ ?_
   | refine LeO.bind ?_ (fun _ => ?_)
set_option maxRecDepth 100000 in
theorem spec_l3Parse.L0 {P : Prop} (h : P := by
  go_wp2_with (first | ((with_reducible refine gate_store (t := 3) (p := 70) rfl ?_); refine store_event (t := 3) (p := 70) (v := ?vo_w41) (w1 := (wr.setCell ⟨go39, (x8_3 : Int).toNat, none⟩ (.int .i64 x9_4))) ?hg ?ho ?hn ?hr ?_; (case ho => rfl); (case hg => rfl); (case hn => rfl); (case hr => first | (go_simp; done) | (go_simp; rfl)); intro w41 hw; have hg : wr.grownBy w41 (some go39) := (by rw [hw]; exact HP40.2); have hp_ : Kd.R (Kd.int .i64) 3 w41 w.heap.size (fun _ => True) (.slice (some ⟨go39, 0, none⟩) x7_3.length co39) y237 := (by rw [hw, Ny237.out]; exact HP40.1); clear HP40; replace HO_6 := Aside0.mk (Kd.R_over' (v := (.slice (some ⟨go39, 0, none⟩) x7_3.length co39)) au148 (Kd.R_typed HO_7.out) (by decide) hg); replace BK226 := Aside0.mk (blk_grown (g := gb226) (o := .cells #[.int .i64 0, .int .i64 0, .int .i64 0, .bool false] 33 (0, 0)) au143 hg (Kd.R_ne HO_7.out BK226.out (by decide))); replace BK227 := Aside0.mk (blk_grown (g := gb227) (o := .cells #[.int .i64 0, .int .i64 0, .int .i64 0, .bool x228003_15] 33 (0, 0)) au144 hg (Kd.R_ne HO_7.out BK227.out (by decide))); replace HO_7 := Aside0.mk (hp_); replace HB := Aside0.mk ((by rw [hw]; exact below_set (HB.out) GB39.out : Below w.heap.size w w41)); clear hg hw hp_))
  go_roundg k4
  case measure => have := HJ7.out; have := HJ15.out; have := HK3.out; have := HK4.out; omega
  case rel => first | (exact ⟨(y237), (wrap64 (x8_3 + 1)), au153, H', ⟨by have := HJ7.out; have := HJ15.out; have := HK3.out; have := HK4.out; omega⟩, ⟨by (with_reducible repeat (first | apply Kd.R_alloc | apply Kd.R_drewN | apply Kd.R_drew)); exact HO_6.out⟩, ⟨by (with_reducible repeat (first | apply Kd.R_alloc | apply Kd.R_drewN | apply Kd.R_drew)); exact HO_7.out⟩, ⟨by (with_reducible repeat (first | refine blk_drewN ?_ _ | refine blk_drew ?_ | refine blk_alloc ?_ _)); exact BK226.out⟩, ⟨by (with_reducible repeat (first | refine blk_drewN ?_ _ | refine blk_drew ?_ | refine blk_alloc ?_ _)); exact BK227.out⟩, ⟨by repeat (first | (with_reducible first | exact HB.out | apply below_alloc | apply pw_below_drewN | apply below_drew1 | refine below_set ?_ GE226.out | refine below_set ?_ GE227.out) | exact HB.out)⟩⟩) | (exact ⟨(wrap64 ((wrap64 ((wrap64 (10 * x9_4)) + (wrap64 (bt (rdOf ByteArray.empty t228 x8_3) x10_4)))) - 48)), (wrap64 (x10_4 + 1)), au153, au153, H', ⟨by have := HJ7.out; have := HJ15.out; have := HK3.out; have := HK4.out; omega⟩, ⟨by (with_reducible repeat (first | apply Kd.R_alloc | apply Kd.R_drewN | apply Kd.R_drew)); exact HO_6.out⟩, ⟨by (with_reducible repeat (first | apply Kd.R_alloc | apply Kd.R_drewN | apply Kd.R_drew)); exact HO_7.out⟩, ⟨by (with_reducible repeat (first | refine blk_drewN ?_ _ | refine blk_drew ?_ | refine blk_alloc ?_ _)); exact BK226.out⟩, ⟨by (with_reducible repeat (first | refine blk_drewN ?_ _ | refine blk_drew ?_ | refine blk_alloc ?_ _)); exact BK227.out⟩, ⟨by repeat (first | (with_reducible first | exact HB.out | apply below_alloc | apply pw_below_drewN | apply below_drew1 | refine below_set ?_ GE226.out | refine below_set ?_ GE227.out) | exact HB.out)⟩⟩)) : P := h
set_option maxRecDepth 100000 in
theorem spec_l3Parse.L1 {P : Prop} (h : P := by
  go_wp2
  go_meet
  case rel => first | (exact ⟨_, (((bt a0 0) == 99)), au153, H', ⟨by first | omega | exact Nat.le_refl _⟩, ⟨by (with_reducible repeat (first | refine blk_drewN ?_ _ | refine blk_drew ?_ | refine blk_alloc ?_ _)); refine blk_far ?_ NB226_227.out _; (with_reducible repeat (first | refine blk_drewN ?_ _ | refine blk_drew ?_ | refine blk_alloc ?_ _)); refine blk_far ?_ NB226_227.out _; (with_reducible repeat (first | refine blk_drewN ?_ _ | refine blk_drew ?_ | refine blk_alloc ?_ _)); refine blk_far ?_ NB226_227.out _; (with_reducible repeat (first | refine blk_drewN ?_ _ | refine blk_drew ?_ | refine blk_alloc ?_ _)); refine blk_far ?_ NB226_227.out _; (with_reducible repeat (first | refine blk_drewN ?_ _ | refine blk_drew ?_ | refine blk_alloc ?_ _)); exact BK226.out⟩, ⟨by (with_reducible repeat (first | refine blk_drewN ?_ _ | refine blk_drew ?_ | refine blk_alloc ?_ _)); refine blk_put (cs := #[.int .i64 0, .int .i64 0, .int .i64 0, .bool false]) ?_ 3 _ rfl; (with_reducible repeat (first | refine blk_drewN ?_ _ | refine blk_drew ?_ | refine blk_alloc ?_ _)); refine blk_put (cs := #[.int .i64 0, .int .i64 0, .int .i64 0, .bool false]) ?_ 2 _ rfl; (with_reducible repeat (first | refine blk_drewN ?_ _ | refine blk_drew ?_ | refine blk_alloc ?_ _)); refine blk_put (cs := #[.int .i64 0, .int .i64 0, .int .i64 0, .bool false]) ?_ 1 _ rfl; (with_reducible repeat (first | refine blk_drewN ?_ _ | refine blk_drew ?_ | refine blk_alloc ?_ _)); refine blk_put (cs := #[.int .i64 0, .int .i64 0, .int .i64 0, .bool false]) ?_ 0 _ rfl; (with_reducible repeat (first | refine blk_drewN ?_ _ | refine blk_drew ?_ | refine blk_alloc ?_ _)); exact BK227.out⟩, ⟨by repeat (first | (with_reducible first | exact HB.out | apply below_alloc | apply pw_below_drewN | apply below_drew1 | refine below_set ?_ GE226.out | refine below_set ?_ GE227.out) | exact HB.out)⟩⟩) | (exact ⟨_, (false), au153, H', ⟨by first | omega | exact Nat.le_refl _⟩, ⟨by (with_reducible repeat (first | refine blk_drewN ?_ _ | refine blk_drew ?_ | refine blk_alloc ?_ _)); refine blk_far ?_ NB226_227.out _; (with_reducible repeat (first | refine blk_drewN ?_ _ | refine blk_drew ?_ | refine blk_alloc ?_ _)); refine blk_far ?_ NB226_227.out _; (with_reducible repeat (first | refine blk_drewN ?_ _ | refine blk_drew ?_ | refine blk_alloc ?_ _)); refine blk_far ?_ NB226_227.out _; (with_reducible repeat (first | refine blk_drewN ?_ _ | refine blk_drew ?_ | refine blk_alloc ?_ _)); refine blk_far ?_ NB226_227.out _; (with_reducible repeat (first | refine blk_drewN ?_ _ | refine blk_drew ?_ | refine blk_alloc ?_ _)); exact BK226.out⟩, ⟨by (with_reducible repeat (first | refine blk_drewN ?_ _ | refine blk_drew ?_ | refine blk_alloc ?_ _)); refine blk_put (cs := #[.int .i64 0, .int .i64 0, .int .i64 0, .bool false]) ?_ 3 _ rfl; (with_reducible repeat (first | refine blk_drewN ?_ _ | refine blk_drew ?_ | refine blk_alloc ?_ _)); refine blk_put (cs := #[.int .i64 0, .int .i64 0, .int .i64 0, .bool false]) ?_ 2 _ rfl; (with_reducible repeat (first | refine blk_drewN ?_ _ | refine blk_drew ?_ | refine blk_alloc ?_ _)); refine blk_put (cs := #[.int .i64 0, .int .i64 0, .int .i64 0, .bool false]) ?_ 1 _ rfl; (with_reducible repeat (first | refine blk_drewN ?_ _ | refine blk_drew ?_ | refine blk_alloc ?_ _)); refine blk_put (cs := #[.int .i64 0, .int .i64 0, .int .i64 0, .bool false]) ?_ 0 _ rfl; (with_reducible repeat (first | refine blk_drewN ?_ _ | refine blk_drew ?_ | refine blk_alloc ?_ _)); exact BK227.out⟩, ⟨by repeat (first | (with_reducible first | exact HB.out | apply below_alloc | apply pw_below_drewN | apply below_drew1 | refine below_set ?_ GE226.out | refine below_set ?_ GE227.out) | exact HB.out)⟩⟩) | (exact ⟨_, (a0.extract 1 a0.size), (true), au153, H', ⟨by have := HJ7.out; first | omega | exact Nat.le_refl _⟩, ⟨by (with_reducible repeat (first | refine blk_drewN ?_ _ | refine blk_drew ?_ | refine blk_alloc ?_ _)); refine blk_far ?_ NB226_227.out _; (with_reducible repeat (first | refine blk_drewN ?_ _ | refine blk_drew ?_ | refine blk_alloc ?_ _)); exact BK226.out⟩, ⟨by (with_reducible repeat (first | refine blk_drewN ?_ _ | refine blk_drew ?_ | refine blk_alloc ?_ _)); refine blk_put (cs := #[.int .i64 0, .int .i64 0, .int .i64 0, .bool false]) ?_ 3 _ rfl; (with_reducible repeat (first | refine blk_drewN ?_ _ | refine blk_drew ?_ | refine blk_alloc ?_ _)); exact BK227.out⟩, ⟨by repeat (first | (with_reducible first | exact HB.out | apply below_alloc | apply pw_below_drewN | apply below_drew1 | refine below_set ?_ GE226.out | refine below_set ?_ GE227.out) | exact HB.out)⟩⟩) | (exact ⟨_, (a0), (false), au153, H', ⟨by have := HJ7.out; first | omega | exact Nat.le_refl _⟩, ⟨by (with_reducible repeat (first | refine blk_drewN ?_ _ | refine blk_drew ?_ | refine blk_alloc ?_ _)); exact BK226.out⟩, ⟨by (with_reducible repeat (first | refine blk_drewN ?_ _ | refine blk_drew ?_ | refine blk_alloc ?_ _)); exact BK227.out⟩, ⟨by repeat (first | (with_reducible first | exact HB.out | apply below_alloc | apply pw_below_drewN | apply below_drew1 | refine below_set ?_ GE226.out | refine below_set ?_ GE227.out) | exact HB.out)⟩⟩)) : P := h
set_option maxHeartbeats 8000000 in
set_option maxRecDepth 100000 in
theorem spec_l3Parse.calls (k : Nat) (a0 : ByteArray) (r1 : Int) (r2 : Int) (r3 : Int) (r4 : Bool) (r5 : Bool) (w : World) (h : spec_l3Parse.f k a0 = some (r1, r2, r3, r4, r5)) :
  Calls Tryd.prog 46 #[.string a0] w fun e w' => e = .returned (.tuple #[.agg #[.int .i64 r1, .int .i64 r2, .int .i64 r3, .bool r4], .bool r5]) ∧ Below w.heap.size w w' := by
 have hu33 := Tryd.underlying33
 have HB := Aside0.mk (Below.refl w.heap.size w)
 have H : (if a0.toList = ([117, 110, 107, 110, 111, 119, 110] : List UInt8) then (some (0, 0, 0, false, true)) else (if a0.toList = ([] : List UInt8) then (spec_l3Parse.j0 k a0 a0 false 0 0 0 false) else (if 0 < (a0.size : Int) then (spec_l3Parse.j0 k a0 a0 ((bt a0 0) == 99) 0 0 0 false) else (none)))) = some (r1, r2, r3, r4, r5) := h
 clear h
 by_cases c2 : a0.toList = ([117, 110, 107, 110, 111, 119, 110] : List UInt8)
 ·
  rw [if_pos c2] at H
  have c2b0 : (a0.toList == ([117, 110, 107, 110, 111, 119, 110] : List UInt8)) = true := beq_iff_eq.mpr c2
  have c2b1 : (a0.toList != ([117, 110, 107, 110, 111, 119, 110] : List UInt8)) = false := bne_eq_false_iff_eq.mpr c2
  clear c2
  simp only [Option.some.injEq, Prod.mk.injEq] at H
  obtain ⟨rfl, rfl, rfl, rfl, rfl⟩ := H
  go_enter Tryd.func46, Tryd.ntmps46
  go_wp2_with (first | ((with_reducible refine gate_dst (N := 2) rfl ?_); (try (refine gate_guard (by rfl) ?_; dsimp only)); refine box_event ?hg (N := 2) ?hd (cs := #[.int .i64 0, .int .i64 0, .int .i64 0, .bool false]) (t := 33) ?hr ?_; (case hd => rfl); (case hg => rfl); (case hr => first | (go_simp; done) | (go_simp; rfl)); intro gb226 hg w3 hbox hb; have BK226 := Aside0.mk (hbox); have GW226 := Aside0.mk (bsz hg au101); have GE226 := Aside0.mk (bsz hg au101); replace HB := Aside0.mk (below_step au101 hb); clear hb hbox hg) | ((with_reducible refine gate_dst (N := 4) rfl ?_); (try (refine gate_guard (by rfl) ?_; dsimp only)); refine box_event ?hg (N := 4) ?hd (cs := #[.int .i64 0, .int .i64 0, .int .i64 0, .bool false]) (t := 33) ?hr ?_; (case hd => rfl); (case hg => rfl); (case hr => first | (go_simp; done) | (go_simp; rfl)); intro gb227 hg w4 hbox hb; have BK227 := Aside0.mk (hbox); have GW227 := Aside0.mk (bsz hg au98); have GE227 := Aside0.mk (bsz hg au98); replace HB := Aside0.mk (below_step au98 hb); have NB226_227 := Aside0.mk (bne (g := gb226) hg au143); have NB227_226 := Aside0.mk (ben (g := gb226) hg au143); replace BK226 := Aside0.mk (blk_below (g := gb226) au143 hb); clear hb hbox hg; have hnb5 := NB227_226.out; have hnc5 := NB226_227.out; obtain ⟨hcz6_0, hcz6_1, hcz6_2, hcz6_3, hfz6_0, hfz6_1, hfz6_2, hfz6_3⟩ := blkc4 BK227.out; obtain ⟨hcz7_0, hcz7_1, hcz7_2, hcz7_3, hfz7_0, hfz7_1, hfz7_2, hfz7_3⟩ := blkc4 BK226.out))
  refine bodyPost_ret (results_ct rfl _ _ gb226 33 #[.int .i64 0, .int .i64 0, .int .i64 0, .bool false] (0, 0) _ rfl (by (with_reducible repeat (first | refine blk_drewN ?_ _ | refine blk_drew ?_ | refine blk_alloc ?_ _)); refine blk_put (cs := #[.int .i64 0, .int .i64 0, .int .i64 0, .bool false]) ?_ 3 _ rfl; (with_reducible repeat (first | refine blk_drewN ?_ _ | refine blk_drew ?_ | refine blk_alloc ?_ _)); refine blk_put (cs := #[.int .i64 0, .int .i64 0, .int .i64 0, .bool false]) ?_ 2 _ rfl; (with_reducible repeat (first | refine blk_drewN ?_ _ | refine blk_drew ?_ | refine blk_alloc ?_ _)); refine blk_put (cs := #[.int .i64 0, .int .i64 0, .int .i64 0, .bool false]) ?_ 1 _ rfl; (with_reducible repeat (first | refine blk_drewN ?_ _ | refine blk_drew ?_ | refine blk_alloc ?_ _)); refine blk_put (cs := #[.int .i64 0, .int .i64 0, .int .i64 0, .bool false]) ?_ 0 _ rfl; (with_reducible repeat (first | refine blk_drewN ?_ _ | refine blk_drew ?_ | refine blk_alloc ?_ _)); refine blk_far ?_ NB226_227.out _; (with_reducible repeat (first | refine blk_drewN ?_ _ | refine blk_drew ?_ | refine blk_alloc ?_ _)); refine blk_far ?_ NB226_227.out _; (with_reducible repeat (first | refine blk_drewN ?_ _ | refine blk_drew ?_ | refine blk_alloc ?_ _)); refine blk_far ?_ NB226_227.out _; (with_reducible repeat (first | refine blk_drewN ?_ _ | refine blk_drew ?_ | refine blk_alloc ?_ _)); refine blk_far ?_ NB226_227.out _; (with_reducible repeat (first | refine blk_drewN ?_ _ | refine blk_drew ?_ | refine blk_alloc ?_ _)); exact BK226.out) Tryd.underlying33 rfl (by kernel_rfl)) rfl ?_
  exact ax19
 ·
  rw [if_neg c2] at H
  have c2b0 : (a0.toList == ([117, 110, 107, 110, 111, 119, 110] : List UInt8)) = false := beq_eq_false_iff_ne.mpr c2
  have c2b1 : (a0.toList != ([117, 110, 107, 110, 111, 119, 110] : List UInt8)) = true := bne_iff_ne.mpr c2
  have HC8 := Aside0.mk H
  clear H
  go_enter Tryd.func46, Tryd.ntmps46
  go_upto_region 5 with (first | ((with_reducible refine gate_dst (N := 2) rfl ?_); (try (refine gate_guard (by rfl) ?_; dsimp only)); refine box_event ?hg (N := 2) ?hd (cs := #[.int .i64 0, .int .i64 0, .int .i64 0, .bool false]) (t := 33) ?hr ?_; (case hd => rfl); (case hg => rfl); (case hr => first | (go_simp; done) | (go_simp; rfl)); intro gb226 hg w9 hbox hb; have BK226 := Aside0.mk (hbox); have GW226 := Aside0.mk (bsz hg au101); have GE226 := Aside0.mk (bsz hg au101); replace HB := Aside0.mk (below_step au101 hb); clear hb hbox hg) | ((with_reducible refine gate_dst (N := 4) rfl ?_); (try (refine gate_guard (by rfl) ?_; dsimp only)); refine box_event ?hg (N := 4) ?hd (cs := #[.int .i64 0, .int .i64 0, .int .i64 0, .bool false]) (t := 33) ?hr ?_; (case hd => rfl); (case hg => rfl); (case hr => first | (go_simp; done) | (go_simp; rfl)); intro gb227 hg w10 hbox hb; have BK227 := Aside0.mk (hbox); have GW227 := Aside0.mk (bsz hg au98); have GE227 := Aside0.mk (bsz hg au98); replace HB := Aside0.mk (below_step au98 hb); have NB226_227 := Aside0.mk (bne (g := gb226) hg au143); have NB227_226 := Aside0.mk (ben (g := gb226) hg au143); replace BK226 := Aside0.mk (blk_below (g := gb226) au143 hb); clear hb hbox hg; have hnb11 := NB227_226.out; have hnc11 := NB226_227.out; obtain ⟨hcz12_0, hcz12_1, hcz12_2, hcz12_3, hfz12_0, hfz12_1, hfz12_2, hfz12_3⟩ := blkc4 BK227.out))
  (try simp only [Act.put, List.setIfInBounds_toArray, List.set_cons_zero, List.set_cons_succ])
  go_cut [22] (fun v22 wc => ∃ (kq : Nat) (x22_7 : Bool), v22 = .bool x22_7 ∧ Aside0 (spec_l3Parse.j0 kq a0 a0 x22_7 0 0 0 false = some (r1, r2, r3, r4, r5)) ∧ Aside0 (kq ≤ k) ∧ Aside0 (wc.heap[gb226]? = some (.cells #[.int .i64 0, .int .i64 0, .int .i64 0, .bool false] 33 (0, 0))) ∧ Aside0 (wc.heap[gb227]? = some (.cells #[.int .i64 0, .int .i64 0, .int .i64 0, .bool false] 33 (0, 0))) ∧ Aside0 (Below w.heap.size w wc))
  case first =>
   have H := HC8.out
   clear HC8
   by_cases c13 : a0.toList = ([] : List UInt8)
   ·
    rw [if_pos c13] at H
    have c13b0 : (a0.toList == ([] : List UInt8)) = true := beq_iff_eq.mpr c13
    have c13b1 : (a0.toList != ([] : List UInt8)) = false := bne_eq_false_iff_eq.mpr c13
    clear c13
    (first | rw [c13b0] | (simp only [i64_w, i32_w]; rw [c13b0]) | skip)
    have H' := Aside0.mk H
    clear H
    exact spec_l3Parse.L1
   ·
    rw [if_neg c13] at H
    have c13b0 : (a0.toList == ([] : List UInt8)) = false := beq_eq_false_iff_ne.mpr c13
    have c13b1 : (a0.toList != ([] : List UInt8)) = true := bne_iff_ne.mpr c13
    (first | rw [c13b0] | (simp only [i64_w, i32_w]; rw [c13b0]) | skip)
    by_cases c14 : 0 < (a0.size : Int)
    ·
     rw [if_pos c14] at H
     have c14b0 : decide (0 < (a0.size : Int)) = true := decide_eq_true c14
     have c14b1 : decide (0 < a0.size) = true := decide_eq_true (by omega)
     clear c14
     have H' := Aside0.mk H
     clear H
     have p15 : 0 ≤ (0 : Int) := (by omega)
     have q15 : 0 < a0.size := (by have : (0 : Int) < (a0.size : Int) := of_decide_eq_true au152; omega)
     have hx15 : ∀ h : 0 < a0.size, ((a0[0]'h).toNat : Int) = bt a0 0 := bt_at a0 0
     clear p15
     have qi15 : (0 < (a0.size : Int)) = True := eq_true (of_decide_eq_true au152)
     replace q15 := eq_true q15
     exact spec_l3Parse.L1
    ·
     rw [if_neg c14] at H
     exact absurd H (by simp)
  case rest =>
   clear HC8
   try clear c1
   try clear p1
   try clear q1
   try clear hx1
   try clear qi1
   try clear c2
   try clear c2b0
   try clear c2b1
   try clear p2
   try clear c4
   try clear c5
   try clear c11
   try clear c13
   try clear c13b0
   try clear c13b1
   try clear c14
   try clear c14b0
   try clear c14b1
   try clear p15
   try clear q15
   try clear hx15
   try clear qi15
   try clear hcz12_0
   try clear hcz12_1
   try clear hcz12_2
   try clear hcz12_3
   try clear hcz6_0
   try clear hcz6_1
   try clear hcz6_2
   try clear hcz6_3
   try clear hcz7_0
   try clear hcz7_1
   try clear hcz7_2
   try clear hcz7_3
   try clear hfz12_0
   try clear hfz12_1
   try clear hfz12_2
   try clear hfz12_3
   try clear hfz6_0
   try clear hfz6_1
   try clear hfz6_2
   try clear hfz6_3
   try clear hfz7_0
   try clear hfz7_1
   try clear hfz7_2
   try clear hfz7_3
   try clear p15
   try clear q15
   obtain ⟨kq, x22_7, rfl, HA, HJ7, BK226, BK227, HB⟩ := hcut
   cases kq with
   | zero => exact absurd HA.out (by simp [spec_l3Parse.j0])
   | succ kj7 =>
    have H := HA.out
    clear HA
    simp only [spec_l3Parse.j0] at H
    have HC16 := Aside0.mk H
    clear H
    go_upto_if 22 with (fail)
    go_cut [5] (fun v5 wc => ∃ (kq : Nat) (x5_15 : ByteArray) (x228003_15 : Bool), v5 = .string x5_15 ∧ Aside0 (spec_l3Parse.j1 kq a0 x5_15 0 0 0 x228003_15 = some (r1, r2, r3, r4, r5)) ∧ Aside0 (kq ≤ kj7) ∧ Aside0 (wc.heap[gb226]? = some (.cells #[.int .i64 0, .int .i64 0, .int .i64 0, .bool false] 33 (0, 0))) ∧ Aside0 (wc.heap[gb227]? = some (.cells #[.int .i64 0, .int .i64 0, .int .i64 0, .bool x228003_15] 33 (0, 0))) ∧ Aside0 (Below w.heap.size w wc))
    case first =>
     have H := HC16.out
     clear HC16
     by_cases c17 : x22_7 = true
     ·
      subst c17
      replace H := (if_pos rfl).symm.trans H
      by_cases c18 : 1 ≤ (a0.size : Int)
      ·
       rw [if_pos c18] at H
       have c18b0 := eq_true c18
       have c18b1 : decide (1 ≤ (a0.size : Int)) = true := decide_eq_true c18
       clear c18
       have H' := Aside0.mk H
       clear H
       have hnb19 := NB227_226.out
       have hnc19 := NB226_227.out
       obtain ⟨hcz20_0, hcz20_1, hcz20_2, hcz20_3, hfz20_0, hfz20_1, hfz20_2, hfz20_3⟩ := blkc4 BK227.out
       exact spec_l3Parse.L1
      ·
       rw [if_neg c18] at H
       exact absurd H (by simp)
     ·
      replace c17 := Bool.eq_false_iff.mpr c17
      subst c17
      replace H := (if_neg (show ¬ (false = true) by decide)).symm.trans H
      have H' := Aside0.mk H
      clear H
      exact spec_l3Parse.L1
    case rest =>
     clear HC16
     try clear c1
     try clear p1
     try clear q1
     try clear hx1
     try clear qi1
     try clear c2
     try clear c2b0
     try clear c2b1
     try clear p2
     try clear c4
     try clear c5
     try clear c11
     try clear c13
     try clear c13b0
     try clear c13b1
     try clear c14
     try clear c14b0
     try clear c14b1
     try clear p15
     try clear q15
     try clear hx15
     try clear qi15
     try clear c17
     try clear c18
     try clear c18b0
     try clear c18b1
     try clear c19
     try clear hcz12_0
     try clear hcz12_1
     try clear hcz12_2
     try clear hcz12_3
     try clear hcz20_0
     try clear hcz20_1
     try clear hcz20_2
     try clear hcz20_3
     try clear hcz6_0
     try clear hcz6_1
     try clear hcz6_2
     try clear hcz6_3
     try clear hcz7_0
     try clear hcz7_1
     try clear hcz7_2
     try clear hcz7_3
     try clear hfz12_0
     try clear hfz12_1
     try clear hfz12_2
     try clear hfz12_3
     try clear hfz20_0
     try clear hfz20_1
     try clear hfz20_2
     try clear hfz20_3
     try clear hfz6_0
     try clear hfz6_1
     try clear hfz6_2
     try clear hfz6_3
     try clear hfz7_0
     try clear hfz7_1
     try clear hfz7_2
     try clear hfz7_3
     try clear p1
     try clear p15
     try clear p2
     try clear q1
     try clear q15
     obtain ⟨kq, x5_15, x228003_15, rfl, HA, HJ15, BK226, BK227, HB⟩ := hcut
     cases kq with
     | zero => exact absurd HA.out (by simp [spec_l3Parse.j1])
     | succ kj15 =>
      have H := HA.out
      clear HA
      simp only [spec_l3Parse.j1] at H
      replace H := Option.bind_eq_some_iff.mp H
      obtain ⟨t228, A210, H⟩ := H
      try dsimp only at H
      have A21 := Aside0.mk A210
      clear A210
      by_cases c22 : (t228.length : Int) > 3
      ·
       rw [if_pos c22] at H
       have c22b0 : decide (3 < (t228.length : Int)) = true := decide_eq_true c22
       have c22b1 : decide (3 < t228.length) = true := decide_eq_true (by omega)
       clear c22
       simp only [Option.some.injEq, Prod.mk.injEq] at H
       obtain ⟨rfl, rfl, rfl, rfl, rfl⟩ := H
       go_wp2_with (first | ((with_reducible refine gate_callee (f := 68) rfl ?_); refine goesL_ (some 27) rfl rfl Tryd.func68 (by kernel_rfl) rfl #[.string x5_15, .int .u8 45] rfl au100 ?_; (with_reducible refine (spec_l1Split.calls kj15 x5_15 45 t228 _ A21.out).mono ?_); rintro e w23 ⟨v229, rfl, ho0, hb⟩; refine ⟨_, rfl, ?_⟩; have HO230 := Aside0.mk (Kd.R_lower ho0 (below_size au76)); replace BK226 := Aside0.mk (blk_below (g := gb226) au143 hb); replace BK227 := Aside0.mk (blk_below (g := gb227) au144 hb); replace HB := Aside0.mk (below_step au76 hb); (try clear hb); (try clear ho0); obtain ⟨Ao24, co24, eo24⟩ := Kd.R_slice HO230.out; subst eo24; have hnb25 := NB226_227.out; have hnc25 := NB227_226.out; obtain ⟨hcz26_0, hcz26_1, hcz26_2, hcz26_3, hfz26_0, hfz26_1, hfz26_2, hfz26_3⟩ := blkc4 BK226.out))
       refine bodyPost_ret (results_ct rfl _ _ gb226 33 #[.int .i64 0, .int .i64 0, .int .i64 0, .bool false] (0, 0) _ rfl au23 Tryd.underlying33 rfl (by kernel_rfl)) rfl ?_
       exact ax19
      ·
       rw [if_neg c22] at H
       have c22b0 : decide (3 < (t228.length : Int)) = false := decide_eq_false c22
       have c22b1 : decide (3 < t228.length) = false := decide_eq_false (by omega)
       clear c22
       obtain ⟨y231, hy231⟩ : ∃ y_ : List Int, y_ = (([0, 0, 0] : List Int)) := ⟨_, rfl⟩
       replace H : (spec_l3Parse.l0 kj15 a0 t228 y231 0 0 0 0 x228003_15) = some (r1, r2, r3, r4, r5) := by first | (rw [hy231]; with_reducible exact H) | (have H2_ := (Option.bind_some _ _).symm.trans H; rw [hy231]; with_reducible exact H2_) | (have H2_ := (Option.bind_some _ _).symm.trans H; with_reducible exact H2_) | with_reducible exact H | (rw [hy231]; exact H) | exact H
       have Ny231 := Aside0.mk hy231
       clear hy231
       have H' := Aside0.mk H
       clear H
       go_wp2_with (first | ((with_reducible refine gate_callee (f := 68) rfl ?_); refine goesL_ (some 27) rfl rfl Tryd.func68 (by kernel_rfl) rfl #[.string x5_15, .int .u8 45] rfl au100 ?_; (with_reducible refine (spec_l1Split.calls kj15 x5_15 45 t228 _ A21.out).mono ?_); rintro e w27 ⟨v229, rfl, ho0, hb⟩; refine ⟨_, rfl, ?_⟩; have HO230 := Aside0.mk (Kd.R_lower ho0 (below_size au76)); replace BK226 := Aside0.mk (blk_below (g := gb226) au143 hb); replace BK227 := Aside0.mk (blk_below (g := gb227) au144 hb); replace HB := Aside0.mk (below_step au76 hb); (try clear hb); (try clear ho0); obtain ⟨Ao28, co28, eo28⟩ := Kd.R_slice HO230.out; subst eo28) | ((with_reducible refine gate_dst (N := 32) rfl ?_); (try (refine gate_guard (by rfl) ?_; dsimp only)); refine Kd.R_lit (Kd.int .i64) _ 3 ?hg (N := 32) ?hd (xs := ([0, 0, 0] : List Int)) (inner := [.int .i64 0, .int .i64 0, .int .i64 0]) (ok := fun _ => True) (okp := fun _ => True) ?hr ?hp (fun _ hk => hk) trivial (Below.refl _ _) (Nat.le_refl _) (by simp) ?_; (case hd => rfl); (case hg => rfl); (case hr => first | (go_simp; done) | (go_simp; rfl)); (case hp => exact (Reps.one (show Kd.M (Kd.int .i64) _ _ _ 0 [.int .i64 0] from rfl) (Reps.one (show Kd.M (Kd.int .i64) _ _ _ 0 [.int .i64 0] from rfl) (Reps.one (show Kd.M (Kd.int .i64) _ _ _ 0 [.int .i64 0] from rfl) (Reps.none _ _))))); intro v232 w29 ho30 hb hg_ hnew_; clear hg_ hnew_; (first | rw [← Ny231.out] at ho30 | (simp only [Int.reduceToNat] at ho30; rw [← Ny231.out] at ho30)); replace HO230 := Aside0.mk (Kd.R_below (by (with_reducible repeat (first | apply Kd.R_alloc | apply Kd.R_drewN | apply Kd.R_drew)); exact HO230.out) hb); have HO233 := Aside0.mk (Kd.R_lower ho30 (below_size au76)); replace BK226 := Aside0.mk (blk_below (g := gb226) au143 hb); replace BK227 := Aside0.mk (blk_below (g := gb227) au144 hb); replace HB := Aside0.mk (below_step au76 hb); clear hb ho30))
       go_loopg [8] kj15 (fun kq v8 w' => ∃ (x7_3 : List Int) (x8_3 : Int), v8 = .int .i64 x8_3 ∧ Aside0 (spec_l3Parse.l0 kq a0 t228 x7_3 x8_3 0 0 0 x228003_15 = some (r1, r2, r3, r4, r5)) ∧ Aside0 (kq ≤ kj15) ∧ Aside0 (Kd.R Kd.string 9 w' w.heap.size (fun _ => True) (.slice Ao28 t228.length co28) t228) ∧ Aside0 (Kd.R (Kd.int .i64) 3 w' w.heap.size (fun _ => True) v232 x7_3) ∧ Aside0 (w'.heap[gb226]? = some (.cells #[.int .i64 0, .int .i64 0, .int .i64 0, .bool false] 33 (0, 0))) ∧ Aside0 (w'.heap[gb227]? = some (.cells #[.int .i64 0, .int .i64 0, .int .i64 0, .bool x228003_15] 33 (0, 0))) ∧ Aside0 (Below w.heap.size w w'))
       case atStart => exact ⟨(y231), (0), au153, H', ⟨Nat.le_refl _⟩, ⟨by (with_reducible repeat (first | apply Kd.R_alloc | apply Kd.R_drewN | apply Kd.R_drew)); exact HO230.out⟩, ⟨by (with_reducible repeat (first | apply Kd.R_alloc | apply Kd.R_drewN | apply Kd.R_drew)); exact HO233.out⟩, ⟨by (with_reducible repeat (first | refine blk_drewN ?_ _ | refine blk_drew ?_ | refine blk_alloc ?_ _)); exact BK226.out⟩, ⟨by (with_reducible repeat (first | refine blk_drewN ?_ _ | refine blk_drew ?_ | refine blk_alloc ?_ _)); exact BK227.out⟩, ⟨by repeat (first | (with_reducible first | exact HB.out | apply below_alloc | apply pw_below_drewN | apply below_drew1 | refine below_set ?_ GE226.out | refine below_set ?_ GE227.out) | exact HB.out)⟩⟩
       case round =>
        clear H'
        try clear c1
        try clear p1
        try clear q1
        try clear hx1
        try clear qi1
        try clear c2
        try clear c2b0
        try clear c2b1
        try clear p2
        try clear c4
        try clear c5
        try clear c6
        try clear c11
        try clear c13
        try clear c13b0
        try clear c13b1
        try clear c14
        try clear c14b0
        try clear c14b1
        try clear p15
        try clear q15
        try clear hx15
        try clear qi15
        try clear c17
        try clear c18
        try clear c18b0
        try clear c18b1
        try clear c19
        try clear c22
        try clear c22b0
        try clear c22b1
        try clear c25
        try clear hcz12_0
        try clear hcz12_1
        try clear hcz12_2
        try clear hcz12_3
        try clear hcz20_0
        try clear hcz20_1
        try clear hcz20_2
        try clear hcz20_3
        try clear hcz26_0
        try clear hcz26_1
        try clear hcz26_2
        try clear hcz26_3
        try clear hcz6_0
        try clear hcz6_1
        try clear hcz6_2
        try clear hcz6_3
        try clear hcz7_0
        try clear hcz7_1
        try clear hcz7_2
        try clear hcz7_3
        try clear hfz12_0
        try clear hfz12_1
        try clear hfz12_2
        try clear hfz12_3
        try clear hfz20_0
        try clear hfz20_1
        try clear hfz20_2
        try clear hfz20_3
        try clear hfz26_0
        try clear hfz26_1
        try clear hfz26_2
        try clear hfz26_3
        try clear hfz6_0
        try clear hfz6_1
        try clear hfz6_2
        try clear hfz6_3
        try clear hfz7_0
        try clear hfz7_1
        try clear hfz7_2
        try clear hfz7_3
        try clear p1
        try clear p15
        try clear p2
        try clear q1
        try clear q15
        obtain ⟨x7_3, x8_3, rfl, HA, HK3, HO_6, HO_7, BK226, BK227, HB⟩ := hrel
        cases gk with
        | zero => exact absurd HA.out (by simp [spec_l3Parse.l0])
        | succ k3 =>
         have H := HA.out
         clear HA
         simp only [spec_l3Parse.l0] at H
         by_cases c31 : x8_3 < (t228.length : Int)
         ·
          rw [if_pos c31] at H
          have c31b0 : decide (x8_3 < (t228.length : Int)) = true := decide_eq_true c31
          clear c31
          have H' := Aside0.mk H
          clear H
          go_wp2
          go_loopg [9, 10] k3 (fun kq v9 v10 w' => ∃ (x9_4 : Int) (x10_4 : Int), v9 = .int .i64 x9_4 ∧ v10 = .int .i64 x10_4 ∧ Aside0 (spec_l3Parse.l1 kq a0 t228 x7_3 x8_3 x9_4 x10_4 0 0 0 x228003_15 = some (r1, r2, r3, r4, r5)) ∧ Aside0 (kq ≤ k3) ∧ Aside0 (Kd.R Kd.string 9 w' w.heap.size (fun _ => True) (.slice Ao28 t228.length co28) t228) ∧ Aside0 (Kd.R (Kd.int .i64) 3 w' w.heap.size (fun _ => True) v232 x7_3) ∧ Aside0 (w'.heap[gb226]? = some (.cells #[.int .i64 0, .int .i64 0, .int .i64 0, .bool false] 33 (0, 0))) ∧ Aside0 (w'.heap[gb227]? = some (.cells #[.int .i64 0, .int .i64 0, .int .i64 0, .bool x228003_15] 33 (0, 0))) ∧ Aside0 (Below w.heap.size w w'))
          case atStart => exact ⟨(0), (0), au153, au153, H', ⟨Nat.le_refl _⟩, ⟨by (with_reducible repeat (first | apply Kd.R_alloc | apply Kd.R_drewN | apply Kd.R_drew)); exact HO_6.out⟩, ⟨by (with_reducible repeat (first | apply Kd.R_alloc | apply Kd.R_drewN | apply Kd.R_drew)); exact HO_7.out⟩, ⟨by (with_reducible repeat (first | refine blk_drewN ?_ _ | refine blk_drew ?_ | refine blk_alloc ?_ _)); exact BK226.out⟩, ⟨by (with_reducible repeat (first | refine blk_drewN ?_ _ | refine blk_drew ?_ | refine blk_alloc ?_ _)); exact BK227.out⟩, ⟨by repeat (first | (with_reducible first | exact HB.out | apply below_alloc | apply pw_below_drewN | apply below_drew1 | refine below_set ?_ GE226.out | refine below_set ?_ GE227.out) | exact HB.out)⟩⟩
          case round =>
           clear H'
           try clear c1
           try clear p1
           try clear q1
           try clear hx1
           try clear qi1
           try clear c2
           try clear c2b0
           try clear c2b1
           try clear p2
           try clear c3
           try clear c4
           try clear c5
           try clear c6
           try clear c11
           try clear c13
           try clear c13b0
           try clear c13b1
           try clear c14
           try clear c14b0
           try clear c14b1
           try clear p15
           try clear q15
           try clear hx15
           try clear qi15
           try clear c17
           try clear c18
           try clear c18b0
           try clear c18b1
           try clear c19
           try clear c22
           try clear c22b0
           try clear c22b1
           try clear c25
           try clear c31
           try clear c31b0
           try clear hcz12_0
           try clear hcz12_1
           try clear hcz12_2
           try clear hcz12_3
           try clear hcz20_0
           try clear hcz20_1
           try clear hcz20_2
           try clear hcz20_3
           try clear hcz26_0
           try clear hcz26_1
           try clear hcz26_2
           try clear hcz26_3
           try clear hcz6_0
           try clear hcz6_1
           try clear hcz6_2
           try clear hcz6_3
           try clear hcz7_0
           try clear hcz7_1
           try clear hcz7_2
           try clear hcz7_3
           try clear hfz12_0
           try clear hfz12_1
           try clear hfz12_2
           try clear hfz12_3
           try clear hfz20_0
           try clear hfz20_1
           try clear hfz20_2
           try clear hfz20_3
           try clear hfz26_0
           try clear hfz26_1
           try clear hfz26_2
           try clear hfz26_3
           try clear hfz6_0
           try clear hfz6_1
           try clear hfz6_2
           try clear hfz6_3
           try clear hfz7_0
           try clear hfz7_1
           try clear hfz7_2
           try clear hfz7_3
           try clear p1
           try clear p15
           try clear p2
           try clear q1
           try clear q15
           obtain ⟨x9_4, x10_4, rfl, rfl, HA, HK4, HO_6, HO_7, BK226, BK227, HB⟩ := hrel
           cases gk with
           | zero => exact absurd HA.out (by simp [spec_l3Parse.l1])
           | succ k4 =>
            have H := HA.out
            clear HA
            simp only [spec_l3Parse.l1] at H
            by_cases c32 : 0 ≤ x8_3
            ·
             rw [if_pos c32] at H
             have c32b0 : decide (0 ≤ x8_3) = true := decide_eq_true c32
             clear c32
             by_cases c33 : x8_3 < (t228.length : Int)
             ·
              rw [if_pos c33] at H
              have c33b0 : decide (x8_3 < (t228.length : Int)) = true := decide_eq_true c33
              clear c33
              by_cases c34 : x10_4 < ((rdOf ByteArray.empty t228 x8_3).size : Int)
              ·
               rw [if_pos c34] at H
               have c34b0 : decide (x10_4 < ((rdOf ByteArray.empty t228 x8_3).size : Int)) = true := decide_eq_true c34
               clear c34
               by_cases c35 : ((rdOf ByteArray.empty t228 x8_3).size : Int) ≤ 4
               ·
                rw [if_pos c35] at H
                have c35b0 : decide (((rdOf ByteArray.empty t228 x8_3).size : Int) ≤ 4) = true := decide_eq_true c35
                have c35b1 : decide ((rdOf ByteArray.empty t228 x8_3).size ≤ 4) = true := decide_eq_true (by omega)
                clear c35
                by_cases c36 : 0 ≤ x10_4
                ·
                 rw [if_pos c36] at H
                 have c36b0 : decide (0 ≤ x10_4) = true := decide_eq_true c36
                 clear c36
                 have H' := Aside0.mk H
                 clear H
                 have p234 : 0 ≤ (x8_3 : Int) := of_decide_eq_true au152
                 have q234 : x8_3 < (t228.length : Int) := of_decide_eq_true au152
                 obtain ⟨ad234, e234, hx234_0⟩ := Kd.at_string (Kd.R_reads' HO_6.out).2.2 x8_3 p234 q234
                 cases e234
                 replace p234 := eq_true p234
                 replace q234 := eq_true q234
                 have p235 : 0 ≤ (x8_3 : Int) := of_decide_eq_true au152
                 have q235 : x8_3 < (t228.length : Int) := of_decide_eq_true au152
                 obtain ⟨ad235, e235, hx235_0⟩ := Kd.at_string (Kd.R_reads' HO_6.out).2.2 x8_3 p235 q235
                 obtain rfl : ad234 = ad235 := (by injection e235)
                 replace p235 := eq_true p235
                 replace q235 := eq_true q235
                 have p236 : 0 ≤ (x8_3 : Int) := of_decide_eq_true au152
                 have q236 : x8_3 < (t228.length : Int) := of_decide_eq_true au152
                 obtain ⟨ad236, e236, hx236_0⟩ := Kd.at_string (Kd.R_reads' HO_6.out).2.2 x8_3 p236 q236
                 obtain rfl : ad234 = ad236 := (by injection e236)
                 replace p236 := eq_true p236
                 replace q236 := eq_true q236
                 have p37 : 0 ≤ (x10_4 : Int) := of_decide_eq_true au152
                 have q37 : x10_4 < ((rdOf ByteArray.empty t228 x8_3).size : Int) := of_decide_eq_true au152
                 have hx37 := bt_at (rdOf ByteArray.empty t228 x8_3) x10_4
                 replace p37 := eq_true p37
                 replace q37 := eq_true q37
                 exact spec_l3Parse.L0
                ·
                 rw [if_neg c36] at H
                 exact absurd H (by simp)
               ·
                rw [if_neg c35] at H
                have c35b0 : decide (((rdOf ByteArray.empty t228 x8_3).size : Int) ≤ 4) = false := decide_eq_false c35
                have c35b1 : decide ((rdOf ByteArray.empty t228 x8_3).size ≤ 4) = false := decide_eq_false (by omega)
                clear c35
                by_cases c38 : x8_3 < (x7_3.length : Int)
                ·
                 rw [if_pos c38] at H
                 have c38b0 : decide (x8_3 < (x7_3.length : Int)) = true := decide_eq_true c38
                 clear c38
                 obtain ⟨y237, hy237⟩ : ∃ y_ : List Int, y_ = (x7_3.set (x8_3 : Int).toNat x9_4) := ⟨_, rfl⟩
                 replace H : (spec_l3Parse.l0 k4 a0 t228 y237 (wrap64 (x8_3 + 1)) 0 0 0 x228003_15) = some (r1, r2, r3, r4, r5) := by first | (rw [hy237]; with_reducible exact H) | (have H2_ := (Option.bind_some _ _).symm.trans H; rw [hy237]; with_reducible exact H2_) | (have H2_ := (Option.bind_some _ _).symm.trans H; with_reducible exact H2_) | with_reducible exact H | (rw [hy237]; exact H) | exact H
                 have Ny237 := Aside0.mk hy237
                 clear hy237
                 have H' := Aside0.mk H
                 clear H
                 have p234 : 0 ≤ (x8_3 : Int) := of_decide_eq_true au152
                 have q234 : x8_3 < (t228.length : Int) := of_decide_eq_true au152
                 obtain ⟨ad234, e234, hx234_0⟩ := Kd.at_string (Kd.R_reads' HO_6.out).2.2 x8_3 p234 q234
                 cases e234
                 replace p234 := eq_true p234
                 replace q234 := eq_true q234
                 have p235 : 0 ≤ (x8_3 : Int) := of_decide_eq_true au152
                 have q235 : x8_3 < (t228.length : Int) := of_decide_eq_true au152
                 obtain ⟨ad235, e235, hx235_0⟩ := Kd.at_string (Kd.R_reads' HO_6.out).2.2 x8_3 p235 q235
                 obtain rfl : ad234 = ad235 := (by injection e235)
                 replace p235 := eq_true p235
                 replace q235 := eq_true q235
                 have p39 : 0 ≤ (x8_3 : Int) := of_decide_eq_true au152
                 have q39 : (x8_3 : Int) < ((x7_3.length : Int) : Int) := of_decide_eq_true au152
                 obtain ⟨go39, co39, eo39, gb39, gl39, cl39, HG39⟩ := Kd.R_form HO_7.out (by omega)
                 (first | cases eo39 | (injection eo39 with ea_ en_ ec_; (first | subst ea_ | (injection ea_ with ea_; subst ea_)); subst ec_; clear en_))
                 have GB39 := Aside0.mk gb39
                 have GG39 := Aside0.mk HG39
                 clear gb39 gl39 HG39
                 obtain ⟨hx39_0, hf39_0⟩ := Kd.R_celln 0 HO_7.out (x8_3 : Int) p39 q39
                 replace p39 := eq_true p39
                 replace q39 := eq_true q39
                 have HP40 := Kd.R_putg HO_7.out (x8_3 : Int) x9_4
                 exact spec_l3Parse.L0
                ·
                 rw [if_neg c38] at H
                 exact absurd H (by simp)
              ·
               rw [if_neg c34] at H
               have c34b0 : decide (x10_4 < ((rdOf ByteArray.empty t228 x8_3).size : Int)) = false := decide_eq_false c34
               clear c34
               by_cases c42 : x8_3 < (x7_3.length : Int)
               ·
                rw [if_pos c42] at H
                have c42b0 : decide (x8_3 < (x7_3.length : Int)) = true := decide_eq_true c42
                clear c42
                obtain ⟨y238, hy238⟩ : ∃ y_ : List Int, y_ = (x7_3.set (x8_3 : Int).toNat x9_4) := ⟨_, rfl⟩
                replace H : (spec_l3Parse.l0 k4 a0 t228 y238 (wrap64 (x8_3 + 1)) 0 0 0 x228003_15) = some (r1, r2, r3, r4, r5) := by first | (rw [hy238]; with_reducible exact H) | (have H2_ := (Option.bind_some _ _).symm.trans H; rw [hy238]; with_reducible exact H2_) | (have H2_ := (Option.bind_some _ _).symm.trans H; with_reducible exact H2_) | with_reducible exact H | (rw [hy238]; exact H) | exact H
                have Ny238 := Aside0.mk hy238
                clear hy238
                have H' := Aside0.mk H
                clear H
                have p234 : 0 ≤ (x8_3 : Int) := of_decide_eq_true au152
                have q234 : x8_3 < (t228.length : Int) := of_decide_eq_true au152
                obtain ⟨ad234, e234, hx234_0⟩ := Kd.at_string (Kd.R_reads' HO_6.out).2.2 x8_3 p234 q234
                cases e234
                replace p234 := eq_true p234
                replace q234 := eq_true q234
                have p43 : 0 ≤ (x8_3 : Int) := of_decide_eq_true au152
                have q43 : (x8_3 : Int) < ((x7_3.length : Int) : Int) := of_decide_eq_true au152
                obtain ⟨go43, co43, eo43, gb43, gl43, cl43, HG43⟩ := Kd.R_form HO_7.out (by omega)
                (first | cases eo43 | (injection eo43 with ea_ en_ ec_; (first | subst ea_ | (injection ea_ with ea_; subst ea_)); subst ec_; clear en_))
                have GB43 := Aside0.mk gb43
                have GG43 := Aside0.mk HG43
                clear gb43 gl43 HG43
                obtain ⟨hx43_0, hf43_0⟩ := Kd.R_celln 0 HO_7.out (x8_3 : Int) p43 q43
                replace p43 := eq_true p43
                replace q43 := eq_true q43
                have HP44 := Kd.R_putg HO_7.out (x8_3 : Int) x9_4
                go_wp2_with (first | ((with_reducible refine gate_store (t := 3) (p := 70) rfl ?_); refine store_event (t := 3) (p := 70) (v := ?vo_w45) (w1 := (wr.setCell ⟨go43, (x8_3 : Int).toNat, none⟩ (.int .i64 x9_4))) ?hg ?ho ?hn ?hr ?_; (case ho => rfl); (case hg => rfl); (case hn => rfl); (case hr => first | (go_simp; done) | (go_simp; rfl)); intro w45 hw; have hg : wr.grownBy w45 (some go43) := (by rw [hw]; exact HP44.2); have hp_ : Kd.R (Kd.int .i64) 3 w45 w.heap.size (fun _ => True) (.slice (some ⟨go43, 0, none⟩) x7_3.length co43) y238 := (by rw [hw, Ny238.out]; exact HP44.1); clear HP44; replace HO_6 := Aside0.mk (Kd.R_over' (v := (.slice (some ⟨go43, 0, none⟩) x7_3.length co43)) au148 (Kd.R_typed HO_7.out) (by decide) hg); replace BK226 := Aside0.mk (blk_grown (g := gb226) (o := .cells #[.int .i64 0, .int .i64 0, .int .i64 0, .bool false] 33 (0, 0)) au143 hg (Kd.R_ne HO_7.out BK226.out (by decide))); replace BK227 := Aside0.mk (blk_grown (g := gb227) (o := .cells #[.int .i64 0, .int .i64 0, .int .i64 0, .bool x228003_15] 33 (0, 0)) au144 hg (Kd.R_ne HO_7.out BK227.out (by decide))); replace HO_7 := Aside0.mk (hp_); replace HB := Aside0.mk ((by rw [hw]; exact below_set (HB.out) GB43.out : Below w.heap.size w w45)); clear hg hw hp_))
                go_roundg k4
                case measure => have := HJ7.out; have := HJ15.out; have := HK3.out; have := HK4.out; omega
                case rel => exact ⟨(y238), (wrap64 (x8_3 + 1)), au153, H', ⟨by have := HJ7.out; have := HJ15.out; have := HK3.out; have := HK4.out; omega⟩, ⟨by (with_reducible repeat (first | apply Kd.R_alloc | apply Kd.R_drewN | apply Kd.R_drew)); exact HO_6.out⟩, ⟨by (with_reducible repeat (first | apply Kd.R_alloc | apply Kd.R_drewN | apply Kd.R_drew)); exact HO_7.out⟩, ⟨by (with_reducible repeat (first | refine blk_drewN ?_ _ | refine blk_drew ?_ | refine blk_alloc ?_ _)); exact BK226.out⟩, ⟨by (with_reducible repeat (first | refine blk_drewN ?_ _ | refine blk_drew ?_ | refine blk_alloc ?_ _)); exact BK227.out⟩, ⟨by repeat (first | (with_reducible first | exact HB.out | apply below_alloc | apply pw_below_drewN | apply below_drew1 | refine below_set ?_ GE226.out | refine below_set ?_ GE227.out) | exact HB.out)⟩⟩
               ·
                rw [if_neg c42] at H
                exact absurd H (by simp)
             ·
              rw [if_neg c33] at H
              exact absurd H (by simp)
            ·
             rw [if_neg c32] at H
             exact absurd H (by simp)
         ·
          rw [if_neg c31] at H
          have c31b0 : decide (x8_3 < (t228.length : Int)) = false := decide_eq_false c31
          clear c31
          by_cases c46 : 0 < (x7_3.length : Int)
          ·
           rw [if_pos c46] at H
           have c46b0 : decide (0 < (x7_3.length : Int)) = true := decide_eq_true c46
           have c46b1 : decide (0 < x7_3.length) = true := decide_eq_true (by omega)
           clear c46
           by_cases c47 : 1 < (x7_3.length : Int)
           ·
            rw [if_pos c47] at H
            have c47b0 : decide (1 < (x7_3.length : Int)) = true := decide_eq_true c47
            have c47b1 : decide (1 < x7_3.length) = true := decide_eq_true (by omega)
            clear c47
            by_cases c48 : 2 < (x7_3.length : Int)
            ·
             rw [if_pos c48] at H
             have c48b0 : decide (2 < (x7_3.length : Int)) = true := decide_eq_true c48
             have c48b1 : decide (2 < x7_3.length) = true := decide_eq_true (by omega)
             clear c48
             by_cases c49 : (rd x7_3 0) = 0
             ·
              rw [if_pos c49] at H
              have c49b0 : ((rd x7_3 0) == 0) = true := beq_iff_eq.mpr c49
              have c49b1 : ((rd x7_3 0) != 0) = false := bne_eq_false_iff_eq.mpr c49
              clear c49
              simp only [Option.some.injEq, Prod.mk.injEq] at H
              obtain ⟨rfl, rfl, rfl, rfl, rfl⟩ := H
              obtain ⟨Ao50, co50, eo50⟩ := Kd.R_slice HO_7.out
              subst eo50
              have p239 : 0 ≤ (0 : Int) := (by omega)
              have q239 : 0 < (x7_3.length : Int) := of_decide_eq_true au152
              obtain ⟨ad239, e239, hx239_0⟩ := Kd.at_int (Kd.R_reads' HO_7.out).2.2 0 p239 q239
              cases e239
              have qi239 : (0 < x7_3.length) = True := eq_true (by omega)
              (try rw [show ((0 : Int)).toNat = 0 from rfl] at hx239_0)
              (try rw [Addr.add_zero'] at hx239_0)
              replace p239 := eq_true p239
              replace q239 := eq_true q239
              have hnb51 := NB227_226.out
              have hnc51 := NB226_227.out
              obtain ⟨hcz52_0, hcz52_1, hcz52_2, hcz52_3, hfz52_0, hfz52_1, hfz52_2, hfz52_3⟩ := blkc4 BK227.out
              have p240 : 0 ≤ (1 : Int) := (by omega)
              have q240 : 1 < (x7_3.length : Int) := of_decide_eq_true au152
              obtain ⟨ad240, e240, hx240_0⟩ := Kd.at_int (Kd.R_reads' HO_7.out).2.2 1 p240 q240
              obtain rfl : ad239 = ad240 := (by injection e240)
              (try simp only [show (1 : Int).toNat = 1 from rfl, Nat.reduceMul, Nat.reduceEqDiff, Go.Addr.add, ↓reduceIte] at hx240_0)
              have qi240 : (1 < x7_3.length) = True := eq_true (by omega)
              (try rw [show ((1 : Int)).toNat = 1 from rfl] at hx240_0)
              have hn240_0 : ad239.block ≠ gb227 := Kd.own_blk (Kd.R_ne HO_7.out BK227.out (by decide))
              replace hx240_0 := (cell_far (p := ⟨gb227, 0, none⟩) au102 (.int .i64 (rd x7_3 0))).trans hx240_0
              clear hn240_0
              replace p240 := eq_true p240
              replace q240 := eq_true q240
              have p241 : 0 ≤ (2 : Int) := (by omega)
              have q241 : 2 < (x7_3.length : Int) := of_decide_eq_true au152
              obtain ⟨ad241, e241, hx241_0⟩ := Kd.at_int (Kd.R_reads' HO_7.out).2.2 2 p241 q241
              obtain rfl : ad239 = ad241 := (by injection e241)
              (try simp only [show (2 : Int).toNat = 2 from rfl, Nat.reduceMul, Nat.reduceEqDiff, Go.Addr.add, ↓reduceIte] at hx241_0)
              have qi241 : (2 < x7_3.length) = True := eq_true (by omega)
              (try rw [show ((2 : Int)).toNat = 2 from rfl] at hx241_0)
              have hn241_0 : ad239.block ≠ gb227 := Kd.own_blk (Kd.R_ne HO_7.out BK227.out (by decide))
              have hn241_1 : ad239.block ≠ gb227 := Kd.own_blk (Kd.R_ne HO_7.out BK227.out (by decide))
              replace hx241_0 := (cell_far (p := ⟨gb227, 0, none⟩) au103 (.int .i64 (rd x7_3 0))).trans hx241_0
              replace hx241_0 := (cell_far (p := ⟨gb227, 1, none⟩) au104 (.int .i64 (rd x7_3 1))).trans hx241_0
              clear hn241_0
              clear hn241_1
              replace p241 := eq_true p241
              replace q241 := eq_true q241
              obtain ⟨hcz53_0, hcz53_1, hcz53_2, hcz53_3, hfz53_0, hfz53_1, hfz53_2, hfz53_3⟩ := blkc4 BK226.out
              go_wp2
              refine bodyPost_ret (results_ct rfl _ _ gb226 33 #[.int .i64 0, .int .i64 0, .int .i64 0, .bool false] (0, 0) _ rfl (by (with_reducible repeat (first | refine blk_drewN ?_ _ | refine blk_drew ?_ | refine blk_alloc ?_ _)); refine blk_put (cs := #[.int .i64 0, .int .i64 0, .int .i64 0, .bool false]) ?_ 3 _ rfl; (with_reducible repeat (first | refine blk_drewN ?_ _ | refine blk_drew ?_ | refine blk_alloc ?_ _)); refine blk_put (cs := #[.int .i64 0, .int .i64 0, .int .i64 0, .bool false]) ?_ 2 _ rfl; (with_reducible repeat (first | refine blk_drewN ?_ _ | refine blk_drew ?_ | refine blk_alloc ?_ _)); refine blk_put (cs := #[.int .i64 0, .int .i64 0, .int .i64 0, .bool false]) ?_ 1 _ rfl; (with_reducible repeat (first | refine blk_drewN ?_ _ | refine blk_drew ?_ | refine blk_alloc ?_ _)); refine blk_put (cs := #[.int .i64 0, .int .i64 0, .int .i64 0, .bool false]) ?_ 0 _ rfl; (with_reducible repeat (first | refine blk_drewN ?_ _ | refine blk_drew ?_ | refine blk_alloc ?_ _)); refine blk_far ?_ NB226_227.out _; (with_reducible repeat (first | refine blk_drewN ?_ _ | refine blk_drew ?_ | refine blk_alloc ?_ _)); refine blk_far ?_ NB226_227.out _; (with_reducible repeat (first | refine blk_drewN ?_ _ | refine blk_drew ?_ | refine blk_alloc ?_ _)); refine blk_far ?_ NB226_227.out _; (with_reducible repeat (first | refine blk_drewN ?_ _ | refine blk_drew ?_ | refine blk_alloc ?_ _)); exact BK226.out) Tryd.underlying33 rfl (by kernel_rfl)) rfl ?_
              exact ax19
             ·
              rw [if_neg c49] at H
              have c49b0 : ((rd x7_3 0) == 0) = false := beq_eq_false_iff_ne.mpr c49
              have c49b1 : ((rd x7_3 0) != 0) = true := bne_iff_ne.mpr c49
              replace H := Option.bind_eq_some_iff.mp H
              obtain ⟨t242, A540, H⟩ := H
              try dsimp only at H
              have A54 := Aside0.mk A540
              clear A540
              by_cases c55 : t242 = true
              ·
               subst c55
               replace H := (if_pos rfl).symm.trans H
               replace H := Option.bind_eq_some_iff.mp H
               obtain ⟨t243, A560, H⟩ := H
               try dsimp only at H
               have A56 := Aside0.mk A560
               clear A560
               by_cases c57 : t243.toList = a0.toList
               ·
                rw [if_pos c57] at H
                have c57b0 : (t243.toList == a0.toList) = true := beq_iff_eq.mpr c57
                have c57b1 : (t243.toList != a0.toList) = false := bne_eq_false_iff_eq.mpr c57
                clear c57
                simp only [Option.some.injEq, Prod.mk.injEq] at H
                obtain ⟨rfl, rfl, rfl, rfl, rfl⟩ := H
                obtain ⟨Ao58, co58, eo58⟩ := Kd.R_slice HO_7.out
                subst eo58
                have p239 : 0 ≤ (0 : Int) := (by omega)
                have q239 : 0 < (x7_3.length : Int) := of_decide_eq_true au152
                obtain ⟨ad239, e239, hx239_0⟩ := Kd.at_int (Kd.R_reads' HO_7.out).2.2 0 p239 q239
                cases e239
                have qi239 : (0 < x7_3.length) = True := eq_true (by omega)
                (try rw [show ((0 : Int)).toNat = 0 from rfl] at hx239_0)
                (try rw [Addr.add_zero'] at hx239_0)
                replace p239 := eq_true p239
                replace q239 := eq_true q239
                have hnb59 := NB227_226.out
                have hnc59 := NB226_227.out
                obtain ⟨hcz60_0, hcz60_1, hcz60_2, hcz60_3, hfz60_0, hfz60_1, hfz60_2, hfz60_3⟩ := blkc4 BK227.out
                have p240 : 0 ≤ (1 : Int) := (by omega)
                have q240 : 1 < (x7_3.length : Int) := of_decide_eq_true au152
                obtain ⟨ad240, e240, hx240_0⟩ := Kd.at_int (Kd.R_reads' HO_7.out).2.2 1 p240 q240
                obtain rfl : ad239 = ad240 := (by injection e240)
                (try simp only [show (1 : Int).toNat = 1 from rfl, Nat.reduceMul, Nat.reduceEqDiff, Go.Addr.add, ↓reduceIte] at hx240_0)
                have qi240 : (1 < x7_3.length) = True := eq_true (by omega)
                (try rw [show ((1 : Int)).toNat = 1 from rfl] at hx240_0)
                have hn240_0 : ad239.block ≠ gb227 := Kd.own_blk (Kd.R_ne HO_7.out BK227.out (by decide))
                replace hx240_0 := (cell_far (p := ⟨gb227, 0, none⟩) au102 (.int .i64 (rd x7_3 0))).trans hx240_0
                clear hn240_0
                replace p240 := eq_true p240
                replace q240 := eq_true q240
                have p241 : 0 ≤ (2 : Int) := (by omega)
                have q241 : 2 < (x7_3.length : Int) := of_decide_eq_true au152
                obtain ⟨ad241, e241, hx241_0⟩ := Kd.at_int (Kd.R_reads' HO_7.out).2.2 2 p241 q241
                obtain rfl : ad239 = ad241 := (by injection e241)
                (try simp only [show (2 : Int).toNat = 2 from rfl, Nat.reduceMul, Nat.reduceEqDiff, Go.Addr.add, ↓reduceIte] at hx241_0)
                have qi241 : (2 < x7_3.length) = True := eq_true (by omega)
                (try rw [show ((2 : Int)).toNat = 2 from rfl] at hx241_0)
                have hn241_0 : ad239.block ≠ gb227 := Kd.own_blk (Kd.R_ne HO_7.out BK227.out (by decide))
                have hn241_1 : ad239.block ≠ gb227 := Kd.own_blk (Kd.R_ne HO_7.out BK227.out (by decide))
                replace hx241_0 := (cell_far (p := ⟨gb227, 0, none⟩) au103 (.int .i64 (rd x7_3 0))).trans hx241_0
                replace hx241_0 := (cell_far (p := ⟨gb227, 1, none⟩) au104 (.int .i64 (rd x7_3 1))).trans hx241_0
                clear hn241_0
                clear hn241_1
                replace p241 := eq_true p241
                replace q241 := eq_true q241
                go_wp2_with (first | (go_at_call 52; (with_reducible refine (spec_l3Good.calls k3 (rd x7_3 0) (rd x7_3 1) (rd x7_3 2) x228003_15 _ _ A54.out).mono ?_); rintro e w61 ⟨rfl, hb⟩; replace HO_6 := Aside0.mk (Kd.R_below au38 hb); replace HO_7 := Aside0.mk (Kd.R_below au39 hb); replace BK226 := Aside0.mk (blk_below (g := gb226) (o := .cells #[.int .i64 0, .int .i64 0, .int .i64 0, .bool false] 33 (0, 0)) au36 hb); replace BK227 := Aside0.mk (blk_below (g := gb227) (o := .cells #[.int .i64 (rd x7_3 0), .int .i64 (rd x7_3 1), .int .i64 (rd x7_3 2), .bool x228003_15] 33 (0, 0)) au27 hb); replace HB := Aside0.mk (below_step au76 hb); (try clear hb); obtain ⟨hcz62_0, hcz62_1, hcz62_2, hcz62_3, hfz62_0, hfz62_1, hfz62_2, hfz62_3⟩ := blkc4 BK227.out) | (go_at_call 53; (with_reducible refine (spec_l3Text.calls k3 (rd x7_3 0) (rd x7_3 1) (rd x7_3 2) x228003_15 t243 _ A56.out).mono ?_); rintro e w63 ⟨rfl, hb⟩; replace HO_6 := Aside0.mk (Kd.R_below au148 hb); replace HO_7 := Aside0.mk (Kd.R_below au149 hb); replace BK226 := Aside0.mk (blk_below (g := gb226) au143 hb); replace BK227 := Aside0.mk (blk_below (g := gb227) au144 hb); replace HB := Aside0.mk (below_step au76 hb); (try clear hb); obtain ⟨hcz64_0, hcz64_1, hcz64_2, hcz64_3, hfz64_0, hfz64_1, hfz64_2, hfz64_3⟩ := blkc4 BK227.out; obtain ⟨hcz65_0, hcz65_1, hcz65_2, hcz65_3, hfz65_0, hfz65_1, hfz65_2, hfz65_3⟩ := blkc4 BK226.out))
                refine bodyPost_ret (results_ct rfl _ _ gb226 33 #[.int .i64 (rd x7_3 0), .int .i64 (rd x7_3 1), .int .i64 (rd x7_3 2), .bool x228003_15] (0, 0) _ rfl (by (with_reducible repeat (first | refine blk_drewN ?_ _ | refine blk_drew ?_ | refine blk_alloc ?_ _)); refine blk_put (cs := #[.int .i64 (rd x7_3 0), .int .i64 (rd x7_3 1), .int .i64 (rd x7_3 2), .bool false]) ?_ 3 _ rfl; (with_reducible repeat (first | refine blk_drewN ?_ _ | refine blk_drew ?_ | refine blk_alloc ?_ _)); refine blk_put (cs := #[.int .i64 (rd x7_3 0), .int .i64 (rd x7_3 1), .int .i64 0, .bool false]) ?_ 2 _ rfl; (with_reducible repeat (first | refine blk_drewN ?_ _ | refine blk_drew ?_ | refine blk_alloc ?_ _)); refine blk_put (cs := #[.int .i64 (rd x7_3 0), .int .i64 0, .int .i64 0, .bool false]) ?_ 1 _ rfl; (with_reducible repeat (first | refine blk_drewN ?_ _ | refine blk_drew ?_ | refine blk_alloc ?_ _)); refine blk_put (cs := #[.int .i64 0, .int .i64 0, .int .i64 0, .bool false]) ?_ 0 _ rfl; (with_reducible repeat (first | refine blk_drewN ?_ _ | refine blk_drew ?_ | refine blk_alloc ?_ _)); exact BK226.out) Tryd.underlying33 rfl (by kernel_rfl)) rfl ?_
                exact ax19
               ·
                rw [if_neg c57] at H
                have c57b0 : (t243.toList == a0.toList) = false := beq_eq_false_iff_ne.mpr c57
                have c57b1 : (t243.toList != a0.toList) = true := bne_iff_ne.mpr c57
                simp only [Option.some.injEq, Prod.mk.injEq] at H
                obtain ⟨rfl, rfl, rfl, rfl, rfl⟩ := H
                obtain ⟨Ao66, co66, eo66⟩ := Kd.R_slice HO_7.out
                subst eo66
                have p239 : 0 ≤ (0 : Int) := (by omega)
                have q239 : 0 < (x7_3.length : Int) := of_decide_eq_true au152
                obtain ⟨ad239, e239, hx239_0⟩ := Kd.at_int (Kd.R_reads' HO_7.out).2.2 0 p239 q239
                cases e239
                have qi239 : (0 < x7_3.length) = True := eq_true (by omega)
                (try rw [show ((0 : Int)).toNat = 0 from rfl] at hx239_0)
                (try rw [Addr.add_zero'] at hx239_0)
                replace p239 := eq_true p239
                replace q239 := eq_true q239
                have hnb67 := NB227_226.out
                have hnc67 := NB226_227.out
                obtain ⟨hcz68_0, hcz68_1, hcz68_2, hcz68_3, hfz68_0, hfz68_1, hfz68_2, hfz68_3⟩ := blkc4 BK227.out
                have p240 : 0 ≤ (1 : Int) := (by omega)
                have q240 : 1 < (x7_3.length : Int) := of_decide_eq_true au152
                obtain ⟨ad240, e240, hx240_0⟩ := Kd.at_int (Kd.R_reads' HO_7.out).2.2 1 p240 q240
                obtain rfl : ad239 = ad240 := (by injection e240)
                (try simp only [show (1 : Int).toNat = 1 from rfl, Nat.reduceMul, Nat.reduceEqDiff, Go.Addr.add, ↓reduceIte] at hx240_0)
                have qi240 : (1 < x7_3.length) = True := eq_true (by omega)
                (try rw [show ((1 : Int)).toNat = 1 from rfl] at hx240_0)
                have hn240_0 : ad239.block ≠ gb227 := Kd.own_blk (Kd.R_ne HO_7.out BK227.out (by decide))
                replace hx240_0 := (cell_far (p := ⟨gb227, 0, none⟩) au102 (.int .i64 (rd x7_3 0))).trans hx240_0
                clear hn240_0
                replace p240 := eq_true p240
                replace q240 := eq_true q240
                have p241 : 0 ≤ (2 : Int) := (by omega)
                have q241 : 2 < (x7_3.length : Int) := of_decide_eq_true au152
                obtain ⟨ad241, e241, hx241_0⟩ := Kd.at_int (Kd.R_reads' HO_7.out).2.2 2 p241 q241
                obtain rfl : ad239 = ad241 := (by injection e241)
                (try simp only [show (2 : Int).toNat = 2 from rfl, Nat.reduceMul, Nat.reduceEqDiff, Go.Addr.add, ↓reduceIte] at hx241_0)
                have qi241 : (2 < x7_3.length) = True := eq_true (by omega)
                (try rw [show ((2 : Int)).toNat = 2 from rfl] at hx241_0)
                have hn241_0 : ad239.block ≠ gb227 := Kd.own_blk (Kd.R_ne HO_7.out BK227.out (by decide))
                have hn241_1 : ad239.block ≠ gb227 := Kd.own_blk (Kd.R_ne HO_7.out BK227.out (by decide))
                replace hx241_0 := (cell_far (p := ⟨gb227, 0, none⟩) au103 (.int .i64 (rd x7_3 0))).trans hx241_0
                replace hx241_0 := (cell_far (p := ⟨gb227, 1, none⟩) au104 (.int .i64 (rd x7_3 1))).trans hx241_0
                clear hn241_0
                clear hn241_1
                replace p241 := eq_true p241
                replace q241 := eq_true q241
                go_wp2_with (first | (go_at_call 52; (with_reducible refine (spec_l3Good.calls k3 (rd x7_3 0) (rd x7_3 1) (rd x7_3 2) x228003_15 _ _ A54.out).mono ?_); rintro e w69 ⟨rfl, hb⟩; replace HO_6 := Aside0.mk (Kd.R_below au38 hb); replace HO_7 := Aside0.mk (Kd.R_below au39 hb); replace BK226 := Aside0.mk (blk_below (g := gb226) (o := .cells #[.int .i64 0, .int .i64 0, .int .i64 0, .bool false] 33 (0, 0)) au36 hb); replace BK227 := Aside0.mk (blk_below (g := gb227) (o := .cells #[.int .i64 (rd x7_3 0), .int .i64 (rd x7_3 1), .int .i64 (rd x7_3 2), .bool x228003_15] 33 (0, 0)) au27 hb); replace HB := Aside0.mk (below_step au76 hb); (try clear hb); obtain ⟨hcz70_0, hcz70_1, hcz70_2, hcz70_3, hfz70_0, hfz70_1, hfz70_2, hfz70_3⟩ := blkc4 BK227.out) | (go_at_call 53; (with_reducible refine (spec_l3Text.calls k3 (rd x7_3 0) (rd x7_3 1) (rd x7_3 2) x228003_15 t243 _ A56.out).mono ?_); rintro e w71 ⟨rfl, hb⟩; replace HO_6 := Aside0.mk (Kd.R_below au148 hb); replace HO_7 := Aside0.mk (Kd.R_below au149 hb); replace BK226 := Aside0.mk (blk_below (g := gb226) au143 hb); replace BK227 := Aside0.mk (blk_below (g := gb227) au144 hb); replace HB := Aside0.mk (below_step au76 hb); (try clear hb); obtain ⟨hcz72_0, hcz72_1, hcz72_2, hcz72_3, hfz72_0, hfz72_1, hfz72_2, hfz72_3⟩ := blkc4 BK226.out))
                refine bodyPost_ret (results_ct rfl _ _ gb226 33 #[.int .i64 0, .int .i64 0, .int .i64 0, .bool false] (0, 0) _ rfl au23 Tryd.underlying33 rfl (by kernel_rfl)) rfl ?_
                exact ax19
              ·
               replace c55 := Bool.eq_false_iff.mpr c55
               subst c55
               replace H := (if_neg (show ¬ (false = true) by decide)).symm.trans H
               simp only [Option.some.injEq, Prod.mk.injEq] at H
               obtain ⟨rfl, rfl, rfl, rfl, rfl⟩ := H
               obtain ⟨Ao73, co73, eo73⟩ := Kd.R_slice HO_7.out
               subst eo73
               have p239 : 0 ≤ (0 : Int) := (by omega)
               have q239 : 0 < (x7_3.length : Int) := of_decide_eq_true au152
               obtain ⟨ad239, e239, hx239_0⟩ := Kd.at_int (Kd.R_reads' HO_7.out).2.2 0 p239 q239
               cases e239
               have qi239 : (0 < x7_3.length) = True := eq_true (by omega)
               (try rw [show ((0 : Int)).toNat = 0 from rfl] at hx239_0)
               (try rw [Addr.add_zero'] at hx239_0)
               replace p239 := eq_true p239
               replace q239 := eq_true q239
               have hnb74 := NB227_226.out
               have hnc74 := NB226_227.out
               obtain ⟨hcz75_0, hcz75_1, hcz75_2, hcz75_3, hfz75_0, hfz75_1, hfz75_2, hfz75_3⟩ := blkc4 BK227.out
               have p240 : 0 ≤ (1 : Int) := (by omega)
               have q240 : 1 < (x7_3.length : Int) := of_decide_eq_true au152
               obtain ⟨ad240, e240, hx240_0⟩ := Kd.at_int (Kd.R_reads' HO_7.out).2.2 1 p240 q240
               obtain rfl : ad239 = ad240 := (by injection e240)
               (try simp only [show (1 : Int).toNat = 1 from rfl, Nat.reduceMul, Nat.reduceEqDiff, Go.Addr.add, ↓reduceIte] at hx240_0)
               have qi240 : (1 < x7_3.length) = True := eq_true (by omega)
               (try rw [show ((1 : Int)).toNat = 1 from rfl] at hx240_0)
               have hn240_0 : ad239.block ≠ gb227 := Kd.own_blk (Kd.R_ne HO_7.out BK227.out (by decide))
               replace hx240_0 := (cell_far (p := ⟨gb227, 0, none⟩) au102 (.int .i64 (rd x7_3 0))).trans hx240_0
               clear hn240_0
               replace p240 := eq_true p240
               replace q240 := eq_true q240
               have p241 : 0 ≤ (2 : Int) := (by omega)
               have q241 : 2 < (x7_3.length : Int) := of_decide_eq_true au152
               obtain ⟨ad241, e241, hx241_0⟩ := Kd.at_int (Kd.R_reads' HO_7.out).2.2 2 p241 q241
               obtain rfl : ad239 = ad241 := (by injection e241)
               (try simp only [show (2 : Int).toNat = 2 from rfl, Nat.reduceMul, Nat.reduceEqDiff, Go.Addr.add, ↓reduceIte] at hx241_0)
               have qi241 : (2 < x7_3.length) = True := eq_true (by omega)
               (try rw [show ((2 : Int)).toNat = 2 from rfl] at hx241_0)
               have hn241_0 : ad239.block ≠ gb227 := Kd.own_blk (Kd.R_ne HO_7.out BK227.out (by decide))
               have hn241_1 : ad239.block ≠ gb227 := Kd.own_blk (Kd.R_ne HO_7.out BK227.out (by decide))
               replace hx241_0 := (cell_far (p := ⟨gb227, 0, none⟩) au103 (.int .i64 (rd x7_3 0))).trans hx241_0
               replace hx241_0 := (cell_far (p := ⟨gb227, 1, none⟩) au104 (.int .i64 (rd x7_3 1))).trans hx241_0
               clear hn241_0
               clear hn241_1
               replace p241 := eq_true p241
               replace q241 := eq_true q241
               go_wp2_with (first | (go_at_call 52; (with_reducible refine (spec_l3Good.calls k3 (rd x7_3 0) (rd x7_3 1) (rd x7_3 2) x228003_15 _ _ A54.out).mono ?_); rintro e w76 ⟨rfl, hb⟩; replace HO_6 := Aside0.mk (Kd.R_below au38 hb); replace HO_7 := Aside0.mk (Kd.R_below au39 hb); replace BK226 := Aside0.mk (blk_below (g := gb226) (o := .cells #[.int .i64 0, .int .i64 0, .int .i64 0, .bool false] 33 (0, 0)) au36 hb); replace BK227 := Aside0.mk (blk_below (g := gb227) (o := .cells #[.int .i64 (rd x7_3 0), .int .i64 (rd x7_3 1), .int .i64 (rd x7_3 2), .bool x228003_15] 33 (0, 0)) au27 hb); replace HB := Aside0.mk (below_step au76 hb); (try clear hb); obtain ⟨hcz77_0, hcz77_1, hcz77_2, hcz77_3, hfz77_0, hfz77_1, hfz77_2, hfz77_3⟩ := blkc4 BK226.out))
               refine bodyPost_ret (results_ct rfl _ _ gb226 33 #[.int .i64 0, .int .i64 0, .int .i64 0, .bool false] (0, 0) _ rfl au23 Tryd.underlying33 rfl (by kernel_rfl)) rfl ?_
               exact ax19
            ·
             rw [if_neg c48] at H
             exact absurd H (by simp)
           ·
            rw [if_neg c47] at H
            exact absurd H (by simp)
          ·
           rw [if_neg c46] at H
           exact absurd H (by simp)


/-! ### spec_ParseDate: function 18 -/
def spec_ParseDate.f (k : Nat) (a0 : ByteArray) : Option (Int × Int × Int × Bool × Bool) := (spec_l3Parse.f k a0).bind fun bt245 => (some (bt245.1, bt245.2.1, bt245.2.2.1, bt245.2.2.2.1, bt245.2.2.2.2))
theorem spec_ParseDate.mono : ∀ a0 k, LeO (spec_ParseDate.f k a0) (spec_ParseDate.f (k + 1) a0) := by
 intro a0 k
 unfold spec_ParseDate.f
 repeat' first
   | (with_reducible exact spec_l3Parse.mono _ _)
   | (with_reducible exact LeO.refl _)
   | (with_reducible exact LeO.none _)
   | (with_reducible refine LeO.ite ?_ ?_)
   | (with_reducible refine LeO.bind ?_ (fun _ => ?_))
   | exact spec_l3Parse.mono _ _
   | exact LeO.none _
   | refine LeO.ite ?_ ?_
   | refine LeO.bind ?_ (fun _ => ?_)
set_option maxHeartbeats 8000000 in
set_option maxRecDepth 100000 in
theorem spec_ParseDate.calls (k : Nat) (a0 : ByteArray) (r1 : Int) (r2 : Int) (r3 : Int) (r4 : Bool) (r5 : Bool) (w : World) (h : spec_ParseDate.f k a0 = some (r1, r2, r3, r4, r5)) :
  Calls Tryd.prog 18 #[.string a0] w fun e w' => e = .returned (.tuple #[.agg #[.int .i64 r1, .int .i64 r2, .int .i64 r3, .bool r4], .bool r5]) ∧ Below w.heap.size w w' := by
 have hu33 := Tryd.underlying33
 have HB := Aside0.mk (Below.refl w.heap.size w)
 have H : ((spec_l3Parse.f k a0).bind fun bt245 => (some (bt245.1, bt245.2.1, bt245.2.2.1, bt245.2.2.2.1, bt245.2.2.2.2))) = some (r1, r2, r3, r4, r5) := h
 clear h
 replace H := Option.bind_eq_some_iff.mp H
 obtain ⟨⟨t245, t246, t247, t248, t249⟩, A20, H⟩ := H
 replace H : (some (t245, t246, t247, t248, t249)) = some (r1, r2, r3, r4, r5) := H
 have A2 := Aside0.mk A20
 clear A20
 simp only [Option.some.injEq, Prod.mk.injEq] at H
 obtain ⟨rfl, rfl, rfl, rfl, rfl⟩ := H
 go_enter Tryd.func18, Tryd.ntmps18
 go_wp2_with (first | ((with_reducible refine gate_dst (N := 2) rfl ?_); refine box_event ?hg (N := 2) ?hd (cs := #[.int .i64 0, .int .i64 0, .int .i64 0, .bool false]) (t := 33) ?hr ?_; (case hd => rfl); (case hg => rfl); (case hr => first | (go_simp; done) | (go_simp; rfl)); intro gb244 hg w3 hbox hb; have BK244 := Aside0.mk (hbox); have GW244 := Aside0.mk (bsz hg au101); have GE244 := Aside0.mk (bsz hg au101); replace HB := Aside0.mk (below_step au101 hb); clear hb hbox hg) | ((with_reducible refine gate_callee (f := 46) rfl ?_); refine goesL_ (some 5) rfl rfl Tryd.func46 (by kernel_rfl) rfl #[.string a0] rfl au100 ?_; (with_reducible refine (spec_l3Parse.calls k a0 t245 t246 t247 t248 t249 _ A2.out).mono ?_); rintro e w4 ⟨rfl, hb⟩; refine ⟨_, rfl, ?_⟩; replace BK244 := Aside0.mk (blk_below (g := gb244) (by (with_reducible repeat (first | refine blk_drewN ?_ _ | refine blk_drew ?_ | refine blk_alloc ?_ _)); exact BK244.out) hb); replace HB := Aside0.mk (below_step (by repeat (first | (with_reducible first | exact HB.out | apply below_alloc | apply pw_below_drewN | apply below_drew1 | refine below_set ?_ GE244.out) | exact HB.out)) hb); (try clear hb); obtain ⟨hcz5_0, hcz5_1, hcz5_2, hcz5_3, hfz5_0, hfz5_1, hfz5_2, hfz5_3⟩ := blkc4 BK244.out))
 refine bodyPost_ret (results_ct rfl _ _ gb244 33 #[.int .i64 t245, .int .i64 t246, .int .i64 t247, .bool t248] (0, 0) _ rfl (by (with_reducible repeat (first | refine blk_drewN ?_ _ | refine blk_drew ?_ | refine blk_alloc ?_ _)); refine blk_put (cs := #[.int .i64 t245, .int .i64 t246, .int .i64 t247, .bool false]) ?_ 3 _ rfl; (with_reducible repeat (first | refine blk_drewN ?_ _ | refine blk_drew ?_ | refine blk_alloc ?_ _)); refine blk_put (cs := #[.int .i64 t245, .int .i64 t246, .int .i64 0, .bool false]) ?_ 2 _ rfl; (with_reducible repeat (first | refine blk_drewN ?_ _ | refine blk_drew ?_ | refine blk_alloc ?_ _)); refine blk_put (cs := #[.int .i64 t245, .int .i64 0, .int .i64 0, .bool false]) ?_ 1 _ rfl; (with_reducible repeat (first | refine blk_drewN ?_ _ | refine blk_drew ?_ | refine blk_alloc ?_ _)); refine blk_put (cs := #[.int .i64 0, .int .i64 0, .int .i64 0, .bool false]) ?_ 0 _ rfl; (with_reducible repeat (first | refine blk_drewN ?_ _ | refine blk_drew ?_ | refine blk_alloc ?_ _)); exact BK244.out) Tryd.underlying33 rfl (by kernel_rfl)) rfl ?_
 exact ⟨by first | rfl | (simp [errW_none, errW_some] <;> rfl) | (simp [*, errW_none, errW_some] <;> rfl), by repeat (first | (with_reducible first | exact HB.out | apply below_alloc | apply pw_below_drewN | apply below_drew1 | refine below_set ?_ GE244.out) | exact HB.out)⟩

end Go.Proofs.YtmjmjfkjlblgaaaDoor.G
