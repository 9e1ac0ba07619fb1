/- Texts of this session for the law FnNameForms, put together by a program (merge.py): each ends with its namespace; conditions stand with each theorem. -/
import Derived.Test.YtgingnbfihaopaaDoorKFnNameForms2
import Derived.Test.YtgingnbfihaopaaDoorKFnNameForms3
import Derived.Test.YtgingnbfihaopaaDoorKFnNameForms4
import Derived.Test.YtgingnbfihaopaaDoorKFnNameForms1
import Derived.Deep.Slices
import Derived.Lib.Strings
import Derived.Laws.Bits64b
import Derived.Lib.SplitLaws
import Derived.Lib.IndexBytes
import Derived.Lib.IndexLaws
namespace Go.Proofs.YtgingnbfihaopaaDoor.G
open Go.RowKit Go.Proofs.YtgingnbfihaopaaDoorW.PrintWords Go.Proofs.YtgingnbfihaopaaDoorW.PrintLast Go.Proofs.YtgingnbfihaopaaDoorW.PrintMore
open Go.Proofs.YtgingnbfihaopaaDoor.Gl Go.Proofs.YtgingnbfihaopaaDoor.Ext
attribute [local go_sem] max2_int min2_int max_two min_two max_three min_three max_four min_four   -- for this text's walks alone
set_option linter.unusedVariables false
set_option linter.unusedSimpArgs false

/-! ### laws_FnNameForms: function 3 -/
mutual
def laws_FnNameForms.j0 : Nat → List Int → Bool → Bool → List ByteArray → ByteArray → ByteArray → ByteArray → Option (Bool)
 | 0, _, _, _, _, _, _, _ => none
 | k + 1, x0, x5, x56, x416000, x416001, x416002, x416003 => if x56 = true then (some false) else ((spec_DrawParseInverse.f k x0).bind fun t429 => ((impl_ParseInverse.f k t429).bind fun bt430 => ((impl_InverseForm.f k bt430.1 bt430.2.1 bt430.2.2.1 bt430.2.2.2.1).bind fun bt438 => (if bt430.2.2.2.2 = true then (if bt438.2 = true then (laws_FnNameForms.j1 k x5 (bt438.1.toList != t429.toList) x416000 x416001 x416002 x416003) else (laws_FnNameForms.j1 k x5 true x416000 x416001 x416002 x416003)) else (laws_FnNameForms.j1 k x5 false x416000 x416001 x416002 x416003)))))
def laws_FnNameForms.j1 : Nat → Bool → Bool → List ByteArray → ByteArray → ByteArray → ByteArray → Option (Bool)
 | 0, _, _, _, _, _, _ => none
 | k + 1, x5, x78, x416000, x416001, x416002, x416003 => if x78 = true then (some false) else ((impl_FullForm.f k x416000 x416001 x416002 x416003).bind fun bt440 => ((impl_ShortForm.f k x416000 x416001 x416002 x416003).bind fun bt442 => ((spec_ShortForm.f k x416000 x416001 x416002 x416003).bind fun bt444 => (if x416003.toList = ([] : List UInt8) then (if (bt440.2 == x5) = true then (if (bt442.2 == bt444.2) = true then (if bt442.1.toList = bt444.1.toList then (if x5 = true then (if (bt440.1.size : Int) ≥ (x416002.size : Int) then (if 0 ≤ (wrap64 ((bt440.1.size : Int) - (x416002.size : Int))) then (if (wrap64 ((bt440.1.size : Int) - (x416002.size : Int))) ≤ (bt440.1.size : Int) then (some ((bt440.1.extract ((wrap64 ((bt440.1.size : Int) - (x416002.size : Int))) : Int).toNat bt440.1.size).toList == x416002.toList)) else (none)) else (none)) else (some false)) else (some true)) else (some false)) else (some false)) else (some false)) else (if (bt440.2 == x5) = true then (if (bt442.2 == bt444.2) = true then (if bt442.1.toList = bt444.1.toList then (if x5 = true then (if (bt440.1.size : Int) ≥ (x416003.size : Int) then (if 0 ≤ (wrap64 ((bt440.1.size : Int) - (x416003.size : Int))) then (if (wrap64 ((bt440.1.size : Int) - (x416003.size : Int))) ≤ (bt440.1.size : Int) then (some ((bt440.1.extract ((wrap64 ((bt440.1.size : Int) - (x416003.size : Int))) : Int).toNat bt440.1.size).toList == x416003.toList)) else (none)) else (none)) else (some false)) else (some true)) else (some false)) else (some false)) else (some false))))))
end
def laws_FnNameForms.f (k : Nat) (l0 : List Int) : Option (Bool) := (laws_vBig.f l0).bind fun t408 => (if t408 = true then (some true) else ((spec_DrawInverseForm.f k l0).bind fun bt409 => ((impl_InverseForm.f k bt409.1 bt409.2.1 bt409.2.2.1 bt409.2.2.2).bind fun bt416 => ((impl_ParseInverse.f k bt416.1).bind fun bt418 => ((spec_IsValidName.f k bt409.1 bt409.2.1 bt409.2.2.1 bt409.2.2.2).bind fun t426 => (if (bt416.2 != t426) = true then (laws_FnNameForms.j0 k l0 bt416.2 true bt409.1 bt409.2.1 bt409.2.2.1 bt409.2.2.2) else ((impl_IsValidName.f k bt409.1 bt409.2.1 bt409.2.2.1 bt409.2.2.2).bind fun t427 => (if (t427 != bt416.2) = true then (laws_FnNameForms.j0 k l0 bt416.2 true bt409.1 bt409.2.1 bt409.2.2.1 bt409.2.2.2) else (if bt416.2 = true then (if bt418.2.2.2.2 = true then ((laws_vName.f k bt418.1 bt418.2.1 bt418.2.2.1 bt418.2.2.2.1 bt409.1 bt409.2.1 bt409.2.2.1 bt409.2.2.2).bind fun t428 => (laws_FnNameForms.j0 k l0 bt416.2 (!t428) bt409.1 bt409.2.1 bt409.2.2.1 bt409.2.2.2)) else (laws_FnNameForms.j0 k l0 bt416.2 true bt409.1 bt409.2.1 bt409.2.2.1 bt409.2.2.2)) else (laws_FnNameForms.j0 k l0 bt416.2 false bt409.1 bt409.2.1 bt409.2.2.1 bt409.2.2.2))))))))))
theorem laws_FnNameForms.mono_l : ∀ k, (∀ y0 y1 y2 y3 y4 y5 y6, LeO (laws_FnNameForms.j0 k y0 y1 y2 y3 y4 y5 y6) (laws_FnNameForms.j0 (k + 1) y0 y1 y2 y3 y4 y5 y6)) ∧ (∀ y0 y1 y2 y3 y4 y5, LeO (laws_FnNameForms.j1 k y0 y1 y2 y3 y4 y5) (laws_FnNameForms.j1 (k + 1) y0 y1 y2 y3 y4 y5))
 | 0 => ⟨fun _ _ _ _ _ _ _ r h => by simp [laws_FnNameForms.j0] at h, fun _ _ _ _ _ _ r h => by simp [laws_FnNameForms.j1] at h⟩
 | k + 1 => by
  obtain ⟨ih0, ih1⟩ := laws_FnNameForms.mono_l k
  refine ⟨?_, ?_⟩
  ·
   intro y0 y1 y2 y3 y4 y5 y6
   unfold laws_FnNameForms.j0
   repeat' first
   | (with_reducible exact ih0 _ _ _ _ _ _ _)
   | (with_reducible exact ih1 _ _ _ _ _ _)
   | (with_reducible exact impl_FullForm.mono _ _ _ _ _)
   | (with_reducible exact impl_InverseForm.mono _ _ _ _ _)
   | (with_reducible exact impl_IsValidName.mono _ _ _ _ _)
   | (with_reducible exact impl_ParseInverse.mono _ _)
   | (with_reducible exact impl_ShortForm.mono _ _ _ _ _)
   | (with_reducible exact laws_vName.mono _ _ _ _ _ _ _ _ _)
   | (with_reducible exact spec_DrawInverseForm.mono _ _)
   | (with_reducible exact spec_DrawParseInverse.mono _ _)
   | (with_reducible exact spec_IsValidName.mono _ _ _ _ _)
   | (with_reducible exact spec_ShortForm.mono _ _ _ _ _)
   | (with_reducible exact LeO.refl _)
   | (with_reducible exact LeO.none _)
   | (with_reducible refine LeO.ite ?_ ?_)
   | (with_reducible refine LeO.bind ?_ (fun _ => ?_))
   | exact ih0 _ _ _ _ _ _ _
   | exact ih1 _ _ _ _ _ _
   | exact impl_FullForm.mono _ _ _ _ _
   | exact impl_InverseForm.mono _ _ _ _ _
   | exact impl_IsValidName.mono _ _ _ _ _
   | exact impl_ParseInverse.mono _ _
   | exact impl_ShortForm.mono _ _ _ _ _
   | exact laws_vName.mono _ _ _ _ _ _ _ _ _
   | exact spec_DrawInverseForm.mono _ _
   | exact spec_DrawParseInverse.mono _ _
   | exact spec_IsValidName.mono _ _ _ _ _
   | exact spec_ShortForm.mono _ _ _ _ _
   | exact LeO.none _
   | refine LeO.ite ?_ ?_
   | refine LeO.bind ?_ (fun _ => ?_)
  ·
   intro y0 y1 y2 y3 y4 y5
   unfold laws_FnNameForms.j1
   repeat' first
   | (with_reducible exact ih0 _ _ _ _ _ _ _)
   | (with_reducible exact ih1 _ _ _ _ _ _)
   | (with_reducible exact impl_FullForm.mono _ _ _ _ _)
   | (with_reducible exact impl_InverseForm.mono _ _ _ _ _)
   | (with_reducible exact impl_IsValidName.mono _ _ _ _ _)
   | (with_reducible exact impl_ParseInverse.mono _ _)
   | (with_reducible exact impl_ShortForm.mono _ _ _ _ _)
   | (with_reducible exact laws_vName.mono _ _ _ _ _ _ _ _ _)
   | (with_reducible exact spec_DrawInverseForm.mono _ _)
   | (with_reducible exact spec_DrawParseInverse.mono _ _)
   | (with_reducible exact spec_IsValidName.mono _ _ _ _ _)
   | (with_reducible exact spec_ShortForm.mono _ _ _ _ _)
   | (with_reducible exact LeO.refl _)
   | (with_reducible exact LeO.none _)
   | (with_reducible refine LeO.ite ?_ ?_)
   | (with_reducible refine LeO.bind ?_ (fun _ => ?_))
   | exact ih0 _ _ _ _ _ _ _
   | exact ih1 _ _ _ _ _ _
   | exact impl_FullForm.mono _ _ _ _ _
   | exact impl_InverseForm.mono _ _ _ _ _
   | exact impl_IsValidName.mono _ _ _ _ _
   | exact impl_ParseInverse.mono _ _
   | exact impl_ShortForm.mono _ _ _ _ _
   | exact laws_vName.mono _ _ _ _ _ _ _ _ _
   | exact spec_DrawInverseForm.mono _ _
   | exact spec_DrawParseInverse.mono _ _
   | exact spec_IsValidName.mono _ _ _ _ _
   | exact spec_ShortForm.mono _ _ _ _ _
   | exact LeO.none _
   | refine LeO.ite ?_ ?_
   | refine LeO.bind ?_ (fun _ => ?_)
theorem laws_FnNameForms.mono : ∀ a0 k, LeO (laws_FnNameForms.f k a0) (laws_FnNameForms.f (k + 1) a0) := by
 intro a0 k
 obtain ⟨ih0, ih1⟩ := laws_FnNameForms.mono_l k
 unfold laws_FnNameForms.f
 repeat' first
   | (with_reducible exact ih0 _ _ _ _ _ _ _)
   | (with_reducible exact ih1 _ _ _ _ _ _)
   | (with_reducible exact impl_FullForm.mono _ _ _ _ _)
   | (with_reducible exact impl_InverseForm.mono _ _ _ _ _)
   | (with_reducible exact impl_IsValidName.mono _ _ _ _ _)
   | (with_reducible exact impl_ParseInverse.mono _ _)
   | (with_reducible exact impl_ShortForm.mono _ _ _ _ _)
   | (with_reducible exact laws_vName.mono _ _ _ _ _ _ _ _ _)
   | (with_reducible exact spec_DrawInverseForm.mono _ _)
   | (with_reducible exact spec_DrawParseInverse.mono _ _)
   | (with_reducible exact spec_IsValidName.mono _ _ _ _ _)
   | (with_reducible exact spec_ShortForm.mono _ _ _ _ _)
   | (with_reducible exact LeO.refl _)
   | (with_reducible exact LeO.none _)
   | (with_reducible refine LeO.ite ?_ ?_)
   | (with_reducible refine LeO.bind ?_ (fun _ => ?_))
   | exact ih0 _ _ _ _ _ _ _
   | exact ih1 _ _ _ _ _ _
   | exact impl_FullForm.mono _ _ _ _ _
   | exact impl_InverseForm.mono _ _ _ _ _
   | exact impl_IsValidName.mono _ _ _ _ _
   | exact impl_ParseInverse.mono _ _
   | exact impl_ShortForm.mono _ _ _ _ _
   | exact laws_vName.mono _ _ _ _ _ _ _ _ _
   | exact spec_DrawInverseForm.mono _ _
   | exact spec_DrawParseInverse.mono _ _
   | exact spec_IsValidName.mono _ _ _ _ _
   | exact spec_ShortForm.mono _ _ _ _ _
   | exact LeO.none _
   | refine LeO.ite ?_ ?_
   | refine LeO.bind ?_ (fun _ => ?_)
set_option maxRecDepth 100000 in
theorem laws_FnNameForms.L0 {P : Prop} (h : P := by
  go_wp2_with (first | ((with_reducible refine gate_callee (f := 9) rfl ?_); refine goesL_ (some 36) rfl rfl Tryd.func9 (by kernel_rfl) rfl #[.agg #[.slice Ao10 t409.length co10, .string t412, .string t413, .string t414]] rfl au54 ?_; (with_reducible refine (spec_IsValidName.calls k _ _ t409 t412 t413 t414 t426 _ ?side1 ?side2 A18.out).mono ?_); (case side1 => refine (Kd.R_reads' (e := 9) (base := w.heap.size) (ok := fun k_ => (True ∧ some k_ ≠ (.slice Ao15 t418.length co15 : Value).ownBlock)) (n := t409.length) (c := co10) ?_).2.2; exact au2); (case side2 => exact (Kd.R_reads' HO411.out).2.1); rintro e w35 ⟨rfl, hb⟩; refine ⟨_, rfl, ?_⟩; replace HO411 := Aside0.mk (Kd.R_below au2 hb); replace HO420 := Aside0.mk (Kd.R_below au3 hb); replace BK415 := Aside0.mk (blk_below (g := gb415) (o := .cells #[.slice Ao10 t409.length co10, .string t412, .string t413, .string t414] 26 (0, 0)) au1 hb); replace BK425 := Aside0.mk (blk_below (g := gb425) (o := .cells #[.slice Ao15 t418.length co15, .string t421, .string t422, .string t423] 26 (0, 0)) (by (with_reducible repeat (first | refine blk_drewN ?_ _ | refine blk_drew ?_ | refine blk_alloc ?_ _)); refine blk_put (cs := #[.slice Ao15 t418.length co15, .string t421, .string t422, .string (⟨#[]⟩ : ByteArray)]) ?_ 3 _ rfl; (with_reducible repeat (first | refine blk_drewN ?_ _ | refine blk_drew ?_ | refine blk_alloc ?_ _)); refine blk_put (cs := #[.slice Ao15 t418.length co15, .string t421, .string (⟨#[]⟩ : ByteArray), .string (⟨#[]⟩ : ByteArray)]) ?_ 2 _ rfl; (with_reducible repeat (first | refine blk_drewN ?_ _ | refine blk_drew ?_ | refine blk_alloc ?_ _)); refine blk_put (cs := #[.slice Ao15 t418.length co15, .string (⟨#[]⟩ : ByteArray), .string (⟨#[]⟩ : ByteArray), .string (⟨#[]⟩ : ByteArray)]) ?_ 1 _ rfl; (with_reducible repeat (first | refine blk_drewN ?_ _ | refine blk_drew ?_ | refine blk_alloc ?_ _)); refine blk_put (cs := #[.slice none 0 0, .string (⟨#[]⟩ : ByteArray), .string (⟨#[]⟩ : ByteArray), .string (⟨#[]⟩ : ByteArray)]) ?_ 0 _ rfl; (with_reducible repeat (first | refine blk_drewN ?_ _ | refine blk_drew ?_ | refine blk_alloc ?_ _)); exact BK425.out) hb); replace HB := Aside0.mk (below_step au21 hb); (try clear hb); obtain ⟨hcz36_0, hcz36_1, hcz36_2, hcz36_3, hfz36_0, hfz36_1, hfz36_2, hfz36_3⟩ := blkc4 BK415.out) | (go_at_call 10; (with_reducible refine (impl_IsValidName.calls (hG := au6) k _ _ t409 t412 t413 t414 t427 _ ?side1 ?side2 A23.out).mono ?_); (case side1 => repeat (first | exact (Kd.R_reads' HO411.out).2.2 | (with_reducible refine Kd.C_alloc ?_ _) | (with_reducible refine Kd.C_drewN ?_ _) | (with_reducible refine Kd.C_drew ?_))); (case side2 => exact (Kd.R_reads' HO411.out).2.1); rintro e w37 ⟨rfl, hb⟩; replace HO411 := Aside0.mk (Kd.R_below au113 hb); replace HO420 := Aside0.mk (Kd.R_below au114 hb); replace BK415 := Aside0.mk (blk_below (g := gb415) au95 hb); replace BK425 := Aside0.mk (blk_below (g := gb425) au96 hb); replace HB := Aside0.mk (below_step au21 hb); (try clear hb); obtain ⟨hcz38_0, hcz38_1, hcz38_2, hcz38_3, hfz38_0, hfz38_1, hfz38_2, hfz38_3⟩ := blkc4 BK425.out; obtain ⟨hcz39_0, hcz39_1, hcz39_2, hcz39_3, hfz39_0, hfz39_1, hfz39_2, hfz39_3⟩ := blkc4 BK415.out) | (go_at_call 11; (with_reducible refine (laws_vName.calls k _ _ t418 t421 t422 t423 _ _ t409 t412 t413 t414 t428 _ ?side1 ?side2 ?side3 ?side4 A32.out).mono ?_); (case side1 => repeat (first | exact (Kd.R_reads' HO420.out).2.2 | (with_reducible refine Kd.C_alloc ?_ _) | (with_reducible refine Kd.C_drewN ?_ _) | (with_reducible refine Kd.C_drew ?_))); (case side2 => exact (Kd.R_reads' HO420.out).2.1); (case side3 => repeat (first | exact (Kd.R_reads' HO411.out).2.2 | (with_reducible refine Kd.C_alloc ?_ _) | (with_reducible refine Kd.C_drewN ?_ _) | (with_reducible refine Kd.C_drew ?_))); (case side4 => exact (Kd.R_reads' HO411.out).2.1); rintro e w40 ⟨rfl, hb⟩; replace HO411 := Aside0.mk (Kd.R_below au113 hb); replace HO420 := Aside0.mk (Kd.R_below au114 hb); replace BK415 := Aside0.mk (blk_below (g := gb415) au95 hb); replace BK425 := Aside0.mk (blk_below (g := gb425) au96 hb); replace HB := Aside0.mk (below_step au21 hb); (try clear hb)))
  go_meet
  case rel => first | (exact ⟨_, (!t428), au122, H', ⟨by first | omega | exact Nat.le_refl _⟩, ⟨by (with_reducible repeat (first | apply Kd.R_alloc | apply Kd.R_drewN | apply Kd.R_drew)); exact Kd.R_mono HO411.out (fun _ hk => hk.2)⟩, ⟨by (with_reducible repeat (first | apply Kd.R_alloc | apply Kd.R_drewN | apply Kd.R_drew)); exact Kd.R_mono HO420.out (fun _ hk => hk.2)⟩, ⟨by (with_reducible repeat (first | refine blk_drewN ?_ _ | refine blk_drew ?_ | refine blk_alloc ?_ _)); exact BK415.out⟩, ⟨by (with_reducible repeat (first | refine blk_drewN ?_ _ | refine blk_drew ?_ | refine blk_alloc ?_ _)); exact BK425.out⟩, ⟨by repeat (first | (with_reducible first | exact HB.out | apply below_alloc | apply pw_below_drewN | apply below_drew1 | refine below_set ?_ GE415.out | refine below_set ?_ GE425.out) | exact HB.out)⟩⟩) | (exact ⟨_, ((t438.toList != t429.toList)), au122, H', ⟨by have := HJ6.out; first | omega | exact Nat.le_refl _⟩, ⟨by (with_reducible repeat (first | apply Kd.R_alloc | apply Kd.R_drewN | apply Kd.R_drew)); exact HO_416000.out⟩, ⟨by (with_reducible repeat (first | apply Kd.R_alloc | apply Kd.R_drewN | apply Kd.R_drew)); exact HO_426000.out⟩, ⟨by (with_reducible repeat (first | apply Kd.R_alloc | apply Kd.R_drewN | apply Kd.R_drew)); exact Kd.R_mono HO432.out (fun _ hk => ⟨hk.1.2, hk.2⟩)⟩, ⟨by (with_reducible repeat (first | refine blk_drewN ?_ _ | refine blk_drew ?_ | refine blk_alloc ?_ _)); exact BK415.out⟩, ⟨by (with_reducible repeat (first | refine blk_drewN ?_ _ | refine blk_drew ?_ | refine blk_alloc ?_ _)); exact BK425.out⟩, ⟨by (with_reducible repeat (first | refine blk_drewN ?_ _ | refine blk_drew ?_ | refine blk_alloc ?_ _)); exact BK437.out⟩, ⟨by repeat (first | (with_reducible first | exact HB.out | apply below_alloc | apply pw_below_drewN | apply below_drew1 | refine below_set ?_ GE415.out | refine below_set ?_ GE425.out | refine below_set ?_ GE437.out) | exact HB.out)⟩⟩) | (exact ⟨_, (false), au122, H', ⟨by have := HJ6.out; first | omega | exact Nat.le_refl _⟩, ⟨by (with_reducible repeat (first | apply Kd.R_alloc | apply Kd.R_drewN | apply Kd.R_drew)); exact HO_416000.out⟩, ⟨by (with_reducible repeat (first | apply Kd.R_alloc | apply Kd.R_drewN | apply Kd.R_drew)); exact HO_426000.out⟩, ⟨by (with_reducible repeat (first | apply Kd.R_alloc | apply Kd.R_drewN | apply Kd.R_drew)); exact Kd.R_mono HO432.out (fun _ hk => ⟨hk.1.2, hk.2⟩)⟩, ⟨by (with_reducible repeat (first | refine blk_drewN ?_ _ | refine blk_drew ?_ | refine blk_alloc ?_ _)); exact BK415.out⟩, ⟨by (with_reducible repeat (first | refine blk_drewN ?_ _ | refine blk_drew ?_ | refine blk_alloc ?_ _)); exact BK425.out⟩, ⟨by (with_reducible repeat (first | refine blk_drewN ?_ _ | refine blk_drew ?_ | refine blk_alloc ?_ _)); exact BK437.out⟩, ⟨by repeat (first | (with_reducible first | exact HB.out | apply below_alloc | apply pw_below_drewN | apply below_drew1 | refine below_set ?_ GE415.out | refine below_set ?_ GE425.out | refine below_set ?_ GE437.out) | exact HB.out)⟩⟩) | (exact ⟨_, (true), au122, H', ⟨by have := HJ6.out; first | omega | exact Nat.le_refl _⟩, ⟨by (with_reducible repeat (first | apply Kd.R_alloc | apply Kd.R_drewN | apply Kd.R_drew)); exact HO_416000.out⟩, ⟨by (with_reducible repeat (first | apply Kd.R_alloc | apply Kd.R_drewN | apply Kd.R_drew)); exact HO_426000.out⟩, ⟨by (with_reducible repeat (first | apply Kd.R_alloc | apply Kd.R_drewN | apply Kd.R_drew)); exact Kd.R_mono HO432.out (fun _ hk => ⟨hk.1.2, hk.2⟩)⟩, ⟨by (with_reducible repeat (first | refine blk_drewN ?_ _ | refine blk_drew ?_ | refine blk_alloc ?_ _)); exact BK415.out⟩, ⟨by (with_reducible repeat (first | refine blk_drewN ?_ _ | refine blk_drew ?_ | refine blk_alloc ?_ _)); exact BK425.out⟩, ⟨by (with_reducible repeat (first | refine blk_drewN ?_ _ | refine blk_drew ?_ | refine blk_alloc ?_ _)); exact BK437.out⟩, ⟨by repeat (first | (with_reducible first | exact HB.out | apply below_alloc | apply pw_below_drewN | apply below_drew1 | refine below_set ?_ GE415.out | refine below_set ?_ GE425.out | refine below_set ?_ GE437.out) | exact HB.out)⟩⟩)) : P := h
set_option maxRecDepth 100000 in
theorem laws_FnNameForms.L1 {P : Prop} (h : P := by
  go_wp2_with (first | ((with_reducible refine gate_callee (f := 13) rfl ?_); refine goesL_ (some 81) rfl rfl Tryd.func13 (by kernel_rfl) rfl #[.agg #[.slice Ao10 t409.length co10, .string t412, .string t413, .string t414]] rfl au54 ?_; (with_reducible refine (impl_FullForm.calls (hG := au6) kj54 _ _ t409 t412 t413 t414 t440 t441 _ ?side1 ?side2 A67.out).mono ?_); (case side1 => repeat (first | exact (Kd.R_reads' HO_416000.out).2.2 | (with_reducible refine Kd.C_alloc ?_ _) | (with_reducible refine Kd.C_drewN ?_ _) | (with_reducible refine Kd.C_drew ?_))); (case side2 => exact (Kd.R_reads' HO_416000.out).2.1); rintro e w100 ⟨rfl, hb⟩; refine ⟨_, rfl, ?_⟩; replace HO_416000 := Aside0.mk (Kd.R_below au103 hb); replace HO_426000 := Aside0.mk (Kd.R_below au104 hb); replace HO_438000 := Aside0.mk (Kd.R_below au105 hb); replace BK415 := Aside0.mk (blk_below (g := gb415) au95 hb); replace BK425 := Aside0.mk (blk_below (g := gb425) au96 hb); replace BK437 := Aside0.mk (blk_below (g := gb437) au97 hb); replace HB := Aside0.mk (below_step au13 hb); (try clear hb); obtain ⟨hcz101_0, hcz101_1, hcz101_2, hcz101_3, hfz101_0, hfz101_1, hfz101_2, hfz101_3⟩ := blkc4 BK415.out) | ((with_reducible refine gate_callee (f := 14) rfl ?_); refine goesL_ (some 86) rfl rfl Tryd.func14 (by kernel_rfl) rfl #[.agg #[.slice Ao10 t409.length co10, .string t412, .string t413, .string t414]] rfl au54 ?_; (with_reducible refine (impl_ShortForm.calls (hG := au6) kj54 _ _ t409 t412 t413 t414 t442 t443 _ ?side1 ?side2 A68.out).mono ?_); (case side1 => repeat (first | exact (Kd.R_reads' HO_416000.out).2.2 | (with_reducible refine Kd.C_alloc ?_ _) | (with_reducible refine Kd.C_drewN ?_ _) | (with_reducible refine Kd.C_drew ?_))); (case side2 => exact (Kd.R_reads' HO_416000.out).2.1); rintro e w102 ⟨rfl, hb⟩; refine ⟨_, rfl, ?_⟩; replace HO_416000 := Aside0.mk (Kd.R_below au103 hb); replace HO_426000 := Aside0.mk (Kd.R_below au104 hb); replace HO_438000 := Aside0.mk (Kd.R_below au105 hb); replace BK415 := Aside0.mk (blk_below (g := gb415) au95 hb); replace BK425 := Aside0.mk (blk_below (g := gb425) au96 hb); replace BK437 := Aside0.mk (blk_below (g := gb437) au97 hb); replace HB := Aside0.mk (below_step au13 hb); (try clear hb); obtain ⟨hcz103_0, hcz103_1, hcz103_2, hcz103_3, hfz103_0, hfz103_1, hfz103_2, hfz103_3⟩ := blkc4 BK415.out) | ((with_reducible refine gate_callee (f := 15) rfl ?_); refine goesL_ (some 91) rfl rfl Tryd.func15 (by kernel_rfl) rfl #[.agg #[.slice Ao10 t409.length co10, .string t412, .string t413, .string t414]] rfl au54 ?_; (with_reducible refine (spec_ShortForm.calls kj54 _ _ t409 t412 t413 t414 t444 t445 _ ?side1 ?side2 A69.out).mono ?_); (case side1 => repeat (first | exact (Kd.R_reads' HO_416000.out).2.2 | (with_reducible refine Kd.C_alloc ?_ _) | (with_reducible refine Kd.C_drewN ?_ _) | (with_reducible refine Kd.C_drew ?_))); (case side2 => exact (Kd.R_reads' HO_416000.out).2.1); rintro e w104 ⟨rfl, hb⟩; refine ⟨_, rfl, ?_⟩; replace HO_416000 := Aside0.mk (Kd.R_below au103 hb); replace HO_426000 := Aside0.mk (Kd.R_below au104 hb); replace HO_438000 := Aside0.mk (Kd.R_below au105 hb); replace BK415 := Aside0.mk (blk_below (g := gb415) au95 hb); replace BK425 := Aside0.mk (blk_below (g := gb425) au96 hb); replace BK437 := Aside0.mk (blk_below (g := gb437) au97 hb); replace HB := Aside0.mk (below_step au13 hb); (try clear hb); obtain ⟨hcz105_0, hcz105_1, hcz105_2, hcz105_3, hfz105_0, hfz105_1, hfz105_2, hfz105_3⟩ := blkc4 BK415.out))
  go_ret
  first | (exact ⟨by first | rfl | (simp [errW_none, errW_some] <;> rfl) | (simp [*, errW_none, errW_some] <;> rfl) | (simp [errW_none, errW_some]; simp only [show ∀ l_ : List UInt8, (!l_.isEmpty) = (l_ != ([] : List UInt8)) from fun l_ => by cases l_ <;> rfl]), by repeat (first | (with_reducible first | exact HB.out | apply below_alloc | apply pw_below_drewN | apply below_drew1 | refine below_set ?_ GE415.out | refine below_set ?_ GE425.out | refine below_set ?_ GE437.out) | exact HB.out)⟩) | (exact ⟨by first | rfl | (simp [errW_none, errW_some] <;> rfl) | (simp only [← hji138]; first | rfl | (simp [errW_none, errW_some] <;> rfl)) | (simp [*, errW_none, errW_some] <;> rfl), by repeat (first | (with_reducible first | exact HB.out | apply below_alloc | apply pw_below_drewN | apply below_drew1 | refine below_set ?_ GE415.out | refine below_set ?_ GE425.out | refine below_set ?_ GE437.out) | exact HB.out)⟩) | (exact ⟨by first | rfl | (simp [errW_none, errW_some] <;> rfl) | (simp only [← hji76]; first | rfl | (simp [errW_none, errW_some] <;> rfl)) | (simp [*, errW_none, errW_some] <;> rfl), by repeat (first | (with_reducible first | exact HB.out | apply below_alloc | apply pw_below_drewN | apply below_drew1 | refine below_set ?_ GE415.out | refine below_set ?_ GE425.out | refine below_set ?_ GE437.out) | exact HB.out)⟩) | (exact ⟨by first | rfl | (simp [errW_none, errW_some] <;> rfl) | (simp [*, errW_none, errW_some] <;> rfl) | (simp [errW_none, errW_some]; simp only [show ∀ l_ : List UInt8, (!l_.isEmpty) = (l_ != ([] : List UInt8)) from fun l_ => by cases l_ <;> rfl]), by repeat (first | (with_reducible first | exact HB.out | apply below_alloc | apply pw_below_drewN | apply below_drew1 | refine below_set ?_ GE415.out | refine below_set ?_ GE425.out) | exact HB.out)⟩)) : P := h
set_option maxRecDepth 100000 in
theorem laws_FnNameForms.L2 {P : Prop} (h : P := by
  go_wp2_with (first | ((with_reducible refine gate_callee (f := 9) rfl ?_); refine goesL_ (some 36) rfl rfl Tryd.func9 (by kernel_rfl) rfl #[.agg #[.slice Ao10 t409.length co10, .string t412, .string t413, .string t414]] rfl au54 ?_; (with_reducible refine (spec_IsValidName.calls k _ _ t409 t412 t413 t414 t426 _ ?side1 ?side2 A18.out).mono ?_); (case side1 => refine (Kd.R_reads' (e := 9) (base := w.heap.size) (ok := fun k_ => (True ∧ some k_ ≠ (.slice Ao15 t418.length co15 : Value).ownBlock)) (n := t409.length) (c := co10) ?_).2.2; exact au2); (case side2 => exact (Kd.R_reads' HO411.out).2.1); rintro e w48 ⟨rfl, hb⟩; refine ⟨_, rfl, ?_⟩; replace HO411 := Aside0.mk (Kd.R_below au2 hb); replace HO420 := Aside0.mk (Kd.R_below au3 hb); replace BK415 := Aside0.mk (blk_below (g := gb415) (o := .cells #[.slice Ao10 t409.length co10, .string t412, .string t413, .string t414] 26 (0, 0)) au1 hb); replace BK425 := Aside0.mk (blk_below (g := gb425) (o := .cells #[.slice Ao15 t418.length co15, .string t421, .string t422, .string t423] 26 (0, 0)) (by (with_reducible repeat (first | refine blk_drewN ?_ _ | refine blk_drew ?_ | refine blk_alloc ?_ _)); refine blk_put (cs := #[.slice Ao15 t418.length co15, .string t421, .string t422, .string (⟨#[]⟩ : ByteArray)]) ?_ 3 _ rfl; (with_reducible repeat (first | refine blk_drewN ?_ _ | refine blk_drew ?_ | refine blk_alloc ?_ _)); refine blk_put (cs := #[.slice Ao15 t418.length co15, .string t421, .string (⟨#[]⟩ : ByteArray), .string (⟨#[]⟩ : ByteArray)]) ?_ 2 _ rfl; (with_reducible repeat (first | refine blk_drewN ?_ _ | refine blk_drew ?_ | refine blk_alloc ?_ _)); refine blk_put (cs := #[.slice Ao15 t418.length co15, .string (⟨#[]⟩ : ByteArray), .string (⟨#[]⟩ : ByteArray), .string (⟨#[]⟩ : ByteArray)]) ?_ 1 _ rfl; (with_reducible repeat (first | refine blk_drewN ?_ _ | refine blk_drew ?_ | refine blk_alloc ?_ _)); refine blk_put (cs := #[.slice none 0 0, .string (⟨#[]⟩ : ByteArray), .string (⟨#[]⟩ : ByteArray), .string (⟨#[]⟩ : ByteArray)]) ?_ 0 _ rfl; (with_reducible repeat (first | refine blk_drewN ?_ _ | refine blk_drew ?_ | refine blk_alloc ?_ _)); exact BK425.out) hb); replace HB := Aside0.mk (below_step au21 hb); (try clear hb); obtain ⟨hcz49_0, hcz49_1, hcz49_2, hcz49_3, hfz49_0, hfz49_1, hfz49_2, hfz49_3⟩ := blkc4 BK415.out) | (go_at_call 10; (with_reducible refine (impl_IsValidName.calls (hG := au6) k _ _ t409 t412 t413 t414 t427 _ ?side1 ?side2 A23.out).mono ?_); (case side1 => repeat (first | exact (Kd.R_reads' HO411.out).2.2 | (with_reducible refine Kd.C_alloc ?_ _) | (with_reducible refine Kd.C_drewN ?_ _) | (with_reducible refine Kd.C_drew ?_))); (case side2 => exact (Kd.R_reads' HO411.out).2.1); rintro e w50 ⟨rfl, hb⟩; replace HO411 := Aside0.mk (Kd.R_below au113 hb); replace HO420 := Aside0.mk (Kd.R_below au114 hb); replace BK415 := Aside0.mk (blk_below (g := gb415) au95 hb); replace BK425 := Aside0.mk (blk_below (g := gb425) au96 hb); replace HB := Aside0.mk (below_step au21 hb); (try clear hb)))
  go_meet
  case rel => first | (exact ⟨_, (false), au122, H', ⟨by first | omega | exact Nat.le_refl _⟩, ⟨by (with_reducible repeat (first | apply Kd.R_alloc | apply Kd.R_drewN | apply Kd.R_drew)); exact Kd.R_mono HO411.out (fun _ hk => hk.2)⟩, ⟨by (with_reducible repeat (first | apply Kd.R_alloc | apply Kd.R_drewN | apply Kd.R_drew)); exact Kd.R_mono HO420.out (fun _ hk => hk.2)⟩, ⟨by (with_reducible repeat (first | refine blk_drewN ?_ _ | refine blk_drew ?_ | refine blk_alloc ?_ _)); exact BK415.out⟩, ⟨by (with_reducible repeat (first | refine blk_drewN ?_ _ | refine blk_drew ?_ | refine blk_alloc ?_ _)); exact BK425.out⟩, ⟨by repeat (first | (with_reducible first | exact HB.out | apply below_alloc | apply pw_below_drewN | apply below_drew1 | refine below_set ?_ GE415.out | refine below_set ?_ GE425.out) | exact HB.out)⟩⟩) | (exact ⟨_, (true), au122, H', ⟨by first | omega | exact Nat.le_refl _⟩, ⟨by (with_reducible repeat (first | apply Kd.R_alloc | apply Kd.R_drewN | apply Kd.R_drew)); exact Kd.R_mono HO411.out (fun _ hk => hk.2)⟩, ⟨by (with_reducible repeat (first | apply Kd.R_alloc | apply Kd.R_drewN | apply Kd.R_drew)); exact Kd.R_mono HO420.out (fun _ hk => hk.2)⟩, ⟨by (with_reducible repeat (first | refine blk_drewN ?_ _ | refine blk_drew ?_ | refine blk_alloc ?_ _)); exact BK415.out⟩, ⟨by (with_reducible repeat (first | refine blk_drewN ?_ _ | refine blk_drew ?_ | refine blk_alloc ?_ _)); exact BK425.out⟩, ⟨by repeat (first | (with_reducible first | exact HB.out | apply below_alloc | apply pw_below_drewN | apply below_drew1 | refine below_set ?_ GE415.out | refine below_set ?_ GE425.out) | exact HB.out)⟩⟩)) : P := h
set_option maxHeartbeats 8000000 in
set_option maxRecDepth 100000 in
theorem laws_FnNameForms.calls (k : Nat) (A0 : Option Addr) (c0 : Nat) (l0 : List Int) (r : Bool) (w : World) {gF1 gF2 gF3 : Bool} (hG : GL gF1 gF2 gF3 w) (hr0 : Kd.C (Kd.int .u8) w A0 l0.length l0) (hc0 : l0.length ≤ c0) (h : laws_FnNameForms.f k l0 = some r) :
  Calls Tryd.prog 3 #[.slice A0 l0.length c0] w fun e w' => e = .returned (.bool r) ∧ Below w.heap.size w w' := by
 have HG := Aside0.mk hG
 clear hG
 have hu26 := Tryd.underlying26
 have HR0 := Aside0.mk hr0
 have HC0 := Aside0.mk hc0
 clear hr0 hc0
 have HB := Aside0.mk (Below.refl w.heap.size w)
 have H : ((laws_vBig.f l0).bind fun t408 => (if t408 = true then (some true) else ((spec_DrawInverseForm.f k l0).bind fun bt409 => ((impl_InverseForm.f k bt409.1 bt409.2.1 bt409.2.2.1 bt409.2.2.2).bind fun bt416 => ((impl_ParseInverse.f k bt416.1).bind fun bt418 => ((spec_IsValidName.f k bt409.1 bt409.2.1 bt409.2.2.1 bt409.2.2.2).bind fun t426 => (if (bt416.2 != t426) = true then (laws_FnNameForms.j0 k l0 bt416.2 true bt409.1 bt409.2.1 bt409.2.2.1 bt409.2.2.2) else ((impl_IsValidName.f k bt409.1 bt409.2.1 bt409.2.2.1 bt409.2.2.2).bind fun t427 => (if (t427 != bt416.2) = true then (laws_FnNameForms.j0 k l0 bt416.2 true bt409.1 bt409.2.1 bt409.2.2.1 bt409.2.2.2) else (if bt416.2 = true then (if bt418.2.2.2.2 = true then ((laws_vName.f k bt418.1 bt418.2.1 bt418.2.2.1 bt418.2.2.2.1 bt409.1 bt409.2.1 bt409.2.2.1 bt409.2.2.2).bind fun t428 => (laws_FnNameForms.j0 k l0 bt416.2 (!t428) bt409.1 bt409.2.1 bt409.2.2.1 bt409.2.2.2)) else (laws_FnNameForms.j0 k l0 bt416.2 true bt409.1 bt409.2.1 bt409.2.2.1 bt409.2.2.2)) else (laws_FnNameForms.j0 k l0 bt416.2 false bt409.1 bt409.2.1 bt409.2.2.1 bt409.2.2.2))))))))))) = some r := h
 clear h
 replace H := Option.bind_eq_some_iff.mp H
 obtain ⟨t408, A20, H⟩ := H
 try dsimp only at H
 have A2 := Aside0.mk A20
 clear A20
 by_cases c3 : t408 = true
 ·
  subst c3
  replace H := (if_pos rfl).symm.trans H
  obtain rfl := Option.some.inj H
  go_enter Tryd.func3, Tryd.ntmps3
  go_wp2_with (first | ((with_reducible refine gate_callee (f := 5) rfl ?_); refine goesL_ (some 21) rfl rfl Tryd.func5 (by kernel_rfl) rfl #[.slice A0 l0.length c0] rfl au54 ?_; (with_reducible refine (laws_vBig.calls _ _ l0 _ _ ?side1 ?side2 A2.out).mono ?_); (case side1 => repeat (first | exact HR0.out | (with_reducible refine Kd.C_alloc ?_ _) | (with_reducible refine Kd.C_drewN ?_ _) | (with_reducible refine Kd.C_drew ?_))); (case side2 => exact HC0.out); rintro e w' ⟨rfl, ⟨nd, rfl⟩⟩; refine ⟨_, rfl, ?_⟩))
  go_ret
  exact ⟨by first | rfl | (simp [errW_none, errW_some] <;> rfl) | (simp [*, errW_none, errW_some] <;> rfl) | (simp [errW_none, errW_some]; simp only [show ∀ l_ : List UInt8, (!l_.isEmpty) = (l_ != ([] : List UInt8)) from fun l_ => by cases l_ <;> rfl]), by repeat (first | (with_reducible first | exact HB.out | apply below_alloc | apply pw_below_drewN | apply below_drew1) | exact HB.out)⟩
 ·
  replace c3 := Bool.eq_false_iff.mpr c3
  subst c3
  replace H := (if_neg (show ¬ (false = true) by decide)).symm.trans H
  replace H := Option.bind_eq_some_iff.mp H
  obtain ⟨⟨t409, t412, t413, t414⟩, A40, H⟩ := H
  replace H : ((impl_InverseForm.f k t409 t412 t413 t414).bind fun bt416 => ((impl_ParseInverse.f k bt416.1).bind fun bt418 => ((spec_IsValidName.f k t409 t412 t413 t414).bind fun t426 => (if (bt416.2 != t426) = true then (laws_FnNameForms.j0 k l0 bt416.2 true t409 t412 t413 t414) else ((impl_IsValidName.f k t409 t412 t413 t414).bind fun t427 => (if (t427 != bt416.2) = true then (laws_FnNameForms.j0 k l0 bt416.2 true t409 t412 t413 t414) else (if bt416.2 = true then (if bt418.2.2.2.2 = true then ((laws_vName.f k bt418.1 bt418.2.1 bt418.2.2.1 bt418.2.2.2.1 t409 t412 t413 t414).bind fun t428 => (laws_FnNameForms.j0 k l0 bt416.2 (!t428) t409 t412 t413 t414)) else (laws_FnNameForms.j0 k l0 bt416.2 true t409 t412 t413 t414)) else (laws_FnNameForms.j0 k l0 bt416.2 false t409 t412 t413 t414)))))))) = some r := H
  have A4 := Aside0.mk A40
  clear A40
  replace H := Option.bind_eq_some_iff.mp H
  obtain ⟨⟨t416, t417⟩, A50, H⟩ := H
  replace H : ((impl_ParseInverse.f k t416).bind fun bt418 => ((spec_IsValidName.f k t409 t412 t413 t414).bind fun t426 => (if (t417 != t426) = true then (laws_FnNameForms.j0 k l0 t417 true t409 t412 t413 t414) else ((impl_IsValidName.f k t409 t412 t413 t414).bind fun t427 => (if (t427 != t417) = true then (laws_FnNameForms.j0 k l0 t417 true t409 t412 t413 t414) else (if t417 = true then (if bt418.2.2.2.2 = true then ((laws_vName.f k bt418.1 bt418.2.1 bt418.2.2.1 bt418.2.2.2.1 t409 t412 t413 t414).bind fun t428 => (laws_FnNameForms.j0 k l0 t417 (!t428) t409 t412 t413 t414)) else (laws_FnNameForms.j0 k l0 t417 true t409 t412 t413 t414)) else (laws_FnNameForms.j0 k l0 t417 false t409 t412 t413 t414))))))) = some r := H
  have A5 := Aside0.mk A50
  clear A50
  replace H := Option.bind_eq_some_iff.mp H
  obtain ⟨⟨t418, t421, t422, t423, t424⟩, A60, H⟩ := H
  replace H : ((spec_IsValidName.f k t409 t412 t413 t414).bind fun t426 => (if (t417 != t426) = true then (laws_FnNameForms.j0 k l0 t417 true t409 t412 t413 t414) else ((impl_IsValidName.f k t409 t412 t413 t414).bind fun t427 => (if (t427 != t417) = true then (laws_FnNameForms.j0 k l0 t417 true t409 t412 t413 t414) else (if t417 = true then (if t424 = true then ((laws_vName.f k t418 t421 t422 t423 t409 t412 t413 t414).bind fun t428 => (laws_FnNameForms.j0 k l0 t417 (!t428) t409 t412 t413 t414)) else (laws_FnNameForms.j0 k l0 t417 true t409 t412 t413 t414)) else (laws_FnNameForms.j0 k l0 t417 false t409 t412 t413 t414)))))) = some r := H
  have A6 := Aside0.mk A60
  clear A60
  have HC7 := Aside0.mk H
  clear H
  go_enter Tryd.func3, Tryd.ntmps3
  go_upto_region 6 with (first | ((with_reducible refine gate_callee (f := 5) rfl ?_); refine goesL_ (some 21) rfl rfl Tryd.func5 (by kernel_rfl) rfl #[.slice A0 l0.length c0] rfl au54 ?_; (with_reducible refine (laws_vBig.calls _ _ l0 _ _ ?side1 ?side2 A2.out).mono ?_); (case side1 => repeat (first | exact HR0.out | (with_reducible refine Kd.C_alloc ?_ _) | (with_reducible refine Kd.C_drewN ?_ _) | (with_reducible refine Kd.C_drew ?_))); (case side2 => exact HC0.out); rintro e w' ⟨rfl, ⟨nd, rfl⟩⟩; refine ⟨_, rfl, ?_⟩) | ((with_reducible refine gate_callee (f := 6) rfl ?_); refine goesL_ (some 23) rfl rfl Tryd.func6 (by kernel_rfl) rfl #[.slice A0 l0.length c0] rfl au54 ?_; (with_reducible refine (spec_DrawInverseForm.calls k _ _ l0 t409 t412 t413 t414 _ ?side1 ?side2 A4.out).mono ?_); (case side1 => repeat (first | exact HR0.out | (with_reducible refine Kd.C_alloc ?_ _) | (with_reducible refine Kd.C_drewN ?_ _) | (with_reducible refine Kd.C_drew ?_))); (case side2 => exact HC0.out); rintro e w8 ⟨v410, rfl, ho0, hb⟩; refine ⟨_, rfl, ?_⟩; have HO411 := Aside0.mk (Kd.R_lower ho0 (below_size au57)); replace HB := Aside0.mk (below_step au57 hb); (try clear hb); (try clear ho0)) | ((with_reducible refine gate_dst (N := 3) rfl ?_); (try (refine gate_guard (by rfl) ?_; dsimp only)); refine box_event ?hg (N := 3) ?hd (cs := #[.slice none 0 0, .string (⟨#[]⟩ : ByteArray), .string (⟨#[]⟩ : ByteArray), .string (⟨#[]⟩ : ByteArray)]) (t := 26) ?hr ?_; (case hd => rfl); (case hg => rfl); (case hr => first | (go_simp; done) | (go_simp; rfl)); intro gb415 hg w9 hbox hb; replace HO411 := Aside0.mk (Kd.R_below au113 hb); have BK415 := Aside0.mk (hbox); have GW415 := Aside0.mk (bsz hg au57); have GE415 := Aside0.mk (bsz hg au57); replace HB := Aside0.mk (below_step au57 hb); clear hb hbox hg; obtain ⟨Ao10, co10, eo10⟩ := Kd.R_slice HO411.out; subst eo10; obtain ⟨hcz11_0, hcz11_1, hcz11_2, hcz11_3, hfz11_0, hfz11_1, hfz11_2, hfz11_3⟩ := blkc4 BK415.out) | ((with_reducible refine gate_callee (f := 7) rfl ?_); refine goesL_ (some 26) rfl rfl Tryd.func7 (by kernel_rfl) rfl #[.agg #[.slice Ao10 t409.length co10, .string t412, .string t413, .string t414]] rfl au54 ?_; (with_reducible refine (impl_InverseForm.calls (hG := au6) k _ _ t409 t412 t413 t414 t416 t417 _ ?side1 ?side2 A5.out).mono ?_); (case side1 => refine (Kd.R_reads' (e := 9) (base := w.heap.size) (ok := fun k_ => True) (n := t409.length) (c := co10) ?_).2.2; exact au4); (case side2 => exact (Kd.R_reads' HO411.out).2.1); rintro e w12 ⟨rfl, hb⟩; refine ⟨_, rfl, ?_⟩; replace HO411 := Aside0.mk (Kd.R_below au4 hb); replace BK415 := Aside0.mk (blk_below (g := gb415) (o := .cells #[.slice Ao10 t409.length co10, .string t412, .string t413, .string t414] 26 (0, 0)) (by (with_reducible repeat (first | refine blk_drewN ?_ _ | refine blk_drew ?_ | refine blk_alloc ?_ _)); refine blk_put (cs := #[.slice Ao10 t409.length co10, .string t412, .string t413, .string (⟨#[]⟩ : ByteArray)]) ?_ 3 _ rfl; (with_reducible repeat (first | refine blk_drewN ?_ _ | refine blk_drew ?_ | refine blk_alloc ?_ _)); refine blk_put (cs := #[.slice Ao10 t409.length co10, .string t412, .string (⟨#[]⟩ : ByteArray), .string (⟨#[]⟩ : ByteArray)]) ?_ 2 _ rfl; (with_reducible repeat (first | refine blk_drewN ?_ _ | refine blk_drew ?_ | refine blk_alloc ?_ _)); refine blk_put (cs := #[.slice Ao10 t409.length co10, .string (⟨#[]⟩ : ByteArray), .string (⟨#[]⟩ : ByteArray), .string (⟨#[]⟩ : ByteArray)]) ?_ 1 _ rfl; (with_reducible repeat (first | refine blk_drewN ?_ _ | refine blk_drew ?_ | refine blk_alloc ?_ _)); refine blk_put (cs := #[.slice none 0 0, .string (⟨#[]⟩ : ByteArray), .string (⟨#[]⟩ : ByteArray), .string (⟨#[]⟩ : ByteArray)]) ?_ 0 _ rfl; (with_reducible repeat (first | refine blk_drewN ?_ _ | refine blk_drew ?_ | refine blk_alloc ?_ _)); exact BK415.out) hb); replace HB := Aside0.mk (below_step au50 hb); (try clear hb)) | ((with_reducible refine gate_callee (f := 8) rfl ?_); refine goesL_ (some 31) rfl rfl Tryd.func8 (by kernel_rfl) rfl #[.string t416] rfl au54 ?_; (with_reducible refine (impl_ParseInverse.calls (hG := au6) k t416 t418 t421 t422 t423 t424 _ A6.out).mono ?_); rintro e w13 ⟨v419, rfl, ho0, hb⟩; refine ⟨_, rfl, ?_⟩; have HO420 := Aside0.mk (Kd.R_lower (Kd.R_new' ho0 (Kd.R_lt au113)) (below_size au50)); replace HO411 := Aside0.mk (Kd.R_elder' au113 (Kd.R_base ho0) hb); replace BK415 := Aside0.mk (blk_below (g := gb415) au95 hb); replace HB := Aside0.mk (below_step au50 hb); (try clear hb); (try clear ho0)) | ((with_reducible refine gate_dst (N := 6) rfl ?_); (try (refine gate_guard (by rfl) ?_; dsimp only)); refine box_event ?hg (N := 6) ?hd (cs := #[.slice none 0 0, .string (⟨#[]⟩ : ByteArray), .string (⟨#[]⟩ : ByteArray), .string (⟨#[]⟩ : ByteArray)]) (t := 26) ?hr ?_; (case hd => rfl); (case hg => rfl); (case hr => first | (go_simp; done) | (go_simp; rfl)); intro gb425 hg w14 hbox hb; replace HO411 := Aside0.mk (Kd.R_below au113 hb); replace HO420 := Aside0.mk (Kd.R_below au114 hb); have BK425 := Aside0.mk (hbox); have GW425 := Aside0.mk (bsz hg au50); have GE425 := Aside0.mk (bsz hg au50); replace HB := Aside0.mk (below_step au50 hb); have NB415_425 := Aside0.mk (bne (g := gb415) hg au95); have NB425_415 := Aside0.mk (ben (g := gb415) hg au95); replace BK415 := Aside0.mk (blk_below (g := gb415) au95 hb); clear hb hbox hg; obtain ⟨Ao15, co15, eo15⟩ := Kd.R_slice HO420.out; subst eo15; have hnb16 := NB425_415.out; have hnc16 := NB415_425.out; obtain ⟨hcz17_0, hcz17_1, hcz17_2, hcz17_3, hfz17_0, hfz17_1, hfz17_2, hfz17_3⟩ := blkc4 BK425.out))
  (try simp only [Act.put, List.setIfInBounds_toArray, List.set_cons_zero, List.set_cons_succ])
  go_cut [56] (fun v56 wc => ∃ (kq : Nat) (x56_6 : Bool), v56 = .bool x56_6 ∧ Aside0 (laws_FnNameForms.j0 kq l0 t417 x56_6 t409 t412 t413 t414 = some r) ∧ Aside0 (kq ≤ k) ∧ Aside0 (Kd.R Kd.string 9 wc w.heap.size (fun k_ => some k_ ≠ ((.slice Ao15 t418.length co15) : Value).ownBlock) (.slice Ao10 t409.length co10) t409) ∧ Aside0 (Kd.R Kd.string 9 wc w.heap.size (fun k_ => some k_ ≠ ((.slice Ao10 t409.length co10) : Value).ownBlock) (.slice Ao15 t418.length co15) t418) ∧ Aside0 (wc.heap[gb415]? = some (.cells #[(.slice Ao10 t409.length co10), .string t412, .string t413, .string t414] 26 (0, 0))) ∧ Aside0 (wc.heap[gb425]? = some (.cells #[(.slice Ao15 t418.length co15), .string t421, .string t422, .string t423] 26 (0, 0))) ∧ Aside0 (Below w.heap.size w wc))
  case first =>
   have H := HC7.out
   clear HC7
   replace H := Option.bind_eq_some_iff.mp H
   obtain ⟨t426, A180, H⟩ := H
   try dsimp only at H
   have A18 := Aside0.mk A180
   clear A180
   by_cases c19 : (t417 != t426) = true
   ·
    rw [if_pos c19] at H
    have c19b0 : (t417 != t426) = true := c19
    (try (have c19b1 : decide (t417 = t426) = false := by simpa using c19))
    (try (have c19b2 : (t417 == t426) = false := by simpa using c19))
    (try (have c19b3 : ¬ (t417 = t426) := by simpa using c19))
    clear c19
    (first | rw [c19b0] | (simp only [i64_w, i32_w]; rw [c19b0]) | skip)
    have H' := Aside0.mk H
    clear H
    have hnb20 := NB415_425.out
    have hnc20 := NB425_415.out
    obtain ⟨hcz21_0, hcz21_1, hcz21_2, hcz21_3, hfz21_0, hfz21_1, hfz21_2, hfz21_3⟩ := blkc4 BK415.out
    go_wp2_with (first | ((with_reducible refine gate_callee (f := 9) rfl ?_); refine goesL_ (some 36) rfl rfl Tryd.func9 (by kernel_rfl) rfl #[.agg #[.slice Ao10 t409.length co10, .string t412, .string t413, .string t414]] rfl au54 ?_; (with_reducible refine (spec_IsValidName.calls k _ _ t409 t412 t413 t414 t426 _ ?side1 ?side2 A18.out).mono ?_); (case side1 => refine (Kd.R_reads' (e := 9) (base := w.heap.size) (ok := fun k_ => (True ∧ some k_ ≠ (.slice Ao15 t418.length co15 : Value).ownBlock)) (n := t409.length) (c := co10) ?_).2.2; exact au2); (case side2 => exact (Kd.R_reads' HO411.out).2.1); rintro e w22 ⟨rfl, hb⟩; refine ⟨_, rfl, ?_⟩; replace HO411 := Aside0.mk (Kd.R_below au2 hb); replace HO420 := Aside0.mk (Kd.R_below au3 hb); replace BK415 := Aside0.mk (blk_below (g := gb415) (o := .cells #[.slice Ao10 t409.length co10, .string t412, .string t413, .string t414] 26 (0, 0)) au1 hb); replace BK425 := Aside0.mk (blk_below (g := gb425) (o := .cells #[.slice Ao15 t418.length co15, .string t421, .string t422, .string t423] 26 (0, 0)) (by (with_reducible repeat (first | refine blk_drewN ?_ _ | refine blk_drew ?_ | refine blk_alloc ?_ _)); refine blk_put (cs := #[.slice Ao15 t418.length co15, .string t421, .string t422, .string (⟨#[]⟩ : ByteArray)]) ?_ 3 _ rfl; (with_reducible repeat (first | refine blk_drewN ?_ _ | refine blk_drew ?_ | refine blk_alloc ?_ _)); refine blk_put (cs := #[.slice Ao15 t418.length co15, .string t421, .string (⟨#[]⟩ : ByteArray), .string (⟨#[]⟩ : ByteArray)]) ?_ 2 _ rfl; (with_reducible repeat (first | refine blk_drewN ?_ _ | refine blk_drew ?_ | refine blk_alloc ?_ _)); refine blk_put (cs := #[.slice Ao15 t418.length co15, .string (⟨#[]⟩ : ByteArray), .string (⟨#[]⟩ : ByteArray), .string (⟨#[]⟩ : ByteArray)]) ?_ 1 _ rfl; (with_reducible repeat (first | refine blk_drewN ?_ _ | refine blk_drew ?_ | refine blk_alloc ?_ _)); refine blk_put (cs := #[.slice none 0 0, .string (⟨#[]⟩ : ByteArray), .string (⟨#[]⟩ : ByteArray), .string (⟨#[]⟩ : ByteArray)]) ?_ 0 _ rfl; (with_reducible repeat (first | refine blk_drewN ?_ _ | refine blk_drew ?_ | refine blk_alloc ?_ _)); exact BK425.out) hb); replace HB := Aside0.mk (below_step au21 hb); (try clear hb)))
    go_meet
    case rel => exact ⟨_, (true), au122, H', ⟨by first | omega | exact Nat.le_refl _⟩, ⟨by (with_reducible repeat (first | apply Kd.R_alloc | apply Kd.R_drewN | apply Kd.R_drew)); exact Kd.R_mono HO411.out (fun _ hk => hk.2)⟩, ⟨by (with_reducible repeat (first | apply Kd.R_alloc | apply Kd.R_drewN | apply Kd.R_drew)); exact Kd.R_mono HO420.out (fun _ hk => hk.2)⟩, ⟨by (with_reducible repeat (first | refine blk_drewN ?_ _ | refine blk_drew ?_ | refine blk_alloc ?_ _)); exact BK415.out⟩, ⟨by (with_reducible repeat (first | refine blk_drewN ?_ _ | refine blk_drew ?_ | refine blk_alloc ?_ _)); exact BK425.out⟩, ⟨by repeat (first | (with_reducible first | exact HB.out | apply below_alloc | apply pw_below_drewN | apply below_drew1 | refine below_set ?_ GE415.out | refine below_set ?_ GE425.out) | exact HB.out)⟩⟩
   ·
    rw [if_neg c19] at H
    have c19b0 : (t417 != t426) = false := by simpa using c19
    (try (have c19b1 : decide (t417 = t426) = true := by simpa using c19))
    (try (have c19b2 : (t417 == t426) = true := by simpa using c19))
    clear c19
    (first | rw [c19b0] | (simp only [i64_w, i32_w]; rw [c19b0]) | skip)
    replace H := Option.bind_eq_some_iff.mp H
    obtain ⟨t427, A230, H⟩ := H
    try dsimp only at H
    have A23 := Aside0.mk A230
    clear A230
    by_cases c24 : (t427 != t417) = true
    ·
     rw [if_pos c24] at H
     have c24b0 : (t427 != t417) = true := c24
     (try (have c24b1 : decide (t427 = t417) = false := by simpa using c24))
     (try (have c24b2 : (t427 == t417) = false := by simpa using c24))
     (try (have c24b3 : ¬ (t427 = t417) := by simpa using c24))
     clear c24
     have H' := Aside0.mk H
     clear H
     have hnb25 := NB415_425.out
     have hnc25 := NB425_415.out
     obtain ⟨hcz26_0, hcz26_1, hcz26_2, hcz26_3, hfz26_0, hfz26_1, hfz26_2, hfz26_3⟩ := blkc4 BK415.out
     exact laws_FnNameForms.L2
    ·
     rw [if_neg c24] at H
     have c24b0 : (t427 != t417) = false := by simpa using c24
     (try (have c24b1 : decide (t427 = t417) = true := by simpa using c24))
     (try (have c24b2 : (t427 == t417) = true := by simpa using c24))
     clear c24
     by_cases c30 : t417 = true
     ·
      subst c30
      replace H := (if_pos rfl).symm.trans H
      by_cases c31 : t424 = true
      ·
       subst c31
       replace H := (if_pos rfl).symm.trans H
       replace H := Option.bind_eq_some_iff.mp H
       obtain ⟨t428, A320, H⟩ := H
       try dsimp only at H
       have A32 := Aside0.mk A320
       clear A320
       have H' := Aside0.mk H
       clear H
       have hnb33 := NB415_425.out
       have hnc33 := NB425_415.out
       obtain ⟨hcz34_0, hcz34_1, hcz34_2, hcz34_3, hfz34_0, hfz34_1, hfz34_2, hfz34_3⟩ := blkc4 BK415.out
       exact laws_FnNameForms.L0
      ·
       replace c31 := Bool.eq_false_iff.mpr c31
       subst c31
       replace H := (if_neg (show ¬ (false = true) by decide)).symm.trans H
       have H' := Aside0.mk H
       clear H
       have hnb41 := NB415_425.out
       have hnc41 := NB425_415.out
       obtain ⟨hcz42_0, hcz42_1, hcz42_2, hcz42_3, hfz42_0, hfz42_1, hfz42_2, hfz42_3⟩ := blkc4 BK415.out
       exact laws_FnNameForms.L2
     ·
      replace c30 := Bool.eq_false_iff.mpr c30
      subst c30
      replace H := (if_neg (show ¬ (false = true) by decide)).symm.trans H
      have H' := Aside0.mk H
      clear H
      have hnb46 := NB415_425.out
      have hnc46 := NB425_415.out
      obtain ⟨hcz47_0, hcz47_1, hcz47_2, hcz47_3, hfz47_0, hfz47_1, hfz47_2, hfz47_3⟩ := blkc4 BK415.out
      exact laws_FnNameForms.L2
  case rest =>
   clear HC7
   try clear c1
   try clear c2
   try clear p2
   try clear c3
   try clear c4
   try clear c5
   try clear c6
   try clear c7
   try clear c8
   try clear c9
   try clear c16
   try clear c19
   try clear c19b0
   try clear c19b1
   try clear c19b2
   try clear c20
   try clear c24
   try clear c24b0
   try clear c24b1
   try clear c24b2
   try clear c25
   try clear c30
   try clear c31
   try clear c33
   try clear c41
   try clear c46
   try clear hcz11_0
   try clear hcz11_1
   try clear hcz11_2
   try clear hcz11_3
   try clear hcz17_0
   try clear hcz17_1
   try clear hcz17_2
   try clear hcz17_3
   try clear hcz21_0
   try clear hcz21_1
   try clear hcz21_2
   try clear hcz21_3
   try clear hcz26_0
   try clear hcz26_1
   try clear hcz26_2
   try clear hcz26_3
   try clear hcz28_0
   try clear hcz28_1
   try clear hcz28_2
   try clear hcz28_3
   try clear hcz34_0
   try clear hcz34_1
   try clear hcz34_2
   try clear hcz34_3
   try clear hcz36_0
   try clear hcz36_1
   try clear hcz36_2
   try clear hcz36_3
   try clear hcz38_0
   try clear hcz38_1
   try clear hcz38_2
   try clear hcz38_3
   try clear hcz39_0
   try clear hcz39_1
   try clear hcz39_2
   try clear hcz39_3
   try clear hcz42_0
   try clear hcz42_1
   try clear hcz42_2
   try clear hcz42_3
   try clear hcz44_0
   try clear hcz44_1
   try clear hcz44_2
   try clear hcz44_3
   try clear hcz47_0
   try clear hcz47_1
   try clear hcz47_2
   try clear hcz47_3
   try clear hcz49_0
   try clear hcz49_1
   try clear hcz49_2
   try clear hcz49_3
   try clear hfz11_0
   try clear hfz11_1
   try clear hfz11_2
   try clear hfz11_3
   try clear hfz17_0
   try clear hfz17_1
   try clear hfz17_2
   try clear hfz17_3
   try clear hfz21_0
   try clear hfz21_1
   try clear hfz21_2
   try clear hfz21_3
   try clear hfz26_0
   try clear hfz26_1
   try clear hfz26_2
   try clear hfz26_3
   try clear hfz28_0
   try clear hfz28_1
   try clear hfz28_2
   try clear hfz28_3
   try clear hfz34_0
   try clear hfz34_1
   try clear hfz34_2
   try clear hfz34_3
   try clear hfz36_0
   try clear hfz36_1
   try clear hfz36_2
   try clear hfz36_3
   try clear hfz38_0
   try clear hfz38_1
   try clear hfz38_2
   try clear hfz38_3
   try clear hfz39_0
   try clear hfz39_1
   try clear hfz39_2
   try clear hfz39_3
   try clear hfz42_0
   try clear hfz42_1
   try clear hfz42_2
   try clear hfz42_3
   try clear hfz44_0
   try clear hfz44_1
   try clear hfz44_2
   try clear hfz44_3
   try clear hfz47_0
   try clear hfz47_1
   try clear hfz47_2
   try clear hfz47_3
   try clear hfz49_0
   try clear hfz49_1
   try clear hfz49_2
   try clear hfz49_3
   obtain ⟨kq, x56_6, rfl, HA, HJ6, HO_416000, HO_426000, BK415, BK425, HB⟩ := hcut
   cases kq with
   | zero => exact absurd HA.out (by simp [laws_FnNameForms.j0])
   | succ kj6 =>
    have H := HA.out
    clear HA
    simp only [laws_FnNameForms.j0] at H
    by_cases c51 : x56_6 = true
    ·
     subst c51
     replace H := (if_pos rfl).symm.trans H
     obtain rfl := Option.some.inj H
     exact laws_FnNameForms.L1
    ·
     replace c51 := Bool.eq_false_iff.mpr c51
     subst c51
     replace H := (if_neg (show ¬ (false = true) by decide)).symm.trans H
     replace H := Option.bind_eq_some_iff.mp H
     obtain ⟨t429, A520, H⟩ := H
     try dsimp only at H
     have A52 := Aside0.mk A520
     clear A520
     replace H := Option.bind_eq_some_iff.mp H
     obtain ⟨⟨t430, t433, t434, t435, t436⟩, A530, H⟩ := H
     replace H : ((impl_InverseForm.f kj6 t430 t433 t434 t435).bind fun bt438 => (if t436 = true then (if bt438.2 = true then (laws_FnNameForms.j1 kj6 t417 (bt438.1.toList != t429.toList) t409 t412 t413 t414) else (laws_FnNameForms.j1 kj6 t417 true t409 t412 t413 t414)) else (laws_FnNameForms.j1 kj6 t417 false t409 t412 t413 t414))) = some r := H
     have A53 := Aside0.mk A530
     clear A530
     replace H := Option.bind_eq_some_iff.mp H
     obtain ⟨⟨t438, t439⟩, A540, H⟩ := H
     replace H : (if t436 = true then (if t439 = true then (laws_FnNameForms.j1 kj6 t417 (t438.toList != t429.toList) t409 t412 t413 t414) else (laws_FnNameForms.j1 kj6 t417 true t409 t412 t413 t414)) else (laws_FnNameForms.j1 kj6 t417 false t409 t412 t413 t414)) = some r := H
     have A54 := Aside0.mk A540
     clear A540
     have HC55 := Aside0.mk H
     clear H
     go_upto_region 11 with (first | ((with_reducible refine gate_callee (f := 12) rfl ?_); refine goesL_ (some 58) rfl rfl Tryd.func12 (by kernel_rfl) rfl #[.slice A0 l0.length c0] rfl au54 ?_; (with_reducible refine (spec_DrawParseInverse.calls kj6 _ _ l0 t429 _ ?side1 ?side2 A52.out).mono ?_); (case side1 => repeat (first | exact (Kd.C_below HR0.out HB.out) | (with_reducible refine Kd.C_alloc ?_ _) | (with_reducible refine Kd.C_drewN ?_ _) | (with_reducible refine Kd.C_drew ?_))); (case side2 => exact HC0.out); rintro e w56 ⟨rfl, hb⟩; refine ⟨_, rfl, ?_⟩; replace HO_416000 := Aside0.mk (Kd.R_below au103 hb); replace HO_426000 := Aside0.mk (Kd.R_below au104 hb); replace BK415 := Aside0.mk (blk_below (g := gb415) au95 hb); replace BK425 := Aside0.mk (blk_below (g := gb425) au96 hb); replace HB := Aside0.mk (below_step au21 hb); (try clear hb)) | ((with_reducible refine gate_callee (f := 8) rfl ?_); refine goesL_ (some 61) rfl rfl Tryd.func8 (by kernel_rfl) rfl #[.string t429] rfl au54 ?_; (with_reducible refine (impl_ParseInverse.calls (hG := au6) kj6 t429 t430 t433 t434 t435 t436 _ A53.out).mono ?_); rintro e w57 ⟨v431, rfl, ho0, hb⟩; refine ⟨_, rfl, ?_⟩; have HO432 := Aside0.mk (Kd.R_lower (Kd.R_new' (Kd.R_new' ho0 (Kd.R_lt au103)) (Kd.R_lt au104)) (below_size au21)); replace HO_416000 := Aside0.mk (Kd.R_elder' au103 (Kd.R_base ho0) hb); replace HO_426000 := Aside0.mk (Kd.R_elder' au104 (Kd.R_base ho0) hb); replace BK415 := Aside0.mk (blk_below (g := gb415) au95 hb); replace BK425 := Aside0.mk (blk_below (g := gb425) au96 hb); replace HB := Aside0.mk (below_step au21 hb); (try clear hb); (try clear ho0)) | ((with_reducible refine gate_dst (N := 9) rfl ?_); (try (refine gate_guard (by rfl) ?_; dsimp only)); refine box_event ?hg (N := 9) ?hd (cs := #[.slice none 0 0, .string (⟨#[]⟩ : ByteArray), .string (⟨#[]⟩ : ByteArray), .string (⟨#[]⟩ : ByteArray)]) (t := 26) ?hr ?_; (case hd => rfl); (case hg => rfl); (case hr => first | (go_simp; done) | (go_simp; rfl)); intro gb437 hg w58 hbox hb; replace HO_416000 := Aside0.mk (Kd.R_below au103 hb); replace HO_426000 := Aside0.mk (Kd.R_below au104 hb); replace HO432 := Aside0.mk (Kd.R_below (by (with_reducible repeat (first | apply Kd.R_alloc | apply Kd.R_drewN | apply Kd.R_drew)); exact HO432.out) hb); have BK437 := Aside0.mk (hbox); have GW437 := Aside0.mk (bsz hg au21); have GE437 := Aside0.mk (bsz hg au21); replace HB := Aside0.mk (below_step au21 hb); have NB415_437 := Aside0.mk (bne (g := gb415) hg au95); have NB437_415 := Aside0.mk (ben (g := gb415) hg au95); replace BK415 := Aside0.mk (blk_below (g := gb415) au95 hb); have NB425_437 := Aside0.mk (bne (g := gb425) hg au96); have NB437_425 := Aside0.mk (ben (g := gb425) hg au96); replace BK425 := Aside0.mk (blk_below (g := gb425) au96 hb); clear hb hbox hg; obtain ⟨Ao59, co59, eo59⟩ := Kd.R_slice HO432.out; subst eo59; have hnb60 := NB437_415.out; have hnc60 := NB415_437.out; have hnb61 := NB437_425.out; have hnc61 := NB425_437.out; obtain ⟨hcz62_0, hcz62_1, hcz62_2, hcz62_3, hfz62_0, hfz62_1, hfz62_2, hfz62_3⟩ := blkc4 BK437.out) | ((with_reducible refine gate_callee (f := 7) rfl ?_); refine goesL_ (some 66) rfl rfl Tryd.func7 (by kernel_rfl) rfl #[.agg #[.slice Ao59 t430.length co59, .string t433, .string t434, .string t435]] rfl au54 ?_; (with_reducible refine (impl_InverseForm.calls (hG := au6) kj6 _ _ t430 t433 t434 t435 t438 t439 _ ?side1 ?side2 A54.out).mono ?_); (case side1 => refine (Kd.R_reads' (e := 9) (base := w.heap.size) (ok := fun k_ => ((True ∧ some k_ ≠ (.slice Ao10 t409.length co10 : Value).ownBlock) ∧ some k_ ≠ (.slice Ao15 t418.length co15 : Value).ownBlock)) (n := t430.length) (c := co59) ?_).2.2; exact au5); (case side2 => exact (Kd.R_reads' HO432.out).2.1); rintro e w63 ⟨rfl, hb⟩; refine ⟨_, rfl, ?_⟩; replace HO_416000 := Aside0.mk (Kd.R_below (by (with_reducible repeat (first | apply Kd.R_alloc | apply Kd.R_drewN | apply Kd.R_drew)); exact (Kd.R_mono (Kd.R_far (p := ⟨gb437, 3, none⟩) (Kd.R_far (p := ⟨gb437, 2, none⟩) (Kd.R_far (p := ⟨gb437, 1, none⟩) (Kd.R_far (p := ⟨gb437, 0, none⟩) (Kd.R_types HO_416000.out BK437.out (by decide)) (fun _ hk => hk.2) (.slice Ao59 t430.length co59)) (fun _ hk => hk.2) (.string t433)) (fun _ hk => hk.2) (.string t434)) (fun _ hk => hk.2) (.string t435)) (fun _ h_ => h_.1))) hb); replace HO_426000 := Aside0.mk (Kd.R_below (by (with_reducible repeat (first | apply Kd.R_alloc | apply Kd.R_drewN | apply Kd.R_drew)); exact (Kd.R_mono (Kd.R_far (p := ⟨gb437, 3, none⟩) (Kd.R_far (p := ⟨gb437, 2, none⟩) (Kd.R_far (p := ⟨gb437, 1, none⟩) (Kd.R_far (p := ⟨gb437, 0, none⟩) (Kd.R_types HO_426000.out BK437.out (by decide)) (fun _ hk => hk.2) (.slice Ao59 t430.length co59)) (fun _ hk => hk.2) (.string t433)) (fun _ hk => hk.2) (.string t434)) (fun _ hk => hk.2) (.string t435)) (fun _ h_ => h_.1))) hb); replace HO432 := Aside0.mk (Kd.R_below au5 hb); replace BK415 := Aside0.mk (blk_below (g := gb415) (o := .cells #[.slice Ao10 t409.length co10, .string t412, .string t413, .string t414] 26 (0, 0)) (by (with_reducible repeat (first | refine blk_drewN ?_ _ | refine blk_drew ?_ | refine blk_alloc ?_ _)); refine blk_far ?_ NB415_437.out _; (with_reducible repeat (first | refine blk_drewN ?_ _ | refine blk_drew ?_ | refine blk_alloc ?_ _)); refine blk_far ?_ NB415_437.out _; (with_reducible repeat (first | refine blk_drewN ?_ _ | refine blk_drew ?_ | refine blk_alloc ?_ _)); refine blk_far ?_ NB415_437.out _; (with_reducible repeat (first | refine blk_drewN ?_ _ | refine blk_drew ?_ | refine blk_alloc ?_ _)); refine blk_far ?_ NB415_437.out _; (with_reducible repeat (first | refine blk_drewN ?_ _ | refine blk_drew ?_ | refine blk_alloc ?_ _)); exact BK415.out) hb); replace BK425 := Aside0.mk (blk_below (g := gb425) (o := .cells #[.slice Ao15 t418.length co15, .string t421, .string t422, .string t423] 26 (0, 0)) (by (with_reducible repeat (first | refine blk_drewN ?_ _ | refine blk_drew ?_ | refine blk_alloc ?_ _)); refine blk_far ?_ NB425_437.out _; (with_reducible repeat (first | refine blk_drewN ?_ _ | refine blk_drew ?_ | refine blk_alloc ?_ _)); refine blk_far ?_ NB425_437.out _; (with_reducible repeat (first | refine blk_drewN ?_ _ | refine blk_drew ?_ | refine blk_alloc ?_ _)); refine blk_far ?_ NB425_437.out _; (with_reducible repeat (first | refine blk_drewN ?_ _ | refine blk_drew ?_ | refine blk_alloc ?_ _)); refine blk_far ?_ NB425_437.out _; (with_reducible repeat (first | refine blk_drewN ?_ _ | refine blk_drew ?_ | refine blk_alloc ?_ _)); exact BK425.out) hb); replace BK437 := Aside0.mk (blk_below (g := gb437) (o := .cells #[.slice Ao59 t430.length co59, .string t433, .string t434, .string t435] 26 (0, 0)) (by (with_reducible repeat (first | refine blk_drewN ?_ _ | refine blk_drew ?_ | refine blk_alloc ?_ _)); refine blk_put (cs := #[.slice Ao59 t430.length co59, .string t433, .string t434, .string (⟨#[]⟩ : ByteArray)]) ?_ 3 _ rfl; (with_reducible repeat (first | refine blk_drewN ?_ _ | refine blk_drew ?_ | refine blk_alloc ?_ _)); refine blk_put (cs := #[.slice Ao59 t430.length co59, .string t433, .string (⟨#[]⟩ : ByteArray), .string (⟨#[]⟩ : ByteArray)]) ?_ 2 _ rfl; (with_reducible repeat (first | refine blk_drewN ?_ _ | refine blk_drew ?_ | refine blk_alloc ?_ _)); refine blk_put (cs := #[.slice Ao59 t430.length co59, .string (⟨#[]⟩ : ByteArray), .string (⟨#[]⟩ : ByteArray), .string (⟨#[]⟩ : ByteArray)]) ?_ 1 _ rfl; (with_reducible repeat (first | refine blk_drewN ?_ _ | refine blk_drew ?_ | refine blk_alloc ?_ _)); refine blk_put (cs := #[.slice none 0 0, .string (⟨#[]⟩ : ByteArray), .string (⟨#[]⟩ : ByteArray), .string (⟨#[]⟩ : ByteArray)]) ?_ 0 _ rfl; (with_reducible repeat (first | refine blk_drewN ?_ _ | refine blk_drew ?_ | refine blk_alloc ?_ _)); exact BK437.out) hb); replace HB := Aside0.mk (below_step au13 hb); (try clear hb)))
     (try simp only [Act.put, List.setIfInBounds_toArray, List.set_cons_zero, List.set_cons_succ])
     go_cut [78] (fun v78 wc => ∃ (kq : Nat) (x78_54 : Bool), v78 = .bool x78_54 ∧ Aside0 (laws_FnNameForms.j1 kq t417 x78_54 t409 t412 t413 t414 = some r) ∧ Aside0 (kq ≤ kj6) ∧ Aside0 (Kd.R Kd.string 9 wc w.heap.size (fun k_ => some k_ ≠ ((.slice Ao15 t418.length co15) : Value).ownBlock ∧ some k_ ≠ ((.slice Ao59 t430.length co59) : Value).ownBlock) (.slice Ao10 t409.length co10) t409) ∧ Aside0 (Kd.R Kd.string 9 wc w.heap.size (fun k_ => some k_ ≠ ((.slice Ao10 t409.length co10) : Value).ownBlock ∧ some k_ ≠ ((.slice Ao59 t430.length co59) : Value).ownBlock) (.slice Ao15 t418.length co15) t418) ∧ Aside0 (Kd.R Kd.string 9 wc w.heap.size (fun k_ => some k_ ≠ ((.slice Ao10 t409.length co10) : Value).ownBlock ∧ some k_ ≠ ((.slice Ao15 t418.length co15) : Value).ownBlock) (.slice Ao59 t430.length co59) t430) ∧ Aside0 (wc.heap[gb415]? = some (.cells #[(.slice Ao10 t409.length co10), .string t412, .string t413, .string t414] 26 (0, 0))) ∧ Aside0 (wc.heap[gb425]? = some (.cells #[(.slice Ao15 t418.length co15), .string t421, .string t422, .string t423] 26 (0, 0))) ∧ Aside0 (wc.heap[gb437]? = some (.cells #[(.slice Ao59 t430.length co59), .string t433, .string t434, .string t435] 26 (0, 0))) ∧ Aside0 (Below w.heap.size w wc))
     case first =>
      have H := HC55.out
      clear HC55
      by_cases c64 : t436 = true
      ·
       subst c64
       replace H := (if_pos rfl).symm.trans H
       by_cases c65 : t439 = true
       ·
        subst c65
        replace H := (if_pos rfl).symm.trans H
        have H' := Aside0.mk H
        clear H
        exact laws_FnNameForms.L0
       ·
        replace c65 := Bool.eq_false_iff.mpr c65
        subst c65
        replace H := (if_neg (show ¬ (false = true) by decide)).symm.trans H
        have H' := Aside0.mk H
        clear H
        exact laws_FnNameForms.L0
      ·
       replace c64 := Bool.eq_false_iff.mpr c64
       subst c64
       replace H := (if_neg (show ¬ (false = true) by decide)).symm.trans H
       have H' := Aside0.mk H
       clear H
       exact laws_FnNameForms.L0
     case rest =>
      clear HC55
      try clear c1
      try clear c2
      try clear p2
      try clear c3
      try clear c4
      try clear c5
      try clear c6
      try clear c7
      try clear c8
      try clear c9
      try clear c12
      try clear c16
      try clear c19
      try clear c19b0
      try clear c19b1
      try clear c19b2
      try clear c20
      try clear c24
      try clear c24b0
      try clear c24b1
      try clear c24b2
      try clear c25
      try clear c30
      try clear c31
      try clear c33
      try clear c41
      try clear c46
      try clear c51
      try clear c60
      try clear c61
      try clear c64
      try clear c65
      try clear hcz11_0
      try clear hcz11_1
      try clear hcz11_2
      try clear hcz11_3
      try clear hcz17_0
      try clear hcz17_1
      try clear hcz17_2
      try clear hcz17_3
      try clear hcz21_0
      try clear hcz21_1
      try clear hcz21_2
      try clear hcz21_3
      try clear hcz26_0
      try clear hcz26_1
      try clear hcz26_2
      try clear hcz26_3
      try clear hcz28_0
      try clear hcz28_1
      try clear hcz28_2
      try clear hcz28_3
      try clear hcz34_0
      try clear hcz34_1
      try clear hcz34_2
      try clear hcz34_3
      try clear hcz36_0
      try clear hcz36_1
      try clear hcz36_2
      try clear hcz36_3
      try clear hcz38_0
      try clear hcz38_1
      try clear hcz38_2
      try clear hcz38_3
      try clear hcz39_0
      try clear hcz39_1
      try clear hcz39_2
      try clear hcz39_3
      try clear hcz42_0
      try clear hcz42_1
      try clear hcz42_2
      try clear hcz42_3
      try clear hcz44_0
      try clear hcz44_1
      try clear hcz44_2
      try clear hcz44_3
      try clear hcz47_0
      try clear hcz47_1
      try clear hcz47_2
      try clear hcz47_3
      try clear hcz49_0
      try clear hcz49_1
      try clear hcz49_2
      try clear hcz49_3
      try clear hcz62_0
      try clear hcz62_1
      try clear hcz62_2
      try clear hcz62_3
      try clear hfz11_0
      try clear hfz11_1
      try clear hfz11_2
      try clear hfz11_3
      try clear hfz17_0
      try clear hfz17_1
      try clear hfz17_2
      try clear hfz17_3
      try clear hfz21_0
      try clear hfz21_1
      try clear hfz21_2
      try clear hfz21_3
      try clear hfz26_0
      try clear hfz26_1
      try clear hfz26_2
      try clear hfz26_3
      try clear hfz28_0
      try clear hfz28_1
      try clear hfz28_2
      try clear hfz28_3
      try clear hfz34_0
      try clear hfz34_1
      try clear hfz34_2
      try clear hfz34_3
      try clear hfz36_0
      try clear hfz36_1
      try clear hfz36_2
      try clear hfz36_3
      try clear hfz38_0
      try clear hfz38_1
      try clear hfz38_2
      try clear hfz38_3
      try clear hfz39_0
      try clear hfz39_1
      try clear hfz39_2
      try clear hfz39_3
      try clear hfz42_0
      try clear hfz42_1
      try clear hfz42_2
      try clear hfz42_3
      try clear hfz44_0
      try clear hfz44_1
      try clear hfz44_2
      try clear hfz44_3
      try clear hfz47_0
      try clear hfz47_1
      try clear hfz47_2
      try clear hfz47_3
      try clear hfz49_0
      try clear hfz49_1
      try clear hfz49_2
      try clear hfz49_3
      try clear hfz62_0
      try clear hfz62_1
      try clear hfz62_2
      try clear hfz62_3
      try clear p2
      obtain ⟨kq, x78_54, rfl, HA, HJ54, HO_416000, HO_426000, HO_438000, BK415, BK425, BK437, HB⟩ := hcut
      cases kq with
      | zero => exact absurd HA.out (by simp [laws_FnNameForms.j1])
      | succ kj54 =>
       have H := HA.out
       clear HA
       simp only [laws_FnNameForms.j1] at H
       by_cases c66 : x78_54 = true
       ·
        subst c66
        replace H := (if_pos rfl).symm.trans H
        obtain rfl := Option.some.inj H
        exact laws_FnNameForms.L1
       ·
        replace c66 := Bool.eq_false_iff.mpr c66
        subst c66
        replace H := (if_neg (show ¬ (false = true) by decide)).symm.trans H
        replace H := Option.bind_eq_some_iff.mp H
        obtain ⟨⟨t440, t441⟩, A670, H⟩ := H
        replace H : ((impl_ShortForm.f kj54 t409 t412 t413 t414).bind fun bt442 => ((spec_ShortForm.f kj54 t409 t412 t413 t414).bind fun bt444 => (if t414.toList = ([] : List UInt8) then (if (t441 == t417) = true then (if (bt442.2 == bt444.2) = true then (if bt442.1.toList = bt444.1.toList then (if t417 = true then (if (t440.size : Int) ≥ (t413.size : Int) then (if 0 ≤ (wrap64 ((t440.size : Int) - (t413.size : Int))) then (if (wrap64 ((t440.size : Int) - (t413.size : Int))) ≤ (t440.size : Int) then (some ((t440.extract ((wrap64 ((t440.size : Int) - (t413.size : Int))) : Int).toNat t440.size).toList == t413.toList)) else (none)) else (none)) else (some false)) else (some true)) else (some false)) else (some false)) else (some false)) else (if (t441 == t417) = true then (if (bt442.2 == bt444.2) = true then (if bt442.1.toList = bt444.1.toList then (if t417 = true then (if (t440.size : Int) ≥ (t414.size : Int) then (if 0 ≤ (wrap64 ((t440.size : Int) - (t414.size : Int))) then (if (wrap64 ((t440.size : Int) - (t414.size : Int))) ≤ (t440.size : Int) then (some ((t440.extract ((wrap64 ((t440.size : Int) - (t414.size : Int))) : Int).toNat t440.size).toList == t414.toList)) else (none)) else (none)) else (some false)) else (some true)) else (some false)) else (some false)) else (some false))))) = some r := H
        have A67 := Aside0.mk A670
        clear A670
        replace H := Option.bind_eq_some_iff.mp H
        obtain ⟨⟨t442, t443⟩, A680, H⟩ := H
        replace H : ((spec_ShortForm.f kj54 t409 t412 t413 t414).bind fun bt444 => (if t414.toList = ([] : List UInt8) then (if (t441 == t417) = true then (if (t443 == bt444.2) = true then (if t442.toList = bt444.1.toList then (if t417 = true then (if (t440.size : Int) ≥ (t413.size : Int) then (if 0 ≤ (wrap64 ((t440.size : Int) - (t413.size : Int))) then (if (wrap64 ((t440.size : Int) - (t413.size : Int))) ≤ (t440.size : Int) then (some ((t440.extract ((wrap64 ((t440.size : Int) - (t413.size : Int))) : Int).toNat t440.size).toList == t413.toList)) else (none)) else (none)) else (some false)) else (some true)) else (some false)) else (some false)) else (some false)) else (if (t441 == t417) = true then (if (t443 == bt444.2) = true then (if t442.toList = bt444.1.toList then (if t417 = true then (if (t440.size : Int) ≥ (t414.size : Int) then (if 0 ≤ (wrap64 ((t440.size : Int) - (t414.size : Int))) then (if (wrap64 ((t440.size : Int) - (t414.size : Int))) ≤ (t440.size : Int) then (some ((t440.extract ((wrap64 ((t440.size : Int) - (t414.size : Int))) : Int).toNat t440.size).toList == t414.toList)) else (none)) else (none)) else (some false)) else (some true)) else (some false)) else (some false)) else (some false)))) = some r := H
        have A68 := Aside0.mk A680
        clear A680
        replace H := Option.bind_eq_some_iff.mp H
        obtain ⟨⟨t444, t445⟩, A690, H⟩ := H
        replace H : (if t414.toList = ([] : List UInt8) then (if (t441 == t417) = true then (if (t443 == t445) = true then (if t442.toList = t444.toList then (if t417 = true then (if (t440.size : Int) ≥ (t413.size : Int) then (if 0 ≤ (wrap64 ((t440.size : Int) - (t413.size : Int))) then (if (wrap64 ((t440.size : Int) - (t413.size : Int))) ≤ (t440.size : Int) then (some ((t440.extract ((wrap64 ((t440.size : Int) - (t413.size : Int))) : Int).toNat t440.size).toList == t413.toList)) else (none)) else (none)) else (some false)) else (some true)) else (some false)) else (some false)) else (some false)) else (if (t441 == t417) = true then (if (t443 == t445) = true then (if t442.toList = t444.toList then (if t417 = true then (if (t440.size : Int) ≥ (t414.size : Int) then (if 0 ≤ (wrap64 ((t440.size : Int) - (t414.size : Int))) then (if (wrap64 ((t440.size : Int) - (t414.size : Int))) ≤ (t440.size : Int) then (some ((t440.extract ((wrap64 ((t440.size : Int) - (t414.size : Int))) : Int).toNat t440.size).toList == t414.toList)) else (none)) else (none)) else (some false)) else (some true)) else (some false)) else (some false)) else (some false))) = some r := H
        have A69 := Aside0.mk A690
        clear A690
        by_cases c70 : t414.toList = ([] : List UInt8)
        ·
         rw [if_pos c70] at H
         have c70b0 : (t414.toList == ([] : List UInt8)) = true := beq_iff_eq.mpr c70
         have c70b1 : (t414.toList != ([] : List UInt8)) = false := bne_eq_false_iff_eq.mpr c70
         clear c70
         by_cases c71 : (t441 == t417) = true
         ·
          rw [if_pos c71] at H
          have c71b0 : (t441 == t417) = true := c71
          (try (have c71b1 : decide (t441 = t417) = true := by simpa using c71))
          (try (have c71b2 : (t441 == t417) = true := by simpa using c71))
          clear c71
          by_cases c72 : (t443 == t445) = true
          ·
           rw [if_pos c72] at H
           have c72b0 : (t443 == t445) = true := c72
           (try (have c72b1 : decide (t443 = t445) = true := by simpa using c72))
           (try (have c72b2 : (t443 == t445) = true := by simpa using c72))
           clear c72
           by_cases c73 : t442.toList = t444.toList
           ·
            rw [if_pos c73] at H
            have c73b0 : (t442.toList == t444.toList) = true := beq_iff_eq.mpr c73
            have c73b1 : (t442.toList != t444.toList) = false := bne_eq_false_iff_eq.mpr c73
            clear c73
            by_cases c74 : t417 = true
            ·
             subst c74
             replace H := (if_pos rfl).symm.trans H
             by_cases c75 : (t440.size : Int) ≥ (t413.size : Int)
             ·
              rw [if_pos c75] at H
              have c75b0 : decide ((t413.size : Int) ≤ (t440.size : Int)) = true := decide_eq_true c75
              have c75b1 : decide (t413.size ≤ t440.size) = true := decide_eq_true (Int.ofNat_le.mp c75)
              clear c75
              obtain ⟨ji76, hji76⟩ : ∃ j_ : Int, (wrap64 ((t440.size : Int) - (t413.size : Int))) = j_ := ⟨_, rfl⟩
              replace H : (if 0 ≤ (ji76) then (if (ji76) ≤ (t440.size : Int) then (some ((t440.extract ((ji76) : Int).toNat t440.size).toList == t413.toList)) else (none)) else (none)) = some r := by first | (rw [hji76] at H; exact H) | (simp only [hji76] at H ⊢; exact H)
              (try rw [hji76] at A67)
              (try rw [hji76] at A68)
              (try rw [hji76] at A69)
              have hji76w : (IntKind.i64.wrap ((t440.size : Int) - (t413.size : Int))) = ji76 := (i64_w _).trans hji76
              by_cases c77 : 0 ≤ (ji76)
              ·
               rw [if_pos c77] at H
               have c77b0 := eq_true c77
               have c77b1 : decide (0 ≤ (ji76)) = true := decide_eq_true c77
               clear c77
               by_cases c78 : (ji76) ≤ (t440.size : Int)
               ·
                rw [if_pos c78] at H
                have c78b0 := eq_true c78
                have c78b1 : decide ((ji76) ≤ (t440.size : Int)) = true := decide_eq_true c78
                clear c78
                obtain rfl := Option.some.inj H
                have hnb79 := NB415_425.out
                have hnc79 := NB425_415.out
                have hnb80 := NB415_437.out
                have hnc80 := NB437_415.out
                obtain ⟨hcz81_0, hcz81_1, hcz81_2, hcz81_3, hfz81_0, hfz81_1, hfz81_2, hfz81_3⟩ := blkc4 BK415.out
                exact laws_FnNameForms.L1
               ·
                rw [if_neg c78] at H
                exact absurd H (by simp)
              ·
               rw [if_neg c77] at H
               exact absurd H (by simp)
             ·
              rw [if_neg c75] at H
              have c75b0 : decide ((t413.size : Int) ≤ (t440.size : Int)) = false := decide_eq_false c75
              have c75b1 : decide (t413.size ≤ t440.size) = false := decide_eq_false (fun h => c75 (Int.ofNat_le.mpr h))
              clear c75
              obtain rfl := Option.some.inj H
              have hnb88 := NB415_425.out
              have hnc88 := NB425_415.out
              have hnb89 := NB415_437.out
              have hnc89 := NB437_415.out
              obtain ⟨hcz90_0, hcz90_1, hcz90_2, hcz90_3, hfz90_0, hfz90_1, hfz90_2, hfz90_3⟩ := blkc4 BK415.out
              exact laws_FnNameForms.L1
            ·
             replace c74 := Bool.eq_false_iff.mpr c74
             subst c74
             replace H := (if_neg (show ¬ (false = true) by decide)).symm.trans H
             obtain rfl := Option.some.inj H
             have hnb97 := NB415_425.out
             have hnc97 := NB425_415.out
             have hnb98 := NB415_437.out
             have hnc98 := NB437_415.out
             obtain ⟨hcz99_0, hcz99_1, hcz99_2, hcz99_3, hfz99_0, hfz99_1, hfz99_2, hfz99_3⟩ := blkc4 BK415.out
             exact laws_FnNameForms.L1
           ·
            rw [if_neg c73] at H
            have c73b0 : (t442.toList == t444.toList) = false := beq_eq_false_iff_ne.mpr c73
            have c73b1 : (t442.toList != t444.toList) = true := bne_iff_ne.mpr c73
            obtain rfl := Option.some.inj H
            have hnb106 := NB415_425.out
            have hnc106 := NB425_415.out
            have hnb107 := NB415_437.out
            have hnc107 := NB437_415.out
            obtain ⟨hcz108_0, hcz108_1, hcz108_2, hcz108_3, hfz108_0, hfz108_1, hfz108_2, hfz108_3⟩ := blkc4 BK415.out
            exact laws_FnNameForms.L1
          ·
           rw [if_neg c72] at H
           have c72b0 : (t443 == t445) = false := by simpa using c72
           (try (have c72b1 : decide (t443 = t445) = false := by simpa using c72))
           (try (have c72b2 : (t443 == t445) = false := by simpa using c72))
           (try (have c72b3 : ¬ (t443 = t445) := by simpa using c72))
           clear c72
           obtain rfl := Option.some.inj H
           have hnb115 := NB415_425.out
           have hnc115 := NB425_415.out
           have hnb116 := NB415_437.out
           have hnc116 := NB437_415.out
           obtain ⟨hcz117_0, hcz117_1, hcz117_2, hcz117_3, hfz117_0, hfz117_1, hfz117_2, hfz117_3⟩ := blkc4 BK415.out
           exact laws_FnNameForms.L1
         ·
          rw [if_neg c71] at H
          have c71b0 : (t441 == t417) = false := by simpa using c71
          (try (have c71b1 : decide (t441 = t417) = false := by simpa using c71))
          (try (have c71b2 : (t441 == t417) = false := by simpa using c71))
          (try (have c71b3 : ¬ (t441 = t417) := by simpa using c71))
          clear c71
          obtain rfl := Option.some.inj H
          have hnb124 := NB415_425.out
          have hnc124 := NB425_415.out
          have hnb125 := NB415_437.out
          have hnc125 := NB437_415.out
          obtain ⟨hcz126_0, hcz126_1, hcz126_2, hcz126_3, hfz126_0, hfz126_1, hfz126_2, hfz126_3⟩ := blkc4 BK415.out
          exact laws_FnNameForms.L1
        ·
         rw [if_neg c70] at H
         have c70b0 : (t414.toList == ([] : List UInt8)) = false := beq_eq_false_iff_ne.mpr c70
         have c70b1 : (t414.toList != ([] : List UInt8)) = true := bne_iff_ne.mpr c70
         by_cases c133 : (t441 == t417) = true
         ·
          rw [if_pos c133] at H
          have c133b0 : (t441 == t417) = true := c133
          (try (have c133b1 : decide (t441 = t417) = true := by simpa using c133))
          (try (have c133b2 : (t441 == t417) = true := by simpa using c133))
          clear c133
          by_cases c134 : (t443 == t445) = true
          ·
           rw [if_pos c134] at H
           have c134b0 : (t443 == t445) = true := c134
           (try (have c134b1 : decide (t443 = t445) = true := by simpa using c134))
           (try (have c134b2 : (t443 == t445) = true := by simpa using c134))
           clear c134
           by_cases c135 : t442.toList = t444.toList
           ·
            rw [if_pos c135] at H
            have c135b0 : (t442.toList == t444.toList) = true := beq_iff_eq.mpr c135
            have c135b1 : (t442.toList != t444.toList) = false := bne_eq_false_iff_eq.mpr c135
            clear c135
            by_cases c136 : t417 = true
            ·
             subst c136
             replace H := (if_pos rfl).symm.trans H
             by_cases c137 : (t440.size : Int) ≥ (t414.size : Int)
             ·
              rw [if_pos c137] at H
              have c137b0 : decide ((t414.size : Int) ≤ (t440.size : Int)) = true := decide_eq_true c137
              have c137b1 : decide (t414.size ≤ t440.size) = true := decide_eq_true (Int.ofNat_le.mp c137)
              clear c137
              obtain ⟨ji138, hji138⟩ : ∃ j_ : Int, (wrap64 ((t440.size : Int) - (t414.size : Int))) = j_ := ⟨_, rfl⟩
              replace H : (if 0 ≤ (ji138) then (if (ji138) ≤ (t440.size : Int) then (some ((t440.extract ((ji138) : Int).toNat t440.size).toList == t414.toList)) else (none)) else (none)) = some r := by first | (rw [hji138] at H; exact H) | (simp only [hji138] at H ⊢; exact H)
              (try rw [hji138] at A67)
              (try rw [hji138] at A68)
              (try rw [hji138] at A69)
              have hji138w : (IntKind.i64.wrap ((t440.size : Int) - (t414.size : Int))) = ji138 := (i64_w _).trans hji138
              by_cases c139 : 0 ≤ (ji138)
              ·
               rw [if_pos c139] at H
               have c139b0 := eq_true c139
               have c139b1 : decide (0 ≤ (ji138)) = true := decide_eq_true c139
               clear c139
               by_cases c140 : (ji138) ≤ (t440.size : Int)
               ·
                rw [if_pos c140] at H
                have c140b0 := eq_true c140
                have c140b1 : decide ((ji138) ≤ (t440.size : Int)) = true := decide_eq_true c140
                clear c140
                obtain rfl := Option.some.inj H
                have hnb141 := NB415_425.out
                have hnc141 := NB425_415.out
                have hnb142 := NB415_437.out
                have hnc142 := NB437_415.out
                obtain ⟨hcz143_0, hcz143_1, hcz143_2, hcz143_3, hfz143_0, hfz143_1, hfz143_2, hfz143_3⟩ := blkc4 BK415.out
                exact laws_FnNameForms.L1
               ·
                rw [if_neg c140] at H
                exact absurd H (by simp)
              ·
               rw [if_neg c139] at H
               exact absurd H (by simp)
             ·
              rw [if_neg c137] at H
              have c137b0 : decide ((t414.size : Int) ≤ (t440.size : Int)) = false := decide_eq_false c137
              have c137b1 : decide (t414.size ≤ t440.size) = false := decide_eq_false (fun h => c137 (Int.ofNat_le.mpr h))
              clear c137
              obtain rfl := Option.some.inj H
              have hnb150 := NB415_425.out
              have hnc150 := NB425_415.out
              have hnb151 := NB415_437.out
              have hnc151 := NB437_415.out
              obtain ⟨hcz152_0, hcz152_1, hcz152_2, hcz152_3, hfz152_0, hfz152_1, hfz152_2, hfz152_3⟩ := blkc4 BK415.out
              exact laws_FnNameForms.L1
            ·
             replace c136 := Bool.eq_false_iff.mpr c136
             subst c136
             replace H := (if_neg (show ¬ (false = true) by decide)).symm.trans H
             obtain rfl := Option.some.inj H
             have hnb159 := NB415_425.out
             have hnc159 := NB425_415.out
             have hnb160 := NB415_437.out
             have hnc160 := NB437_415.out
             obtain ⟨hcz161_0, hcz161_1, hcz161_2, hcz161_3, hfz161_0, hfz161_1, hfz161_2, hfz161_3⟩ := blkc4 BK415.out
             exact laws_FnNameForms.L1
           ·
            rw [if_neg c135] at H
            have c135b0 : (t442.toList == t444.toList) = false := beq_eq_false_iff_ne.mpr c135
            have c135b1 : (t442.toList != t444.toList) = true := bne_iff_ne.mpr c135
            obtain rfl := Option.some.inj H
            have hnb168 := NB415_425.out
            have hnc168 := NB425_415.out
            have hnb169 := NB415_437.out
            have hnc169 := NB437_415.out
            obtain ⟨hcz170_0, hcz170_1, hcz170_2, hcz170_3, hfz170_0, hfz170_1, hfz170_2, hfz170_3⟩ := blkc4 BK415.out
            exact laws_FnNameForms.L1
          ·
           rw [if_neg c134] at H
           have c134b0 : (t443 == t445) = false := by simpa using c134
           (try (have c134b1 : decide (t443 = t445) = false := by simpa using c134))
           (try (have c134b2 : (t443 == t445) = false := by simpa using c134))
           (try (have c134b3 : ¬ (t443 = t445) := by simpa using c134))
           clear c134
           obtain rfl := Option.some.inj H
           have hnb177 := NB415_425.out
           have hnc177 := NB425_415.out
           have hnb178 := NB415_437.out
           have hnc178 := NB437_415.out
           obtain ⟨hcz179_0, hcz179_1, hcz179_2, hcz179_3, hfz179_0, hfz179_1, hfz179_2, hfz179_3⟩ := blkc4 BK415.out
           exact laws_FnNameForms.L1
         ·
          rw [if_neg c133] at H
          have c133b0 : (t441 == t417) = false := by simpa using c133
          (try (have c133b1 : decide (t441 = t417) = false := by simpa using c133))
          (try (have c133b2 : (t441 == t417) = false := by simpa using c133))
          (try (have c133b3 : ¬ (t441 = t417) := by simpa using c133))
          clear c133
          obtain rfl := Option.some.inj H
          have hnb186 := NB415_425.out
          have hnc186 := NB425_415.out
          have hnb187 := NB415_437.out
          have hnc187 := NB437_415.out
          obtain ⟨hcz188_0, hcz188_1, hcz188_2, hcz188_3, hfz188_0, hfz188_1, hfz188_2, hfz188_3⟩ := blkc4 BK415.out
          exact laws_FnNameForms.L1



end Go.Proofs.YtgingnbfihaopaaDoor.G

namespace Go.Proofs.YtgingnbfihaopaaDoor.Opn
open Go.RowKit Go.Proofs.YtgingnbfihaopaaDoorW.PrintWords
set_option linter.unusedVariables false
set_option linter.unusedSimpArgs false
variable {H : Type} {enc : TypeId × Value → H} {P : Program} {w : World} {base : Nat} {spare : Nat → Bool} {held : Bool}
def okInt (k : IntKind) (n : Int) : Prop := (Lit.int k n).wf = true
def okList {α : Type} (p : α → Prop) (xs : List α) : Prop := xs.length ≤ 9223372036854775807 ∧ ∀ x ∈ xs, p x
theorem of_int {t : TypeId} {k : IntKind} {fuel : Nat} {cs : List Value} {x : DataW H × List MemPlace} (ht : P.underlying t = some (.int k)) (h : DataW.trod enc P w base spare held fuel t cs = some x) :
    ∃ n, (Kd.int k).K w n cs ∧ okInt k n := by
  obtain ⟨n, rfl, rfl, hw⟩ := DataW.trod_int ht h
  exact ⟨n, rfl, hw⟩
theorem add_add (a : Addr) (k i : Nat) : (a.add k).add i = a.add (k + i) := by
  unfold Addr.add
  by_cases hk : k = 0 <;> by_cases hi : i = 0 <;> simp [hk, hi, Nat.add_assoc]
theorem of_slice {α : Type} {d : Kd α} {ok : α → Prop} {t e : TypeId} {fuel : Nat} {cs : List Value} {x : DataW H × List MemPlace} (ht : P.underlying t = some (.slice e)) (hc : P.cellsOf e = d.sz)
    (ih : ∀ n cs x, DataW.trod enc P w base spare held n e cs = some x → ∃ y, d.K w y cs ∧ ok y) (h : DataW.trod enc P w base spare held fuel t cs = some x) :
    ∃ ys, (Kd.slice e d).K w ys cs ∧ okList ok ys := by
  rcases Go.Deep.open_slice ht h with ⟨rfl, _⟩ | ⟨a, len, cap, m, n, D, Pl, rfl, hb, hl, hm, hmm, hxe, hel⟩
  · exact ⟨[], ⟨none, 0, rfl, by simp, rfl, by simp, fun h => absurd h (by simp)⟩, by simp, fun x hx => by simp at hx⟩
  · have hlm : len ≤ m := by rw [hmm]; split <;> omega
    have hm' : len ≤ 9223372036854775807 := by unfold maxLen at hm; omega
    have key : ∀ i, i < len → ∃ cs' y, w.cells? base (a.add (i * P.cellsOf e)) (P.cellsOf e) = some cs' ∧ d.K w y cs' ∧ ok y := by
      intro i hi
      obtain ⟨cs', h1, h2⟩ := hel i (by omega)
      obtain ⟨y, hy, ho⟩ := ih _ _ _ h2
      exact ⟨cs', y, h1, hy, ho⟩
    obtain ⟨ys, hlen, hys⟩ : ∃ ys : List α, ys.length = len ∧ ∀ i (hi : i < ys.length), ∃ cs', w.cells? base (a.add (i * P.cellsOf e)) (P.cellsOf e) = some cs' ∧ d.K w ys[i] cs' ∧ ok ys[i] := by
      clear h hxe hel hmm hlm hl hm hm'
      induction len with
      | zero => exact ⟨[], rfl, fun i hi => by simp at hi⟩
      | succ len ihl =>
        obtain ⟨ys, h1, h2⟩ := ihl (fun i hi => key i (by omega))
        obtain ⟨cs', y, h3, h4, h5⟩ := key len (by omega)
        refine ⟨ys ++ [y], by simp [h1], fun i hi => ?_⟩
        by_cases hi' : i < ys.length
        · rw [List.getElem_append_left hi']; exact h2 i hi'
        · have : i = len := by simp at hi; omega
          subst this
          refine ⟨cs', h3, ?_, ?_⟩ <;> rw [List.getElem_append_right (by omega)] <;> simpa [h1]
    refine ⟨ys, ⟨some a, cap, by rw [hlen], by omega, rfl, by omega, fun _ => ⟨a, rfl, fun j p hj => ?_⟩⟩, by omega, fun y hy => ?_⟩
    · obtain ⟨hj', rfl⟩ := List.getElem?_eq_some_iff.1 hj
      obtain ⟨cs', h1, h2, _⟩ := hys j hj'
      rw [hc] at h1
      refine ⟨cs', d.K_len h2, h2, fun i u hu => ?_⟩
      obtain ⟨_, hl', hcell⟩ := World.cells?_some h1
      have hi : i < d.sz := by have := (List.getElem?_eq_some_iff.1 hu).1; omega
      have := hcell i hi
      rw [hu, add_add] at this
      exact this
    · obtain ⟨i, hi, rfl⟩ := List.getElem_of_mem hy
      obtain ⟨_, _, _, h3⟩ := hys i hi
      exact h3
end Go.Proofs.YtgingnbfihaopaaDoor.Opn

namespace Go.Proofs.YtgingnbfihaopaaDoor.G
open Go.Proofs.YtgingnbfihaopaaDoor.Opn
open Go.RowKit Go.Proofs.YtgingnbfihaopaaDoorW.PrintWords Go.Proofs.YtgingnbfihaopaaDoorW.PrintLast Go.Proofs.YtgingnbfihaopaaDoorW.PrintMore
open Go.Proofs.YtgingnbfihaopaaDoor.Gl Go.Proofs.YtgingnbfihaopaaDoor.Ext
attribute [local go_sem] max2_int min2_int max_two min_two max_three min_three max_four min_four   -- for this text's walks alone
set_option linter.unusedVariables false
set_option linter.unusedSimpArgs false

theorem cells5 : Tryd.prog.cellsOf 5 = 1 := by kernel_rfl

def laws_FnNameForms.Pur : Prop := ∀ (l0 : List Int), okList (okInt .u8) l0 → ∃ k, laws_FnNameForms.f k l0 = some true
theorem laws_FnNameForms.wlk (P : laws_FnNameForms.Pur) (A0 : Option Addr) (c0 : Nat) (l0 : List Int) (w : World) (hr0 : Kd.C (Kd.int .u8) w A0 l0.length l0) (hc0 : l0.length ≤ c0) {gF1 gF2 gF3 : Bool} (hG : GL gF1 gF2 gF3 w) (bl0 : okList (okInt .u8) l0) :
    Calls Tryd.prog 3 #[.slice A0 l0.length c0] w fun e w' => e = .returned (.bool true) ∧ Below w.heap.size w w' := by
  obtain ⟨k, h⟩ := P l0 bl0
  refine (laws_FnNameForms.calls k A0 c0 l0 true w hG hr0 hc0 h).mono ?_
  rintro e w' ⟨rfl, hd⟩
  exact ⟨rfl, hd⟩

end Go.Proofs.YtgingnbfihaopaaDoor.G

namespace Go.Proofs.YtgingnbfihaopaaDoor.B
open Go.RowKit Go.Proofs.YtgingnbfihaopaaDoorW.PrintWords Go.Proofs.YtgingnbfihaopaaDoorW.PrintLast
set_option linter.unusedVariables false
set_option linter.unusedSimpArgs false
theorem w64 {x : Int} (h : -9223372036854775808 ≤ x) (h' : x ≤ 9223372036854775807) : wrap64 x = x := by unfold wrap64; omega
theorem ev_pos {α : Type} {c : Prop} [Decidable c] {g f : Nat → Option α} {r : α} (h : c) (e : Ev g r) : Ev (fun k => if c then g k else f k) r := Ev.congr (fun _ => if_pos h) e
theorem ev_neg {α : Type} {c : Prop} [Decidable c] {g f : Nat → Option α} {r : α} (h : ¬ c) (e : Ev f r) : Ev (fun k => if c then g k else f k) r := Ev.congr (fun _ => if_neg h) e
theorem ev_ite {α : Type} {c : Prop} [Decidable c] {g f : Nat → Option α} {a b : α} (h : c → Ev g a) (h' : ¬ c → Ev f b) : Ev (fun k => if c then g k else f k) (if c then a else b) := by
  by_cases hc : c
  · rw [if_pos hc]; exact ev_pos hc (h hc)
  · rw [if_neg hc]; exact ev_neg hc (h' hc)
theorem ev_bind0 {α β : Type} {o : Option α} {f : Nat → α → Option β} {a : α} {r : β} (h : o = some a) (k : Ev (fun n => f n a) r) : Ev (fun n => o.bind (f n)) r := Ev.congr (fun _ => by rw [h]; rfl) k
theorem ev_eq {α : Type} {g : Nat → Option α} {a b : α} (h : Ev g a) (e : a = b) : Ev g b := e ▸ h
abbrev L (s : ByteArray) : List UInt8 := s.data.toList
def mkB (l : List UInt8) : ByteArray := ⟨l.toArray⟩
theorem L_mk (l : List UInt8) : L (mkB l) = l := by simp [mkB]
theorem mk_L (s : ByteArray) : mkB (L s) = s := by cases s; simp [mkB, L]
theorem L_inj {a b : ByteArray} (h : L a = L b) : a = b := by rw [← mk_L a, h, mk_L]
theorem L_len (s : ByteArray) : (L s).length = s.size := (Lib.size_eq s).symm
theorem size_mk (l : List UInt8) : (mkB l).size = l.length := by rw [← L_len, L_mk]
theorem toList_L (s : ByteArray) : s.toList = L s := Lib.toList_data s
theorem L_extract (s : ByteArray) (a b : Nat) : L (s.extract a b) = ((L s).drop a).take (b - a) := Lib.extract_data s a b
theorem L_append (a b : ByteArray) : L (a ++ b) = L a ++ L b := by simp [L, ByteArray.data_append]
theorem size_append (a b : ByteArray) : (a ++ b).size = a.size + b.size := by rw [← L_len, L_append, List.length_append, L_len, L_len]
theorem bt_get (s : ByteArray) (i : Nat) (h : i < s.size) : bt s (i : Int) = (((L s)[i]'(by rw [L_len]; exact h)).toNat : Int) := by
  unfold bt
  simp only [Int.toNat_natCast, h, dif_pos]
  rfl
theorem size_pos_iff (s : ByteArray) : s.size = 0 ↔ L s = [] := by rw [← L_len, List.length_eq_zero_iff]
theorem u8_inj {a b : UInt8} (h : (a.toNat : Int) = (b.toNat : Int)) : a = b := UInt8.toNat_inj.1 (by omega)
end Go.Proofs.YtgingnbfihaopaaDoor.B

namespace Go.Proofs.YtgingnbfihaopaaDoor.G
open Go.RowKit Go.Proofs.YtgingnbfihaopaaDoorW.PrintWords Go.Proofs.YtgingnbfihaopaaDoorW.PrintLast Go.Proofs.YtgingnbfihaopaaDoor.B Go.Proofs.YtgingnbfihaopaaDoor.Opn
set_option linter.unusedVariables false
set_option linter.unusedSimpArgs false
def BtL (l : List Int) : Prop := l.length ≤ 65536 ∧ ∀ x ∈ l, 0 ≤ x ∧ x ≤ 255
theorem bt_of {l : List Int} (h : okList (okInt .u8) l) (hl : l.length ≤ 65536) : BtL l := by
  refine ⟨hl, fun x hx => ?_⟩
  have := h.2 x hx
  simp only [okInt, Lit.wf, Bool.and_eq_true, decide_eq_true_eq] at this
  have h1 : IntKind.u8.min = 0 := rfl
  have h2 : IntKind.u8.max = 255 := rfl
  omega
theorem rd_bd {l : List Int} (h : BtL l) (i : Int) : 0 ≤ rd l i ∧ rd l i ≤ 255 := by
  unfold rd
  by_cases c : i.toNat < l.length
  · rw [List.getD_eq_getElem?_getD, List.getElem?_eq_getElem c]
    exact h.2 _ (List.getElem_mem c)
  · rw [List.getD_eq_getElem?_getD, List.getElem?_eq_none (by omega)]
    exact ⟨by decide, by decide⟩
theorem and_bd (x : Int) : 0 ≤ wrap64 (Go.bits .and .u64 ((IntKind.u64.wrap x) / 1099511627776) 255) ∧ wrap64 (Go.bits .and .u64 ((IntKind.u64.wrap x) / 1099511627776) 255) ≤ 255 := by
  rw [IntKind.wrap_u64]
  obtain ⟨n, hn, hl⟩ : ∃ n : Nat, (x % 18446744073709551616) / 1099511627776 = (n : Int) ∧ n < 18446744073709551616 := ⟨((x % 18446744073709551616) / 1099511627776).toNat, by omega, by omega⟩
  rw [hn, show (255 : Int) = ((255 : Nat) : Int) from rfl, bits_and_u64_nat n 255 hl (by omega)]
  have := Nat.and_le_right (n := n) (m := 255)
  rw [w64 (by omega) (by omega)]
  omega
theorem next_ex {l : List Int} (h : BtL l) (a s : Int) (h0 : 0 ≤ a) (h1 : a ≤ 2305843009213693952) : ∃ x s', spec_l1Cur_next.f l a s = some (x, a + 1, s') ∧ 0 ≤ x ∧ x ≤ 255 := by
  unfold spec_l1Cur_next.f
  have hw : wrap64 (a + 1) = a + 1 := w64 (by omega) (by omega)
  rw [hw]
  have hr := rd_bd h a
  by_cases c : a < (l.length : Int)
  · rw [if_pos c, if_pos h0]
    by_cases c2 : a + 1 ≤ (l.length : Int)
    · rw [if_pos c2]; exact ⟨_, _, rfl, by rw [w64 (by omega) (by omega)]; exact hr⟩
    · rw [if_neg c2]; exact ⟨_, _, rfl, and_bd _⟩
  · rw [if_neg c]
    by_cases c2 : a + 1 ≤ (l.length : Int)
    · rw [if_pos c2]; exact ⟨_, _, rfl, by omega, by omega⟩
    · rw [if_neg c2]; exact ⟨_, _, rfl, and_bd _⟩
theorem tmod_bd {x n : Int} (h : 0 ≤ x) (hn : 1 ≤ n) : 0 ≤ Int.tmod x n ∧ Int.tmod x n < n := ⟨Int.tmod_nonneg n h, Int.tmod_lt_of_pos x (by omega)⟩
theorem pick_ex {l : List Int} (h : BtL l) (a s n : Int) (h0 : 0 ≤ a) (h1 : a ≤ 2305843009213693000) (hn : 1 ≤ n) : ∃ x a' s', spec_l1Cur_pick.f l a s n = some (x, a', s') ∧ 0 ≤ x ∧ x < n ∧ a ≤ a' ∧ a' ≤ a + 2 := by
  unfold spec_l1Cur_pick.f
  by_cases c : n ≤ 1
  · rw [if_pos c]; exact ⟨_, _, _, rfl, by omega, by omega, by omega, by omega⟩
  · rw [if_neg c]
    obtain ⟨x, s', e, b0, b1⟩ := next_ex h a s h0 (by omega)
    rw [e]
    by_cases c2 : n > 200
    · obtain ⟨x2, s2, e2, b2, b3⟩ := next_ex h (a + 1) s' (by omega) (by omega)
      refine ⟨Int.tmod (x * 256 + x2) n, a + 1 + 1, s2, ?_, (tmod_bd (x := x * 256 + x2) (n := n) (by omega) hn).1, (tmod_bd (x := x * 256 + x2) (n := n) (by omega) hn).2, ?_, ?_⟩
      · simp only [Option.bind_some]
        rw [if_pos c2, e2]
        simp only [Option.bind_some]
        rw [if_neg (by omega), w64 (x := x * 256) (by omega) (by omega), w64 (x := x * 256 + x2) (by omega) (by omega)]
      · omega
      · omega
    · refine ⟨Int.tmod x n, a + 1, s', ?_, (tmod_bd (x := x) (n := n) b0 hn).1, (tmod_bd (x := x) (n := n) b0 hn).2, ?_, ?_⟩
      · simp only [Option.bind_some]
        rw [if_neg c2, if_neg (by omega)]
      · omega
      · omega
theorem of_ex {l : List Int} (h : BtL l) (a s : Int) (ts : List ByteArray) (h0 : 0 ≤ a) (h1 : a ≤ 2305843009213693000) (hn : 1 ≤ ts.length) : ∃ x a' s', spec_l1Cur_of.f l a s ts = some (x, a', s') ∧ x ∈ ts ∧ a ≤ a' ∧ a' ≤ a + 2 := by
  unfold spec_l1Cur_of.f
  obtain ⟨x, a', s', e, b0, b1, b2, b3⟩ := pick_ex h a s (ts.length : Int) h0 h1 (by omega)
  rw [e]
  simp only [Option.bind_some]
  rw [if_pos b0, if_pos b1]
  refine ⟨_, _, _, rfl, ?_, b2, b3⟩
  unfold rdOf
  rw [List.getD_eq_getElem?_getD, List.getElem?_eq_getElem (by omega)]
  exact List.getElem_mem (by omega)
end Go.Proofs.YtgingnbfihaopaaDoor.G

namespace Go.Proofs.YtgingnbfihaopaaDoor.G
open Go.RowKit Go.Proofs.YtgingnbfihaopaaDoorW.PrintWords Go.Proofs.YtgingnbfihaopaaDoorW.PrintLast Go.Proofs.YtgingnbfihaopaaDoor.B
set_option linter.unusedVariables false
set_option linter.unusedSimpArgs false
def bytesS (l : List ByteArray) : Nat := (l.map (·.size)).sum
def bulkS (l : List ByteArray) : Nat := l.length + bytesS l
theorem bytesS_cons (a : ByteArray) (l : List ByteArray) : bytesS (a :: l) = a.size + bytesS l := by simp [bytesS]
end Go.Proofs.YtgingnbfihaopaaDoor.G

namespace Go.Proofs.YtgingnbfihaopaaDoor.B
open Go.RowKit Go.Proofs.YtgingnbfihaopaaDoorW.PrintWords Go.Proofs.YtgingnbfihaopaaDoorW.PrintLast
set_option linter.unusedVariables false
set_option linter.unusedSimpArgs false
def ahd (seg : List UInt8) : List (List UInt8) → List (List UInt8)
  | [] => [seg]
  | h :: t => (seg ++ h) :: t
def spl (b : UInt8) : List UInt8 → List (List UInt8)
  | [] => [[]]
  | c :: cs => if c = b then [] :: spl b cs else ahd [c] (spl b cs)
theorem spl_cons (b c : UInt8) (cs : List UInt8) : spl b (c :: cs) = if c = b then [] :: spl b cs else ahd [c] (spl b cs) := rfl
theorem spl_ne (b : UInt8) (l : List UInt8) : spl b l ≠ [] := by
  cases l with
  | nil => simp [spl]
  | cons c cs => unfold spl; split <;> simp; unfold ahd; split <;> simp
theorem ahd_nil (p : List (List UInt8)) (h : p ≠ []) : ahd [] p = p := by cases p <;> simp_all [ahd]
theorem ahd_ahd (a b : List UInt8) (p : List (List UInt8)) : ahd a (ahd b p) = ahd (a ++ b) p := by cases p <;> simp [ahd]
theorem spl_length (b : UInt8) (l : List UInt8) : (spl b l).length ≤ l.length + 1 := by
  induction l with
  | nil => simp [spl]
  | cons c cs ih =>
    unfold spl
    split
    · simp; omega
    · cases h : spl b cs with
      | nil => exact absurd h (spl_ne b cs)
      | cons p q => rw [h] at ih; simp [ahd] at ih ⊢; omega
theorem spl_step (b : UInt8) (l : List UInt8) (from_ i : Nat) (hi : i < l.length) (hf : from_ ≤ i) :
    ahd ((l.drop from_).take (i - from_)) (spl b (l.drop i)) =
      if l[i] = b then ((l.drop from_).take (i - from_)) :: spl b (l.drop (i + 1)) else ahd ((l.drop from_).take (i + 1 - from_)) (spl b (l.drop (i + 1))) := by
  rw [List.drop_eq_getElem_cons hi, spl_cons]
  by_cases h : l[i] = b
  · rw [if_pos h, if_pos h]
    simp [ahd]
  · rw [if_neg h, if_neg h]
    have e : (l.drop from_).take (i + 1 - from_) = (l.drop from_).take (i - from_) ++ [l[i]] := by
      rw [show i + 1 - from_ = (i - from_) + 1 by omega, List.take_succ_eq_append_getElem (by rw [List.length_drop]; omega)]
      congr 2
      rw [List.getElem_drop]
      congr 1
      omega
    rw [e]
    exact ahd_ahd _ _ _
theorem spl_none (c : UInt8) : ∀ l : List UInt8, (∀ k : Nat, l[k]? ≠ some c) → spl c l = [l]
  | [], _ => rfl
  | a :: l, h => by
    have h0 : a ≠ c := fun e => h 0 (by simp [e])
    rw [spl_cons, if_neg h0, spl_none c l (fun k => by simpa using h (k + 1))]; rfl
theorem spl_first (c : UInt8) : ∀ (i : Nat) (l : List UInt8), l[i]? = some c → (∀ k : Nat, k < i → l[k]? ≠ some c) → spl c l = l.take i :: spl c (l.drop (i + 1))
  | 0, [], h, _ => by simp at h
  | 0, a :: l, h, _ => by
    have h0 : a = c := by simpa using h
    rw [spl_cons, if_pos h0]; rfl
  | i + 1, [], h, _ => by simp at h
  | i + 1, a :: l, h, hk => by
    have h0 : a ≠ c := fun e => hk 0 (by omega) (by simp [e])
    rw [spl_cons, if_neg h0, spl_first c i l (by simpa using h) (fun k hk' => by simpa using hk (k + 1) (by omega))]
    rfl
theorem indexB_one (s : ByteArray) (c : UInt8) : Lib.indexB s (mkB [c]) = Lib.indexByte (L s) c := by
  unfold Lib.indexB
  have : (mkB [c]).data.toList = [c] := L_mk [c]
  rw [this]
  exact Lib.index_one _ _
theorem splitB_spl (c : UInt8) (n : Nat) : ∀ s : ByteArray, s.size ≤ n → (Lib.splitB (mkB [c]) 0 (Lib.countB s (mkB [c])) s).map L = spl c (L s) := by
  have h1 : (mkB [c]).size = 1 := by rw [size_mk]; rfl
  induction n with
  | zero =>
    intro s hs
    rcases Lib.indexB_cases s (mkB [c]) with hm | ⟨i, hi, hr⟩
    · rw [Lib.splitB_miss _ _ _ _ hm]
      have := Lib.indexByte_none (by rw [← indexB_one]; exact hm : Lib.indexByte (L s) c = -1)
      rw [spl_none c (L s) this]; rfl
    · omega
  | succ n ih =>
    intro s hs
    rcases Lib.indexB_cases s (mkB [c]) with hm | ⟨i, hi, hr⟩
    · rw [Lib.splitB_miss _ _ _ _ hm]
      have := Lib.indexByte_none (by rw [← indexB_one]; exact hm : Lib.indexByte (L s) c = -1)
      rw [spl_none c (L s) this]; rfl
    · rw [h1] at hr
      have hc := Lib.countB_hit s (mkB [c]) i (by omega) hi
      rw [h1] at hc
      rw [hc, Nat.add_comm 1, Lib.splitB_hit _ _ _ _ i hi, h1, List.map_cons, ih (s.extract (i + 1) s.size) (by rw [ByteArray.size_extract]; omega)]
      obtain ⟨a, b⟩ := Lib.indexByte_some (by rw [← indexB_one]; exact hi : Lib.indexByte (L s) c = i)
      rw [spl_first c i (L s) a b, L_extract, L_extract]
      congr 1
      congr 1
      rw [List.take_of_length_le (by rw [List.length_drop, L_len]; omega)]
theorem splitB_eq (c : UInt8) (s : ByteArray) : Lib.splitB (mkB [c]) 0 (Lib.countB s (mkB [c])) s = (spl c (L s)).map mkB := by
  rw [← splitB_spl c s.size s (Nat.le_refl _), List.map_map]
  have : (mkB ∘ L) = id := by funext x; exact mk_L x
  rw [this, List.map_id]
end Go.Proofs.YtgingnbfihaopaaDoor.B

namespace Go.Proofs.YtgingnbfihaopaaDoor.G
open Go.RowKit Go.Proofs.YtgingnbfihaopaaDoorW.PrintWords Go.Proofs.YtgingnbfihaopaaDoorW.PrintLast Go.Proofs.YtgingnbfihaopaaDoor.B
set_option linter.unusedVariables false
set_option linter.unusedSimpArgs false
theorem split_loop (s : ByteArray) (b : UInt8) (hs : s.size ≤ 8796093022000) (d : Nat) : ∀ (out : List ByteArray) (f i : Nat), out.length ≤ i → f ≤ i → i ≤ s.size → s.size - i = d →
    Ev (fun k => spec_l1Split.l0 k s (b.toNat : Int) out f i) (out ++ (ahd (((L s).drop f).take (i - f)) (spl b ((L s).drop i))).map mkB) := by
  have hL : (L s).length = s.size := L_len s
  induction d with
  | zero =>
    intro out f i h0 h1 h2 hd
    have e : i = s.size := by omega
    refine Ev.step (f := fun _ => some (out ++ [s.extract f s.size])) (fun k => ?_) (ev_eq (Ev.now _) ?_)
    · simp only [spec_l1Split.l0]
      rw [if_neg (by omega), if_pos (by omega), if_pos (by omega), if_pos (by omega)]
      simp
    · rw [List.drop_of_length_le (l := L s) (i := i) (by omega)]
      simp [spl, ahd]
      apply L_inj
      rw [L_extract, L_mk, e]
  | succ d ih =>
    intro out f i h0 h1 h2 hd
    have hlt : i < s.size := by omega
    have hlt' : i < (L s).length := by omega
    rw [spl_step b (L s) f i hlt' h1]
    have hw : wrap64 ((i : Int) + 1) = ((i + 1 : Nat) : Int) := by rw [w64 (by omega) (by omega)]; rfl
    by_cases e : (L s)[i] = b
    · rw [if_pos e]
      refine Ev.step (f := fun k => spec_l1Split.l0 k s (b.toNat : Int) (out ++ [s.extract f i]) ((i + 1 : Nat) : Int) ((i + 1 : Nat) : Int)) (fun k => ?_) (ev_eq (ih (out ++ [s.extract f i]) (i + 1) (i + 1) (by simp; omega) (by omega) (by omega) (by omega)) ?_)
      · simp only [spec_l1Split.l0]
        rw [if_pos (by omega), if_pos (by omega), if_pos (by rw [bt_get s i hlt, e]), if_pos (by omega), if_pos (by omega), if_pos (by omega), if_pos (by omega), hw]
        simp
      · rw [Nat.sub_self, List.take_zero, ahd_nil _ (spl_ne b _), List.append_assoc]
        congr 1
        simp
        apply L_inj
        rw [L_extract, L_mk]
    · rw [if_neg e]
      refine Ev.step (f := fun k => spec_l1Split.l0 k s (b.toNat : Int) out f ((i + 1 : Nat) : Int)) (fun k => ?_) (ih out f (i + 1) (by omega) (by omega) (by omega) (by omega))
      simp only [spec_l1Split.l0]
      rw [if_pos (by omega), if_pos (by omega), if_neg (by rw [bt_get s i hlt]; exact fun h => e (u8_inj h)), hw]
theorem split_ev (s : ByteArray) (b : UInt8) (hs : s.size ≤ 8796093022000) : Ev (fun k => spec_l1Split.f k s (b.toNat : Int)) ((spl b (L s)).map mkB) := by
  have := split_loop s b hs s.size [] 0 0 (by simp) (by omega) (by omega) (by omega)
  unfold spec_l1Split.f
  simpa [ahd_nil _ (spl_ne b _)] using this
def upD (c : Int) : Bool := decide (65 ≤ c) && decide (c ≤ 90)
def loD (c : Int) : Bool := decide (97 ≤ c) && decide (c ≤ 122)
def leD (c : Int) : Bool := upD c || loD c
def inD (n : Nat) : Bool := decide (1 ≤ n) && decide (n ≤ 12)
theorem spec_up (c : Int) : spec_l2Upper.f c = some (upD c) := by unfold spec_l2Upper.f upD; by_cases h : 65 ≤ c <;> simp [h]
theorem spec_lo (c : Int) : spec_l2Lower.f c = some (loD c) := by unfold spec_l2Lower.f loD; by_cases h : 97 ≤ c <;> simp [h]
theorem impl_up (c : Int) : impl_isUpper.f c = some (upD c) := by unfold impl_isUpper.f upD; by_cases h : 65 ≤ c <;> simp [h]
theorem impl_lo (c : Int) : impl_isLower.f c = some (loD c) := by unfold impl_isLower.f loD; by_cases h : 97 ≤ c <;> simp [h]
theorem spec_le (c : Int) : spec_l2Letter.f c = some (leD c) := by unfold spec_l2Letter.f leD; rw [spec_up, spec_lo]; cases upD c <;> simp
theorem impl_le (c : Int) : impl_isLetter.f c = some (leD c) := by unfold impl_isLetter.f leD; rw [impl_up, impl_lo]; cases upD c <;> simp
theorem in12 (n : Nat) : (if (n : Int) ≥ 1 then some (decide ((n : Int) ≤ 12)) else some false) = some (inD n) := by
  unfold inD
  by_cases h : 1 ≤ n
  · rw [if_pos (by omega)]
    congr 1
    rw [decide_eq_true h, Bool.true_and, decide_eq_decide]; omega
  · rw [if_neg (by omega)]; simp [h]
theorem spec_in (s : ByteArray) : spec_l1In.f (s.size : Int) 1 12 = some (inD s.size) := in12 s.size
theorem impl_in (s : ByteArray) : impl_inside.f (s.size : Int) 1 12 = some (inD s.size) := in12 s.size
theorem inD_iff {n : Nat} : inD n = true ↔ 1 ≤ n ∧ n ≤ 12 := by simp [inD]
def okD (s : ByteArray) (i : Nat) : Bool := leD (bt s i) || ((decide (bt s i = 45) || decide (bt s i = 39)) && leD (bt s ((i : Int) - 1)))
def wlD (s : ByteArray) : Nat → Nat → Bool
  | 0, _ => true
  | d + 1, i => okD s i && wlD s d (i + 1)
def wordD (s : ByteArray) : Bool := inD s.size && ((leD (bt s 0) && leD (bt s ((s.size : Int) - 1))) && wlD s (s.size - 1) 1)
def greatD (s : ByteArray) : Bool := wordD s && upD (bt s 0)
theorem word_step (s : ByteArray) (i k : Nat) (h1 : 1 ≤ i) (h2 : i < s.size) (h3 : s.size ≤ 12) : spec_l2Word.l0 (k + 1) s (i : Int) = if okD s i = true then spec_l2Word.l0 k s ((i + 1 : Nat) : Int) else some false := by
  have hw : wrap64 ((i : Int) + 1) = ((i + 1 : Nat) : Int) := by rw [w64 (by omega) (by omega)]; rfl
  have hw' : wrap64 ((i : Int) - 1) = (i : Int) - 1 := w64 (by omega) (by omega)
  have a1 : (0 : Int) ≤ (i : Int) - 1 := by omega
  have a2 : (i : Int) - 1 < (s.size : Int) := by omega
  simp only [spec_l2Word.l0]
  rw [if_pos (show (i : Int) < (s.size : Int) by omega), if_pos (show (0 : Int) ≤ (i : Int) by omega), spec_le, hw, hw']
  simp only [Option.bind_some, if_pos a1, if_pos a2, spec_le]
  unfold okD
  generalize ((i + 1 : Nat) : Int) = j
  cases leD (bt s i) <;> cases leD (bt s ((i : Int) - 1)) <;> by_cases c : bt s i = 45 <;> by_cases d : bt s i = 39 <;> simp [c, d]
theorem word_loop (s : ByteArray) (hs : s.size ≤ 12) (d : Nat) : ∀ i : Nat, 1 ≤ i → i ≤ s.size → s.size - i = d → Ev (fun k => spec_l2Word.l0 k s (i : Int)) (wlD s d i) := by
  induction d with
  | zero =>
    intro i h1 h2 hd
    refine Ev.step (f := fun _ => some true) (fun k => ?_) (Ev.now _)
    simp only [spec_l2Word.l0]; rw [if_neg (by omega)]
  | succ d ih =>
    intro i h1 h2 hd
    refine Ev.step (f := fun k => if okD s i = true then spec_l2Word.l0 k s ((i + 1 : Nat) : Int) else some false) (fun k => word_step s i k h1 (by omega) hs) ?_
    unfold wlD
    cases h : okD s i with
    | true => exact ev_pos rfl (ev_eq (ih (i + 1) (by omega) (by omega) (by omega)) (by simp))
    | false => exact ev_neg (by simp) (ev_eq (Ev.now _) (by simp))
theorem loops_eq (s : ByteArray) (k : Nat) : ∀ i : Int, impl_isNameWord.l0 k s i = spec_l2Word.l0 k s i := by
  induction k with
  | zero => intro i; simp [impl_isNameWord.l0, spec_l2Word.l0]
  | succ k ih => intro i; simp only [impl_isNameWord.l0, spec_l2Word.l0, impl_le, spec_le, ih]
theorem spec_word (s : ByteArray) : Ev (fun k => spec_l2Word.f k s) (wordD s) := by
  unfold spec_l2Word.f wordD
  cases h : inD s.size with
  | false =>
    refine Ev.step (f := fun _ => some false) (fun k => ?_) (ev_eq (Ev.now _) (by simp))
    simp only [spec_in, h, Option.bind_some, spec_l2Word.j0]; simp
  | true =>
    obtain ⟨h1, h2⟩ := inD_iff.1 h
    have hw : wrap64 ((s.size : Int) - 1) = (s.size : Int) - 1 := w64 (by omega) (by omega)
    refine Ev.step (f := fun k => if (leD (bt s 0) && leD (bt s ((s.size : Int) - 1))) = true then spec_l2Word.l0 k s ((1 : Nat) : Int) else some false) (fun k => ?_) ?_
    · have a1 : (0 : Int) < (s.size : Int) := by omega
      have a2 : (0 : Int) ≤ (s.size : Int) - 1 := by omega
      have a3 : (s.size : Int) - 1 < (s.size : Int) := by omega
      simp only [spec_in, h, Option.bind_some, if_pos a1, if_pos a2, if_pos a3, hw, spec_le, spec_l2Word.j0]
      cases leD (bt s 0) <;> cases leD (bt s ((s.size : Int) - 1)) <;> simp
    · cases h3 : (leD (bt s 0) && leD (bt s ((s.size : Int) - 1))) with
      | true => exact ev_pos rfl (ev_eq (word_loop s h2 (s.size - 1) 1 (by omega) (by omega) rfl) (by simp))
      | false => exact ev_neg (by simp) (ev_eq (Ev.now _) (by simp))
theorem impl_word (s : ByteArray) : Ev (fun k => impl_isNameWord.f k s) (wordD s) := by
  unfold impl_isNameWord.f wordD
  cases h : inD s.size with
  | false =>
    refine Ev.step (f := fun _ => some false) (fun k => ?_) (ev_eq (Ev.now _) (by simp))
    simp only [impl_in, h, Option.bind_some, impl_isNameWord.j0]; simp
  | true =>
    obtain ⟨h1, h2⟩ := inD_iff.1 h
    have hw : wrap64 ((s.size : Int) - 1) = (s.size : Int) - 1 := w64 (by omega) (by omega)
    refine Ev.step (f := fun k => if (leD (bt s 0) && leD (bt s ((s.size : Int) - 1))) = true then spec_l2Word.l0 k s ((0 : Nat) : Int) else some false) (fun k => ?_) ?_
    · have a1 : (0 : Int) < (s.size : Int) := by omega
      have a2 : (0 : Int) ≤ (s.size : Int) - 1 := by omega
      have a3 : (s.size : Int) - 1 < (s.size : Int) := by omega
      simp only [impl_in, h, Option.bind_some, if_pos a1, if_pos a2, if_pos a3, hw, impl_le, impl_isNameWord.j0, loops_eq]
      cases leD (bt s 0) <;> cases leD (bt s ((s.size : Int) - 1)) <;> simp
    · cases h3 : (leD (bt s 0) && leD (bt s ((s.size : Int) - 1))) with
      | true =>
        refine ev_pos rfl (Ev.step (f := fun k => spec_l2Word.l0 k s ((1 : Nat) : Int)) (fun k => ?_) (ev_eq (word_loop s h2 (s.size - 1) 1 (by omega) (by omega) rfl) (by simp)))
        have h0 : leD (bt s 0) = true := by simp at h3; exact h3.1
        simp only [spec_l2Word.l0]
        rw [if_pos (by omega), if_pos (by omega), spec_le, show ((0 : Nat) : Int) = 0 from rfl, h0, w64 (by omega) (by omega)]
        simp
      | false => exact ev_neg (by simp) (ev_eq (Ev.now _) (by simp))
theorem word_in {s : ByteArray} (h : wordD s = true) : 1 ≤ s.size ∧ s.size ≤ 12 := by
  unfold wordD at h
  cases hi : inD s.size with
  | true => exact inD_iff.1 hi
  | false => rw [hi] at h; simp at h
theorem impl_great (s : ByteArray) : Ev (fun k => impl_isGreatWord.f k s) (greatD s) := by
  unfold impl_isGreatWord.f greatD
  refine Ev.bind (impl_word s) ?_
  cases h : wordD s with
  | true =>
    have := word_in h
    refine ev_pos rfl (ev_pos (by omega) (ev_eq (Ev.congr (f := fun _ => some (upD (bt s 0))) (fun k => by rw [impl_up]; rfl) (Ev.now _)) (by simp)))
  | false => exact ev_neg (by simp) (ev_eq (Ev.now _) (by simp))
def lowF (s : ByteArray) (j : Nat) : Bool := ((L s).drop j).all fun b => loD (b.toNat : Int)
def lowD (s : ByteArray) : Bool := lowF s 0
def wsD (l : List ByteArray) : Bool := l.all fun w => inD w.size && lowD w
theorem lowF_step (s : ByteArray) (j : Nat) (h : j < s.size) : lowF s j = (loD (bt s j) && lowF s (j + 1)) := by
  unfold lowF
  have hl : j < (L s).length := by rw [L_len]; exact h
  rw [List.drop_eq_getElem_cons hl, List.all_cons, bt_get s j h]
theorem lowF_end (s : ByteArray) (j : Nat) (h : s.size ≤ j) : lowF s j = true := by
  unfold lowF
  rw [List.drop_of_length_le (by rw [L_len]; exact h)]; rfl
theorem low_all (s : ByteArray) (h : lowD s = true) (j : Nat) (hj : j < s.size) : leD (bt s j) = true := by
  have hl : j < (L s).length := by rw [L_len]; exact hj
  have := List.all_eq_true.1 h _ (by rw [List.drop_zero]; exact List.getElem_mem hl)
  rw [bt_get s j hj]
  unfold leD
  rw [this]; simp
theorem wl_low (s : ByteArray) (h : lowD s = true) (d : Nat) : ∀ i, i + d ≤ s.size → wlD s d i = true := by
  induction d with
  | zero => intro i _; rfl
  | succ d ih =>
    intro i hi
    unfold wlD okD
    rw [low_all s h i (by omega), ih (i + 1) (by omega)]; rfl
theorem word_low (s : ByteArray) : (wordD s && lowD s) = (inD s.size && lowD s) := by
  cases h : lowD s with
  | false => simp
  | true =>
    unfold wordD
    cases hi : inD s.size with
    | false => simp
    | true =>
      obtain ⟨h1, h2⟩ := inD_iff.1 hi
      have e1 := low_all s h 0 (by omega)
      have e2 := low_all s h (s.size - 1) (by omega)
      rw [show ((s.size - 1 : Nat) : Int) = (s.size : Int) - 1 by omega] at e2
      rw [show ((0 : Nat) : Int) = 0 from rfl] at e1
      rw [e1, e2, wl_low s h (s.size - 1) 1 (by omega)]; rfl
theorem rd_get (l : List ByteArray) (i : Nat) (h : i < l.length) : rdOf ByteArray.empty l (i : Int) = l[i] := by simp [rdOf, h]
theorem spec_inner (ws : List ByteArray) (i : Nat) (hi : i < ws.length) (hs : (ws[i]).size ≤ 12) (hl : ws.length ≤ 4611686018427387904) (T : Bool) (hT : Ev (fun k => spec_l2Particle.l0 k ws ((i + 1 : Nat) : Int)) T) (d : Nat) : ∀ j : Nat, j ≤ (ws[i]).size → (ws[i]).size - j = d →
    Ev (fun k => spec_l2Particle.l1 k ws (i : Int) (j : Int)) (lowF ws[i] j && T) := by
  have hw : wrap64 ((i : Int) + 1) = ((i + 1 : Nat) : Int) := by rw [w64 (by omega) (by omega)]; rfl
  induction d with
  | zero =>
    intro j h1 hd
    refine Ev.step (f := fun k => spec_l2Particle.l0 k ws ((i + 1 : Nat) : Int)) (fun k => ?_) (ev_eq hT (by rw [lowF_end _ _ (by omega)]; simp))
    simp only [spec_l2Particle.l1, rd_get ws i hi]
    rw [if_pos (by omega), if_pos (by omega), if_neg (by omega), hw]
  | succ d ih =>
    intro j h1 hd
    rw [lowF_step _ j (by omega)]
    have hw' : wrap64 ((j : Int) + 1) = ((j + 1 : Nat) : Int) := by rw [w64 (by omega) (by omega)]; rfl
    refine Ev.step (f := fun k => if loD (bt ws[i] (j : Int)) = true then spec_l2Particle.l1 k ws (i : Int) ((j + 1 : Nat) : Int) else some false) (fun k => ?_) ?_
    · simp only [spec_l2Particle.l1, rd_get ws i hi]
      rw [if_pos (by omega), if_pos (by omega), if_pos (by omega), if_pos (by omega), hw', spec_lo]; rfl
    · cases h : loD (bt ws[i] (j : Int)) with
      | true => exact ev_pos rfl (ev_eq (ih (j + 1) (by omega) (by omega)) (by simp))
      | false => exact ev_neg (by simp) (ev_eq (Ev.now _) (by simp))
theorem spec_outer (ws : List ByteArray) (hl : ws.length ≤ 4611686018427387904) (d : Nat) : ∀ i : Nat, i ≤ ws.length → ws.length - i = d →
    Ev (fun k => spec_l2Particle.l0 k ws (i : Int)) (wsD (ws.drop i) && decide (ws.length ≤ 2)) := by
  induction d with
  | zero =>
    intro i h1 hd
    refine Ev.step (f := fun k => some (decide ((ws.length : Int) ≤ 2))) (fun k => ?_) (ev_eq (Ev.now _) ?_)
    · simp only [spec_l2Particle.l0]; rw [if_neg (by omega)]
    · rw [List.drop_of_length_le (by omega)]
      show decide _ = (true && decide _)
      rw [Bool.true_and, decide_eq_decide]; omega
  | succ d ih =>
    intro i h1 hd
    have hi : i < ws.length := by omega
    refine Ev.step (f := fun k => (spec_l2Word.f k ws[i]).bind fun t => if t = true then spec_l2Particle.l1 k ws (i : Int) ((0 : Nat) : Int) else some false) (fun k => ?_) ?_
    · simp only [spec_l2Particle.l0, rd_get ws i hi]
      rw [if_pos (by omega), if_pos (by omega)]; rfl
    · refine Ev.bind (spec_word _) ?_
      have e : (wsD (ws.drop i) && decide (ws.length ≤ 2)) = ((wordD ws[i] && lowD ws[i]) && (wsD (ws.drop (i + 1)) && decide (ws.length ≤ 2))) := by
        rw [word_low, List.drop_eq_getElem_cons hi]
        simp only [wsD, List.all_cons, Bool.and_assoc]
      rw [e]
      cases h : wordD ws[i] with
      | true => exact ev_pos rfl (ev_eq (spec_inner ws i hi (word_in h).2 hl _ (ih (i + 1) (by omega) (by omega)) _ 0 (by omega) rfl) (by simp [lowD]))
      | false => exact ev_neg (by simp) (ev_eq (Ev.now _) (by simp))
theorem impl_inner (ws ws' : List ByteArray) (n i : Nat) (w : ByteArray) (hi : i < 4611686018427387904) (hs : w.size ≤ 12) (T : Bool) (hT : Ev (fun k => impl_isParticle.l0 k ws ws' (n : Int) ((i + 1 : Nat) : Int)) T) (d : Nat) : ∀ j : Nat, j ≤ w.size → w.size - j = d →
    Ev (fun k => impl_isParticle.l1 k ws w (j : Int) ws' (n : Int) (i : Int)) (lowF w j && T) := by
  have hw : wrap64 ((i : Int) + 1) = ((i + 1 : Nat) : Int) := by rw [w64 (by omega) (by omega)]; rfl
  induction d with
  | zero =>
    intro j h1 hd
    refine Ev.step (f := fun k => impl_isParticle.l0 k ws ws' (n : Int) ((i + 1 : Nat) : Int)) (fun k => ?_) (ev_eq hT (by rw [lowF_end _ _ (by omega)]; simp))
    simp only [impl_isParticle.l1]
    rw [if_neg (by omega), hw]
  | succ d ih =>
    intro j h1 hd
    rw [lowF_step _ j (by omega)]
    have hw' : wrap64 ((j : Int) + 1) = ((j + 1 : Nat) : Int) := by rw [w64 (by omega) (by omega)]; rfl
    refine Ev.step (f := fun k => if loD (bt w (j : Int)) = true then impl_isParticle.l1 k ws w ((j + 1 : Nat) : Int) ws' (n : Int) (i : Int) else some false) (fun k => ?_) ?_
    · simp only [impl_isParticle.l1]
      rw [if_pos (by omega), if_pos (by omega), hw', impl_lo]; rfl
    · cases h : loD (bt w (j : Int)) with
      | true => exact ev_pos rfl (ev_eq (ih (j + 1) (by omega) (by omega)) (by simp))
      | false => exact ev_neg (by simp) (ev_eq (Ev.now _) (by simp))
theorem impl_outer (ws : List ByteArray) (hl : ws.length ≤ 4611686018427387904) (d : Nat) : ∀ i : Nat, i ≤ ws.length → ws.length - i = d →
    Ev (fun k => impl_isParticle.l0 k ws ws (ws.length : Int) (i : Int)) (wsD (ws.drop i) && decide (ws.length ≤ 2)) := by
  induction d with
  | zero =>
    intro i h1 hd
    refine Ev.step (f := fun k => some (decide ((ws.length : Int) ≤ 2))) (fun k => ?_) (ev_eq (Ev.now _) ?_)
    · simp only [impl_isParticle.l0]; rw [if_neg (by omega)]
    · rw [List.drop_of_length_le (by omega)]
      show decide _ = (true && decide _)
      rw [Bool.true_and, decide_eq_decide]; omega
  | succ d ih =>
    intro i h1 hd
    have hi : i < ws.length := by omega
    have e : (wsD (ws.drop i) && decide (ws.length ≤ 2)) = (inD (ws[i]).size && (lowD ws[i] && (wsD (ws.drop (i + 1)) && decide (ws.length ≤ 2)))) := by
      rw [List.drop_eq_getElem_cons hi]
      simp only [wsD, List.all_cons, Bool.and_assoc]
    rw [e]
    refine Ev.step (f := fun k => if inD (ws[i]).size = true then impl_isParticle.l1 k ws ws[i] ((0 : Nat) : Int) ws (ws.length : Int) (i : Int) else some false) (fun k => ?_) ?_
    · simp only [impl_isParticle.l0, rd_get ws i hi]
      rw [if_pos (by omega), if_pos (by omega), if_pos (by omega), impl_in]; rfl
    · cases h : inD (ws[i]).size with
      | true => exact ev_pos rfl (ev_eq (impl_inner ws ws ws.length i ws[i] (by omega) (inD_iff.1 h).2 _ (ih (i + 1) (by omega) (by omega)) _ 0 (by omega) rfl) (by simp [lowD]))
      | false => exact ev_neg (by simp) (ev_eq (Ev.now _) (by simp))
def wordsOf (s : ByteArray) : List ByteArray := (spl 32 (L s)).map mkB
def partD (s : ByteArray) : Bool := decide (s.size = 0) || (wsD (wordsOf s) && decide ((wordsOf s).length ≤ 2))
theorem wordsOf_len (s : ByteArray) : (wordsOf s).length ≤ s.size + 1 := by
  have := spl_length 32 (L s)
  rw [L_len] at this
  unfold wordsOf
  rw [List.length_map]; exact this
theorem nil_iff (s : ByteArray) : s.toList = ([] : List UInt8) ↔ s.size = 0 := by rw [toList_L, size_pos_iff]
theorem split_sp (s : ByteArray) (c : UInt8) (hs : s.size ≤ 4294967280) : strings_Split.f s (⟨#[c]⟩ : ByteArray) = some ((spl c (L s)).map mkB) := by
  have e : (⟨#[c]⟩ : ByteArray) = mkB [c] := rfl
  have h1 : (mkB [c]).size = 1 := by rw [size_mk]; rfl
  have hc := Lib.countB_le (mkB [c]) (by omega) s.size s (Nat.le_refl _)
  unfold strings_Split.f
  rw [e, if_pos ⟨by omega, by omega, Lib.splitB_all (mkB [c]) (by omega) 0 _ s rfl, by omega⟩, splitB_eq]
theorem spec_part (s : ByteArray) (hs : s.size ≤ 4294967280) : Ev (fun k => spec_l2Particle.f k s) (partD s) := by
  unfold spec_l2Particle.f partD
  by_cases h : s.size = 0
  · exact ev_pos ((nil_iff s).2 h) (ev_eq (Ev.now _) (by simp [h]))
  · refine ev_neg (fun e => h ((nil_iff s).1 e)) (Ev.bind (split_ev s 32 (by omega)) (ev_eq (spec_outer (wordsOf s) (by have := wordsOf_len s; omega) _ 0 (by omega) rfl) ?_))
    simp [h]
theorem impl_part (s : ByteArray) (hs : s.size ≤ 4294967280) : Ev (fun k => impl_isParticle.f k s) (partD s) := by
  unfold impl_isParticle.f partD
  by_cases h : s.size = 0
  · exact ev_pos ((nil_iff s).2 h) (ev_eq (Ev.now _) (by simp [h]))
  · refine ev_neg (fun e => h ((nil_iff s).1 e)) (ev_bind0 (split_sp s 32 hs) (ev_eq (impl_outer (wordsOf s) (by have := wordsOf_len s; omega) _ 0 (by omega) rfl) ?_))
    simp [h]
end Go.Proofs.YtgingnbfihaopaaDoor.G

namespace Go.Proofs.YtgingnbfihaopaaDoor.G
open Go.RowKit Go.Proofs.YtgingnbfihaopaaDoorW.PrintWords Go.Proofs.YtgingnbfihaopaaDoorW.PrintLast Go.Proofs.YtgingnbfihaopaaDoorW.PrintMore
open Go.Proofs.YtgingnbfihaopaaDoor.Gl Go.Proofs.YtgingnbfihaopaaDoor.Ext
attribute [local go_sem] max2_int min2_int max_two min_two max_three min_three max_four min_four   -- for this text's walks alone
set_option linter.unusedVariables false
set_option linter.unusedSimpArgs false

/-! ### laws_eqStringS: function 68 -/
def laws_eqStringS.l0 : Nat → List ByteArray → List ByteArray → Int → Option (Bool)
 | 0, _, _, _ => none
 | k + 1, x0, x1, x5 => if x5 < (x0.length : Int) then (if 0 ≤ x5 then (if x5 < (x1.length : Int) then (if (rdOf ByteArray.empty x0 x5).toList = (rdOf ByteArray.empty x1 x5).toList then (laws_eqStringS.l0 k x0 x1 (wrap64 (x5 + 1))) else (some false)) else (none)) else (none)) else (some true)
def laws_eqStringS.f (k : Nat) (l0 : List ByteArray) (l1 : List ByteArray) : Option (Bool) := if (l0.length : Int) = (l1.length : Int) then (laws_eqStringS.l0 k l0 l1 0) else (some false)
theorem laws_eqStringS.mono_l : ∀ k, (∀ y0 y1 y2, LeO (laws_eqStringS.l0 k y0 y1 y2) (laws_eqStringS.l0 (k + 1) y0 y1 y2))
 | 0 => fun _ _ _ r h => by simp [laws_eqStringS.l0] at h
 | k + 1 => by
  have ih0 := laws_eqStringS.mono_l k
  ·
   intro y0 y1 y2
   unfold laws_eqStringS.l0
   repeat' first
   | (with_reducible exact ih0 _ _ _)
   | (with_reducible exact LeO.refl _)
   | (with_reducible exact LeO.none _)
   | (with_reducible refine LeO.ite ?_ ?_)
   | (with_reducible refine LeO.bind ?_ (fun _ => ?_))
   | exact ih0 _ _ _
   | exact LeO.none _
   | refine LeO.ite ?_ ?_
   | refine LeO.bind ?_ (fun _ => ?_)
theorem laws_eqStringS.mono : ∀ a0 a1 k, LeO (laws_eqStringS.f k a0 a1) (laws_eqStringS.f (k + 1) a0 a1) := by
 intro a0 a1 k
 have ih0 := laws_eqStringS.mono_l k
 unfold laws_eqStringS.f
 repeat' first
   | (with_reducible exact ih0 _ _ _)
   | (with_reducible exact LeO.refl _)
   | (with_reducible exact LeO.none _)
   | (with_reducible refine LeO.ite ?_ ?_)
   | (with_reducible refine LeO.bind ?_ (fun _ => ?_))
   | exact ih0 _ _ _
   | exact LeO.none _
   | refine LeO.ite ?_ ?_
   | refine LeO.bind ?_ (fun _ => ?_)
set_option maxHeartbeats 8000000 in
set_option maxRecDepth 100000 in
theorem laws_eqStringS.calls (k : Nat) (A0 : Option Addr) (c0 : Nat) (l0 : List ByteArray) (A1 : Option Addr) (c1 : Nat) (l1 : List ByteArray) (r : Bool) (w : World) (hr0 : Kd.C Kd.string w A0 l0.length l0) (hc0 : l0.length ≤ c0) (hr1 : Kd.C Kd.string w A1 l1.length l1) (hc1 : l1.length ≤ c1) (h : laws_eqStringS.f k l0 l1 = some r) :
  Calls Tryd.prog 68 #[.slice A0 l0.length c0, .slice A1 l1.length c1] w fun e w' => e = .returned (.bool r) ∧ Drawn0 w w' := by
 have HR0 := Aside0.mk hr0
 have HC0 := Aside0.mk hc0
 clear hr0 hc0
 have HR1 := Aside0.mk hr1
 have HC1 := Aside0.mk hc1
 clear hr1 hc1
 have H : (if (l0.length : Int) = (l1.length : Int) then (laws_eqStringS.l0 k l0 l1 0) else (some false)) = some r := h
 clear h
 by_cases c3 : (l0.length : Int) = (l1.length : Int)
 ·
  rw [if_pos c3] at H
  have c3b0 : ((l0.length : Int) == (l1.length : Int)) = true := beq_iff_eq.mpr c3
  have c3b1 : ((l0.length : Int) != (l1.length : Int)) = false := bne_eq_false_iff_eq.mpr c3
  have c3b2 : (l0.length == l1.length) = true := by first | simpa using c3 | (simp at c3 ⊢; omega)
  clear c3
  have H' := Aside0.mk H
  clear H
  go_enter Tryd.func68, Tryd.ntmps68
  go_wp2
  repeat (go_quiet (fail); try go_wp2)
  go_loopg [5] k (fun kq v5 w' => ∃ (x5_1 : Int), v5 = .int .i64 x5_1 ∧ Aside0 (laws_eqStringS.l0 kq l0 l1 x5_1 = some r) ∧ Aside0 (kq ≤ k) ∧ Drawn0 w w')
  case atStart => exact ⟨(0), au122, H', ⟨Nat.le_refl _⟩, by repeat (first | exact Drawn0.refl _ | apply Drawn0.step)⟩
  case round =>
   clear H'
   try clear c1
   try clear p2
   try clear c3
   try clear c3b0
   try clear c3b1
   try clear c3b2
   obtain ⟨x5_1, rfl, HA, HK1, ⟨m1, rfl⟩⟩ := hrel
   cases gk with
   | zero => exact absurd HA.out (by simp [laws_eqStringS.l0])
   | succ k1 =>
    have H := HA.out
    clear HA
    simp only [laws_eqStringS.l0] at H
    by_cases c4 : x5_1 < (l0.length : Int)
    ·
     rw [if_pos c4] at H
     have c4b0 : decide (x5_1 < (l0.length : Int)) = true := decide_eq_true c4
     clear c4
     by_cases c5 : 0 ≤ x5_1
     ·
      rw [if_pos c5] at H
      have c5b0 : decide (0 ≤ x5_1) = true := decide_eq_true c5
      clear c5
      by_cases c6 : x5_1 < (l1.length : Int)
      ·
       rw [if_pos c6] at H
       have c6b0 : decide (x5_1 < (l1.length : Int)) = true := decide_eq_true c6
       clear c6
       by_cases c7 : (rdOf ByteArray.empty l0 x5_1).toList = (rdOf ByteArray.empty l1 x5_1).toList
       ·
        rw [if_pos c7] at H
        have c7b0 : ((rdOf ByteArray.empty l0 x5_1).toList == (rdOf ByteArray.empty l1 x5_1).toList) = true := beq_iff_eq.mpr c7
        have c7b1 : ((rdOf ByteArray.empty l0 x5_1).toList != (rdOf ByteArray.empty l1 x5_1).toList) = false := bne_eq_false_iff_eq.mpr c7
        clear c7
        have H' := Aside0.mk H
        clear H
        have p545 : 0 ≤ (x5_1 : Int) := of_decide_eq_true au121
        have q545 : x5_1 < (l0.length : Int) := of_decide_eq_true au121
        obtain ⟨ad545, e545, hx545_0⟩ := Kd.at_string HR0.out x5_1 p545 q545
        cases e545
        replace p545 := eq_true p545
        replace q545 := eq_true q545
        have p546 : 0 ≤ (x5_1 : Int) := of_decide_eq_true au121
        have q546 : x5_1 < (l1.length : Int) := of_decide_eq_true au121
        obtain ⟨ad546, e546, hx546_0⟩ := Kd.at_string HR1.out x5_1 p546 q546
        cases e546
        replace p546 := eq_true p546
        replace q546 := eq_true q546
        go_wp2
        repeat (go_quiet (fail); try go_wp2)
        go_roundg k1
        case measure => have := HK1.out; omega
        case rel => exact ⟨(wrap64 (x5_1 + 1)), au122, H', ⟨by have := HK1.out; omega⟩, by repeat (first | exact Drawn0.refl _ | apply Drawn0.step)⟩
       ·
        rw [if_neg c7] at H
        have c7b0 : ((rdOf ByteArray.empty l0 x5_1).toList == (rdOf ByteArray.empty l1 x5_1).toList) = false := beq_eq_false_iff_ne.mpr c7
        have c7b1 : ((rdOf ByteArray.empty l0 x5_1).toList != (rdOf ByteArray.empty l1 x5_1).toList) = true := bne_iff_ne.mpr c7
        obtain rfl := Option.some.inj H
        have p545 : 0 ≤ (x5_1 : Int) := of_decide_eq_true au121
        have q545 : x5_1 < (l0.length : Int) := of_decide_eq_true au121
        obtain ⟨ad545, e545, hx545_0⟩ := Kd.at_string HR0.out x5_1 p545 q545
        cases e545
        replace p545 := eq_true p545
        replace q545 := eq_true q545
        have p546 : 0 ≤ (x5_1 : Int) := of_decide_eq_true au121
        have q546 : x5_1 < (l1.length : Int) := of_decide_eq_true au121
        obtain ⟨ad546, e546, hx546_0⟩ := Kd.at_string HR1.out x5_1 p546 q546
        cases e546
        replace p546 := eq_true p546
        replace q546 := eq_true q546
        go_wp2
        repeat (go_quiet (fail); try go_wp2)
        go_ret
        exact ax0
      ·
       rw [if_neg c6] at H
       exact absurd H (by simp)
     ·
      rw [if_neg c5] at H
      exact absurd H (by simp)
    ·
     rw [if_neg c4] at H
     have c4b0 : decide (x5_1 < (l0.length : Int)) = false := decide_eq_false c4
     clear c4
     obtain rfl := Option.some.inj H
     go_wp2
     repeat (go_quiet (fail); try go_wp2)
     go_ret
     exact ax0
 ·
  rw [if_neg c3] at H
  have c3b0 : ((l0.length : Int) == (l1.length : Int)) = false := beq_eq_false_iff_ne.mpr c3
  have c3b1 : ((l0.length : Int) != (l1.length : Int)) = true := bne_iff_ne.mpr c3
  have c3b2 : (l0.length == l1.length) = false := by first | simpa using c3 | (simp at c3 ⊢; omega)
  obtain rfl := Option.some.inj H
  go_enter Tryd.func68, Tryd.ntmps68
  go_wp2
  repeat (go_quiet (fail); try go_wp2)
  go_ret
  exact ax0


/-! ### laws_eqName: function 41 -/
def laws_eqName.f (k : Nat) (l0_0 : List ByteArray) (a0_1 : ByteArray) (a0_2 : ByteArray) (a0_3 : ByteArray) (l1_0 : List ByteArray) (a1_1 : ByteArray) (a1_2 : ByteArray) (a1_3 : ByteArray) : Option (Bool) := (laws_eqStringS.f k l0_0 l1_0).bind fun t549 => (if t549 = true then (if a0_1.toList = a1_1.toList then (if a0_2.toList = a1_2.toList then (if a0_3.toList = a1_3.toList then (some true) else (some false)) else (some false)) else (some false)) else (some false))
theorem laws_eqName.mono : ∀ a0 a1 a2 a3 a4 a5 a6 a7 k, LeO (laws_eqName.f k a0 a1 a2 a3 a4 a5 a6 a7) (laws_eqName.f (k + 1) a0 a1 a2 a3 a4 a5 a6 a7) := by
 intro a0 a1 a2 a3 a4 a5 a6 a7 k
 unfold laws_eqName.f
 repeat' first
   | (with_reducible exact laws_eqStringS.mono _ _ _)
   | (with_reducible exact LeO.refl _)
   | (with_reducible exact LeO.none _)
   | (with_reducible refine LeO.ite ?_ ?_)
   | (with_reducible refine LeO.bind ?_ (fun _ => ?_))
   | exact laws_eqStringS.mono _ _ _
   | exact LeO.none _
   | refine LeO.ite ?_ ?_
   | refine LeO.bind ?_ (fun _ => ?_)
set_option maxRecDepth 100000 in
theorem laws_eqName.L0 {P : Prop} (h : P := by
  go_enter Tryd.func41, Tryd.ntmps41
  go_wp2_with (first | ((with_reducible refine gate_dst (N := 2) rfl ?_); refine box_event ?hg (N := 2) ?hd (cs := #[.slice A0_0 l0_0.length c0_0, .string a0_1, .string a0_2, .string a0_3]) (t := 26) ?hr ?_; (case hd => rfl); (case hg => rfl); (case hr => first | (go_simp; done) | (go_simp; rfl)); intro gb547 hg w13 hbox hb; have BK547 := Aside0.mk (hbox); have GW547 := Aside0.mk (bsz hg au57); have GE547 := Aside0.mk (bsz hg au57); replace HB := Aside0.mk (below_step au57 hb); clear hb hbox hg) | ((with_reducible refine gate_dst (N := 3) rfl ?_); refine box_event ?hg (N := 3) ?hd (cs := #[.slice A1_0 l1_0.length c1_0, .string a1_1, .string a1_2, .string a1_3]) (t := 26) ?hr ?_; (case hd => rfl); (case hg => rfl); (case hr => first | (go_simp; done) | (go_simp; rfl)); intro gb548 hg w14 hbox hb; have BK548 := Aside0.mk (hbox); have GW548 := Aside0.mk (bsz hg au51); have GE548 := Aside0.mk (bsz hg au51); replace HB := Aside0.mk (below_step au51 hb); have NB547_548 := Aside0.mk (bne (g := gb547) hg au98); have NB548_547 := Aside0.mk (ben (g := gb547) hg au98); replace BK547 := Aside0.mk (blk_below (g := gb547) au98 hb); clear hb hbox hg; have hnb15 := NB547_548.out; have hnc15 := NB548_547.out; obtain ⟨hcz16_0, hcz16_1, hcz16_2, hcz16_3, hfz16_0, hfz16_1, hfz16_2, hfz16_3⟩ := blkc4 BK547.out; obtain ⟨hcz17_0, hcz17_1, hcz17_2, hcz17_3, hfz17_0, hfz17_1, hfz17_2, hfz17_3⟩ := blkc4 BK548.out) | ((with_reducible refine gate_callee (f := 68) rfl ?_); refine goesL_ (some 9) rfl rfl Tryd.func68 (by kernel_rfl) rfl #[.slice A0_0 l0_0.length c0_0, .slice A1_0 l1_0.length c1_0] rfl au54 ?_; (with_reducible refine (laws_eqStringS.calls k _ _ l0_0 _ _ l1_0 _ _ ?side1 ?side2 ?side3 ?side4 A3.out).mono ?_); (case side1 => repeat (first | exact (Kd.C_below HR0_0.out HB.out) | (with_reducible refine Kd.C_alloc ?_ _) | (with_reducible refine Kd.C_drewN ?_ _) | (with_reducible refine Kd.C_drew ?_))); (case side2 => exact HC0_0.out); (case side3 => repeat (first | exact (Kd.C_below HR1_0.out HB.out) | (with_reducible refine Kd.C_alloc ?_ _) | (with_reducible refine Kd.C_drewN ?_ _) | (with_reducible refine Kd.C_drew ?_))); (case side4 => exact HC1_0.out); rintro e w' ⟨rfl, ⟨nd, rfl⟩⟩; refine ⟨_, rfl, ?_⟩))
  go_ret
  exact ⟨by first | rfl | (simp [errW_none, errW_some] <;> rfl) | (simp [*, errW_none, errW_some] <;> rfl), by repeat (first | (with_reducible first | exact HB.out | apply below_alloc | apply pw_below_drewN | apply below_drew1 | refine below_set ?_ GE547.out | refine below_set ?_ GE548.out) | exact HB.out)⟩) : P := h
set_option maxHeartbeats 8000000 in
set_option maxRecDepth 100000 in
theorem laws_eqName.calls (k : Nat) (A0_0 : Option Addr) (c0_0 : Nat) (l0_0 : List ByteArray) (a0_1 : ByteArray) (a0_2 : ByteArray) (a0_3 : ByteArray) (A1_0 : Option Addr) (c1_0 : Nat) (l1_0 : List ByteArray) (a1_1 : ByteArray) (a1_2 : ByteArray) (a1_3 : ByteArray) (r : Bool) (w : World) (hr0_0 : Kd.C Kd.string w A0_0 l0_0.length l0_0) (hc0_0 : l0_0.length ≤ c0_0) (hr1_0 : Kd.C Kd.string w A1_0 l1_0.length l1_0) (hc1_0 : l1_0.length ≤ c1_0) (h : laws_eqName.f k l0_0 a0_1 a0_2 a0_3 l1_0 a1_1 a1_2 a1_3 = some r) :
  Calls Tryd.prog 41 #[.agg #[.slice A0_0 l0_0.length c0_0, .string a0_1, .string a0_2, .string a0_3], .agg #[.slice A1_0 l1_0.length c1_0, .string a1_1, .string a1_2, .string a1_3]] w fun e w' => e = .returned (.bool r) ∧ Below w.heap.size w w' := by
 have hu26 := Tryd.underlying26
 have HR0_0 := Aside0.mk hr0_0
 have HC0_0 := Aside0.mk hc0_0
 clear hr0_0 hc0_0
 have HR1_0 := Aside0.mk hr1_0
 have HC1_0 := Aside0.mk hc1_0
 clear hr1_0 hc1_0
 have HB := Aside0.mk (Below.refl w.heap.size w)
 have H : ((laws_eqStringS.f k l0_0 l1_0).bind fun t549 => (if t549 = true then (if a0_1.toList = a1_1.toList then (if a0_2.toList = a1_2.toList then (if a0_3.toList = a1_3.toList then (some true) else (some false)) else (some false)) else (some false)) else (some false))) = some r := h
 clear h
 replace H := Option.bind_eq_some_iff.mp H
 obtain ⟨t549, A30, H⟩ := H
 try dsimp only at H
 have A3 := Aside0.mk A30
 clear A30
 by_cases c4 : t549 = true
 ·
  subst c4
  replace H := (if_pos rfl).symm.trans H
  by_cases c5 : a0_1.toList = a1_1.toList
  ·
   rw [if_pos c5] at H
   have c5b0 : (a0_1.toList == a1_1.toList) = true := beq_iff_eq.mpr c5
   have c5b1 : (a0_1.toList != a1_1.toList) = false := bne_eq_false_iff_eq.mpr c5
   clear c5
   by_cases c6 : a0_2.toList = a1_2.toList
   ·
    rw [if_pos c6] at H
    have c6b0 : (a0_2.toList == a1_2.toList) = true := beq_iff_eq.mpr c6
    have c6b1 : (a0_2.toList != a1_2.toList) = false := bne_eq_false_iff_eq.mpr c6
    clear c6
    by_cases c7 : a0_3.toList = a1_3.toList
    ·
     rw [if_pos c7] at H
     have c7b0 : (a0_3.toList == a1_3.toList) = true := beq_iff_eq.mpr c7
     have c7b1 : (a0_3.toList != a1_3.toList) = false := bne_eq_false_iff_eq.mpr c7
     clear c7
     obtain rfl := Option.some.inj H
     exact laws_eqName.L0
    ·
     rw [if_neg c7] at H
     have c7b0 : (a0_3.toList == a1_3.toList) = false := beq_eq_false_iff_ne.mpr c7
     have c7b1 : (a0_3.toList != a1_3.toList) = true := bne_iff_ne.mpr c7
     obtain rfl := Option.some.inj H
     exact laws_eqName.L0
   ·
    rw [if_neg c6] at H
    have c6b0 : (a0_2.toList == a1_2.toList) = false := beq_eq_false_iff_ne.mpr c6
    have c6b1 : (a0_2.toList != a1_2.toList) = true := bne_iff_ne.mpr c6
    obtain rfl := Option.some.inj H
    exact laws_eqName.L0
  ·
   rw [if_neg c5] at H
   have c5b0 : (a0_1.toList == a1_1.toList) = false := beq_eq_false_iff_ne.mpr c5
   have c5b1 : (a0_1.toList != a1_1.toList) = true := bne_iff_ne.mpr c5
   obtain rfl := Option.some.inj H
   exact laws_eqName.L0
 ·
  replace c4 := Bool.eq_false_iff.mpr c4
  subst c4
  replace H := (if_neg (show ¬ (false = true) by decide)).symm.trans H
  obtain rfl := Option.some.inj H
  exact laws_eqName.L0

end Go.Proofs.YtgingnbfihaopaaDoor.G

namespace Go.Proofs.YtgingnbfihaopaaDoor.G
open Go.RowKit Go.Proofs.YtgingnbfihaopaaDoorW.PrintWords Go.Proofs.YtgingnbfihaopaaDoorW.PrintLast Go.Proofs.YtgingnbfihaopaaDoor.B
set_option linter.unusedVariables false
set_option linter.unusedSimpArgs false
def sufD (S : ByteArray) : Bool := decide (S.size = 0) || wordD S
def restD (P F S : ByteArray) : Bool := partD P && (greatD F && sufD S)
def goodN (G : List ByteArray) (P F S : ByteArray) : Bool := G.all greatD && (decide (G.length ≤ 3) && restD P F S)
theorem spec_tail (P F S : ByteArray) (hP : P.size ≤ 4294967280) : Ev (fun k => (spec_l2Particle.f k P).bind fun t134 => (if t134 = true then ((spec_l2Word.f k F).bind fun t135 => (if t135 = true then (if 0 < (F.size : Int) then ((spec_l2Upper.f (bt F 0)).bind fun t136 => (if t136 = true then (if S.toList = ([] : List UInt8) then (some true) else ((spec_l2Word.f k S).bind fun t137 => (some t137))) else (some false))) else (none)) else (some false))) else (some false))) (restD P F S) := by
  unfold restD
  refine Ev.bind (spec_part P hP) ?_
  cases partD P with
  | false => exact ev_neg (by simp) (Ev.now _)
  | true =>
    refine ev_pos rfl (Ev.bind (spec_word F) ?_)
    unfold greatD
    cases h : wordD F with
    | false => exact ev_neg (by simp) (Ev.now _)
    | true =>
      have := word_in h
      refine ev_pos rfl (ev_pos (by omega) (ev_bind0 (spec_up _) ?_))
      cases upD (bt F 0) with
      | false => exact ev_neg (by simp) (Ev.now _)
      | true =>
        refine ev_pos rfl ?_
        unfold sufD
        by_cases h : S.size = 0
        · exact ev_pos ((nil_iff S).2 h) (ev_eq (Ev.now _) (by simp [h]))
        · exact ev_neg (fun e => h ((nil_iff S).1 e)) (Ev.bind (spec_word S) (ev_eq (Ev.now _) (by simp [h])))
theorem spec_good_loop (G : List ByteArray) (P F S : ByteArray) (hG : G.length ≤ 4611686018427387904) (hP : P.size ≤ 4294967280) (d : Nat) : ∀ i : Nat, i ≤ G.length → G.length - i = d →
    Ev (fun k => spec_l2Good.l0 k (i : Int) G P F S) ((G.drop i).all greatD && (decide (G.length ≤ 3) && restD P F S)) := by
  induction d with
  | zero =>
    intro i h1 hd
    refine Ev.step (f := fun k => if (G.length : Int) ≤ 3 then ((spec_l2Particle.f k P).bind fun t134 => (if t134 = true then ((spec_l2Word.f k F).bind fun t135 => (if t135 = true then (if 0 < (F.size : Int) then ((spec_l2Upper.f (bt F 0)).bind fun t136 => (if t136 = true then (if S.toList = ([] : List UInt8) then (some true) else ((spec_l2Word.f k S).bind fun t137 => (some t137))) else (some false))) else (none)) else (some false))) else (some false))) else some false) (fun k => ?_) ?_
    · simp only [spec_l2Good.l0]; rw [if_neg (by omega)]
    · rw [List.drop_of_length_le (by omega)]
      by_cases h : G.length ≤ 3
      · exact ev_pos (by omega) (ev_eq (spec_tail P F S hP) (by simp [h]))
      · exact ev_neg (by omega) (ev_eq (Ev.now _) (by simp [h]))
  | succ d ih =>
    intro i h1 hd
    have hi : i < G.length := by omega
    have hw : wrap64 ((i : Int) + 1) = ((i + 1 : Nat) : Int) := by rw [w64 (by omega) (by omega)]; rfl
    rw [List.drop_eq_getElem_cons hi, List.all_cons, Bool.and_assoc]
    refine Ev.step (f := fun k => (spec_l2Word.f k G[i]).bind fun t131 => (if t131 = true then (if 0 < ((G[i]).size : Int) then ((spec_l2Upper.f (bt G[i] 0)).bind fun t133 => (if t133 = true then (spec_l2Good.l0 k ((i + 1 : Nat) : Int) G P F S) else (some false))) else (none)) else (some false))) (fun k => ?_) ?_
    · simp only [spec_l2Good.l0, rd_get G i hi]
      rw [if_pos (by omega), if_pos (by omega), hw]
    · refine Ev.bind (spec_word _) ?_
      rw [show greatD G[i] = (wordD G[i] && upD (bt G[i] 0)) from rfl]
      cases h : wordD G[i] with
      | false => exact ev_neg (by simp) (ev_eq (Ev.now _) (by simp))
      | true =>
        have := word_in h
        refine ev_pos rfl (ev_pos (by omega) (ev_bind0 (spec_up _) ?_))
        cases upD (bt G[i] 0) with
        | false => exact ev_neg (by simp) (ev_eq (Ev.now _) (by simp))
        | true => exact ev_pos rfl (ev_eq (ih (i + 1) (by omega) (by omega)) (by simp))
theorem spec_name (G : List ByteArray) (P F S : ByteArray) (hG : G.length ≤ 4611686018427387904) (hP : P.size ≤ 4294967280) : Ev (fun k => spec_l2Good.f k G P F S) (goodN G P F S) := by
  have := spec_good_loop G P F S hG hP _ 0 (by omega) rfl
  unfold spec_l2Good.f goodN
  rw [List.drop_zero] at this
  exact this
theorem idx_loop (G : List ByteArray) (hG : G.length ≤ 4611686018427387904) (d : Nat) : ∀ i : Nat, i ≤ G.length → G.length - i = d →
    ∃ v, Ev (fun k => slices_IndexFunc_string_string_at_27.l0 k G (G.length : Int) (i : Int)) v ∧ decide (v ≥ 0) = !((G.drop i).all greatD) := by
  induction d with
  | zero =>
    intro i h1 hd
    refine ⟨-1, Ev.step (f := fun _ => some (-1)) (fun k => ?_) (Ev.now _), ?_⟩
    · simp only [slices_IndexFunc_string_string_at_27.l0]; rw [if_neg (by omega)]
    · rw [List.drop_of_length_le (by omega)]; simp
  | succ d ih =>
    intro i h1 hd
    have hi : i < G.length := by omega
    have hw : wrap64 ((i : Int) + 1) = ((i + 1 : Nat) : Int) := by rw [w64 (by omega) (by omega)]; rfl
    rw [List.drop_eq_getElem_cons hi, List.all_cons]
    have hst : ∀ v, Ev (fun k => (impl_IsValidName_1.f k G[i]).bind fun t => if t = true then some (i : Int) else slices_IndexFunc_string_string_at_27.l0 k G (G.length : Int) ((i + 1 : Nat) : Int)) v → Ev (fun k => slices_IndexFunc_string_string_at_27.l0 k G (G.length : Int) (i : Int)) v := by
      intro v hv
      refine Ev.step (fun k => ?_) hv
      simp only [slices_IndexFunc_string_string_at_27.l0, rd_get G i hi]
      rw [if_pos (by omega), if_pos (by omega), if_pos (by omega), hw]
    have hf : Ev (fun k => impl_IsValidName_1.f k G[i]) (!greatD G[i]) := by
      unfold impl_IsValidName_1.f
      exact Ev.bind (impl_great _) (Ev.now _)
    cases h : greatD G[i] with
    | true =>
      obtain ⟨v, hv, e⟩ := ih (i + 1) (by omega) (by omega)
      refine ⟨v, hst v (Ev.bind hf (ev_neg (by simp [h]) hv)), ?_⟩
      rw [e]; simp
    | false =>
      refine ⟨(i : Int), hst _ (Ev.bind hf (ev_pos (by simp [h]) (Ev.now _))), ?_⟩
      simp
theorem contains_ev (G : List ByteArray) (hG : G.length ≤ 4611686018427387904) : Ev (fun k => slices_ContainsFunc_string_string_at_27.f k G) (!(G.all greatD)) := by
  obtain ⟨v, hv, e⟩ := idx_loop G hG _ 0 (by omega) rfl
  unfold slices_ContainsFunc_string_string_at_27.f slices_IndexFunc_string_string_at_27.f
  rw [List.drop_zero] at e
  exact Ev.bind hv (ev_eq (Ev.now _) e)
theorem impl_valid (G : List ByteArray) (P F S : ByteArray) (hG : G.length ≤ 4611686018427387904) (hP : P.size ≤ 4294967280) : Ev (fun k => impl_IsValidName.f k G P F S) (goodN G P F S) := by
  have hj1 : Ev (fun k => impl_IsValidName.j0 k true G P F S) false := Ev.step (f := fun _ => some false) (fun k => by simp [impl_IsValidName.j0]) (Ev.now _)
  have hj0 : Ev (fun k => impl_IsValidName.j0 k false G P F S) (restD P F S) := by
    refine Ev.step (f := fun k => (impl_isParticle.f k P).bind fun t172 => (if t172 = true then ((impl_isGreatWord.f k F).bind fun t173 => (if t173 = true then (if S.toList = ([] : List UInt8) then (some true) else ((impl_isNameWord.f k S).bind fun t174 => (some t174))) else (some false))) else (some false))) (fun k => by simp [impl_IsValidName.j0]) ?_
    unfold restD
    refine Ev.bind (impl_part P hP) ?_
    cases partD P with
    | false => exact ev_neg (by simp) (Ev.now _)
    | true =>
      refine ev_pos rfl (Ev.bind (impl_great F) ?_)
      cases greatD F with
      | false => exact ev_neg (by simp) (Ev.now _)
      | true =>
        refine ev_pos rfl ?_
        unfold sufD
        by_cases h : S.size = 0
        · exact ev_pos ((nil_iff S).2 h) (ev_eq (Ev.now _) (by simp [h]))
        · exact ev_neg (fun e => h ((nil_iff S).1 e)) (Ev.bind (impl_word S) (ev_eq (Ev.now _) (by simp [h])))
  unfold impl_IsValidName.f goodN
  by_cases h : G.length ≤ 3
  · refine ev_neg (by omega) (Ev.bind (contains_ev G hG) ?_)
    cases G.all greatD with
    | true => exact ev_eq hj0 (by simp [h])
    | false => exact ev_eq hj1 (by simp)
  · exact ev_pos (by omega) (ev_eq hj1 (by simp [h]))
def bulkN (G : List ByteArray) (P F S : ByteArray) : Nat := bulkS G + P.size + F.size + S.size
end Go.Proofs.YtgingnbfihaopaaDoor.G

namespace Go.Proofs.YtgingnbfihaopaaDoor.G
open Go.RowKit Go.Proofs.YtgingnbfihaopaaDoorW.PrintWords Go.Proofs.YtgingnbfihaopaaDoorW.PrintLast Go.Proofs.YtgingnbfihaopaaDoor.B Go.Proofs.YtgingnbfihaopaaDoor.Opn
set_option linter.unusedVariables false
set_option linter.unusedSimpArgs false
theorem of_sz {l : List Int} (h : BtL l) (a s : Int) (ts : List ByteArray) (n : Nat) (h0 : 0 ≤ a) (h1 : a ≤ 2305843009213693000) (hn : 1 ≤ ts.length) (hs : ts.all (fun t => decide (t.size ≤ n)) = true) : ∃ x a' s', spec_l1Cur_of.f l a s ts = some (x, a', s') ∧ x.size ≤ n ∧ a ≤ a' ∧ a' ≤ a + 2 := by
  obtain ⟨x, a', s', e, hx, b, b'⟩ := of_ex h a s ts h0 h1 hn
  exact ⟨x, a', s', e, of_decide_eq_true (List.all_eq_true.1 hs x hx), b, b'⟩
theorem one_ex {l : List Int} (h : BtL l) (a s n : Int) (h0 : 0 ≤ a) (h1 : a ≤ 2305843009213693000) (hn : 1 ≤ n) : ∃ x a' s', spec_l1Cur_one.f l a s n = some (x, a', s') ∧ a ≤ a' ∧ a' ≤ a + 2 := by
  unfold spec_l1Cur_one.f
  obtain ⟨x, a', s', e, b0, b1, b2, b3⟩ := pick_ex h a s n h0 h1 hn
  rw [e]
  exact ⟨_, _, _, rfl, b2, b3⟩
theorem bulk_app (l : List ByteArray) (x : ByteArray) : bulkS (l ++ [x]) = bulkS l + x.size + 1 := by
  unfold bulkS bytesS
  simp
  omega
theorem name_j1 {c : List Int} (h : BtL c) (a s : Int) (G : List ByteArray) (P F S : ByteArray) (h0 : 0 ≤ a) (h1 : a ≤ 2305843009213692000) :
    ∃ S' a' s', Ev (fun k => spec_l1Cur_name.j1 k c a s G P F S) (G, P, F, S', a', s') ∧ S'.size ≤ S.size + 3 ∧ a ≤ a' ∧ a' ≤ a + 4 := by
  obtain ⟨b, a1, s1, e1, b1, c1⟩ := one_ex h a s 5 h0 (by omega) (by omega)
  cases b with
  | true =>
    obtain ⟨x, a2, s2, e2, hx, b2, c2⟩ := of_sz h a1 s1 [(⟨#[74, 114]⟩ : ByteArray), (⟨#[73, 73, 73]⟩ : ByteArray), (⟨#[106, 114]⟩ : ByteArray)] 3 (by omega) (by omega) (by decide) (by decide)
    refine ⟨x, a2, s2, Ev.step (f := fun _ => some (G, P, F, x, a2, s2)) (fun k => ?_) (Ev.now _), by omega, by omega, by omega⟩
    simp only [spec_l1Cur_name.j1]
    rw [e1]
    simp only [Option.bind_some]
    rw [if_pos trivial, e2]
    rfl
  | false =>
    refine ⟨S, a1, s1, Ev.step (f := fun _ => some (G, P, F, S, a1, s1)) (fun k => ?_) (Ev.now _), by omega, by omega, by omega⟩
    simp only [spec_l1Cur_name.j1]
    rw [e1]
    simp only [Option.bind_some]
    rw [if_neg (by simp)]
theorem name_l0 {c : List Int} (h : BtL c) (P F S : ByteArray) (d : Nat) : ∀ (a s : Int) (G : List ByteArray), 0 ≤ a → a + 2 * d ≤ 2305843009213690000 → bulkS G + 10 * d ≤ 1000 →
    ∃ G' P' S' a' s', Ev (fun k => spec_l1Cur_name.l0 k (d : Int) c a s G P F S) (G', P', F, S', a', s') ∧ bulkS G' ≤ bulkS G + 10 * d ∧ P'.size ≤ P.size + 7 ∧ S'.size ≤ S.size + 3 ∧ a ≤ a' ∧ a' ≤ a + 2 * d + 8 := by
  induction d with
  | zero =>
    intro a s G h0 h1 hb
    obtain ⟨b, a1, s1, e1, b1, c1⟩ := one_ex h a s 3 h0 (by omega) (by omega)
    cases b with
    | true =>
      obtain ⟨x, a2, s2, e2, hx, b2, c2⟩ := of_sz h a1 s1 [(⟨#[118, 97, 110]⟩ : ByteArray), (⟨#[100, 101]⟩ : ByteArray), (⟨#[118, 97, 110, 32, 100, 101, 114]⟩ : ByteArray)] 7 (by omega) (by omega) (by decide) (by decide)
      obtain ⟨S', a3, s3, hE, hS, b3, c3⟩ := name_j1 h a2 s2 G x F S (by omega) (by omega)
      refine ⟨G, x, S', a3, s3, Ev.step (f := fun k => spec_l1Cur_name.j1 k c a2 s2 G x F S) (fun k => ?_) hE, by omega, by omega, hS, by omega, by omega⟩
      simp only [spec_l1Cur_name.l0]
      rw [if_neg (by omega), e1]
      simp only [Option.bind_some]
      rw [if_pos trivial, e2]
      rfl
    | false =>
      obtain ⟨S', a3, s3, hE, hS, b3, c3⟩ := name_j1 h a1 s1 G P F S (by omega) (by omega)
      refine ⟨G, P, S', a3, s3, Ev.step (f := fun k => spec_l1Cur_name.j1 k c a1 s1 G P F S) (fun k => ?_) hE, by omega, by omega, hS, by omega, by omega⟩
      simp only [spec_l1Cur_name.l0]
      rw [if_neg (by omega), e1]
      simp only [Option.bind_some]
      rw [if_neg (by simp)]
  | succ d ih =>
    intro a s G h0 h1 hb
    obtain ⟨x, a1, s1, e1, hx, b1, c1⟩ := of_sz h a s [(⟨#[65, 110, 110, 97]⟩ : ByteArray), (⟨#[65]⟩ : ByteArray), (⟨#[74, 101, 97, 110, 45, 80, 97, 117, 108]⟩ : ByteArray), (⟨#[77, 97, 114, 105, 97]⟩ : ByteArray), (⟨#[66]⟩ : ByteArray), (⟨#[66, 101, 110]⟩ : ByteArray), (⟨#[74, 101, 97, 110, 45, 112, 97, 117, 108]⟩ : ByteArray)] 9 h0 (by omega) (by decide) (by decide)
    have hl : G.length ≤ bulkS G := by unfold bulkS; omega
    have hA := bulk_app G x
    obtain ⟨G', P', S', a', s', hE, hG, hP, hS, b2, c2⟩ := ih a1 s1 (G ++ [x]) (by omega) (by omega) (by omega)
    refine ⟨G', P', S', a', s', Ev.step (f := fun k => spec_l1Cur_name.l0 k (d : Int) c a1 s1 (G ++ [x]) P F S) (fun k => ?_) hE, by omega, hP, hS, by omega, by omega⟩
    simp only [spec_l1Cur_name.l0]
    rw [if_pos (by omega), e1]
    simp only [Option.bind_some]
    rw [if_pos (by omega), show wrap64 (((d + 1 : Nat) : Int) - 1) = (d : Int) from by rw [w64 (by omega) (by omega)]; omega]
theorem name_ex {c : List Int} (h : BtL c) (a s : Int) (h0 : 0 ≤ a) (h1 : a ≤ 2305843009213680000) :
    ∃ G P F S a' s', Ev (fun k => spec_l1Cur_name.f k c a s) (G, P, F, S, a', s') ∧ bulkN G P F S ≤ 100 ∧ a ≤ a' ∧ a' ≤ a + 20 := by
  unfold spec_l1Cur_name.f
  obtain ⟨x, a1, s1, e1, hx, b1, c1⟩ := of_sz h a s ([(⟨#[66, 101, 114, 103]⟩ : ByteArray), (⟨#[83, 109, 105, 116, 104]⟩ : ByteArray), (⟨#[79, 39, 78, 101, 105, 108, 108]⟩ : ByteArray), (⟨#[76, 101, 101]⟩ : ByteArray), (⟨#[66, 101, 114, 103, 45, 72, 97, 108, 108]⟩ : ByteArray), (⟨#[115, 109, 105, 116, 104, 115, 111, 110]⟩ : ByteArray)].take 5) 9 h0 (by omega) (by decide) (by decide)
  obtain ⟨n, a2, s2, e2, n0, n1, b2, c2⟩ := pick_ex h a1 s1 3 (by omega) (by omega) (by omega)
  have hd : ((n.toNat : Nat) : Int) = n := by omega
  obtain ⟨G', P', S', a', s', hE, hG, hP, hS, b3, c3⟩ := name_l0 h (⟨#[]⟩ : ByteArray) x (⟨#[]⟩ : ByteArray) n.toNat a2 s2 [] (by omega) (by omega) (by simp [bulkS, bytesS]; omega)
  rw [hd] at hE
  refine ⟨G', P', x, S', a', s', ev_bind0 rfl (ev_pos (by decide) (ev_bind0 e1 (ev_bind0 e2 hE))), ?_, by omega, by omega⟩
  have hz : bulkS ([] : List ByteArray) = 0 := by simp [bulkS, bytesS]
  have he : (⟨#[]⟩ : ByteArray).size = 0 := rfl
  unfold bulkN
  omega
theorem any_ex {c : List Int} (h : BtL c) (a s : Int) (h0 : 0 ≤ a) (h1 : a ≤ 2305843009213670000) :
    ∃ G P F S a' s', Ev (fun k => spec_l1Cur_anyName.f k c a s) (G, P, F, S, a', s') ∧ bulkN G P F S ≤ 200 ∧ a ≤ a' ∧ a' ≤ a + 30 := by
  unfold spec_l1Cur_anyName.f
  obtain ⟨G, P, F, S, a1, s1, hE, hB, b1, c1⟩ := name_ex h a s h0 (by omega)
  obtain ⟨n, a2, s2, e2, n0, n1, b2, c2⟩ := pick_ex h a1 s1 16 (by omega) (by omega) (by omega)
  by_cases z0 : n = 0
  · obtain ⟨x, a3, s3, e3, hx, b3, c3⟩ := of_sz h a2 s2 [(⟨#[]⟩ : ByteArray), (⟨#[98, 101, 114, 103]⟩ : ByteArray), (⟨#[66, 45]⟩ : ByteArray), (⟨#[66, 45, 45, 99]⟩ : ByteArray), (⟨#[65, 98, 99, 100, 101, 102, 103, 104, 105, 106, 107, 108]⟩ : ByteArray), (⟨#[65, 98, 99, 100, 101, 102, 103, 104, 105, 106, 107, 108, 109]⟩ : ByteArray), (⟨#[66, 57]⟩ : ByteArray)] 13 (by omega) (by omega) (by decide) (by decide)
    exact ⟨G, P, x, S, a3, s3, Ev.bind hE (ev_bind0 e2 (ev_pos z0 (ev_bind0 e3 (Ev.now _)))), by unfold bulkN at hB ⊢; omega, by omega, by omega⟩
  by_cases z1 : n = 1
  · obtain ⟨x, a3, s3, e3, hx, b3, c3⟩ := of_sz h a2 s2 [(⟨#[86, 97, 110]⟩ : ByteArray), (⟨#[118, 97, 110, 32, 100, 101, 114, 32, 100, 101]⟩ : ByteArray), (⟨#[118, 97, 110, 32]⟩ : ByteArray), (⟨#[100, 39]⟩ : ByteArray), (⟨#[100, 39, 97]⟩ : ByteArray), (⟨#[118, 97, 110, 32, 32, 100, 101, 114]⟩ : ByteArray)] 10 (by omega) (by omega) (by decide) (by decide)
    exact ⟨G, x, F, S, a3, s3, Ev.bind hE (ev_bind0 e2 (ev_neg z0 (ev_pos z1 (ev_bind0 e3 (Ev.now _))))), by unfold bulkN at hB ⊢; omega, by omega, by omega⟩
  by_cases z2 : n = 2
  · obtain ⟨x, a3, s3, e3, hx, b3, c3⟩ := of_sz h a2 s2 [(⟨#[45]⟩ : ByteArray), (⟨#[74, 32, 114]⟩ : ByteArray), (⟨#[120]⟩ : ByteArray)] 3 (by omega) (by omega) (by decide) (by decide)
    exact ⟨G, P, F, x, a3, s3, Ev.bind hE (ev_bind0 e2 (ev_neg z0 (ev_neg z1 (ev_pos z2 (ev_bind0 e3 (Ev.now _)))))), by unfold bulkN at hB ⊢; omega, by omega, by omega⟩
  by_cases z3 : n = 3
  · obtain ⟨x, a3, s3, e3, hx, b3, c3⟩ := of_sz h a2 s2 [(⟨#[97, 110, 110, 97]⟩ : ByteArray), (⟨#[]⟩ : ByteArray), (⟨#[67]⟩ : ByteArray), (⟨#[68, 32, 101]⟩ : ByteArray)] 4 (by omega) (by omega) (by decide) (by decide)
    have hl : G.length ≤ 100 := by unfold bulkN bulkS at hB; omega
    have he : bulkS (G ++ [x, (⟨#[69, 118, 101]⟩ : ByteArray)]) = bulkS G + x.size + 1 + 3 + 1 := by
      rw [show G ++ [x, (⟨#[69, 118, 101]⟩ : ByteArray)] = (G ++ [x]) ++ [(⟨#[69, 118, 101]⟩ : ByteArray)] by simp, bulk_app, bulk_app]
      rfl
    exact ⟨G ++ [x, (⟨#[69, 118, 101]⟩ : ByteArray)], P, F, S, a3, s3, Ev.bind hE (ev_bind0 e2 (ev_neg z0 (ev_neg z1 (ev_neg z2 (ev_pos z3 (ev_bind0 e3 (ev_bind0 rfl (ev_pos (by show G.length + 2 < _; omega) (Ev.now _))))))))), by unfold bulkN at hB ⊢; omega, by omega, by omega⟩
  exact ⟨G, P, F, S, a2, s2, Ev.bind hE (ev_bind0 e2 (ev_neg z0 (ev_neg z1 (ev_neg z2 (ev_neg z3 (Ev.now _)))))), by omega, by omega, by omega⟩
theorem spoilt_ex {l : List Int} (h : BtL l) (a s : Int) (t u : ByteArray) (h0 : 0 ≤ a) (h1 : a ≤ 2305843009213690000) (ht : t.size ≤ 1000000) (hu : 1 ≤ u.size) (hu1 : u.size ≤ 1000) :
    ∃ x a' s', spec_l1Cur_spoilt.f l a s t u = some (x, a', s') ∧ x.size ≤ t.size + 1 ∧ a ≤ a' ∧ a' ≤ a + 6 := by
  unfold spec_l1Cur_spoilt.f
  by_cases z : t.toList = ([] : List UInt8)
  · rw [if_pos z, if_pos (by omega), if_pos (by omega)]
    exact ⟨_, _, _, rfl, by rw [ByteArray.size_extract]; omega, by omega, by omega⟩
  · have hz : 1 ≤ t.size := by
      rcases Nat.eq_zero_or_pos t.size with e | e
      · exact absurd (by rw [toList_L]; exact (size_pos_iff t).1 e) z
      · exact e
    rw [if_neg z]
    obtain ⟨i, a1, s1, e1, i0, i1, b1, c1⟩ := pick_ex h a s (t.size : Int) h0 (by omega) (by omega)
    obtain ⟨j, a2, s2, e2, j0, j1, b2, c2⟩ := pick_ex h a1 s1 (u.size : Int) (by omega) (by omega) (by omega)
    obtain ⟨n, a3, s3, e3, n0, n1, b3, c3⟩ := pick_ex h a2 s2 3 (by omega) (by omega) (by omega)
    have hj : 1 ≤ (u.extract j.toNat u.size).size := by rw [ByteArray.size_extract]; omega
    have hw : ((u.extract j.toNat u.size).extract 0 1).size = 1 := by rw [ByteArray.size_extract]; omega
    have k0 : (t.extract 0 i.toNat).size = i.toNat := by rw [ByteArray.size_extract]; omega
    have k1 : (t.extract i.toNat t.size).size = t.size - i.toNat := by rw [ByteArray.size_extract]; omega
    have k2 : (t.extract (i + 1).toNat t.size).size = t.size - (i + 1).toNat := by rw [ByteArray.size_extract]; omega
    have w1 : wrap64 (i + 1) = i + 1 := w64 (by omega) (by omega)
    rw [e1]
    simp only [Option.bind_some]
    rw [e2]
    simp only [Option.bind_some]
    rw [if_pos j0, if_pos (by omega), if_pos (by omega), if_pos (by omega), e3]
    simp only [Option.bind_some]
    by_cases q0 : n = 0
    · rw [if_pos q0, if_pos i0, if_pos (by omega), if_pos (by omega), if_pos (by rw [size_append]; omega)]
      exact ⟨_, _, _, rfl, by rw [size_append, size_append]; omega, by omega, by omega⟩
    · rw [if_neg q0, w1]
      by_cases q1 : n = 1
      · rw [if_pos q1, if_pos i0, if_pos (by omega), if_pos (by omega), if_pos (by omega), if_pos (by omega), if_pos (by rw [size_append]; omega)]
        exact ⟨_, _, _, rfl, by rw [size_append, size_append]; omega, by omega, by omega⟩
      · rw [if_neg q1, if_pos i0, if_pos (by omega), if_pos (by omega), if_pos (by omega), if_pos (by omega)]
        exact ⟨_, _, _, rfl, by rw [size_append]; omega, by omega, by omega⟩
end Go.Proofs.YtgingnbfihaopaaDoor.G

namespace Go.Proofs.YtgingnbfihaopaaDoor.G
open Go.RowKit Go.Proofs.YtgingnbfihaopaaDoorW.PrintWords Go.Proofs.YtgingnbfihaopaaDoorW.PrintLast Go.Proofs.YtgingnbfihaopaaDoor.B
set_option linter.unusedVariables false
set_option linter.unusedSimpArgs false
theorem good_pos {G : List ByteArray} {P F S : ByteArray} (h : goodN G P F S = true) : G.length ≤ 3 ∧ ∀ x ∈ G, 1 ≤ x.size := by
  unfold goodN at h
  simp only [Bool.and_eq_true, decide_eq_true_eq] at h
  refine ⟨h.2.1, fun x hx => ?_⟩
  have := List.all_eq_true.1 h.1 x hx
  unfold greatD at this
  rw [Bool.and_eq_true] at this
  exact (word_in this.1).1
def spB : ByteArray := ⟨#[32]⟩
def glu (s p : ByteArray) : ByteArray := (if s.size ≠ 0 ∧ p.size ≠ 0 then s ++ spB else s) ++ p
def joinD (l : List ByteArray) : ByteArray := l.foldl glu ByteArray.empty
def sumB (l : List ByteArray) : Nat := (l.map fun x => x.size + 1).sum
theorem sumB_cons (a : ByteArray) (l : List ByteArray) : sumB (a :: l) = a.size + 1 + sumB l := by simp [sumB]
theorem glu_size (s p : ByteArray) : (glu s p).size ≤ s.size + (p.size + 1) := by
  unfold glu
  rw [size_append]
  split
  · rw [size_append]; show s.size + 1 + p.size ≤ _; omega
  · omega
theorem fold_size (l : List ByteArray) : ∀ s : ByteArray, (l.foldl glu s).size ≤ s.size + sumB l := by
  induction l with
  | nil => intro s; simp [sumB]
  | cons p l ih =>
    intro s
    have := ih (glu s p)
    have h2 := glu_size s p
    rw [List.foldl_cons, sumB_cons]; omega
theorem joinD_size (l : List ByteArray) : (joinD l).size ≤ sumB l := by
  have := fold_size l ByteArray.empty
  have e : ByteArray.empty.size = 0 := rfl
  unfold joinD; omega
theorem L_nil {s : ByteArray} (h : s.size = 0) : L s = [] := (size_pos_iff s).1 h
theorem L_glu (s p : ByteArray) : L (glu s p) = if s.size ≠ 0 ∧ p.size ≠ 0 then L s ++ 32 :: L p else L s ++ L p := by
  unfold glu
  rw [L_append]
  split
  · rw [L_append, List.append_assoc]; rfl
  · rfl
theorem fold_join (l : List ByteArray) : ∀ s : ByteArray, L (l.foldl glu s) = if s.size = 0 then Lib.join ((l.filter fun x => !decide (x.size = 0)).map (·.data.toList)) [32] else L s ++ Lib.joinTail [32] ((l.filter fun x => !decide (x.size = 0)).map (·.data.toList)) := by
  induction l with
  | nil =>
    intro s
    by_cases h : s.size = 0
    · rw [if_pos h]; simp [Lib.join_nil, L_nil h]
    · rw [if_neg h]; simp [Lib.joinTail]
  | cons p l ih =>
    intro s
    rw [List.foldl_cons, ih]
    by_cases hp : p.size = 0
    · have e : glu s p = s := L_inj (by rw [L_glu, if_neg (fun h => h.2 hp), L_nil hp, List.append_nil])
      rw [e, List.filter_cons_of_neg (by simp [hp])]
    · have hg : ¬ (glu s p).size = 0 := by rw [← L_len, L_glu]; split <;> simp [L_len, hp]
      rw [if_neg hg, List.filter_cons_of_pos (by simp [hp]), List.map_cons, L_glu]
      by_cases h : s.size = 0
      · rw [if_neg (fun x => x.1 h), if_pos h, L_nil h, List.nil_append, Lib.join_cons]
      · rw [if_pos (And.intro h hp), if_neg h]
        simp [Lib.joinTail]
theorem join_filter (l : List ByteArray) : Lib.join ((l.filter fun x => !decide (x.size = 0)).map (·.data.toList)) (⟨#[32]⟩ : ByteArray).data.toList = L (joinD l) := by
  have := fold_join l ByteArray.empty
  rw [if_pos (show ByteArray.empty.size = 0 from rfl)] at this
  exact this.symm
theorem filter_all {l : List ByteArray} (h : ∀ x ∈ l, 1 ≤ x.size) : (l.filter fun x => !decide (x.size = 0)) = l := by
  rw [List.filter_eq_self]
  intro x hx
  have := h x hx
  show (!decide (x.size = 0)) = true
  rw [decide_eq_false (by omega)]; rfl
theorem libJoin_filter (l : List ByteArray) (hl : l.length ≤ 1000) (hs : sumB l ≤ 140737488355328) : strings_Join.f (l.filter fun x => !decide (x.size = 0)) (⟨#[32]⟩ : ByteArray) = some (joinD l) := by
  have h1 : (l.filter fun x => !decide (x.size = 0)).length ≤ l.length := List.length_filter_le _ _
  have h2 := joinD_size l
  unfold strings_Join.f
  rw [join_filter, if_pos ⟨by omega, by rw [L_len]; omega⟩]
theorem libJoin_all (l : List ByteArray) (hp : ∀ x ∈ l, 1 ≤ x.size) (hl : l.length ≤ 1000) (hs : sumB l ≤ 140737488355328) : strings_Join.f l (⟨#[32]⟩ : ByteArray) = some (joinD l) := by
  have := libJoin_filter l hl hs
  rwa [filter_all hp] at this
theorem spaced_eq (l : List ByteArray) (h1 : 1 ≤ l.length) (hl : l.length ≤ 1000) (hs : sumB l ≤ 140737488355328) : impl_spaced.f l = some (joinD l) := by
  unfold impl_spaced.f
  rw [if_pos ⟨h1, hl⟩]
  exact libJoin_filter l hl hs
theorem spec_join_loop (l : List ByteArray) (hl : l.length ≤ 4611686018427387904) (hs : sumB l ≤ 140737488355328) (d : Nat) : ∀ (s : ByteArray) (i : Nat), i ≤ l.length → l.length - i = d → s.size + sumB (l.drop i) ≤ 140737488355328 →
    Ev (fun k => spec_l2Join.l0 k l s (i : Int)) ((l.drop i).foldl glu s) := by
  induction d with
  | zero =>
    intro s i h1 hd hb
    refine Ev.step (f := fun _ => some s) (fun k => ?_) (ev_eq (Ev.now _) ?_)
    · simp only [spec_l2Join.l0]; rw [if_neg (by omega)]
    · rw [List.drop_of_length_le (by omega)]; rfl
  | succ d ih =>
    intro s i h1 hd hb
    have hi : i < l.length := by omega
    have hw : wrap64 ((i : Int) + 1) = ((i + 1 : Nat) : Int) := by rw [w64 (by omega) (by omega)]; rfl
    rw [List.drop_eq_getElem_cons hi] at hb ⊢
    rw [sumB_cons] at hb
    have hg := glu_size s l[i]
    rw [List.foldl_cons]
    refine Ev.step (f := fun k => spec_l2Join.l0 k l (glu s l[i]) ((i + 1 : Nat) : Int)) (fun k => ?_) (ih (glu s l[i]) (i + 1) (by omega) (by omega) (by omega))
    simp only [spec_l2Join.l0, rd_get l i hi]
    have a1 : (i : Int) < (l.length : Int) := by omega
    have a2 : (0 : Int) ≤ (i : Int) := by omega
    have a3 : s.size + l[i].size ≤ 9223372036854775807 := by omega
    have a4 : s.size + 1 ≤ 9223372036854775807 := by omega
    have a5 : (s ++ (⟨#[32]⟩ : ByteArray)).size + l[i].size ≤ 9223372036854775807 := by
      rw [size_append]; show s.size + 1 + l[i].size ≤ _; omega
    simp only [if_pos a1, if_pos a2, if_pos a3, if_pos a4, if_pos a5, hw]
    unfold glu
    by_cases hs0 : s.size = 0
    · have b : s.toList = ([] : List UInt8) := (nil_iff s).2 hs0
      simp only [b, hs0, ne_eq, not_true_eq_false, false_and, if_true, if_false]
    · have b : ¬ s.toList = ([] : List UInt8) := fun e => hs0 ((nil_iff s).1 e)
      rw [if_neg b]
      by_cases hp : l[i].size = 0
      · have b2 : (l[i]).toList = ([] : List UInt8) := (nil_iff _).2 hp
        rw [if_pos b2, if_neg (fun x : s.size ≠ 0 ∧ l[i].size ≠ 0 => x.2 hp)]
      · have b2 : ¬ (l[i]).toList = ([] : List UInt8) := fun e => hp ((nil_iff _).1 e)
        rw [if_neg b2, if_pos (show s.size ≠ 0 ∧ l[i].size ≠ 0 from ⟨hs0, hp⟩)]
        rfl
theorem spec_join (l : List ByteArray) (hl : l.length ≤ 4611686018427387904) (hs : sumB l ≤ 140737488355328) : Ev (fun k => spec_l2Join.f k l) (joinD l) := by
  have := spec_join_loop l hl hs _ ByteArray.empty 0 (by omega) rfl (by rw [List.drop_zero]; show 0 + _ ≤ _; omega)
  unfold spec_l2Join.f
  rw [List.drop_zero] at this
  exact this
theorem sumB_bulk (l : List ByteArray) : sumB l = bulkS l := by
  induction l with
  | nil => rfl
  | cons a l ih => rw [sumB_cons, ih]; unfold bulkS; rw [bytesS_cons, List.length_cons]; omega
def fullD (G : List ByteArray) (P F S : ByteArray) : ByteArray := joinD [joinD G, P, F, S]
theorem full_sum (G : List ByteArray) (P F S : ByteArray) (h : bulkN G P F S ≤ 1048576) : sumB G ≤ 1048576 ∧ sumB [joinD G, P, F, S] ≤ 1048580 := by
  have h1 := joinD_size G
  have h2 := sumB_bulk G
  unfold bulkN at h
  simp only [sumB_cons]
  refine ⟨by omega, ?_⟩
  show _ + (_ + (_ + (_ + sumB []))) ≤ _
  have : sumB [] = 0 := rfl
  omega
theorem impl_full (G : List ByteArray) (P F S : ByteArray) (hg : goodN G P F S = true) (h : bulkN G P F S ≤ 1048576) : impl_fullForm.f G P F S = some (fullD G P F S) := by
  obtain ⟨h1, h2⟩ := full_sum G P F S h
  obtain ⟨h3, h4⟩ := good_pos hg
  unfold impl_fullForm.f
  rw [libJoin_all G h4 (by omega) (by omega)]
  show (impl_spaced.f [joinD G, P, F, S]).bind _ = _
  rw [spaced_eq _ (by simp) (by simp) (by omega)]
  rfl
def cmB : ByteArray := ⟨#[44, 32]⟩
def tailI (t : ByteArray) (G : List ByteArray) (S : ByteArray) : ByteArray := if S.size = 0 then (t ++ cmB) ++ joinD G else (((t ++ cmB) ++ joinD G) ++ cmB) ++ S
def invD (G : List ByteArray) (P F S : ByteArray) : ByteArray := if G.length > 0 ∨ S.size ≠ 0 then tailI (joinD [P, F]) G S else joinD [P, F]
theorem inv_sum (G : List ByteArray) (P F S : ByteArray) (h : bulkN G P F S ≤ 1048576) : (joinD G).size ≤ 1048576 ∧ sumB [P, F] ≤ 1048580 ∧ (joinD [P, F]).size ≤ 1048580 ∧ S.size ≤ 1048576 ∧ G.length ≤ 1048576 ∧ sumB G ≤ 1048576 := by
  have h1 := joinD_size G
  have h2 := sumB_bulk G
  have h3 := joinD_size [P, F]
  have h4 : sumB [P, F] = P.size + 1 + (F.size + 1 + 0) := rfl
  unfold bulkN at h
  unfold bulkS at h h2
  omega
theorem cm_size (t : ByteArray) : (t ++ (⟨#[44, 32]⟩ : ByteArray)).size = t.size + 2 := by rw [size_append]; rfl
theorem cm_size' (t : ByteArray) : ((⟨#[44, 32]⟩ : ByteArray) ++ t).size = 2 + t.size := by rw [size_append]; rfl
theorem spec_inv_j (t : ByteArray) (G : List ByteArray) (P F S : ByteArray) (ht : t.size ≤ 1048580) (h : bulkN G P F S ≤ 1048576) : Ev (fun k => spec_l2Inverse.j0 k t true G P F S) (tailI t G S) := by
  obtain ⟨b1, b2, b3, b4, b5, b6⟩ := inv_sum G P F S h
  obtain ⟨K, hK⟩ := spec_join G (by omega) (by omega)
  have hK' : ∀ k, K ≤ k → spec_l2Given.f k G P F S = some (joinD G) := fun k hk => by unfold spec_l2Given.f; rw [show spec_l2Join.f k G = some (joinD G) from hK k hk]; rfl
  refine ⟨K + 1, fun k hk => ?_⟩
  obtain ⟨k', rfl⟩ : ∃ k', k = k' + 1 := ⟨k - 1, by omega⟩
  have a1 : t.size + 2 ≤ 9223372036854775807 := by omega
  have a2 : (t ++ (⟨#[44, 32]⟩ : ByteArray)).size + (joinD G).size ≤ 9223372036854775807 := by rw [cm_size]; omega
  have a3 : ((t ++ (⟨#[44, 32]⟩ : ByteArray)) ++ joinD G).size + 2 ≤ 9223372036854775807 := by rw [size_append, cm_size]; omega
  have a4 : (((t ++ (⟨#[44, 32]⟩ : ByteArray)) ++ joinD G) ++ (⟨#[44, 32]⟩ : ByteArray)).size + S.size ≤ 9223372036854775807 := by rw [cm_size, size_append, cm_size]; omega
  simp only [spec_l2Inverse.j0]
  rw [if_pos trivial, if_pos a1, hK' k' (by omega)]
  simp only [Option.bind_some]
  rw [if_pos a2]
  unfold tailI
  by_cases c : S.size = 0
  · rw [if_pos ((nil_iff S).2 c), if_pos c]; rfl
  · rw [if_neg (fun e => c ((nil_iff S).1 e)), if_pos a3, if_pos a4, if_neg c]; rfl
theorem spec_inv (G : List ByteArray) (P F S : ByteArray) (h : bulkN G P F S ≤ 1048576) : Ev (fun k => spec_l2Inverse.f k G P F S) (invD G P F S) := by
  obtain ⟨b1, b2, b3, b4, b5, b6⟩ := inv_sum G P F S h
  have hj := spec_inv_j (joinD [P, F]) G P F S b3 h
  unfold spec_l2Inverse.f invD
  refine Ev.bind (spec_join [P, F] (by simp) (by omega)) ?_
  by_cases c : G.length > 0
  · exact ev_pos (by omega) (ev_eq hj (if_pos (Or.inl c)).symm)
  · refine ev_neg (by omega) ?_
    by_cases d : S.size = 0
    · have e : (S.toList != ([] : List UInt8)) = false := by rw [(nil_iff S).2 d]; rfl
      rw [e]
      refine Ev.step (f := fun _ => some (joinD [P, F])) (fun k => ?_) (ev_eq (Ev.now _) (if_neg (fun x => x.elim c (fun y => y d))).symm)
      simp only [spec_l2Inverse.j0]
      rw [if_neg (by simp), if_pos ((nil_iff S).2 d)]
    · have e : (S.toList != ([] : List UInt8)) = true := bne_iff_ne.2 (fun x => d ((nil_iff S).1 x))
      rw [e]
      exact ev_eq hj (if_pos (Or.inr d)).symm
theorem app3 (a b c : ByteArray) : a ++ (b ++ c) = (a ++ b) ++ c := L_inj (by simp only [L_append, List.append_assoc])
theorem impl_inv_j (t : ByteArray) (G : List ByteArray) (P F S : ByteArray) (ht : t.size ≤ 1048580) (hg : goodN G P F S = true) (h : bulkN G P F S ≤ 1048576) : Ev (fun k => impl_inverseForm.j0 k t true G P F S) (tailI t G S) := by
  obtain ⟨b1, b2, b3, b4, b5, b6⟩ := inv_sum G P F S h
  obtain ⟨h3, h4⟩ := good_pos hg
  have hK := libJoin_all G h4 (by omega) (by omega)
  refine ⟨1, fun k hk => ?_⟩
  obtain ⟨k', rfl⟩ : ∃ k', k = k' + 1 := ⟨k - 1, by omega⟩
  have a1 : 2 + (joinD G).size ≤ 9223372036854775807 := by omega
  have a2 : t.size + ((⟨#[44, 32]⟩ : ByteArray) ++ joinD G).size ≤ 9223372036854775807 := by rw [cm_size']; omega
  have a3 : 2 + S.size ≤ 9223372036854775807 := by omega
  have a4 : (t ++ ((⟨#[44, 32]⟩ : ByteArray) ++ joinD G)).size + ((⟨#[44, 32]⟩ : ByteArray) ++ S).size ≤ 9223372036854775807 := by rw [cm_size', size_append, cm_size']; omega
  simp only [impl_inverseForm.j0]
  rw [if_pos trivial, hK]
  simp only [Option.bind_some]
  rw [if_pos a1, if_pos a2]
  unfold tailI
  by_cases c : S.size = 0
  · rw [if_pos ((nil_iff S).2 c), if_pos c, app3]; rfl
  · rw [if_neg (fun e => c ((nil_iff S).1 e)), if_pos a3, if_pos a4, if_neg c, app3, app3]; rfl
theorem impl_inv (G : List ByteArray) (P F S : ByteArray) (hg : goodN G P F S = true) (h : bulkN G P F S ≤ 1048576) : Ev (fun k => impl_inverseForm.f k G P F S) (invD G P F S) := by
  obtain ⟨b1, b2, b3, b4, b5, b6⟩ := inv_sum G P F S h
  have hj := impl_inv_j (joinD [P, F]) G P F S b3 hg h
  unfold impl_inverseForm.f invD
  refine ev_bind0 (spaced_eq [P, F] (by simp) (by simp) (by omega)) ?_
  by_cases c : G.length > 0
  · exact ev_pos (by omega) (ev_eq hj (if_pos (Or.inl c)).symm)
  · refine ev_neg (by omega) ?_
    by_cases d : S.size = 0
    · have e : (S.toList != ([] : List UInt8)) = false := by rw [(nil_iff S).2 d]; rfl
      rw [e]
      refine Ev.step (f := fun _ => some (joinD [P, F])) (fun k => ?_) (ev_eq (Ev.now _) (if_neg (fun x => x.elim c (fun y => y d))).symm)
      simp only [impl_inverseForm.j0]
      rw [if_neg (by simp), if_pos ((nil_iff S).2 d)]
    · have e : (S.toList != ([] : List UInt8)) = true := bne_iff_ne.2 (fun x => d ((nil_iff S).1 x))
      rw [e]
      exact ev_eq hj (if_pos (Or.inr d)).symm
end Go.Proofs.YtgingnbfihaopaaDoor.G
