/- Texts of this session for the law FnExactParseInverse, put together by a program (merge.py): each ends with its namespace; conditions stand with each theorem. -/
import Derived.Test.YtcckamdpncbkoaaDoorKFnExactParseInverse2
import Derived.Test.YtcckamdpncbkoaaDoorKFnExactParseInverse3
import Derived.Test.YtcckamdpncbkoaaDoorKFnExactParseInverse1
import Derived.Deep.Slices
import Derived.Lib.Strings
import Derived.Lib.SplitLaws
import Derived.Lib.IndexBytes
import Derived.Lib.IndexLaws
namespace Go.Proofs.YtcckamdpncbkoaaDoor.G
open Go.RowKit Go.Proofs.YtcckamdpncbkoaaDoorW.PrintWords Go.Proofs.YtcckamdpncbkoaaDoorW.PrintLast Go.Proofs.YtcckamdpncbkoaaDoorW.PrintMore
open Go.Proofs.YtcckamdpncbkoaaDoor.Gl Go.Proofs.YtcckamdpncbkoaaDoor.Ext
attribute [local go_sem] max2_int min2_int max_two min_two max_three min_three max_four min_four   -- for this text's walks alone
set_option linter.unusedVariables false
set_option linter.unusedSimpArgs false

/-! ### impl_ParseInverse: function 31 -/
mutual
def impl_ParseInverse.j0 : Nat → ByteArray → List ByteArray → Bool → Option (List ByteArray × ByteArray × ByteArray × ByteArray × Bool)
 | 0, _, _, _ => none
 | k + 1, x0, x4, x16 => if x16 = true then (some (([] : List ByteArray), (⟨#[]⟩ : ByteArray), (⟨#[]⟩ : ByteArray), (⟨#[]⟩ : ByteArray), false)) else ((some (([] : List ByteArray) : List ByteArray)).bind fun y529 => (if 0 < (x4.length : Int) then ((strings_Split.f (rdOf ByteArray.empty x4 0) (⟨#[32]⟩ : ByteArray)).bind fun t534 => (if 0 ≤ (wrap64 ((t534.length : Int) - 1)) then (if (wrap64 ((t534.length : Int) - 1)) < (t534.length : Int) then (if (wrap64 ((t534.length : Int) - 1)) ≤ (t534.length : Int) then ((strings_Join.f (t534.take ((wrap64 ((t534.length : Int) - 1)) : Int).toNat) (⟨#[32]⟩ : ByteArray)).bind fun t542 => (if (x4.length : Int) > 1 then (if 1 < (x4.length : Int) then (impl_ParseInverse.j1 k x0 x4 ((rdOf ByteArray.empty x4 1).toList != ([] : List UInt8)) y529 t542 (rdOf ByteArray.empty t534 (wrap64 ((t534.length : Int) - 1))) (⟨#[]⟩ : ByteArray)) else (none)) else (impl_ParseInverse.j1 k x0 x4 false y529 t542 (rdOf ByteArray.empty t534 (wrap64 ((t534.length : Int) - 1))) (⟨#[]⟩ : ByteArray)))) else (none)) else (none)) else (none))) else (none)))
def impl_ParseInverse.j1 : Nat → ByteArray → List ByteArray → Bool → List ByteArray → ByteArray → ByteArray → ByteArray → Option (List ByteArray × ByteArray × ByteArray × ByteArray × Bool)
 | 0, _, _, _, _, _, _, _ => none
 | k + 1, x0, x4, x46, x533000, x533001, x533002, x533003 => if x46 = true then (if 1 < (x4.length : Int) then ((strings_Split.f (rdOf ByteArray.empty x4 1) (⟨#[32]⟩ : ByteArray)).bind fun t545 => (impl_ParseInverse.j2 k x0 x4 t545 x533001 x533002 x533003)) else (none)) else (impl_ParseInverse.j2 k x0 x4 x533000 x533001 x533002 x533003)
def impl_ParseInverse.j2 : Nat → ByteArray → List ByteArray → List ByteArray → ByteArray → ByteArray → ByteArray → Option (List ByteArray × ByteArray × ByteArray × ByteArray × Bool)
 | 0, _, _, _, _, _, _ => none
 | k + 1, x0, x4, x533000, x533001, x533002, x533003 => if (x4.length : Int) > 2 then (if 2 < (x4.length : Int) then (impl_ParseInverse.j3 k x0 x533000 x533001 x533002 (rdOf ByteArray.empty x4 2)) else (none)) else (impl_ParseInverse.j3 k x0 x533000 x533001 x533002 x533003)
def impl_ParseInverse.j3 : Nat → ByteArray → List ByteArray → ByteArray → ByteArray → ByteArray → Option (List ByteArray × ByteArray × ByteArray × ByteArray × Bool)
 | 0, _, _, _, _, _ => none
 | k + 1, x0, x533000, x533001, x533002, x533003 => (impl_IsValidName.f k x533000 x533001 x533002 x533003).bind fun t549 => (if t549 = true then ((impl_inverseForm.f k x533000 x533001 x533002 x533003).bind fun t550 => (if t550.toList = x0.toList then (some (x533000, x533001, x533002, x533003, true)) else (some (([] : List ByteArray), (⟨#[]⟩ : ByteArray), (⟨#[]⟩ : ByteArray), (⟨#[]⟩ : ByteArray), false)))) else (some (([] : List ByteArray), (⟨#[]⟩ : ByteArray), (⟨#[]⟩ : ByteArray), (⟨#[]⟩ : ByteArray), false)))
end
def impl_ParseInverse.f (k : Nat) (a0 : ByteArray) : Option (List ByteArray × ByteArray × ByteArray × ByteArray × Bool) := (strings_Split.f a0 (⟨#[44, 32]⟩ : ByteArray)).bind fun t526 => (if (t526.length : Int) > 3 then (impl_ParseInverse.j0 k a0 t526 true) else (impl_ParseInverse.j0 k a0 t526 (decide ((a0.size : Int) > 200))))
theorem impl_ParseInverse.mono_l : ∀ k, (∀ y0 y1 y2, LeO (impl_ParseInverse.j0 k y0 y1 y2) (impl_ParseInverse.j0 (k + 1) y0 y1 y2)) ∧ (∀ y0 y1 y2 y3 y4 y5 y6, LeO (impl_ParseInverse.j1 k y0 y1 y2 y3 y4 y5 y6) (impl_ParseInverse.j1 (k + 1) y0 y1 y2 y3 y4 y5 y6)) ∧ (∀ y0 y1 y2 y3 y4 y5, LeO (impl_ParseInverse.j2 k y0 y1 y2 y3 y4 y5) (impl_ParseInverse.j2 (k + 1) y0 y1 y2 y3 y4 y5)) ∧ (∀ y0 y1 y2 y3 y4, LeO (impl_ParseInverse.j3 k y0 y1 y2 y3 y4) (impl_ParseInverse.j3 (k + 1) y0 y1 y2 y3 y4))
 | 0 => ⟨fun _ _ _ r h => by simp [impl_ParseInverse.j0] at h, fun _ _ _ _ _ _ _ r h => by simp [impl_ParseInverse.j1] at h, fun _ _ _ _ _ _ r h => by simp [impl_ParseInverse.j2] at h, fun _ _ _ _ _ r h => by simp [impl_ParseInverse.j3] at h⟩
 | k + 1 => by
  obtain ⟨ih0, ih1, ih2, ih3⟩ := impl_ParseInverse.mono_l k
  refine ⟨?_, ?_, ?_, ?_⟩
  ·
   intro y0 y1 y2
   unfold impl_ParseInverse.j0
   repeat' first
   | (with_reducible exact ih0 _ _ _)
   | (with_reducible exact ih1 _ _ _ _ _ _ _)
   | (with_reducible exact ih2 _ _ _ _ _ _)
   | (with_reducible exact ih3 _ _ _ _ _)
   | (with_reducible exact impl_IsValidName.mono _ _ _ _ _)
   | (with_reducible exact impl_inverseForm.mono _ _ _ _ _)
   | (with_reducible exact LeO.refl _)
   | (with_reducible exact LeO.none _)
   | (with_reducible refine LeO.ite ?_ ?_)
   | (with_reducible refine LeO.bind ?_ (fun _ => ?_))
   | exact ih0 _ _ _
   | exact ih1 _ _ _ _ _ _ _
   | exact ih2 _ _ _ _ _ _
   | exact ih3 _ _ _ _ _
   | exact impl_IsValidName.mono _ _ _ _ _
   | exact impl_inverseForm.mono _ _ _ _ _
   | exact LeO.none _
   | refine LeO.ite ?_ ?_
   | refine LeO.bind ?_ (fun _ => ?_)
  ·
   intro y0 y1 y2 y3 y4 y5 y6
   unfold impl_ParseInverse.j1
   repeat' first
   | (with_reducible exact ih0 _ _ _)
   | (with_reducible exact ih1 _ _ _ _ _ _ _)
   | (with_reducible exact ih2 _ _ _ _ _ _)
   | (with_reducible exact ih3 _ _ _ _ _)
   | (with_reducible exact impl_IsValidName.mono _ _ _ _ _)
   | (with_reducible exact impl_inverseForm.mono _ _ _ _ _)
   | (with_reducible exact LeO.refl _)
   | (with_reducible exact LeO.none _)
   | (with_reducible refine LeO.ite ?_ ?_)
   | (with_reducible refine LeO.bind ?_ (fun _ => ?_))
   | exact ih0 _ _ _
   | exact ih1 _ _ _ _ _ _ _
   | exact ih2 _ _ _ _ _ _
   | exact ih3 _ _ _ _ _
   | exact impl_IsValidName.mono _ _ _ _ _
   | exact impl_inverseForm.mono _ _ _ _ _
   | exact LeO.none _
   | refine LeO.ite ?_ ?_
   | refine LeO.bind ?_ (fun _ => ?_)
  ·
   intro y0 y1 y2 y3 y4 y5
   unfold impl_ParseInverse.j2
   repeat' first
   | (with_reducible exact ih0 _ _ _)
   | (with_reducible exact ih1 _ _ _ _ _ _ _)
   | (with_reducible exact ih2 _ _ _ _ _ _)
   | (with_reducible exact ih3 _ _ _ _ _)
   | (with_reducible exact impl_IsValidName.mono _ _ _ _ _)
   | (with_reducible exact impl_inverseForm.mono _ _ _ _ _)
   | (with_reducible exact LeO.refl _)
   | (with_reducible exact LeO.none _)
   | (with_reducible refine LeO.ite ?_ ?_)
   | (with_reducible refine LeO.bind ?_ (fun _ => ?_))
   | exact ih0 _ _ _
   | exact ih1 _ _ _ _ _ _ _
   | exact ih2 _ _ _ _ _ _
   | exact ih3 _ _ _ _ _
   | exact impl_IsValidName.mono _ _ _ _ _
   | exact impl_inverseForm.mono _ _ _ _ _
   | exact LeO.none _
   | refine LeO.ite ?_ ?_
   | refine LeO.bind ?_ (fun _ => ?_)
  ·
   intro y0 y1 y2 y3 y4
   unfold impl_ParseInverse.j3
   repeat' first
   | (with_reducible exact ih0 _ _ _)
   | (with_reducible exact ih1 _ _ _ _ _ _ _)
   | (with_reducible exact ih2 _ _ _ _ _ _)
   | (with_reducible exact ih3 _ _ _ _ _)
   | (with_reducible exact impl_IsValidName.mono _ _ _ _ _)
   | (with_reducible exact impl_inverseForm.mono _ _ _ _ _)
   | (with_reducible exact LeO.refl _)
   | (with_reducible exact LeO.none _)
   | (with_reducible refine LeO.ite ?_ ?_)
   | (with_reducible refine LeO.bind ?_ (fun _ => ?_))
   | exact ih0 _ _ _
   | exact ih1 _ _ _ _ _ _ _
   | exact ih2 _ _ _ _ _ _
   | exact ih3 _ _ _ _ _
   | exact impl_IsValidName.mono _ _ _ _ _
   | exact impl_inverseForm.mono _ _ _ _ _
   | exact LeO.none _
   | refine LeO.ite ?_ ?_
   | refine LeO.bind ?_ (fun _ => ?_)
theorem impl_ParseInverse.mono : ∀ a0 k, LeO (impl_ParseInverse.f k a0) (impl_ParseInverse.f (k + 1) a0) := by
 intro a0 k
 obtain ⟨ih0, ih1, ih2, ih3⟩ := impl_ParseInverse.mono_l k
 unfold impl_ParseInverse.f
 repeat' first
   | (with_reducible exact ih0 _ _ _)
   | (with_reducible exact ih1 _ _ _ _ _ _ _)
   | (with_reducible exact ih2 _ _ _ _ _ _)
   | (with_reducible exact ih3 _ _ _ _ _)
   | (with_reducible exact impl_IsValidName.mono _ _ _ _ _)
   | (with_reducible exact impl_inverseForm.mono _ _ _ _ _)
   | (with_reducible exact LeO.refl _)
   | (with_reducible exact LeO.none _)
   | (with_reducible refine LeO.ite ?_ ?_)
   | (with_reducible refine LeO.bind ?_ (fun _ => ?_))
   | exact ih0 _ _ _
   | exact ih1 _ _ _ _ _ _ _
   | exact ih2 _ _ _ _ _ _
   | exact ih3 _ _ _ _ _
   | exact impl_IsValidName.mono _ _ _ _ _
   | exact impl_inverseForm.mono _ _ _ _ _
   | exact LeO.none _
   | refine LeO.ite ?_ ?_
   | refine LeO.bind ?_ (fun _ => ?_)
set_option maxRecDepth 100000 in
theorem impl_ParseInverse.L0 {P : Prop} (h : P := by
  go_wp2_with (first | ((with_reducible refine gate_callee (f := 60) rfl ?_); refine goesL_ (some 50) rfl rfl Tryd.func60 (by kernel_rfl) rfl #[.string (rdOf ByteArray.empty t526 1), .string (⟨#[32]⟩ : ByteArray)] rfl au38 ?_; (with_reducible refine (strings_Split.calls (hG := au9) (rdOf ByteArray.empty t526 1) (⟨#[32]⟩ : ByteArray) t545 _ A39.out).mono ?_); rintro e w40 ⟨v546, rfl, ho0, hb⟩; refine ⟨_, rfl, ?_⟩; have n0_ := Aside0.mk (Kd.R_elder' au86 (Kd.R_base ho0) hb); have n1_ := Aside0.mk (Kd.R_elder' au78 (Kd.R_base ho0) hb); have n2_ := Aside0.mk (Kd.R_lower (Kd.R_new' (Kd.R_new' ho0 (Kd.R_lt au86)) (Kd.R_lt au78)) (below_size au16)); have n3_ := Aside0.mk (blk_below (g := gb525) (o := .cells #[.slice none 0 0, .string (⟨#[]⟩ : ByteArray), .string (⟨#[]⟩ : ByteArray), .string (⟨#[]⟩ : ByteArray)] 27 (0, 0)) au66 hb); have n4_ := Aside0.mk (blk_below (g := gb532) (o := .cells #[.slice Ao22 y529.length co22, .string t542, .string (rdOf ByteArray.empty t534 (ji13)), .string (⟨#[]⟩ : ByteArray)] 27 (0, 0)) au67 hb); have n5_ := Aside0.mk (Kd.C_below au20 hb); have n6_ := Aside0.mk (below_step au16 hb); clear HO_4; clear HO_533000; clear BK525; clear BK532; clear HR541; clear HB; have HO_4 := n0_; have HO_533000 := n1_; have HO547 := n2_; have BK525 := n3_; have BK532 := n4_; have HR541 := n5_; have HB := n6_; clear n0_ n1_ n2_ n3_ n4_ n5_ n6_; (try clear hb); (try clear hb2); (try clear hk); (try clear hi); (try clear ho0); obtain ⟨Ao41, co41, eo41⟩ := Kd.R_slice HO547.out; subst eo41; have hnb42 := NB532_525.out; have hnc42 := NB525_532.out; have hcz43_0 : w40.cell? ⟨gb532, 0, none⟩ = some (.slice Ao22 y529.length co22) := (blk_cell BK532.out 0).trans rfl; have hcz43_1 : w40.cell? ⟨gb532, 1, none⟩ = some (.string t542) := (blk_cell BK532.out 1).trans rfl; have hcz43_2 : w40.cell? ⟨gb532, 2, none⟩ = some (.string (rdOf ByteArray.empty t534 (ji13))) := (blk_cell BK532.out 2).trans rfl; have hcz43_3 : w40.cell? ⟨gb532, 3, none⟩ = some (.string (⟨#[]⟩ : ByteArray)) := (blk_cell BK532.out 3).trans rfl; have hfz43_0 := blk_frozen BK532.out 0; have hfz43_1 := blk_frozen BK532.out 1; have hfz43_2 := blk_frozen BK532.out 2; have hfz43_3 := blk_frozen BK532.out 3))
  go_meet
  case rel => first | (exact ⟨_, (t545), (.slice Ao41 t545.length co41), H', ⟨by have := HJ2.out; have := HJ18.out; first | omega | exact Nat.le_refl _⟩, ⟨by (with_reducible repeat (first | apply Kd.R_alloc | apply Kd.R_drewN | apply Kd.R_drew)); exact Kd.R_mono (Kd.R_far (p := ⟨gb532, 0, none⟩) (Kd.R_types HO_4.out BK532.out (by decide)) (fun _ hk => hk.2) (.slice Ao41 t545.length co41)) (fun _ hk => hk.1.2)⟩, ⟨by (with_reducible repeat (first | apply Kd.R_alloc | apply Kd.R_drewN | apply Kd.R_drew)); exact Kd.R_mono (Kd.R_far (p := ⟨gb532, 0, none⟩) (Kd.R_types HO547.out BK532.out (by decide)) (fun _ hk => hk.2) (.slice Ao41 t545.length co41)) (fun _ hk => hk.1.1.2)⟩, ⟨by (with_reducible repeat (first | refine blk_drewN ?_ _ | refine blk_drew ?_ | refine blk_alloc ?_ _)); refine blk_far ?_ NB525_532.out _; (with_reducible repeat (first | refine blk_drewN ?_ _ | refine blk_drew ?_ | refine blk_alloc ?_ _)); exact BK525.out⟩, ⟨by (with_reducible repeat (first | refine blk_drewN ?_ _ | refine blk_drew ?_ | refine blk_alloc ?_ _)); refine blk_put (cs := #[.slice Ao22 y529.length co22, .string t542, .string (rdOf ByteArray.empty t534 (ji13)), .string (⟨#[]⟩ : ByteArray)]) ?_ 0 _ rfl; (with_reducible repeat (first | refine blk_drewN ?_ _ | refine blk_drew ?_ | refine blk_alloc ?_ _)); exact BK532.out⟩, ⟨by repeat (first | (with_reducible first | exact HB.out | apply below_alloc | apply pw_below_drewN | apply below_drew1 | refine below_set ?_ GE525.out | refine below_set ?_ GE532.out) | exact HB.out)⟩⟩) | (exact ⟨_, (((rdOf ByteArray.empty t526 1).toList != ([] : List UInt8))), (by first | rfl | (simp; done) | (simp [*]; done) | (simp; exact (show ∀ l_ : List UInt8, l_.isEmpty = !(l_ != ([] : List UInt8)) from fun l_ => by cases l_ <;> rfl) _)), H', ⟨by have := HJ2.out; first | omega | exact Nat.le_refl _⟩, ⟨by (with_reducible repeat (first | apply Kd.R_alloc | apply Kd.R_drewN | apply Kd.R_drew)); exact Kd.R_mono (Kd.R_far (p := ⟨gb532, 1, none⟩) (Kd.R_types HO_4.out BK532.out (by decide)) (fun _ hk => hk.2) (.string t542)) (fun _ hk => hk.1.1)⟩, ⟨by (with_reducible repeat (first | apply Kd.R_alloc | apply Kd.R_drewN | apply Kd.R_drew)); exact Kd.R_mono (Kd.R_far (p := ⟨gb532, 1, none⟩) (Kd.R_types HO531.out BK532.out (by decide)) (fun _ hk => hk.2) (.string t542)) (fun _ hk => hk.1.1)⟩, ⟨by (with_reducible repeat (first | refine blk_drewN ?_ _ | refine blk_drew ?_ | refine blk_alloc ?_ _)); refine blk_far ?_ NB525_532.out _; (with_reducible repeat (first | refine blk_drewN ?_ _ | refine blk_drew ?_ | refine blk_alloc ?_ _)); exact BK525.out⟩, ⟨by (with_reducible repeat (first | refine blk_drewN ?_ _ | refine blk_drew ?_ | refine blk_alloc ?_ _)); refine blk_put (cs := #[.slice Ao22 y529.length co22, .string (⟨#[]⟩ : ByteArray), .string (rdOf ByteArray.empty t534 (ji13)), .string (⟨#[]⟩ : ByteArray)]) ?_ 1 _ rfl; (with_reducible repeat (first | refine blk_drewN ?_ _ | refine blk_drew ?_ | refine blk_alloc ?_ _)); exact BK532.out⟩, ⟨(show Kd.C Kd.string _ (some ad537) y538.length y538 from by rw [Ny538.out]; exact Kd.C_take (m := ((ji13) : Int).toNat) ((Kd.R_reads' au11).2.2) KL31.out)⟩, ⟨by repeat (first | (with_reducible first | exact HB.out | apply below_alloc | apply pw_below_drewN | apply below_drew1 | refine below_set ?_ GE525.out | refine below_set ?_ GE532.out) | exact HB.out)⟩⟩) | (exact ⟨_, (false), au89, H', ⟨by have := HJ2.out; first | omega | exact Nat.le_refl _⟩, ⟨by (with_reducible repeat (first | apply Kd.R_alloc | apply Kd.R_drewN | apply Kd.R_drew)); exact Kd.R_mono (Kd.R_far (p := ⟨gb532, 1, none⟩) (Kd.R_types HO_4.out BK532.out (by decide)) (fun _ hk => hk.2) (.string t542)) (fun _ hk => hk.1.1)⟩, ⟨by (with_reducible repeat (first | apply Kd.R_alloc | apply Kd.R_drewN | apply Kd.R_drew)); exact Kd.R_mono (Kd.R_far (p := ⟨gb532, 1, none⟩) (Kd.R_types HO531.out BK532.out (by decide)) (fun _ hk => hk.2) (.string t542)) (fun _ hk => hk.1.1)⟩, ⟨by (with_reducible repeat (first | refine blk_drewN ?_ _ | refine blk_drew ?_ | refine blk_alloc ?_ _)); refine blk_far ?_ NB525_532.out _; (with_reducible repeat (first | refine blk_drewN ?_ _ | refine blk_drew ?_ | refine blk_alloc ?_ _)); exact BK525.out⟩, ⟨by (with_reducible repeat (first | refine blk_drewN ?_ _ | refine blk_drew ?_ | refine blk_alloc ?_ _)); refine blk_put (cs := #[.slice Ao22 y529.length co22, .string (⟨#[]⟩ : ByteArray), .string (rdOf ByteArray.empty t534 (ji13)), .string (⟨#[]⟩ : ByteArray)]) ?_ 1 _ rfl; (with_reducible repeat (first | refine blk_drewN ?_ _ | refine blk_drew ?_ | refine blk_alloc ?_ _)); exact BK532.out⟩, ⟨(show Kd.C Kd.string _ (some ad537) y538.length y538 from by rw [Ny538.out]; exact Kd.C_take (m := ((ji13) : Int).toNat) ((Kd.R_reads' au11).2.2) KL31.out)⟩, ⟨by repeat (first | (with_reducible first | exact HB.out | apply below_alloc | apply pw_below_drewN | apply below_drew1 | refine below_set ?_ GE525.out | refine below_set ?_ GE532.out) | exact HB.out)⟩⟩) | (exact ⟨_, (y529), (.slice Ao22 y529.length co22), H', ⟨by have := HJ2.out; have := HJ18.out; first | omega | exact Nat.le_refl _⟩, ⟨by (with_reducible repeat (first | apply Kd.R_alloc | apply Kd.R_drewN | apply Kd.R_drew)); exact HO_4.out⟩, ⟨by (with_reducible repeat (first | apply Kd.R_alloc | apply Kd.R_drewN | apply Kd.R_drew)); exact HO_533000.out⟩, ⟨by (with_reducible repeat (first | refine blk_drewN ?_ _ | refine blk_drew ?_ | refine blk_alloc ?_ _)); exact BK525.out⟩, ⟨by (with_reducible repeat (first | refine blk_drewN ?_ _ | refine blk_drew ?_ | refine blk_alloc ?_ _)); exact BK532.out⟩, ⟨by repeat (first | (with_reducible first | exact HB.out | apply below_alloc | apply pw_below_drewN | apply below_drew1 | refine below_set ?_ GE525.out | refine below_set ?_ GE532.out) | exact HB.out)⟩⟩) | (exact ⟨_, ((⟨#[]⟩ : ByteArray)), H', ⟨by have := HJ2.out; have := HJ18.out; have := HJ35.out; first | omega | exact Nat.le_refl _⟩, ⟨by (with_reducible repeat (first | apply Kd.R_alloc | apply Kd.R_drewN | apply Kd.R_drew)); exact Kd.R_mono HO_533000.out (fun _ hk => trivial)⟩, ⟨by (with_reducible repeat (first | refine blk_drewN ?_ _ | refine blk_drew ?_ | refine blk_alloc ?_ _)); exact BK525.out⟩, ⟨by (with_reducible repeat (first | refine blk_drewN ?_ _ | refine blk_drew ?_ | refine blk_alloc ?_ _)); exact BK532.out⟩, ⟨by repeat (first | (with_reducible first | exact HB.out | apply below_alloc | apply pw_below_drewN | apply below_drew1 | refine below_set ?_ GE525.out | refine below_set ?_ GE532.out) | exact HB.out)⟩⟩) | (exact ⟨_, (decide ((a0.size : Int) > 200)), au89, H', ⟨by first | omega | exact Nat.le_refl _⟩, ⟨by (with_reducible repeat (first | apply Kd.R_alloc | apply Kd.R_drewN | apply Kd.R_drew)); exact HO528.out⟩, ⟨by (with_reducible repeat (first | refine blk_drewN ?_ _ | refine blk_drew ?_ | refine blk_alloc ?_ _)); exact BK525.out⟩, ⟨by repeat (first | (with_reducible first | exact HB.out | apply below_alloc | apply pw_below_drewN | apply below_drew1 | refine below_set ?_ GE525.out) | exact HB.out)⟩⟩) | (exact ⟨_, (true), au89, H', ⟨by first | omega | exact Nat.le_refl _⟩, ⟨by (with_reducible repeat (first | apply Kd.R_alloc | apply Kd.R_drewN | apply Kd.R_drew)); exact HO528.out⟩, ⟨by (with_reducible repeat (first | refine blk_drewN ?_ _ | refine blk_drew ?_ | refine blk_alloc ?_ _)); exact BK525.out⟩, ⟨by repeat (first | (with_reducible first | exact HB.out | apply below_alloc | apply pw_below_drewN | apply below_drew1 | refine below_set ?_ GE525.out) | exact HB.out)⟩⟩)) : P := h
set_option maxHeartbeats 8000000 in
set_option maxRecDepth 100000 in
theorem impl_ParseInverse.calls (k : Nat) (a0 : ByteArray) (r1 : List ByteArray) (r2 : ByteArray) (r3 : ByteArray) (r4 : ByteArray) (r5 : Bool) (w : World) {gF1 gF2 gF3 : Bool} (hG : GL gF1 gF2 gF3 w) (h : impl_ParseInverse.f k a0 = some (r1, r2, r3, r4, r5)) :
  Calls Tryd.prog 31 #[.string a0] w fun e w' => ∃ v0_ : Value, e = .returned (.tuple #[.agg #[v0_, .string r2, .string r3, .string r4], .bool r5]) ∧ Kd.R Kd.string 9 w' w.heap.size (fun _ => True) v0_ r1 ∧ Below w.heap.size w w' := by
 have HG := Aside0.mk hG
 clear hG
 have hu27 := Tryd.underlying27
 have HB := Aside0.mk (Below.refl w.heap.size w)
 have H : ((strings_Split.f a0 (⟨#[44, 32]⟩ : ByteArray)).bind fun t526 => (if (t526.length : Int) > 3 then (impl_ParseInverse.j0 k a0 t526 true) else (impl_ParseInverse.j0 k a0 t526 (decide ((a0.size : Int) > 200))))) = some (r1, r2, r3, r4, r5) := h
 clear h
 replace H := Option.bind_eq_some_iff.mp H
 obtain ⟨t526, A20, H⟩ := H
 try dsimp only at H
 have A2 := Aside0.mk A20
 clear A20
 have HC3 := Aside0.mk H
 clear H
 go_enter Tryd.func31, Tryd.ntmps31
 go_upto_region 2 with (first | ((with_reducible refine gate_dst (N := 2) rfl ?_); (try (refine gate_guard (by rfl) ?_; dsimp only)); refine box_event ?hg (N := 2) ?hd (cs := #[.slice none 0 0, .string (⟨#[]⟩ : ByteArray), .string (⟨#[]⟩ : ByteArray), .string (⟨#[]⟩ : ByteArray)]) (t := 27) ?hr ?_; (case hd => rfl); (case hg => rfl); (case hr => first | (go_simp; done) | (go_simp; rfl)); intro gb525 hg w4 hbox hb; have n0_ := Aside0.mk (below_step au41 hb); have n1_ := Aside0.mk (hbox); have n2_ := Aside0.mk ((by rw [hg]; exact (below_size au41) : w.heap.size ≤ gb525)); have n3_ := Aside0.mk ((by rw [hg]; exact (below_size au41) : w.heap.size ≤ gb525)); clear HB; have HB := n0_; have BK525 := n1_; have GW525 := n2_; have GE525 := n3_; clear n0_ n1_ n2_ n3_; clear hb hbox hg) | ((with_reducible refine gate_callee (f := 60) rfl ?_); refine goesL_ (some 8) rfl rfl Tryd.func60 (by kernel_rfl) rfl #[.string a0, .string (⟨#[44, 32]⟩ : ByteArray)] rfl au38 ?_; (with_reducible refine (strings_Split.calls (hG := au9) a0 (⟨#[44, 32]⟩ : ByteArray) t526 _ A2.out).mono ?_); rintro e w5 ⟨v527, rfl, ho0, hb⟩; refine ⟨_, rfl, ?_⟩; have n0_ := Aside0.mk (Kd.R_lower ho0 (below_size au30)); have n1_ := Aside0.mk (blk_below (g := gb525) (o := .cells #[.slice none 0 0, .string (⟨#[]⟩ : ByteArray), .string (⟨#[]⟩ : ByteArray), .string (⟨#[]⟩ : ByteArray)] 27 (0, 0)) au66 hb); have n2_ := Aside0.mk (below_step au30 hb); clear BK525; clear HB; have HO528 := n0_; have BK525 := n1_; have HB := n2_; clear n0_ n1_ n2_; (try clear hb); (try clear hb2); (try clear hk); (try clear hi); (try clear ho0)))
 (try simp only [Act.put, List.setIfInBounds_toArray, List.set_cons_zero, List.set_cons_succ])
 go_cut [16] (fun v16 wc => ∃ (kq : Nat) (x16_2 : Bool), v16 = .bool x16_2 ∧ Aside0 (impl_ParseInverse.j0 kq a0 t526 x16_2 = some (r1, r2, r3, r4, r5)) ∧ Aside0 (kq ≤ k) ∧ Aside0 (Kd.R Kd.string 9 wc w.heap.size (fun _ => True) v527 t526) ∧ Aside0 (wc.heap[gb525]? = some (.cells #[(.slice none 0 0), .string (⟨#[]⟩ : ByteArray), .string (⟨#[]⟩ : ByteArray), .string (⟨#[]⟩ : ByteArray)] 27 (0, 0))) ∧ Aside0 (Below w.heap.size w wc))
 case first =>
  have H := HC3.out
  clear HC3
  by_cases c6 : (t526.length : Int) > 3
  ·
   rw [if_pos c6] at H
   have c6b0 : decide (3 < (t526.length : Int)) = true := decide_eq_true c6
   have c6b1 : decide (3 < t526.length) = true := decide_eq_true (by omega)
   clear c6
   (first | rw [c6b0] | (simp only [i64_w, i32_w]; rw [c6b0]) | skip)
   have H' := Aside0.mk H
   clear H
   obtain ⟨Ao7, co7, eo7⟩ := Kd.R_slice HO528.out
   subst eo7
   exact impl_ParseInverse.L0
  ·
   rw [if_neg c6] at H
   have c6b0 : decide (3 < (t526.length : Int)) = false := decide_eq_false c6
   have c6b1 : decide (3 < t526.length) = false := decide_eq_false (by omega)
   clear c6
   (first | rw [c6b0] | (simp only [i64_w, i32_w]; rw [c6b0]) | skip)
   have H' := Aside0.mk H
   clear H
   obtain ⟨Ao8, co8, eo8⟩ := Kd.R_slice HO528.out
   subst eo8
   exact impl_ParseInverse.L0
 case rest =>
  clear HC3
  try clear p2
  try clear c3
  try clear c6
  try clear c6b0
  try clear c6b1
  obtain ⟨kq, x16_2, rfl, HA, HJ2, HO_4, BK525, HB⟩ := hcut
  cases kq with
  | zero => exact absurd HA.out (by simp [impl_ParseInverse.j0])
  | succ kj2 =>
   have H := HA.out
   clear HA
   simp only [impl_ParseInverse.j0] at H
   by_cases c9 : x16_2 = true
   ·
    subst c9
    replace H := (if_pos rfl).symm.trans H
    simp only [Option.some.injEq, Prod.mk.injEq] at H
    obtain ⟨rfl, rfl, rfl, rfl, rfl⟩ := H
    have hcz10_0 : wc.cell? ⟨gb525, 0, none⟩ = some (.slice none 0 0) := (blk_cell BK525.out 0).trans rfl
    have hcz10_1 : wc.cell? ⟨gb525, 1, none⟩ = some (.string (⟨#[]⟩ : ByteArray)) := (blk_cell BK525.out 1).trans rfl
    have hcz10_2 : wc.cell? ⟨gb525, 2, none⟩ = some (.string (⟨#[]⟩ : ByteArray)) := (blk_cell BK525.out 2).trans rfl
    have hcz10_3 : wc.cell? ⟨gb525, 3, none⟩ = some (.string (⟨#[]⟩ : ByteArray)) := (blk_cell BK525.out 3).trans rfl
    have hfz10_0 := blk_frozen BK525.out 0
    have hfz10_1 := blk_frozen BK525.out 1
    have hfz10_2 := blk_frozen BK525.out 2
    have hfz10_3 := blk_frozen BK525.out 3
    go_wp2
    refine bodyPost_ret (results_ct rfl _ _ gb525 27 #[.slice none 0 0, .string (⟨#[]⟩ : ByteArray), .string (⟨#[]⟩ : ByteArray), .string (⟨#[]⟩ : ByteArray)] (0, 0) _ rfl (by (with_reducible repeat (first | refine blk_drewN ?_ _ | refine blk_drew ?_ | refine blk_alloc ?_ _)); refine blk_put (cs := #[.slice none 0 0, .string (⟨#[]⟩ : ByteArray), .string (⟨#[]⟩ : ByteArray), .string (⟨#[]⟩ : ByteArray)]) ?_ 3 _ rfl; (with_reducible repeat (first | refine blk_drewN ?_ _ | refine blk_drew ?_ | refine blk_alloc ?_ _)); refine blk_put (cs := #[.slice none 0 0, .string (⟨#[]⟩ : ByteArray), .string (⟨#[]⟩ : ByteArray), .string (⟨#[]⟩ : ByteArray)]) ?_ 2 _ rfl; (with_reducible repeat (first | refine blk_drewN ?_ _ | refine blk_drew ?_ | refine blk_alloc ?_ _)); refine blk_put (cs := #[.slice none 0 0, .string (⟨#[]⟩ : ByteArray), .string (⟨#[]⟩ : ByteArray), .string (⟨#[]⟩ : ByteArray)]) ?_ 1 _ rfl; (with_reducible repeat (first | refine blk_drewN ?_ _ | refine blk_drew ?_ | refine blk_alloc ?_ _)); refine blk_put (cs := #[.slice none 0 0, .string (⟨#[]⟩ : ByteArray), .string (⟨#[]⟩ : ByteArray), .string (⟨#[]⟩ : ByteArray)]) ?_ 0 _ rfl; (with_reducible repeat (first | refine blk_drewN ?_ _ | refine blk_drew ?_ | refine blk_alloc ?_ _)); exact BK525.out) Tryd.underlying27 rfl (by kernel_rfl)) rfl ?_
    exact ⟨_, by first | rfl | (simp [errW_none, errW_some] <;> rfl) | (simp [*, errW_none, errW_some] <;> rfl), by first | exact Kd.R_nil _ _ _ _ _ | exact Kd.N_nil _ _ _ _ _ | exact Kd.V_nil _ _ _ _ _ | exact Kd.Q_nil _ _ _ _ _ | exact Kd.S_nil _ _ _ _ _, by repeat (first | (with_reducible first | exact HB.out | apply below_alloc | apply pw_below_drewN | apply below_drew1 | refine below_set ?_ GE525.out) | exact HB.out)⟩
   ·
    replace c9 := Bool.eq_false_iff.mpr c9
    subst c9
    replace H := (if_neg (show ¬ (false = true) by decide)).symm.trans H
    obtain ⟨y529, hy529⟩ : ∃ y_ : List ByteArray, y_ = (([] : List ByteArray)) := ⟨_, rfl⟩
    replace H : (if 0 < (t526.length : Int) then ((strings_Split.f (rdOf ByteArray.empty t526 0) (⟨#[32]⟩ : ByteArray)).bind fun t534 => (if 0 ≤ (wrap64 ((t534.length : Int) - 1)) then (if (wrap64 ((t534.length : Int) - 1)) < (t534.length : Int) then (if (wrap64 ((t534.length : Int) - 1)) ≤ (t534.length : Int) then ((strings_Join.f (t534.take ((wrap64 ((t534.length : Int) - 1)) : Int).toNat) (⟨#[32]⟩ : ByteArray)).bind fun t542 => (if (t526.length : Int) > 1 then (if 1 < (t526.length : Int) then (impl_ParseInverse.j1 kj2 a0 t526 ((rdOf ByteArray.empty t526 1).toList != ([] : List UInt8)) y529 t542 (rdOf ByteArray.empty t534 (wrap64 ((t534.length : Int) - 1))) (⟨#[]⟩ : ByteArray)) else (none)) else (impl_ParseInverse.j1 kj2 a0 t526 false y529 t542 (rdOf ByteArray.empty t534 (wrap64 ((t534.length : Int) - 1))) (⟨#[]⟩ : ByteArray)))) else (none)) else (none)) else (none))) else (none)) = some (r1, r2, r3, r4, r5) := by first | (rw [hy529]; with_reducible exact H) | (have H2_ := (Option.bind_some _ _).symm.trans H; rw [hy529]; with_reducible exact H2_) | (have H2_ := (Option.bind_some _ _).symm.trans H; with_reducible exact H2_) | with_reducible exact H | (rw [hy529]; exact H) | exact H
    have Ny529 := Aside0.mk hy529
    clear hy529
    by_cases c11 : 0 < (t526.length : Int)
    ·
     rw [if_pos c11] at H
     have c11b0 : decide (0 < (t526.length : Int)) = true := decide_eq_true c11
     have c11b1 : decide (0 < t526.length) = true := decide_eq_true (by omega)
     clear c11
     replace H := Option.bind_eq_some_iff.mp H
     obtain ⟨t534, A120, H⟩ := H
     try dsimp only at H
     have A12 := Aside0.mk A120
     clear A120
     obtain ⟨ji13, hji13⟩ : ∃ j_ : Int, (wrap64 ((t534.length : Int) - 1)) = j_ := ⟨_, rfl⟩
     replace H : (if 0 ≤ (ji13) then (if (ji13) < (t534.length : Int) then (if (ji13) ≤ (t534.length : Int) then ((strings_Join.f (t534.take ((ji13) : Int).toNat) (⟨#[32]⟩ : ByteArray)).bind fun t542 => (if (t526.length : Int) > 1 then (if 1 < (t526.length : Int) then (impl_ParseInverse.j1 kj2 a0 t526 ((rdOf ByteArray.empty t526 1).toList != ([] : List UInt8)) y529 t542 (rdOf ByteArray.empty t534 (ji13)) (⟨#[]⟩ : ByteArray)) else (none)) else (impl_ParseInverse.j1 kj2 a0 t526 false y529 t542 (rdOf ByteArray.empty t534 (ji13)) (⟨#[]⟩ : ByteArray)))) else (none)) else (none)) else (none)) = some (r1, r2, r3, r4, r5) := by first | (rw [hji13] at H; exact H) | (simp only [hji13] at H ⊢; exact H)
     (try rw [hji13] at A12)
     have hji13w : (IntKind.i64.wrap ((t534.length : Int) - 1)) = ji13 := (i64_w _).trans hji13
     by_cases c14 : 0 ≤ (ji13)
     ·
      rw [if_pos c14] at H
      have c14b0 : decide (0 ≤ (ji13)) = true := decide_eq_true c14
      clear c14
      by_cases c15 : (ji13) < (t534.length : Int)
      ·
       rw [if_pos c15] at H
       have c15b0 : decide ((ji13) < (t534.length : Int)) = true := decide_eq_true c15
       clear c15
       have c16b0 := eq_true (of_decide_eq_true au88 : 0 ≤ (ji13))
       by_cases c17 : (ji13) ≤ (t534.length : Int)
       ·
        rw [if_pos c17] at H
        have c17b0 := eq_true c17
        have c17b1 : decide ((ji13) ≤ (t534.length : Int)) = true := decide_eq_true c17
        clear c17
        obtain ⟨y538, hy538⟩ : ∃ y_ : List ByteArray, y_ = (t534.take ((ji13) : Int).toNat) := ⟨_, rfl⟩
        replace H : ((strings_Join.f y538 (⟨#[32]⟩ : ByteArray)).bind fun t542 => (if (t526.length : Int) > 1 then (if 1 < (t526.length : Int) then (impl_ParseInverse.j1 kj2 a0 t526 ((rdOf ByteArray.empty t526 1).toList != ([] : List UInt8)) y529 t542 (rdOf ByteArray.empty t534 (ji13)) (⟨#[]⟩ : ByteArray)) else (none)) else (impl_ParseInverse.j1 kj2 a0 t526 false y529 t542 (rdOf ByteArray.empty t534 (ji13)) (⟨#[]⟩ : ByteArray)))) = some (r1, r2, r3, r4, r5) := by first | (rw [hy538]; with_reducible exact H) | (have H2_ := (Option.bind_some _ _).symm.trans H; rw [hy538]; with_reducible exact H2_) | (have H2_ := (Option.bind_some _ _).symm.trans H; with_reducible exact H2_) | with_reducible exact H | (rw [hy538]; exact H) | exact H
        have Ny538 := Aside0.mk hy538
        clear hy538
        replace H := Option.bind_eq_some_iff.mp H
        obtain ⟨t542, A180, H⟩ := H
        try dsimp only at H
        have A18 := Aside0.mk A180
        clear A180
        have HC19 := Aside0.mk H
        clear H
        go_upto_region 8 with (first | ((with_reducible refine gate_dst (N := 18) rfl ?_); (try (refine gate_guard (by rfl) ?_; dsimp only)); refine Kd.R_lit Kd.string _ 9 ?hg (N := 18) ?hd (xs := ([] : List ByteArray)) (inner := []) (ok := fun _ => True) (okp := fun _ => True) ?hr ?hp (fun _ hk => hk) trivial (Below.refl _ _) (Nat.le_refl _) (by simp) ?_; (case hd => rfl); (case hg => rfl); (case hr => first | (go_simp; done) | (go_simp; rfl)); (case hp => exact (Reps.none _ _)); intro v530 w20 ho21 hb hg_ hnew_; clear hg_ hnew_; (first | rw [← Ny529.out] at ho21 | (simp only [Int.reduceToNat] at ho21; rw [← Ny529.out] at ho21)); have n0_ := Aside0.mk (Kd.R_elder' au86 (Kd.R_base ho21) hb); have n1_ := Aside0.mk (Kd.R_lower (Kd.R_new' ho21 (Kd.R_lt au86)) (below_size au30)); have n2_ := Aside0.mk (blk_below (g := gb525) (o := .cells #[.slice none 0 0, .string (⟨#[]⟩ : ByteArray), .string (⟨#[]⟩ : ByteArray), .string (⟨#[]⟩ : ByteArray)] 27 (0, 0)) au66 hb); have n3_ := Aside0.mk (below_step au30 hb); clear HO_4; clear BK525; clear HB; have HO_4 := n0_; have HO531 := n1_; have BK525 := n2_; have HB := n3_; clear n0_ n1_ n2_ n3_; clear hb ho21; obtain ⟨Ao22, co22, eo22⟩ := Kd.R_slice HO531.out; subst eo22) | ((with_reducible refine gate_dst (N := 5) rfl ?_); (try (refine gate_guard (by rfl) ?_; dsimp only)); refine box_event ?hg (N := 5) ?hd (cs := #[.slice none 0 0, .string (⟨#[]⟩ : ByteArray), .string (⟨#[]⟩ : ByteArray), .string (⟨#[]⟩ : ByteArray)]) (t := 27) ?hr ?_; (case hd => rfl); (case hg => rfl); (case hr => first | (go_simp; done) | (go_simp; rfl)); intro gb532 hg w23 hbox hb; have n0_ := Aside0.mk (Kd.R_below au86 hb); have n1_ := Aside0.mk (Kd.R_below au83 hb); have n2_ := Aside0.mk (blk_below (g := gb525) (o := .cells #[.slice none 0 0, .string (⟨#[]⟩ : ByteArray), .string (⟨#[]⟩ : ByteArray), .string (⟨#[]⟩ : ByteArray)] 27 (0, 0)) au66 hb); have n3_ := Aside0.mk (below_step au30 hb); have n4_ := Aside0.mk (hbox); have n5_ := Aside0.mk ((by rw [hg]; exact (below_size au30) : w.heap.size ≤ gb532)); have n6_ := Aside0.mk ((by rw [hg]; exact (below_size au30) : w.heap.size ≤ gb532)); have n7_ := Aside0.mk ((by rw [hg]; exact Nat.ne_of_lt (blk_lt (g := gb525) (o := .cells #[.slice none 0 0, .string (⟨#[]⟩ : ByteArray), .string (⟨#[]⟩ : ByteArray), .string (⟨#[]⟩ : ByteArray)] 27 (0, 0)) au66) : gb525 ≠ gb532)); have n8_ := Aside0.mk ((by rw [hg]; exact Nat.ne_of_gt (blk_lt (g := gb525) (o := .cells #[.slice none 0 0, .string (⟨#[]⟩ : ByteArray), .string (⟨#[]⟩ : ByteArray), .string (⟨#[]⟩ : ByteArray)] 27 (0, 0)) au66) : gb532 ≠ gb525)); clear HO_4; clear HO531; clear BK525; clear HB; have HO_4 := n0_; have HO531 := n1_; have BK525 := n2_; have HB := n3_; have BK532 := n4_; have GW532 := n5_; have GE532 := n6_; have NB525_532 := n7_; have NB532_525 := n8_; clear n0_ n1_ n2_ n3_ n4_ n5_ n6_ n7_ n8_; clear hb hbox hg; have hnb24 := NB532_525.out; have hnc24 := NB525_532.out; have hcz25_0 : w23.cell? ⟨gb532, 0, none⟩ = some (.slice none 0 0) := (blk_cell BK532.out 0).trans rfl; have hcz25_1 : w23.cell? ⟨gb532, 1, none⟩ = some (.string (⟨#[]⟩ : ByteArray)) := (blk_cell BK532.out 1).trans rfl; have hcz25_2 : w23.cell? ⟨gb532, 2, none⟩ = some (.string (⟨#[]⟩ : ByteArray)) := (blk_cell BK532.out 2).trans rfl; have hcz25_3 : w23.cell? ⟨gb532, 3, none⟩ = some (.string (⟨#[]⟩ : ByteArray)) := (blk_cell BK532.out 3).trans rfl; have hfz25_0 := blk_frozen BK532.out 0; have hfz25_1 := blk_frozen BK532.out 1; have hfz25_2 := blk_frozen BK532.out 2; have hfz25_3 := blk_frozen BK532.out 3; obtain ⟨Ao26, co26, eo26⟩ := Kd.R_slice HO_4.out; subst eo26; have p533 : 0 ≤ (0 : Int) := (by omega); have q533 : 0 < (t526.length : Int) := of_decide_eq_true au88; obtain ⟨ad533, e533, hx533_0⟩ := Kd.at_string (Kd.R_reads' HO_4.out).2.2 0 p533 q533; cases e533; have qi533 : (0 < t526.length) = True := eq_true (by omega); (try rw [show ((0 : Int)).toNat = 0 from rfl] at hx533_0); (try rw [Addr.add_zero'] at hx533_0); have hn533_0 : ad533.block ≠ gb532 := Kd.own_blk (Kd.R_ne HO_4.out BK532.out (by decide)); have hn533_1 : ad533.block ≠ gb532 := Kd.own_blk (Kd.R_ne HO_4.out BK532.out (by decide)); have hn533_2 : ad533.block ≠ gb532 := Kd.own_blk (Kd.R_ne HO_4.out BK532.out (by decide)); have hn533_3 : ad533.block ≠ gb532 := Kd.own_blk (Kd.R_ne HO_4.out BK532.out (by decide)); replace hx533_0 := (cell_far (p := ⟨gb532, 0, none⟩) (by first | (rw [add_block]; exact hn533_0) | (show (Addr.add _ _).block ≠ _; rw [add_block]; exact hn533_0) | exact hn533_0) (.slice Ao22 y529.length co22)).trans hx533_0; replace hx533_0 := (cell_far (p := ⟨gb532, 1, none⟩) (by first | (rw [add_block]; exact hn533_1) | (show (Addr.add _ _).block ≠ _; rw [add_block]; exact hn533_1) | exact hn533_1) (.string (⟨#[]⟩ : ByteArray))).trans hx533_0; replace hx533_0 := (cell_far (p := ⟨gb532, 2, none⟩) (by first | (rw [add_block]; exact hn533_2) | (show (Addr.add _ _).block ≠ _; rw [add_block]; exact hn533_2) | exact hn533_2) (.string (⟨#[]⟩ : ByteArray))).trans hx533_0; replace hx533_0 := (cell_far (p := ⟨gb532, 3, none⟩) (by first | (rw [add_block]; exact hn533_3) | (show (Addr.add _ _).block ≠ _; rw [add_block]; exact hn533_3) | exact hn533_3) (.string (⟨#[]⟩ : ByteArray))).trans hx533_0; clear hn533_0; clear hn533_1; clear hn533_2; clear hn533_3; replace p533 := eq_true p533; replace q533 := eq_true q533) | ((with_reducible refine gate_callee (f := 60) rfl ?_); refine goesL_ (some 23) rfl rfl Tryd.func60 (by kernel_rfl) rfl #[.string (rdOf ByteArray.empty t526 0), .string (⟨#[32]⟩ : ByteArray)] rfl au38 ?_; (with_reducible refine (strings_Split.calls (hG := au9) (rdOf ByteArray.empty t526 0) (⟨#[32]⟩ : ByteArray) t534 _ A12.out).mono ?_); rintro e w27 ⟨v535, rfl, ho0, hb⟩; refine ⟨_, rfl, ?_⟩; have n0_ := Aside0.mk (Kd.R_elder' (by (with_reducible repeat (first | apply Kd.R_alloc | apply Kd.R_drewN | apply Kd.R_drew)); exact (Kd.R_mono (Kd.R_far (p := ⟨gb532, 3, none⟩) (Kd.R_far (p := ⟨gb532, 2, none⟩) (Kd.R_far (p := ⟨gb532, 1, none⟩) (Kd.R_far (p := ⟨gb532, 0, none⟩) (Kd.R_types HO_4.out BK532.out (by decide)) (fun _ hk => hk.2) (.slice Ao22 y529.length co22)) (fun _ hk => hk.2) (.string (⟨#[]⟩ : ByteArray))) (fun _ hk => hk.2) (.string (⟨#[]⟩ : ByteArray))) (fun _ hk => hk.2) (.string (⟨#[]⟩ : ByteArray))) (fun _ h_ => h_.1))) (Kd.R_base ho0) hb); have n1_ := Aside0.mk (Kd.R_elder' (by (with_reducible repeat (first | apply Kd.R_alloc | apply Kd.R_drewN | apply Kd.R_drew)); exact (Kd.R_mono (Kd.R_far (p := ⟨gb532, 3, none⟩) (Kd.R_far (p := ⟨gb532, 2, none⟩) (Kd.R_far (p := ⟨gb532, 1, none⟩) (Kd.R_far (p := ⟨gb532, 0, none⟩) (Kd.R_types HO531.out BK532.out (by decide)) (fun _ hk => hk.2) (.slice Ao22 y529.length co22)) (fun _ hk => hk.2) (.string (⟨#[]⟩ : ByteArray))) (fun _ hk => hk.2) (.string (⟨#[]⟩ : ByteArray))) (fun _ hk => hk.2) (.string (⟨#[]⟩ : ByteArray))) (fun _ h_ => h_.1))) (Kd.R_base ho0) hb); have n2_ := Aside0.mk (Kd.R_lower (Kd.R_new' (Kd.R_new' ho0 (Kd.R_lt (by (with_reducible repeat (first | apply Kd.R_alloc | apply Kd.R_drewN | apply Kd.R_drew)); exact (Kd.R_mono (Kd.R_far (p := ⟨gb532, 3, none⟩) (Kd.R_far (p := ⟨gb532, 2, none⟩) (Kd.R_far (p := ⟨gb532, 1, none⟩) (Kd.R_far (p := ⟨gb532, 0, none⟩) (Kd.R_types HO_4.out BK532.out (by decide)) (fun _ hk => hk.2) (.slice Ao22 y529.length co22)) (fun _ hk => hk.2) (.string (⟨#[]⟩ : ByteArray))) (fun _ hk => hk.2) (.string (⟨#[]⟩ : ByteArray))) (fun _ hk => hk.2) (.string (⟨#[]⟩ : ByteArray))) (fun _ h_ => h_.1))))) (Kd.R_lt (by (with_reducible repeat (first | apply Kd.R_alloc | apply Kd.R_drewN | apply Kd.R_drew)); exact (Kd.R_mono (Kd.R_far (p := ⟨gb532, 3, none⟩) (Kd.R_far (p := ⟨gb532, 2, none⟩) (Kd.R_far (p := ⟨gb532, 1, none⟩) (Kd.R_far (p := ⟨gb532, 0, none⟩) (Kd.R_types HO531.out BK532.out (by decide)) (fun _ hk => hk.2) (.slice Ao22 y529.length co22)) (fun _ hk => hk.2) (.string (⟨#[]⟩ : ByteArray))) (fun _ hk => hk.2) (.string (⟨#[]⟩ : ByteArray))) (fun _ hk => hk.2) (.string (⟨#[]⟩ : ByteArray))) (fun _ h_ => h_.1))))) (below_size au16)); have n3_ := Aside0.mk (blk_below (g := gb525) (o := .cells #[.slice none 0 0, .string (⟨#[]⟩ : ByteArray), .string (⟨#[]⟩ : ByteArray), .string (⟨#[]⟩ : ByteArray)] 27 (0, 0)) (by (with_reducible repeat (first | refine blk_drewN ?_ _ | refine blk_drew ?_ | refine blk_alloc ?_ _)); refine blk_far ?_ NB525_532.out _; (with_reducible repeat (first | refine blk_drewN ?_ _ | refine blk_drew ?_ | refine blk_alloc ?_ _)); refine blk_far ?_ NB525_532.out _; (with_reducible repeat (first | refine blk_drewN ?_ _ | refine blk_drew ?_ | refine blk_alloc ?_ _)); refine blk_far ?_ NB525_532.out _; (with_reducible repeat (first | refine blk_drewN ?_ _ | refine blk_drew ?_ | refine blk_alloc ?_ _)); refine blk_far ?_ NB525_532.out _; (with_reducible repeat (first | refine blk_drewN ?_ _ | refine blk_drew ?_ | refine blk_alloc ?_ _)); exact BK525.out) hb); have n4_ := Aside0.mk (blk_below (g := gb532) (o := .cells #[.slice Ao22 y529.length co22, .string (⟨#[]⟩ : ByteArray), .string (⟨#[]⟩ : ByteArray), .string (⟨#[]⟩ : ByteArray)] 27 (0, 0)) (by (with_reducible repeat (first | refine blk_drewN ?_ _ | refine blk_drew ?_ | refine blk_alloc ?_ _)); refine blk_put (cs := #[.slice Ao22 y529.length co22, .string (⟨#[]⟩ : ByteArray), .string (⟨#[]⟩ : ByteArray), .string (⟨#[]⟩ : ByteArray)]) ?_ 3 _ rfl; (with_reducible repeat (first | refine blk_drewN ?_ _ | refine blk_drew ?_ | refine blk_alloc ?_ _)); refine blk_put (cs := #[.slice Ao22 y529.length co22, .string (⟨#[]⟩ : ByteArray), .string (⟨#[]⟩ : ByteArray), .string (⟨#[]⟩ : ByteArray)]) ?_ 2 _ rfl; (with_reducible repeat (first | refine blk_drewN ?_ _ | refine blk_drew ?_ | refine blk_alloc ?_ _)); refine blk_put (cs := #[.slice Ao22 y529.length co22, .string (⟨#[]⟩ : ByteArray), .string (⟨#[]⟩ : ByteArray), .string (⟨#[]⟩ : ByteArray)]) ?_ 1 _ rfl; (with_reducible repeat (first | refine blk_drewN ?_ _ | refine blk_drew ?_ | refine blk_alloc ?_ _)); refine blk_put (cs := #[.slice none 0 0, .string (⟨#[]⟩ : ByteArray), .string (⟨#[]⟩ : ByteArray), .string (⟨#[]⟩ : ByteArray)]) ?_ 0 _ rfl; (with_reducible repeat (first | refine blk_drewN ?_ _ | refine blk_drew ?_ | refine blk_alloc ?_ _)); exact BK532.out) hb); have n5_ := Aside0.mk (below_step au16 hb); clear HO_4; clear HO531; clear BK525; clear BK532; clear HB; have HO_4 := n0_; have HO531 := n1_; have HO536 := n2_; have BK525 := n3_; have BK532 := n4_; have HB := n5_; clear n0_ n1_ n2_ n3_ n4_ n5_; (try clear hb); (try clear hb2); (try clear hk); (try clear hi); (try clear ho0); obtain ⟨Ao28, co28, eo28⟩ := Kd.R_slice HO536.out; subst eo28; have p537 : 0 ≤ ((ji13) : Int) := of_decide_eq_true au88; have q537 : (ji13) < (t534.length : Int) := of_decide_eq_true au88; obtain ⟨ad537, e537, hx537_0⟩ := Kd.at_string (Kd.R_reads' HO536.out).2.2 (ji13) p537 q537; cases e537; replace p537 := eq_true p537; replace q537 := eq_true q537; have hcz29_0 : w27.cell? ⟨gb532, 0, none⟩ = some (.slice Ao22 y529.length co22) := (blk_cell BK532.out 0).trans rfl; have hcz29_1 : w27.cell? ⟨gb532, 1, none⟩ = some (.string (⟨#[]⟩ : ByteArray)) := (blk_cell BK532.out 1).trans rfl; have hcz29_2 : w27.cell? ⟨gb532, 2, none⟩ = some (.string (⟨#[]⟩ : ByteArray)) := (blk_cell BK532.out 2).trans rfl; have hcz29_3 : w27.cell? ⟨gb532, 3, none⟩ = some (.string (⟨#[]⟩ : ByteArray)) := (blk_cell BK532.out 3).trans rfl; have hfz29_0 := blk_frozen BK532.out 0; have hfz29_1 := blk_frozen BK532.out 1; have hfz29_2 := blk_frozen BK532.out 2; have hfz29_3 := blk_frozen BK532.out 3) | ((with_reducible refine gate_store (t := 9) (p := 30) rfl ?_); refine store_event (t := 9) (p := 30) (v := ?vo_w30) (w1 := (w27.setCell ⟨gb532, 2, none⟩ (.string (rdOf ByteArray.empty t534 (ji13))))) ?hg ?ho ?hn ?hr ?_; (case ho => rfl); (case hg => rfl); (case hn => rfl); (case hr => first | (go_simp; done) | (go_simp; rfl)); intro w30 hw; have n0_ : Aside0 (Kd.R Kd.string 9 w30 w.heap.size (fun k_ => some k_ ≠ (.slice Ao22 y529.length co22 : Value).ownBlock ∧ some k_ ≠ (.slice (some ad537) t534.length co28 : Value).ownBlock) (.slice (some ad533) t526.length co26) t526) := ⟨(by rw [hw]; exact (by (with_reducible repeat (first | apply Kd.R_alloc | apply Kd.R_drewN | apply Kd.R_drew)); exact Kd.R_mono (Kd.R_far (p := ⟨gb532, 2, none⟩) (Kd.R_types HO_4.out BK532.out (by decide)) (fun _ hk => hk.2) (.string (rdOf ByteArray.empty t534 (ji13)))) (fun _ hk => ⟨hk.1.1.2, hk.1.2⟩)))⟩; have n1_ : Aside0 (Kd.R Kd.string 9 w30 w.heap.size (fun k_ => some k_ ≠ (.slice (some ad533) t526.length co26 : Value).ownBlock ∧ some k_ ≠ (.slice (some ad537) t534.length co28 : Value).ownBlock) (.slice Ao22 y529.length co22) y529) := ⟨(by rw [hw]; exact (by (with_reducible repeat (first | apply Kd.R_alloc | apply Kd.R_drewN | apply Kd.R_drew)); exact Kd.R_mono (Kd.R_far (p := ⟨gb532, 2, none⟩) (Kd.R_types HO531.out BK532.out (by decide)) (fun _ hk => hk.2) (.string (rdOf ByteArray.empty t534 (ji13)))) (fun _ hk => ⟨hk.1.1.2, hk.1.2⟩)))⟩; have n2_ : Aside0 (Kd.R Kd.string 9 w30 w.heap.size (fun k_ => some k_ ≠ (.slice (some ad533) t526.length co26 : Value).ownBlock ∧ some k_ ≠ (.slice Ao22 y529.length co22 : Value).ownBlock) (.slice (some ad537) t534.length co28) t534) := ⟨(by rw [hw]; exact (by (with_reducible repeat (first | apply Kd.R_alloc | apply Kd.R_drewN | apply Kd.R_drew)); exact Kd.R_mono (Kd.R_far (p := ⟨gb532, 2, none⟩) (Kd.R_types HO536.out BK532.out (by decide)) (fun _ hk => hk.2) (.string (rdOf ByteArray.empty t534 (ji13)))) (fun _ hk => ⟨hk.1.1.2, hk.1.2⟩)))⟩; have n3_ : Aside0 (w30.heap[gb525]? = some (.cells #[.slice none 0 0, .string (⟨#[]⟩ : ByteArray), .string (⟨#[]⟩ : ByteArray), .string (⟨#[]⟩ : ByteArray)] 27 (0, 0))) := ⟨(by rw [hw]; exact (by (with_reducible repeat (first | refine blk_drewN ?_ _ | refine blk_drew ?_ | refine blk_alloc ?_ _)); refine blk_far ?_ NB525_532.out _; (with_reducible repeat (first | refine blk_drewN ?_ _ | refine blk_drew ?_ | refine blk_alloc ?_ _)); exact BK525.out))⟩; have n4_ : Aside0 (w30.heap[gb532]? = some (.cells #[.slice Ao22 y529.length co22, .string (⟨#[]⟩ : ByteArray), .string (rdOf ByteArray.empty t534 (ji13)), .string (⟨#[]⟩ : ByteArray)] 27 (0, 0))) := ⟨(by rw [hw]; exact (by (with_reducible repeat (first | refine blk_drewN ?_ _ | refine blk_drew ?_ | refine blk_alloc ?_ _)); refine blk_put (cs := #[.slice Ao22 y529.length co22, .string (⟨#[]⟩ : ByteArray), .string (⟨#[]⟩ : ByteArray), .string (⟨#[]⟩ : ByteArray)]) ?_ 2 _ rfl; (with_reducible repeat (first | refine blk_drewN ?_ _ | refine blk_drew ?_ | refine blk_alloc ?_ _)); exact BK532.out))⟩; have n5_ : Aside0 (Below w.heap.size w w30) := ⟨(by rw [hw]; exact au16)⟩; clear hw; clear HO_4; clear HO531; clear HO536; clear BK525; clear BK532; clear HB; have HO_4 := n0_; have HO531 := n1_; have HO536 := n2_; have BK525 := n3_; have BK532 := n4_; have HB := n5_; clear n0_ n1_ n2_ n3_ n4_ n5_; have q31 : ((ji13) : Int) ≤ ((t534.length : Int) : Int) := of_decide_eq_true au88; obtain ⟨i031, hi031, _, hsz31, _⟩ := info_parts info9; have hroom31 : t534.length ≤ co28 := (Kd.R_reads' HO536.out).2.1; have hC31 : Kd.C Kd.string _ (some ad537) t534.length t534 := (Kd.R_reads' HO536.out).2.2; have hcut31 := cut_to (P := Tryd.prog) 22 9 .i64 Tryd.underlying22 hi031 (some ad537) t534.length co28 (ji13) (of_decide_eq_true au88) q31 hroom31; have hr31 := Kd.C_take (m := ((ji13) : Int).toNat) hC31 (by omega); have hy31 : y538.length = ((ji13) : Int).toNat := (by rw [Ny538.out, List.length_take]; omega); rw [← Ny538.out] at hr31; rw [← hy31] at hcut31; have HR541 := Aside0.mk hr31; have HC541 := Aside0.mk (show y538.length ≤ co28 from by omega); clear hr31 hC31 hroom31 hi031 hsz31; have KY31 := Aside0.mk hy31; clear hy31; have KL31 := Aside0.mk (show ((ji13) : Int).toNat ≤ t534.length from by omega); replace q31 := eq_true q31) | ((with_reducible refine gate_callee (f := 61) rfl ?_); refine goesL_ (some 36) rfl rfl Tryd.func61 (by kernel_rfl) rfl #[.slice (some ad537) y538.length co28, .string (⟨#[32]⟩ : ByteArray)] rfl au38 ?_; (with_reducible refine (strings_Join.calls _ _ y538 (⟨#[32]⟩ : ByteArray) t542 _ ?side1 ?side2 A18.out).mono ?_); (case side1 => repeat (first | exact au20 | (with_reducible refine Kd.C_alloc ?_ _) | (with_reducible refine Kd.C_drewN ?_ _) | (with_reducible refine Kd.C_drew ?_))); (case side2 => exact HC541.out); rintro e w32 ⟨rfl, hb⟩; refine ⟨_, rfl, ?_⟩; have n0_ := Aside0.mk (Kd.R_below au86 hb); have n1_ := Aside0.mk (Kd.R_below au83 hb); have n2_ := Aside0.mk (Kd.R_below (by (with_reducible repeat (first | apply Kd.R_alloc | apply Kd.R_drewN | apply Kd.R_drew)); exact HO536.out) hb); have n3_ := Aside0.mk (blk_below (g := gb525) (o := .cells #[.slice none 0 0, .string (⟨#[]⟩ : ByteArray), .string (⟨#[]⟩ : ByteArray), .string (⟨#[]⟩ : ByteArray)] 27 (0, 0)) au66 hb); have n4_ := Aside0.mk (blk_below (g := gb532) (o := .cells #[.slice Ao22 y529.length co22, .string (⟨#[]⟩ : ByteArray), .string (rdOf ByteArray.empty t534 (ji13)), .string (⟨#[]⟩ : ByteArray)] 27 (0, 0)) au67 hb); have n5_ := Aside0.mk (Kd.C_below au20 hb); have n6_ := Aside0.mk (below_step au16 hb); clear HO_4; clear HO531; clear HO536; clear BK525; clear BK532; clear HR541; clear HB; have HO_4 := n0_; have HO531 := n1_; have HO536 := n2_; have BK525 := n3_; have BK532 := n4_; have HR541 := n5_; have HB := n6_; clear n0_ n1_ n2_ n3_ n4_ n5_ n6_; (try clear hb); (try clear hb2); (try clear hk); (try clear hi); have hcz33_0 : w32.cell? ⟨gb532, 0, none⟩ = some (.slice Ao22 y529.length co22) := (blk_cell BK532.out 0).trans rfl; have hcz33_1 : w32.cell? ⟨gb532, 1, none⟩ = some (.string (⟨#[]⟩ : ByteArray)) := (blk_cell BK532.out 1).trans rfl; have hcz33_2 : w32.cell? ⟨gb532, 2, none⟩ = some (.string (rdOf ByteArray.empty t534 (ji13))) := (blk_cell BK532.out 2).trans rfl; have hcz33_3 : w32.cell? ⟨gb532, 3, none⟩ = some (.string (⟨#[]⟩ : ByteArray)) := (blk_cell BK532.out 3).trans rfl; have hfz33_0 := blk_frozen BK532.out 0; have hfz33_1 := blk_frozen BK532.out 1; have hfz33_2 := blk_frozen BK532.out 2; have hfz33_3 := blk_frozen BK532.out 3))
        (try simp only [Act.put, List.setIfInBounds_toArray, List.set_cons_zero, List.set_cons_succ])
        go_cut [46] (fun v46 wc => ∃ (kq : Nat) (x46_18 : Bool), v46 = .bool x46_18 ∧ Aside0 (impl_ParseInverse.j1 kq a0 t526 x46_18 y529 t542 (rdOf ByteArray.empty t534 (ji13)) (⟨#[]⟩ : ByteArray) = some (r1, r2, r3, r4, r5)) ∧ Aside0 (kq ≤ kj2) ∧ Aside0 (Kd.R Kd.string 9 wc w.heap.size (fun k_ => some k_ ≠ ((.slice Ao22 y529.length co22) : Value).ownBlock) (.slice (some ad533) t526.length co26) t526) ∧ Aside0 (Kd.R Kd.string 9 wc w.heap.size (fun k_ => some k_ ≠ ((.slice (some ad533) t526.length co26) : Value).ownBlock) (.slice Ao22 y529.length co22) y529) ∧ Aside0 (wc.heap[gb525]? = some (.cells #[(.slice none 0 0), .string (⟨#[]⟩ : ByteArray), .string (⟨#[]⟩ : ByteArray), .string (⟨#[]⟩ : ByteArray)] 27 (0, 0))) ∧ Aside0 (wc.heap[gb532]? = some (.cells #[(.slice Ao22 y529.length co22), .string t542, .string (rdOf ByteArray.empty t534 (ji13)), .string (⟨#[]⟩ : ByteArray)] 27 (0, 0))) ∧ Aside0 (Kd.C Kd.string wc (some ad537) y538.length y538) ∧ Aside0 (Below w.heap.size w wc))
        case first =>
         have H := HC19.out
         clear HC19
         by_cases c34 : (t526.length : Int) > 1
         ·
          rw [if_pos c34] at H
          have c34b0 : decide (1 < (t526.length : Int)) = true := decide_eq_true c34
          have c34b1 : decide (1 < t526.length) = true := decide_eq_true (by omega)
          clear c34
          (first | rw [c34b0] | (simp only [i64_w, i32_w]; rw [c34b0]) | skip)
          by_cases c35 : 1 < (t526.length : Int)
          ·
           rw [if_pos c35] at H
           have c35b0 : decide (1 < (t526.length : Int)) = true := decide_eq_true c35
           have c35b1 : decide (1 < t526.length) = true := decide_eq_true (by omega)
           clear c35
           have H' := Aside0.mk H
           clear H
           have p543 : 0 ≤ (1 : Int) := (by omega)
           have q543 : 1 < (t526.length : Int) := of_decide_eq_true au88
           obtain ⟨ad543, e543, hx543_0⟩ := Kd.at_string (Kd.R_reads' HO_4.out).2.2 1 p543 q543
           obtain rfl : ad533 = ad543 := (by injection e543)
           (try simp only [show (1 : Int).toNat = 1 from rfl, Nat.reduceMul, Nat.reduceEqDiff, Go.Addr.add, ↓reduceIte] at hx543_0)
           have qi543 : (1 < t526.length) = True := eq_true (by omega)
           (try rw [show ((1 : Int)).toNat = 1 from rfl] at hx543_0)
           have hn543_0 : ad533.block ≠ gb532 := Kd.own_blk (Kd.R_ne HO_4.out BK532.out (by decide))
           replace hx543_0 := (cell_far (p := ⟨gb532, 1, none⟩) (by first | (rw [add_block]; exact hn543_0) | (show (Addr.add _ _).block ≠ _; rw [add_block]; exact hn543_0) | exact hn543_0) (.string t542)).trans hx543_0
           clear hn543_0
           replace p543 := eq_true p543
           replace q543 := eq_true q543
           exact impl_ParseInverse.L0
          ·
           rw [if_neg c35] at H
           exact absurd H (by simp)
         ·
          rw [if_neg c34] at H
          have c34b0 : decide (1 < (t526.length : Int)) = false := decide_eq_false c34
          have c34b1 : decide (1 < t526.length) = false := decide_eq_false (by omega)
          clear c34
          (first | rw [c34b0] | (simp only [i64_w, i32_w]; rw [c34b0]) | skip)
          have H' := Aside0.mk H
          clear H
          exact impl_ParseInverse.L0
        case rest =>
         clear HC19
         try clear c1
         try clear c2
         try clear p2
         try clear c3
         try clear q3
         try clear p5
         try clear q5
         try clear hx5
         try clear qi5
         try clear c6
         try clear c6b0
         try clear c6b1
         try clear p6
         try clear c9
         try clear c11
         try clear c11b0
         try clear c11b1
         try clear c14
         try clear c14b0
         try clear c15
         try clear c15b0
         try clear c16
         try clear c16b0
         try clear c17
         try clear c17b0
         try clear c17b1
         try clear c24
         try clear c31
         try clear q31
         try clear c34
         try clear c34b0
         try clear c34b1
         try clear c35
         try clear c35b0
         try clear c35b1
         try clear hcz10_0
         try clear hcz10_1
         try clear hcz10_2
         try clear hcz10_3
         try clear hcz25_0
         try clear hcz25_1
         try clear hcz25_2
         try clear hcz25_3
         try clear hcz29_0
         try clear hcz29_1
         try clear hcz29_2
         try clear hcz29_3
         try clear hcz33_0
         try clear hcz33_1
         try clear hcz33_2
         try clear hcz33_3
         try clear hfz10_0
         try clear hfz10_1
         try clear hfz10_2
         try clear hfz10_3
         try clear hfz25_0
         try clear hfz25_1
         try clear hfz25_2
         try clear hfz25_3
         try clear hfz29_0
         try clear hfz29_1
         try clear hfz29_2
         try clear hfz29_3
         try clear hfz33_0
         try clear hfz33_1
         try clear hfz33_2
         try clear hfz33_3
         try clear hx533_0
         try clear hx537_0
         try clear hx543_0
         try clear p2
         try clear p533
         try clear p537
         try clear p543
         try clear q31
         try clear q533
         try clear q537
         try clear q543
         obtain ⟨kq, x46_18, rfl, HA, HJ18, HO_4, HO_533000, BK525, BK532, HR541, HB⟩ := hcut
         cases kq with
         | zero => exact absurd HA.out (by simp [impl_ParseInverse.j1])
         | succ kj18 =>
          have H := HA.out
          clear HA
          simp only [impl_ParseInverse.j1] at H
          have HC36 := Aside0.mk H
          clear H
          go_upto_if 46 with (fail)
          go_cut [] (fun wc => ∃ (kq : Nat) (x533000_35 : List ByteArray) (u533000 : Value), Aside0 (impl_ParseInverse.j2 kq a0 t526 x533000_35 t542 (rdOf ByteArray.empty t534 (ji13)) (⟨#[]⟩ : ByteArray) = some (r1, r2, r3, r4, r5)) ∧ Aside0 (kq ≤ kj18) ∧ Aside0 (Kd.R Kd.string 9 wc w.heap.size (fun k_ => some k_ ≠ (u533000 : Value).ownBlock) (.slice (some ad533) t526.length co26) t526) ∧ Aside0 (Kd.R Kd.string 9 wc w.heap.size (fun k_ => some k_ ≠ ((.slice (some ad533) t526.length co26) : Value).ownBlock) u533000 x533000_35) ∧ Aside0 (wc.heap[gb525]? = some (.cells #[(.slice none 0 0), .string (⟨#[]⟩ : ByteArray), .string (⟨#[]⟩ : ByteArray), .string (⟨#[]⟩ : ByteArray)] 27 (0, 0))) ∧ Aside0 (wc.heap[gb532]? = some (.cells #[u533000, .string t542, .string (rdOf ByteArray.empty t534 (ji13)), .string (⟨#[]⟩ : ByteArray)] 27 (0, 0))) ∧ Aside0 (Below w.heap.size w wc))
          case first =>
           have H := HC36.out
           clear HC36
           by_cases c37 : x46_18 = true
           ·
            subst c37
            replace H := (if_pos rfl).symm.trans H
            by_cases c38 : 1 < (t526.length : Int)
            ·
             rw [if_pos c38] at H
             have c38b0 : decide (1 < (t526.length : Int)) = true := decide_eq_true c38
             have c38b1 : decide (1 < t526.length) = true := decide_eq_true (by omega)
             clear c38
             (first | rw [c38b0] | (simp only [i64_w, i32_w]; rw [c38b0]) | skip)
             replace H := Option.bind_eq_some_iff.mp H
             obtain ⟨t545, A390, H⟩ := H
             try dsimp only at H
             have A39 := Aside0.mk A390
             clear A390
             have H' := Aside0.mk H
             clear H
             have p544 : 0 ≤ (1 : Int) := (by omega)
             have q544 : 1 < (t526.length : Int) := of_decide_eq_true au88
             obtain ⟨ad544, e544, hx544_0⟩ := Kd.at_string (Kd.R_reads' HO_4.out).2.2 1 p544 q544
             obtain rfl : ad533 = ad544 := (by injection e544)
             (try simp only [show (1 : Int).toNat = 1 from rfl, Nat.reduceMul, Nat.reduceEqDiff, Go.Addr.add, ↓reduceIte] at hx544_0)
             have qi544 : (1 < t526.length) = True := eq_true (by omega)
             (try rw [show ((1 : Int)).toNat = 1 from rfl] at hx544_0)
             replace p544 := eq_true p544
             replace q544 := eq_true q544
             exact impl_ParseInverse.L0
            ·
             rw [if_neg c38] at H
             exact absurd H (by simp)
           ·
            replace c37 := Bool.eq_false_iff.mpr c37
            subst c37
            replace H := (if_neg (show ¬ (false = true) by decide)).symm.trans H
            have H' := Aside0.mk H
            clear H
            exact impl_ParseInverse.L0
          case rest =>
           clear HC36
           try clear c1
           try clear c2
           try clear p2
           try clear c3
           try clear q3
           try clear c4
           try clear p5
           try clear q5
           try clear hx5
           try clear qi5
           try clear c6
           try clear c6b0
           try clear c6b1
           try clear p6
           try clear c9
           try clear c11
           try clear c11b0
           try clear c11b1
           try clear c14
           try clear c14b0
           try clear c15
           try clear c15b0
           try clear c16
           try clear c16b0
           try clear c17
           try clear c17b0
           try clear c17b1
           try clear c24
           try clear c31
           try clear q31
           try clear c34
           try clear c34b0
           try clear c34b1
           try clear c35
           try clear c35b0
           try clear c35b1
           try clear c37
           try clear c38
           try clear c38b0
           try clear c38b1
           try clear c42
           try clear hcz10_0
           try clear hcz10_1
           try clear hcz10_2
           try clear hcz10_3
           try clear hcz25_0
           try clear hcz25_1
           try clear hcz25_2
           try clear hcz25_3
           try clear hcz29_0
           try clear hcz29_1
           try clear hcz29_2
           try clear hcz29_3
           try clear hcz33_0
           try clear hcz33_1
           try clear hcz33_2
           try clear hcz33_3
           try clear hcz43_0
           try clear hcz43_1
           try clear hcz43_2
           try clear hcz43_3
           try clear hfz10_0
           try clear hfz10_1
           try clear hfz10_2
           try clear hfz10_3
           try clear hfz25_0
           try clear hfz25_1
           try clear hfz25_2
           try clear hfz25_3
           try clear hfz29_0
           try clear hfz29_1
           try clear hfz29_2
           try clear hfz29_3
           try clear hfz33_0
           try clear hfz33_1
           try clear hfz33_2
           try clear hfz33_3
           try clear hfz43_0
           try clear hfz43_1
           try clear hfz43_2
           try clear hfz43_3
           try clear hx533_0
           try clear hx537_0
           try clear hx543_0
           try clear hx544_0
           try clear p2
           try clear p5
           try clear p533
           try clear p537
           try clear p543
           try clear p544
           try clear p6
           try clear q3
           try clear q31
           try clear q5
           try clear q533
           try clear q537
           try clear q543
           try clear q544
           obtain ⟨kq, x533000_35, u533000, HA, HJ35, HO_4, HO_533000, BK525, BK532, HB⟩ := hcut
           cases kq with
           | zero => exact absurd HA.out (by simp [impl_ParseInverse.j2])
           | succ kj35 =>
            have H := HA.out
            clear HA
            simp only [impl_ParseInverse.j2] at H
            have HC44 := Aside0.mk H
            clear H
            go_upto_if 54 with (fail)
            go_cut [] (fun wc => ∃ (kq : Nat) (x533003_43 : ByteArray), Aside0 (impl_ParseInverse.j3 kq a0 x533000_35 t542 (rdOf ByteArray.empty t534 (ji13)) x533003_43 = some (r1, r2, r3, r4, r5)) ∧ Aside0 (kq ≤ kj35) ∧ Aside0 (Kd.R Kd.string 9 wc w.heap.size (fun _ => True) u533000 x533000_35) ∧ Aside0 (wc.heap[gb525]? = some (.cells #[(.slice none 0 0), .string (⟨#[]⟩ : ByteArray), .string (⟨#[]⟩ : ByteArray), .string (⟨#[]⟩ : ByteArray)] 27 (0, 0))) ∧ Aside0 (wc.heap[gb532]? = some (.cells #[u533000, .string t542, .string (rdOf ByteArray.empty t534 (ji13)), .string x533003_43] 27 (0, 0))) ∧ Aside0 (Below w.heap.size w wc))
            case first =>
             have H := HC44.out
             clear HC44
             by_cases c45 : (t526.length : Int) > 2
             ·
              rw [if_pos c45] at H
              have c45b0 : decide (2 < (t526.length : Int)) = true := decide_eq_true c45
              have c45b1 : decide (2 < t526.length) = true := decide_eq_true (by omega)
              clear c45
              (first | rw [c45b0] | (simp only [i64_w, i32_w]; rw [c45b0]) | skip)
              by_cases c46 : 2 < (t526.length : Int)
              ·
               rw [if_pos c46] at H
               have c46b0 : decide (2 < (t526.length : Int)) = true := decide_eq_true c46
               have c46b1 : decide (2 < t526.length) = true := decide_eq_true (by omega)
               clear c46
               have H' := Aside0.mk H
               clear H
               have p548 : 0 ≤ (2 : Int) := (by omega)
               have q548 : 2 < (t526.length : Int) := of_decide_eq_true au88
               obtain ⟨ad548, e548, hx548_0⟩ := Kd.at_string (Kd.R_reads' HO_4.out).2.2 2 p548 q548
               obtain rfl : ad533 = ad548 := (by injection e548)
               (try simp only [show (2 : Int).toNat = 2 from rfl, Nat.reduceMul, Nat.reduceEqDiff, Go.Addr.add, ↓reduceIte] at hx548_0)
               have qi548 : (2 < t526.length) = True := eq_true (by omega)
               (try rw [show ((2 : Int)).toNat = 2 from rfl] at hx548_0)
               replace p548 := eq_true p548
               replace q548 := eq_true q548
               have hnb47 := NB532_525.out
               have hnc47 := NB525_532.out
               have hcz48_0 : wc.cell? ⟨gb532, 0, none⟩ = some (u533000) := (blk_cell BK532.out 0).trans rfl
               have hcz48_1 : wc.cell? ⟨gb532, 1, none⟩ = some (.string t542) := (blk_cell BK532.out 1).trans rfl
               have hcz48_2 : wc.cell? ⟨gb532, 2, none⟩ = some (.string (rdOf ByteArray.empty t534 (ji13))) := (blk_cell BK532.out 2).trans rfl
               have hcz48_3 : wc.cell? ⟨gb532, 3, none⟩ = some (.string (⟨#[]⟩ : ByteArray)) := (blk_cell BK532.out 3).trans rfl
               have hfz48_0 := blk_frozen BK532.out 0
               have hfz48_1 := blk_frozen BK532.out 1
               have hfz48_2 := blk_frozen BK532.out 2
               have hfz48_3 := blk_frozen BK532.out 3
               go_wp2
               go_meet
               case rel => exact ⟨_, (rdOf ByteArray.empty t526 2), H', ⟨by have := HJ2.out; have := HJ18.out; have := HJ35.out; first | omega | exact Nat.le_refl _⟩, ⟨by (with_reducible repeat (first | apply Kd.R_alloc | apply Kd.R_drewN | apply Kd.R_drew)); exact Kd.R_mono (Kd.R_far (p := ⟨gb532, 3, none⟩) (Kd.R_types HO_533000.out BK532.out (by decide)) (fun _ hk => hk.2) (.string (rdOf ByteArray.empty t526 2))) (fun _ hk => trivial)⟩, ⟨by (with_reducible repeat (first | refine blk_drewN ?_ _ | refine blk_drew ?_ | refine blk_alloc ?_ _)); refine blk_far ?_ NB525_532.out _; (with_reducible repeat (first | refine blk_drewN ?_ _ | refine blk_drew ?_ | refine blk_alloc ?_ _)); exact BK525.out⟩, ⟨by (with_reducible repeat (first | refine blk_drewN ?_ _ | refine blk_drew ?_ | refine blk_alloc ?_ _)); refine blk_put (cs := #[u533000, .string t542, .string (rdOf ByteArray.empty t534 (ji13)), .string (⟨#[]⟩ : ByteArray)]) ?_ 3 _ rfl; (with_reducible repeat (first | refine blk_drewN ?_ _ | refine blk_drew ?_ | refine blk_alloc ?_ _)); exact BK532.out⟩, ⟨by repeat (first | (with_reducible first | exact HB.out | apply below_alloc | apply pw_below_drewN | apply below_drew1 | refine below_set ?_ GE525.out | refine below_set ?_ GE532.out) | exact HB.out)⟩⟩
              ·
               rw [if_neg c46] at H
               exact absurd H (by simp)
             ·
              rw [if_neg c45] at H
              have c45b0 : decide (2 < (t526.length : Int)) = false := decide_eq_false c45
              have c45b1 : decide (2 < t526.length) = false := decide_eq_false (by omega)
              clear c45
              (first | rw [c45b0] | (simp only [i64_w, i32_w]; rw [c45b0]) | skip)
              have H' := Aside0.mk H
              clear H
              exact impl_ParseInverse.L0
            case rest =>
             clear HC44
             try clear c1
             try clear c2
             try clear p2
             try clear c3
             try clear q3
             try clear c4
             try clear p5
             try clear q5
             try clear hx5
             try clear qi5
             try clear c6
             try clear c6b0
             try clear c6b1
             try clear p6
             try clear c9
             try clear c11
             try clear c11b0
             try clear c11b1
             try clear c14
             try clear c14b0
             try clear c15
             try clear c15b0
             try clear c16
             try clear c16b0
             try clear c17
             try clear c17b0
             try clear c17b1
             try clear c24
             try clear c31
             try clear q31
             try clear c34
             try clear c34b0
             try clear c34b1
             try clear c35
             try clear c35b0
             try clear c35b1
             try clear c37
             try clear c38
             try clear c38b0
             try clear c38b1
             try clear c42
             try clear c45
             try clear c45b0
             try clear c45b1
             try clear c46
             try clear c46b0
             try clear c46b1
             try clear c47
             try clear hcz10_0
             try clear hcz10_1
             try clear hcz10_2
             try clear hcz10_3
             try clear hcz25_0
             try clear hcz25_1
             try clear hcz25_2
             try clear hcz25_3
             try clear hcz29_0
             try clear hcz29_1
             try clear hcz29_2
             try clear hcz29_3
             try clear hcz33_0
             try clear hcz33_1
             try clear hcz33_2
             try clear hcz33_3
             try clear hcz43_0
             try clear hcz43_1
             try clear hcz43_2
             try clear hcz43_3
             try clear hcz48_0
             try clear hcz48_1
             try clear hcz48_2
             try clear hcz48_3
             try clear hfz10_0
             try clear hfz10_1
             try clear hfz10_2
             try clear hfz10_3
             try clear hfz25_0
             try clear hfz25_1
             try clear hfz25_2
             try clear hfz25_3
             try clear hfz29_0
             try clear hfz29_1
             try clear hfz29_2
             try clear hfz29_3
             try clear hfz33_0
             try clear hfz33_1
             try clear hfz33_2
             try clear hfz33_3
             try clear hfz43_0
             try clear hfz43_1
             try clear hfz43_2
             try clear hfz43_3
             try clear hfz48_0
             try clear hfz48_1
             try clear hfz48_2
             try clear hfz48_3
             try clear hx533_0
             try clear hx537_0
             try clear hx543_0
             try clear hx544_0
             try clear hx548_0
             try clear p2
             try clear p5
             try clear p533
             try clear p537
             try clear p543
             try clear p544
             try clear p548
             try clear p6
             try clear q3
             try clear q31
             try clear q5
             try clear q533
             try clear q537
             try clear q543
             try clear q544
             try clear q548
             obtain ⟨kq, x533003_43, HA, HJ43, HO_533000, BK525, BK532, HB⟩ := hcut
             cases kq with
             | zero => exact absurd HA.out (by simp [impl_ParseInverse.j3])
             | succ kj43 =>
              have H := HA.out
              clear HA
              simp only [impl_ParseInverse.j3] at H
              replace H := Option.bind_eq_some_iff.mp H
              obtain ⟨t549, A490, H⟩ := H
              try dsimp only at H
              have A49 := Aside0.mk A490
              clear A490
              by_cases c50 : t549 = true
              ·
               subst c50
               replace H := (if_pos rfl).symm.trans H
               replace H := Option.bind_eq_some_iff.mp H
               obtain ⟨t550, A510, H⟩ := H
               try dsimp only at H
               have A51 := Aside0.mk A510
               clear A510
               by_cases c52 : t550.toList = a0.toList
               ·
                rw [if_pos c52] at H
                have c52b0 : (t550.toList == a0.toList) = true := beq_iff_eq.mpr c52
                have c52b1 : (t550.toList != a0.toList) = false := bne_eq_false_iff_eq.mpr c52
                clear c52
                simp only [Option.some.injEq, Prod.mk.injEq] at H
                obtain ⟨rfl, rfl, rfl, rfl, rfl⟩ := H
                have hnb53 := NB532_525.out
                have hnc53 := NB525_532.out
                have hcz54_0 : wc.cell? ⟨gb532, 0, none⟩ = some (u533000) := (blk_cell BK532.out 0).trans rfl
                have hcz54_1 : wc.cell? ⟨gb532, 1, none⟩ = some (.string t542) := (blk_cell BK532.out 1).trans rfl
                have hcz54_2 : wc.cell? ⟨gb532, 2, none⟩ = some (.string (rdOf ByteArray.empty t534 (ji13))) := (blk_cell BK532.out 2).trans rfl
                have hcz54_3 : wc.cell? ⟨gb532, 3, none⟩ = some (.string x533003_43) := (blk_cell BK532.out 3).trans rfl
                have hfz54_0 := blk_frozen BK532.out 0
                have hfz54_1 := blk_frozen BK532.out 1
                have hfz54_2 := blk_frozen BK532.out 2
                have hfz54_3 := blk_frozen BK532.out 3
                obtain ⟨Ao55, co55, eo55⟩ := Kd.R_slice HO_533000.out
                subst eo55
                go_wp2_with (first | ((with_reducible refine gate_callee (f := 15) rfl ?_); refine goesL_ (some 60) rfl rfl Tryd.func15 (by kernel_rfl) rfl #[.agg #[.slice Ao55 x533000_35.length co55, .string t542, .string (rdOf ByteArray.empty t534 (ji13)), .string x533003_43]] rfl au21 ?_; (with_reducible refine (impl_IsValidName.calls (hG := au9) kj43 _ _ x533000_35 t542 (rdOf ByteArray.empty t534 (ji13)) x533003_43 _ _ ?side1 ?side2 A49.out).mono ?_); (case side1 => repeat (first | exact (Kd.R_reads' HO_533000.out).2.2 | (with_reducible refine Kd.C_alloc ?_ _) | (with_reducible refine Kd.C_drewN ?_ _) | (with_reducible refine Kd.C_drew ?_))); (case side2 => exact (Kd.R_reads' HO_533000.out).2.1); rintro e w56 ⟨rfl, hb⟩; refine ⟨_, rfl, ?_⟩; have n0_ := Aside0.mk (Kd.R_below au78 hb); have n1_ := Aside0.mk (blk_below (g := gb525) (o := .cells #[.slice none 0 0, .string (⟨#[]⟩ : ByteArray), .string (⟨#[]⟩ : ByteArray), .string (⟨#[]⟩ : ByteArray)] 27 (0, 0)) au66 hb); have n2_ := Aside0.mk (blk_below (g := gb532) (o := .cells #[.slice Ao55 x533000_35.length co55, .string t542, .string (rdOf ByteArray.empty t534 (ji13)), .string x533003_43] 27 (0, 0)) au67 hb); have n3_ := Aside0.mk (below_step au16 hb); clear HO_533000; clear BK525; clear BK532; clear HB; have HO_533000 := n0_; have BK525 := n1_; have BK532 := n2_; have HB := n3_; clear n0_ n1_ n2_ n3_; (try clear hb); (try clear hb2); (try clear hk); (try clear hi); have hcz57_0 : w56.cell? ⟨gb532, 0, none⟩ = some (.slice Ao55 x533000_35.length co55) := (blk_cell BK532.out 0).trans rfl; have hcz57_1 : w56.cell? ⟨gb532, 1, none⟩ = some (.string t542) := (blk_cell BK532.out 1).trans rfl; have hcz57_2 : w56.cell? ⟨gb532, 2, none⟩ = some (.string (rdOf ByteArray.empty t534 (ji13))) := (blk_cell BK532.out 2).trans rfl; have hcz57_3 : w56.cell? ⟨gb532, 3, none⟩ = some (.string x533003_43) := (blk_cell BK532.out 3).trans rfl; have hfz57_0 := blk_frozen BK532.out 0; have hfz57_1 := blk_frozen BK532.out 1; have hfz57_2 := blk_frozen BK532.out 2; have hfz57_3 := blk_frozen BK532.out 3) | (go_at_call 58; (with_reducible refine (impl_inverseForm.calls kj43 _ _ x533000_35 t542 (rdOf ByteArray.empty t534 (ji13)) x533003_43 t550 _ ?side1 ?side2 A51.out).mono ?_); (case side1 => repeat (first | exact (Kd.R_reads' HO_533000.out).2.2 | (with_reducible refine Kd.C_alloc ?_ _) | (with_reducible refine Kd.C_drewN ?_ _) | (with_reducible refine Kd.C_drew ?_))); (case side2 => exact (Kd.R_reads' HO_533000.out).2.1); rintro e w58 ⟨rfl, hb⟩; have n0_ := Aside0.mk (Kd.R_below au78 hb); have n1_ := Aside0.mk (blk_below (g := gb525) (o := .cells #[.slice none 0 0, .string (⟨#[]⟩ : ByteArray), .string (⟨#[]⟩ : ByteArray), .string (⟨#[]⟩ : ByteArray)] 27 (0, 0)) au66 hb); have n2_ := Aside0.mk (blk_below (g := gb532) (o := .cells #[.slice Ao55 x533000_35.length co55, .string t542, .string (rdOf ByteArray.empty t534 (ji13)), .string x533003_43] 27 (0, 0)) au67 hb); have n3_ := Aside0.mk (below_step au16 hb); clear HO_533000; clear BK525; clear BK532; clear HB; have HO_533000 := n0_; have BK525 := n1_; have BK532 := n2_; have HB := n3_; clear n0_ n1_ n2_ n3_; (try clear hb); (try clear hb2); (try clear hk); (try clear hi); have hcz59_0 : w58.cell? ⟨gb532, 0, none⟩ = some (.slice Ao55 x533000_35.length co55) := (blk_cell BK532.out 0).trans rfl; have hcz59_1 : w58.cell? ⟨gb532, 1, none⟩ = some (.string t542) := (blk_cell BK532.out 1).trans rfl; have hcz59_2 : w58.cell? ⟨gb532, 2, none⟩ = some (.string (rdOf ByteArray.empty t534 (ji13))) := (blk_cell BK532.out 2).trans rfl; have hcz59_3 : w58.cell? ⟨gb532, 3, none⟩ = some (.string x533003_43) := (blk_cell BK532.out 3).trans rfl; have hfz59_0 := blk_frozen BK532.out 0; have hfz59_1 := blk_frozen BK532.out 1; have hfz59_2 := blk_frozen BK532.out 2; have hfz59_3 := blk_frozen BK532.out 3; have hcz60_0 : w58.cell? ⟨gb525, 0, none⟩ = some (.slice none 0 0) := (blk_cell BK525.out 0).trans rfl; have hcz60_1 : w58.cell? ⟨gb525, 1, none⟩ = some (.string (⟨#[]⟩ : ByteArray)) := (blk_cell BK525.out 1).trans rfl; have hcz60_2 : w58.cell? ⟨gb525, 2, none⟩ = some (.string (⟨#[]⟩ : ByteArray)) := (blk_cell BK525.out 2).trans rfl; have hcz60_3 : w58.cell? ⟨gb525, 3, none⟩ = some (.string (⟨#[]⟩ : ByteArray)) := (blk_cell BK525.out 3).trans rfl; have hfz60_0 := blk_frozen BK525.out 0; have hfz60_1 := blk_frozen BK525.out 1; have hfz60_2 := blk_frozen BK525.out 2; have hfz60_3 := blk_frozen BK525.out 3))
                refine bodyPost_ret (results_ct rfl _ _ gb525 27 #[.slice Ao55 x533000_35.length co55, .string t542, .string (rdOf ByteArray.empty t534 (ji13)), .string x533003_43] (0, 0) _ rfl (by (with_reducible repeat (first | refine blk_drewN ?_ _ | refine blk_drew ?_ | refine blk_alloc ?_ _)); refine blk_put (cs := #[.slice Ao55 x533000_35.length co55, .string t542, .string (rdOf ByteArray.empty t534 (ji13)), .string (⟨#[]⟩ : ByteArray)]) ?_ 3 _ rfl; (with_reducible repeat (first | refine blk_drewN ?_ _ | refine blk_drew ?_ | refine blk_alloc ?_ _)); refine blk_put (cs := #[.slice Ao55 x533000_35.length co55, .string t542, .string (⟨#[]⟩ : ByteArray), .string (⟨#[]⟩ : ByteArray)]) ?_ 2 _ rfl; (with_reducible repeat (first | refine blk_drewN ?_ _ | refine blk_drew ?_ | refine blk_alloc ?_ _)); refine blk_put (cs := #[.slice Ao55 x533000_35.length co55, .string (⟨#[]⟩ : ByteArray), .string (⟨#[]⟩ : ByteArray), .string (⟨#[]⟩ : ByteArray)]) ?_ 1 _ rfl; (with_reducible repeat (first | refine blk_drewN ?_ _ | refine blk_drew ?_ | refine blk_alloc ?_ _)); refine blk_put (cs := #[.slice none 0 0, .string (⟨#[]⟩ : ByteArray), .string (⟨#[]⟩ : ByteArray), .string (⟨#[]⟩ : ByteArray)]) ?_ 0 _ rfl; (with_reducible repeat (first | refine blk_drewN ?_ _ | refine blk_drew ?_ | refine blk_alloc ?_ _)); exact BK525.out) Tryd.underlying27 rfl (by kernel_rfl)) rfl ?_
                exact ⟨_, by first | rfl | (simp [errW_none, errW_some] <;> rfl) | (simp only [← hji13]; first | rfl | (simp [errW_none, errW_some] <;> rfl)) | (simp [*, errW_none, errW_some] <;> rfl), by (with_reducible repeat (first | apply Kd.R_alloc | apply Kd.R_drewN | apply Kd.R_drew)); exact Kd.R_mono (Kd.R_far (p := ⟨gb525, 3, none⟩) (Kd.R_far (p := ⟨gb525, 2, none⟩) (Kd.R_far (p := ⟨gb525, 1, none⟩) (Kd.R_far (p := ⟨gb525, 0, none⟩) (Kd.R_types HO_533000.out BK525.out (by decide)) (fun _ hk => hk.2) (.slice Ao55 x533000_35.length co55)) (fun _ hk => hk.2) (.string t542)) (fun _ hk => hk.2) (.string (rdOf ByteArray.empty t534 (ji13)))) (fun _ hk => hk.2) (.string x533003_43)) (fun _ hk => trivial), by repeat (first | (with_reducible first | exact HB.out | apply below_alloc | apply pw_below_drewN | apply below_drew1 | refine below_set ?_ GE525.out | refine below_set ?_ GE532.out) | exact HB.out)⟩
               ·
                rw [if_neg c52] at H
                have c52b0 : (t550.toList == a0.toList) = false := beq_eq_false_iff_ne.mpr c52
                have c52b1 : (t550.toList != a0.toList) = true := bne_iff_ne.mpr c52
                simp only [Option.some.injEq, Prod.mk.injEq] at H
                obtain ⟨rfl, rfl, rfl, rfl, rfl⟩ := H
                have hnb61 := NB532_525.out
                have hnc61 := NB525_532.out
                have hcz62_0 : wc.cell? ⟨gb532, 0, none⟩ = some (u533000) := (blk_cell BK532.out 0).trans rfl
                have hcz62_1 : wc.cell? ⟨gb532, 1, none⟩ = some (.string t542) := (blk_cell BK532.out 1).trans rfl
                have hcz62_2 : wc.cell? ⟨gb532, 2, none⟩ = some (.string (rdOf ByteArray.empty t534 (ji13))) := (blk_cell BK532.out 2).trans rfl
                have hcz62_3 : wc.cell? ⟨gb532, 3, none⟩ = some (.string x533003_43) := (blk_cell BK532.out 3).trans rfl
                have hfz62_0 := blk_frozen BK532.out 0
                have hfz62_1 := blk_frozen BK532.out 1
                have hfz62_2 := blk_frozen BK532.out 2
                have hfz62_3 := blk_frozen BK532.out 3
                obtain ⟨Ao63, co63, eo63⟩ := Kd.R_slice HO_533000.out
                subst eo63
                go_wp2_with (first | ((with_reducible refine gate_callee (f := 15) rfl ?_); refine goesL_ (some 60) rfl rfl Tryd.func15 (by kernel_rfl) rfl #[.agg #[.slice Ao63 x533000_35.length co63, .string t542, .string (rdOf ByteArray.empty t534 (ji13)), .string x533003_43]] rfl au21 ?_; (with_reducible refine (impl_IsValidName.calls (hG := au9) kj43 _ _ x533000_35 t542 (rdOf ByteArray.empty t534 (ji13)) x533003_43 _ _ ?side1 ?side2 A49.out).mono ?_); (case side1 => repeat (first | exact (Kd.R_reads' HO_533000.out).2.2 | (with_reducible refine Kd.C_alloc ?_ _) | (with_reducible refine Kd.C_drewN ?_ _) | (with_reducible refine Kd.C_drew ?_))); (case side2 => exact (Kd.R_reads' HO_533000.out).2.1); rintro e w64 ⟨rfl, hb⟩; refine ⟨_, rfl, ?_⟩; have n0_ := Aside0.mk (Kd.R_below au78 hb); have n1_ := Aside0.mk (blk_below (g := gb525) (o := .cells #[.slice none 0 0, .string (⟨#[]⟩ : ByteArray), .string (⟨#[]⟩ : ByteArray), .string (⟨#[]⟩ : ByteArray)] 27 (0, 0)) au66 hb); have n2_ := Aside0.mk (blk_below (g := gb532) (o := .cells #[.slice Ao63 x533000_35.length co63, .string t542, .string (rdOf ByteArray.empty t534 (ji13)), .string x533003_43] 27 (0, 0)) au67 hb); have n3_ := Aside0.mk (below_step au16 hb); clear HO_533000; clear BK525; clear BK532; clear HB; have HO_533000 := n0_; have BK525 := n1_; have BK532 := n2_; have HB := n3_; clear n0_ n1_ n2_ n3_; (try clear hb); (try clear hb2); (try clear hk); (try clear hi); have hcz65_0 : w64.cell? ⟨gb532, 0, none⟩ = some (.slice Ao63 x533000_35.length co63) := (blk_cell BK532.out 0).trans rfl; have hcz65_1 : w64.cell? ⟨gb532, 1, none⟩ = some (.string t542) := (blk_cell BK532.out 1).trans rfl; have hcz65_2 : w64.cell? ⟨gb532, 2, none⟩ = some (.string (rdOf ByteArray.empty t534 (ji13))) := (blk_cell BK532.out 2).trans rfl; have hcz65_3 : w64.cell? ⟨gb532, 3, none⟩ = some (.string x533003_43) := (blk_cell BK532.out 3).trans rfl; have hfz65_0 := blk_frozen BK532.out 0; have hfz65_1 := blk_frozen BK532.out 1; have hfz65_2 := blk_frozen BK532.out 2; have hfz65_3 := blk_frozen BK532.out 3) | (go_at_call 58; (with_reducible refine (impl_inverseForm.calls kj43 _ _ x533000_35 t542 (rdOf ByteArray.empty t534 (ji13)) x533003_43 t550 _ ?side1 ?side2 A51.out).mono ?_); (case side1 => repeat (first | exact (Kd.R_reads' HO_533000.out).2.2 | (with_reducible refine Kd.C_alloc ?_ _) | (with_reducible refine Kd.C_drewN ?_ _) | (with_reducible refine Kd.C_drew ?_))); (case side2 => exact (Kd.R_reads' HO_533000.out).2.1); rintro e w66 ⟨rfl, hb⟩; have n0_ := Aside0.mk (Kd.R_below au78 hb); have n1_ := Aside0.mk (blk_below (g := gb525) (o := .cells #[.slice none 0 0, .string (⟨#[]⟩ : ByteArray), .string (⟨#[]⟩ : ByteArray), .string (⟨#[]⟩ : ByteArray)] 27 (0, 0)) au66 hb); have n2_ := Aside0.mk (blk_below (g := gb532) (o := .cells #[.slice Ao63 x533000_35.length co63, .string t542, .string (rdOf ByteArray.empty t534 (ji13)), .string x533003_43] 27 (0, 0)) au67 hb); have n3_ := Aside0.mk (below_step au16 hb); clear HO_533000; clear BK525; clear BK532; clear HB; have HO_533000 := n0_; have BK525 := n1_; have BK532 := n2_; have HB := n3_; clear n0_ n1_ n2_ n3_; (try clear hb); (try clear hb2); (try clear hk); (try clear hi); have hcz67_0 : w66.cell? ⟨gb525, 0, none⟩ = some (.slice none 0 0) := (blk_cell BK525.out 0).trans rfl; have hcz67_1 : w66.cell? ⟨gb525, 1, none⟩ = some (.string (⟨#[]⟩ : ByteArray)) := (blk_cell BK525.out 1).trans rfl; have hcz67_2 : w66.cell? ⟨gb525, 2, none⟩ = some (.string (⟨#[]⟩ : ByteArray)) := (blk_cell BK525.out 2).trans rfl; have hcz67_3 : w66.cell? ⟨gb525, 3, none⟩ = some (.string (⟨#[]⟩ : ByteArray)) := (blk_cell BK525.out 3).trans rfl; have hfz67_0 := blk_frozen BK525.out 0; have hfz67_1 := blk_frozen BK525.out 1; have hfz67_2 := blk_frozen BK525.out 2; have hfz67_3 := blk_frozen BK525.out 3))
                refine bodyPost_ret (results_ct rfl _ _ gb525 27 #[.slice none 0 0, .string (⟨#[]⟩ : ByteArray), .string (⟨#[]⟩ : ByteArray), .string (⟨#[]⟩ : ByteArray)] (0, 0) _ rfl (by (with_reducible repeat (first | refine blk_drewN ?_ _ | refine blk_drew ?_ | refine blk_alloc ?_ _)); refine blk_put (cs := #[.slice none 0 0, .string (⟨#[]⟩ : ByteArray), .string (⟨#[]⟩ : ByteArray), .string (⟨#[]⟩ : ByteArray)]) ?_ 3 _ rfl; (with_reducible repeat (first | refine blk_drewN ?_ _ | refine blk_drew ?_ | refine blk_alloc ?_ _)); refine blk_put (cs := #[.slice none 0 0, .string (⟨#[]⟩ : ByteArray), .string (⟨#[]⟩ : ByteArray), .string (⟨#[]⟩ : ByteArray)]) ?_ 2 _ rfl; (with_reducible repeat (first | refine blk_drewN ?_ _ | refine blk_drew ?_ | refine blk_alloc ?_ _)); refine blk_put (cs := #[.slice none 0 0, .string (⟨#[]⟩ : ByteArray), .string (⟨#[]⟩ : ByteArray), .string (⟨#[]⟩ : ByteArray)]) ?_ 1 _ rfl; (with_reducible repeat (first | refine blk_drewN ?_ _ | refine blk_drew ?_ | refine blk_alloc ?_ _)); refine blk_put (cs := #[.slice none 0 0, .string (⟨#[]⟩ : ByteArray), .string (⟨#[]⟩ : ByteArray), .string (⟨#[]⟩ : ByteArray)]) ?_ 0 _ rfl; (with_reducible repeat (first | refine blk_drewN ?_ _ | refine blk_drew ?_ | refine blk_alloc ?_ _)); exact BK525.out) Tryd.underlying27 rfl (by kernel_rfl)) rfl ?_
                exact ⟨_, by first | rfl | (simp [errW_none, errW_some] <;> rfl) | (simp only [← hji13]; first | rfl | (simp [errW_none, errW_some] <;> rfl)) | (simp [*, errW_none, errW_some] <;> rfl), by first | exact Kd.R_nil _ _ _ _ _ | exact Kd.N_nil _ _ _ _ _ | exact Kd.V_nil _ _ _ _ _ | exact Kd.Q_nil _ _ _ _ _ | exact Kd.S_nil _ _ _ _ _, by repeat (first | (with_reducible first | exact HB.out | apply below_alloc | apply pw_below_drewN | apply below_drew1 | refine below_set ?_ GE525.out | refine below_set ?_ GE532.out) | exact HB.out)⟩
              ·
               replace c50 := Bool.eq_false_iff.mpr c50
               subst c50
               replace H := (if_neg (show ¬ (false = true) by decide)).symm.trans H
               simp only [Option.some.injEq, Prod.mk.injEq] at H
               obtain ⟨rfl, rfl, rfl, rfl, rfl⟩ := H
               have hnb68 := NB532_525.out
               have hnc68 := NB525_532.out
               have hcz69_0 : wc.cell? ⟨gb532, 0, none⟩ = some (u533000) := (blk_cell BK532.out 0).trans rfl
               have hcz69_1 : wc.cell? ⟨gb532, 1, none⟩ = some (.string t542) := (blk_cell BK532.out 1).trans rfl
               have hcz69_2 : wc.cell? ⟨gb532, 2, none⟩ = some (.string (rdOf ByteArray.empty t534 (ji13))) := (blk_cell BK532.out 2).trans rfl
               have hcz69_3 : wc.cell? ⟨gb532, 3, none⟩ = some (.string x533003_43) := (blk_cell BK532.out 3).trans rfl
               have hfz69_0 := blk_frozen BK532.out 0
               have hfz69_1 := blk_frozen BK532.out 1
               have hfz69_2 := blk_frozen BK532.out 2
               have hfz69_3 := blk_frozen BK532.out 3
               obtain ⟨Ao70, co70, eo70⟩ := Kd.R_slice HO_533000.out
               subst eo70
               go_wp2_with (first | ((with_reducible refine gate_callee (f := 15) rfl ?_); refine goesL_ (some 60) rfl rfl Tryd.func15 (by kernel_rfl) rfl #[.agg #[.slice Ao70 x533000_35.length co70, .string t542, .string (rdOf ByteArray.empty t534 (ji13)), .string x533003_43]] rfl au21 ?_; (with_reducible refine (impl_IsValidName.calls (hG := au9) kj43 _ _ x533000_35 t542 (rdOf ByteArray.empty t534 (ji13)) x533003_43 _ _ ?side1 ?side2 A49.out).mono ?_); (case side1 => repeat (first | exact (Kd.R_reads' HO_533000.out).2.2 | (with_reducible refine Kd.C_alloc ?_ _) | (with_reducible refine Kd.C_drewN ?_ _) | (with_reducible refine Kd.C_drew ?_))); (case side2 => exact (Kd.R_reads' HO_533000.out).2.1); rintro e w71 ⟨rfl, hb⟩; refine ⟨_, rfl, ?_⟩; have n0_ := Aside0.mk (Kd.R_below au78 hb); have n1_ := Aside0.mk (blk_below (g := gb525) (o := .cells #[.slice none 0 0, .string (⟨#[]⟩ : ByteArray), .string (⟨#[]⟩ : ByteArray), .string (⟨#[]⟩ : ByteArray)] 27 (0, 0)) au66 hb); have n2_ := Aside0.mk (blk_below (g := gb532) (o := .cells #[.slice Ao70 x533000_35.length co70, .string t542, .string (rdOf ByteArray.empty t534 (ji13)), .string x533003_43] 27 (0, 0)) au67 hb); have n3_ := Aside0.mk (below_step au16 hb); clear HO_533000; clear BK525; clear BK532; clear HB; have HO_533000 := n0_; have BK525 := n1_; have BK532 := n2_; have HB := n3_; clear n0_ n1_ n2_ n3_; (try clear hb); (try clear hb2); (try clear hk); (try clear hi); have hcz72_0 : w71.cell? ⟨gb525, 0, none⟩ = some (.slice none 0 0) := (blk_cell BK525.out 0).trans rfl; have hcz72_1 : w71.cell? ⟨gb525, 1, none⟩ = some (.string (⟨#[]⟩ : ByteArray)) := (blk_cell BK525.out 1).trans rfl; have hcz72_2 : w71.cell? ⟨gb525, 2, none⟩ = some (.string (⟨#[]⟩ : ByteArray)) := (blk_cell BK525.out 2).trans rfl; have hcz72_3 : w71.cell? ⟨gb525, 3, none⟩ = some (.string (⟨#[]⟩ : ByteArray)) := (blk_cell BK525.out 3).trans rfl; have hfz72_0 := blk_frozen BK525.out 0; have hfz72_1 := blk_frozen BK525.out 1; have hfz72_2 := blk_frozen BK525.out 2; have hfz72_3 := blk_frozen BK525.out 3))
               refine bodyPost_ret (results_ct rfl _ _ gb525 27 #[.slice none 0 0, .string (⟨#[]⟩ : ByteArray), .string (⟨#[]⟩ : ByteArray), .string (⟨#[]⟩ : ByteArray)] (0, 0) _ rfl (by (with_reducible repeat (first | refine blk_drewN ?_ _ | refine blk_drew ?_ | refine blk_alloc ?_ _)); refine blk_put (cs := #[.slice none 0 0, .string (⟨#[]⟩ : ByteArray), .string (⟨#[]⟩ : ByteArray), .string (⟨#[]⟩ : ByteArray)]) ?_ 3 _ rfl; (with_reducible repeat (first | refine blk_drewN ?_ _ | refine blk_drew ?_ | refine blk_alloc ?_ _)); refine blk_put (cs := #[.slice none 0 0, .string (⟨#[]⟩ : ByteArray), .string (⟨#[]⟩ : ByteArray), .string (⟨#[]⟩ : ByteArray)]) ?_ 2 _ rfl; (with_reducible repeat (first | refine blk_drewN ?_ _ | refine blk_drew ?_ | refine blk_alloc ?_ _)); refine blk_put (cs := #[.slice none 0 0, .string (⟨#[]⟩ : ByteArray), .string (⟨#[]⟩ : ByteArray), .string (⟨#[]⟩ : ByteArray)]) ?_ 1 _ rfl; (with_reducible repeat (first | refine blk_drewN ?_ _ | refine blk_drew ?_ | refine blk_alloc ?_ _)); refine blk_put (cs := #[.slice none 0 0, .string (⟨#[]⟩ : ByteArray), .string (⟨#[]⟩ : ByteArray), .string (⟨#[]⟩ : ByteArray)]) ?_ 0 _ rfl; (with_reducible repeat (first | refine blk_drewN ?_ _ | refine blk_drew ?_ | refine blk_alloc ?_ _)); exact BK525.out) Tryd.underlying27 rfl (by kernel_rfl)) rfl ?_
               exact ⟨_, by first | rfl | (simp [errW_none, errW_some] <;> rfl) | (simp only [← hji13]; first | rfl | (simp [errW_none, errW_some] <;> rfl)) | (simp [*, errW_none, errW_some] <;> rfl), by first | exact Kd.R_nil _ _ _ _ _ | exact Kd.N_nil _ _ _ _ _ | exact Kd.V_nil _ _ _ _ _ | exact Kd.Q_nil _ _ _ _ _ | exact Kd.S_nil _ _ _ _ _, by repeat (first | (with_reducible first | exact HB.out | apply below_alloc | apply pw_below_drewN | apply below_drew1 | refine below_set ?_ GE525.out | refine below_set ?_ GE532.out) | exact HB.out)⟩
       ·
        rw [if_neg c17] at H
        exact absurd H (by simp)
      ·
       rw [if_neg c15] at H
       exact absurd H (by simp)
     ·
      rw [if_neg c14] at H
      exact absurd H (by simp)
    ·
     rw [if_neg c11] at H
     exact absurd H (by simp)


/-! ### laws_markText: function 90 -/
def laws_markText.l0 : Nat → Int → ByteArray → Option (ByteArray)
 | 0, _, _ => none
 | k + 1, x0, x3 => if x0 > 0 then ((some (([(wrap64 (48 + (Int.tmod x0 10))) % 256] : List Int) : List Int)).bind fun y551 => (if (strOfNums y551).size + x3.size ≤ 9223372036854775807 then (laws_markText.l0 k (wrap64 (Int.tdiv x0 10)) ((strOfNums y551) ++ x3)) else (none))) else (if 1 + x3.size ≤ 9223372036854775807 then (some ((⟨#[109]⟩ : ByteArray) ++ x3)) else (none))
def laws_markText.f (k : Nat) (a0 : Int) : Option (ByteArray) := if a0 ≤ 0 then (some (⟨#[109, 48]⟩ : ByteArray)) else (laws_markText.l0 k a0 (⟨#[]⟩ : ByteArray))
theorem laws_markText.mono_l : ∀ k, (∀ y0 y1, LeO (laws_markText.l0 k y0 y1) (laws_markText.l0 (k + 1) y0 y1))
 | 0 => fun _ _ r h => by simp [laws_markText.l0] at h
 | k + 1 => by
  have ih0 := laws_markText.mono_l k
  ·
   intro y0 y1
   unfold laws_markText.l0
   repeat' first
   | (with_reducible exact ih0 _ _)
   | (with_reducible exact LeO.refl _)
   | (with_reducible exact LeO.none _)
   | (with_reducible refine LeO.ite ?_ ?_)
   | (with_reducible refine LeO.bind ?_ (fun _ => ?_))
   | exact ih0 _ _
   | exact LeO.none _
   | refine LeO.ite ?_ ?_
   | refine LeO.bind ?_ (fun _ => ?_)
theorem laws_markText.mono : ∀ a0 k, LeO (laws_markText.f k a0) (laws_markText.f (k + 1) a0) := by
 intro a0 k
 have ih0 := laws_markText.mono_l k
 unfold laws_markText.f
 repeat' first
   | (with_reducible exact ih0 _ _)
   | (with_reducible exact LeO.refl _)
   | (with_reducible exact LeO.none _)
   | (with_reducible refine LeO.ite ?_ ?_)
   | (with_reducible refine LeO.bind ?_ (fun _ => ?_))
   | exact ih0 _ _
   | exact LeO.none _
   | refine LeO.ite ?_ ?_
   | refine LeO.bind ?_ (fun _ => ?_)
set_option maxHeartbeats 8000000 in
set_option maxRecDepth 100000 in
theorem laws_markText.calls (k : Nat) (a0 : Int) (r : ByteArray) (w : World) (h : laws_markText.f k a0 = some r) :
  Calls Tryd.prog 90 #[.int .i64 a0] w fun e w' => e = .returned (.string r) ∧ Below w.heap.size w w' := by
 have HB := Aside0.mk (Below.refl w.heap.size w)
 have H : (if a0 ≤ 0 then (some (⟨#[109, 48]⟩ : ByteArray)) else (laws_markText.l0 k a0 (⟨#[]⟩ : ByteArray))) = some r := h
 clear h
 by_cases c2 : a0 ≤ 0
 ·
  rw [if_pos c2] at H
  have c2b0 : decide (a0 ≤ 0) = true := decide_eq_true c2
  clear c2
  obtain rfl := Option.some.inj H
  go_enter Tryd.func90, Tryd.ntmps90
  go_wp2
  go_ret
  exact ax2
 ·
  rw [if_neg c2] at H
  have c2b0 : decide (a0 ≤ 0) = false := decide_eq_false c2
  clear c2
  have H' := Aside0.mk H
  clear H
  go_enter Tryd.func90, Tryd.ntmps90
  go_wp2
  go_loopg [0, 3] k (fun kq v0 v3 w' => ∃ (x0_1 : Int) (x3_1 : ByteArray), v0 = .int .i64 x0_1 ∧ v3 = .string x3_1 ∧ Aside0 (laws_markText.l0 kq x0_1 x3_1 = some r) ∧ Aside0 (kq ≤ k) ∧ Aside0 (Below w.heap.size w w'))
  case atStart => exact ⟨(a0), ((⟨#[]⟩ : ByteArray)), au89, au89, H', ⟨Nat.le_refl _⟩, ⟨by repeat (first | (with_reducible first | exact HB.out | apply below_alloc | apply pw_below_drewN | apply below_drew1) | exact HB.out)⟩⟩
  case round =>
   clear H'
   try clear c2
   try clear c2b0
   try clear p2
   obtain ⟨x0_1, x3_1, rfl, rfl, HA, HK1, HB⟩ := hrel
   cases gk with
   | zero => exact absurd HA.out (by simp [laws_markText.l0])
   | succ k1 =>
    have H := HA.out
    clear HA
    simp only [laws_markText.l0] at H
    by_cases c3 : x0_1 > 0
    ·
     rw [if_pos c3] at H
     have c3b0 : decide (0 < x0_1) = true := decide_eq_true c3
     clear c3
     obtain ⟨y551, hy551⟩ : ∃ y_ : List Int, y_ = (([(wrap64 (48 + (Int.tmod x0_1 10))) % 256] : List Int)) := ⟨_, rfl⟩
     replace H : (if (strOfNums y551).size + x3_1.size ≤ 9223372036854775807 then (laws_markText.l0 k1 (wrap64 (Int.tdiv x0_1 10)) ((strOfNums y551) ++ x3_1)) else (none)) = some r := by first | (rw [hy551]; with_reducible exact H) | (have H2_ := (Option.bind_some _ _).symm.trans H; rw [hy551]; with_reducible exact H2_) | (have H2_ := (Option.bind_some _ _).symm.trans H; with_reducible exact H2_) | with_reducible exact H | (rw [hy551]; exact H) | exact H
     have Ny551 := Aside0.mk hy551
     clear hy551
     by_cases c4 : (strOfNums y551).size + x3_1.size ≤ 9223372036854775807
     ·
      rw [if_pos c4] at H
      have c4b0 := eq_true c4
      have c4b1 : decide ((strOfNums y551).size + x3_1.size ≤ 9223372036854775807) = true := decide_eq_true c4
      try have c4b2 : (9223372036854775807 < (strOfNums y551).size + x3_1.size) = False := eq_false (Nat.not_lt.2 c4)
      have H' := Aside0.mk H
      clear H
      go_wp2_with (first | ((with_reducible refine gate_dst (N := 12) rfl ?_); refine Kd.R_lit (Kd.int .u8) _ 5 ?hg (N := 12) ?hd (xs := ([(wrap64 (48 + (Int.tmod x0_1 10))) % 256] : List Int)) (inner := [.int .u8 ((wrap64 (48 + (Int.tmod x0_1 10))) % 256)]) (ok := fun _ => True) (okp := fun _ => True) ?hr ?hp (fun _ hk => hk) trivial (Below.refl _ _) (Nat.le_refl _) (by simp) ?_; (case hd => rfl); (case hg => rfl); (case hr => first | (go_simp; done) | (go_simp; rfl)); (case hp => exact (Reps.one (show Kd.M (Kd.int .u8) _ _ _ ((wrap64 (48 + (Int.tmod x0_1 10))) % 256) [.int .u8 ((wrap64 (48 + (Int.tmod x0_1 10))) % 256)] from rfl) (Reps.none _ _))); intro v552 w5 ho6 hb hg_ hnew_; clear hg_ hnew_; (first | rw [← Ny551.out] at ho6 | (simp only [Int.reduceToNat] at ho6; rw [← Ny551.out] at ho6)); have n0_ := Aside0.mk (Kd.R_lower ho6 (below_size au41)); have n1_ := Aside0.mk (below_step au41 hb); clear HB; have HO553 := n0_; have HB := n1_; clear n0_ n1_; clear hb ho6; have hcv7 := own_string (P := Tryd.prog) Tryd.underlying65 Tryd.underlying5 Tryd.underlying9 (Kd.own_of_R HO553.out)))
      go_roundg k1
      case measure => have := HK1.out; omega
      case rel => exact ⟨(wrap64 (Int.tdiv x0_1 10)), ((strOfNums y551) ++ x3_1), au89, au89, H', ⟨by have := HK1.out; omega⟩, ⟨by repeat (first | (with_reducible first | exact HB.out | apply below_alloc | apply pw_below_drewN | apply below_drew1) | exact HB.out)⟩⟩
     ·
      rw [if_neg c4] at H
      exact absurd H (by simp)
    ·
     rw [if_neg c3] at H
     have c3b0 : decide (0 < x0_1) = false := decide_eq_false c3
     clear c3
     by_cases c8 : 1 + x3_1.size ≤ 9223372036854775807
     ·
      rw [if_pos c8] at H
      have c8b0 := eq_true c8
      have c8b1 : decide (1 + x3_1.size ≤ 9223372036854775807) = true := decide_eq_true c8
      try have c8b2 : (9223372036854775807 < 1 + x3_1.size) = False := eq_false (Nat.not_lt.2 c8)
      obtain rfl := Option.some.inj H
      go_wp2
      go_ret
      exact ax2
     ·
      rw [if_neg c8] at H
      exact absurd H (by simp)


/-! ### laws_markStringS: function 62 -/
def laws_markStringS.l0 : Nat → List ByteArray → Int → Int → Option (Int × List ByteArray)
 | 0, _, _, _ => none
 | k + 1, x0, x1, x5 => if x5 < (x0.length : Int) then ((laws_markText.f k x1).bind fun t554 => (if 0 ≤ x5 then (laws_markStringS.l0 k (x0.set (x5 : Int).toNat t554) (wrap64 (x1 + 1)) (wrap64 (x5 + 1))) else (none))) else (some (x1, x0))
def laws_markStringS.f (k : Nat) (l0 : List ByteArray) (a1 : Int) : Option (Int × List ByteArray) := laws_markStringS.l0 k l0 a1 0
theorem laws_markStringS.mono_l : ∀ k, (∀ y0 y1 y2, LeO (laws_markStringS.l0 k y0 y1 y2) (laws_markStringS.l0 (k + 1) y0 y1 y2))
 | 0 => fun _ _ _ r h => by simp [laws_markStringS.l0] at h
 | k + 1 => by
  have ih0 := laws_markStringS.mono_l k
  ·
   intro y0 y1 y2
   unfold laws_markStringS.l0
   repeat' first
   | (with_reducible exact ih0 _ _ _)
   | (with_reducible exact laws_markText.mono _ _)
   | (with_reducible exact LeO.refl _)
   | (with_reducible exact LeO.none _)
   | (with_reducible refine LeO.ite ?_ ?_)
   | (with_reducible refine LeO.bind ?_ (fun _ => ?_))
   | exact ih0 _ _ _
   | exact laws_markText.mono _ _
   | exact LeO.none _
   | refine LeO.ite ?_ ?_
   | refine LeO.bind ?_ (fun _ => ?_)
theorem laws_markStringS.mono : ∀ a0 a1 k, LeO (laws_markStringS.f k a0 a1) (laws_markStringS.f (k + 1) a0 a1) := by
 intro a0 a1 k
 have ih0 := laws_markStringS.mono_l k
 unfold laws_markStringS.f
 repeat' first
   | (with_reducible exact ih0 _ _ _)
   | (with_reducible exact laws_markText.mono _ _)
   | (with_reducible exact LeO.refl _)
   | (with_reducible exact LeO.none _)
   | (with_reducible refine LeO.ite ?_ ?_)
   | (with_reducible refine LeO.bind ?_ (fun _ => ?_))
   | exact ih0 _ _ _
   | exact laws_markText.mono _ _
   | exact LeO.none _
   | refine LeO.ite ?_ ?_
   | refine LeO.bind ?_ (fun _ => ?_)
set_option maxHeartbeats 8000000 in
set_option maxRecDepth 100000 in
theorem laws_markStringS.calls (k : Nat) (P0_ : Nat → Prop) (u9000_ : Value) (l0 : List ByteArray) (a1 : Int) (r1 : Int) (r2 : List ByteArray) (w0 w : World) (hB : Below w0.heap.size w0 w) (ho0 : Kd.R Kd.string 9 w w0.heap.size P0_ u9000_ l0) (h : laws_markStringS.f k l0 a1 = some (r1, r2)) :
  Calls Tryd.prog 62 #[u9000_, .int .i64 a1] w fun e w' => e = .returned (.int .i64 r1) ∧ Kd.R Kd.string 9 w' w0.heap.size (fun k_ => (P0_ k_ ∨ w.heap.size ≤ k_)) u9000_ r2 ∧ Below w0.heap.size w0 w' ∧ Kept w w' (fun k_ => P0_ k_) := by
 have HO0 := Aside0.mk (show Kd.R Kd.string 9 w w0.heap.size (fun k_ => (P0_ k_ ∨ w.heap.size ≤ k_)) u9000_ l0 from Kd.R_mono ho0 (fun k_ hk => (.inl hk)))
 have HK := Aside0.mk (Kept.refl w (fun k_ => P0_ k_))
 have HW0 := Aside0.mk hB.size
 have HB := Aside0.mk hB
 clear hB
 have H : (laws_markStringS.l0 k l0 a1 0) = some (r1, r2) := h
 clear h
 have H' := Aside0.mk H
 clear H
 go_enter Tryd.func62, Tryd.ntmps62
 go_wp2
 go_loopg [1, 5] k (fun kq v1 v5 w' => ∃ (x0_1 : List ByteArray) (x1_1 : Int) (x5_1 : Int), v1 = .int .i64 x1_1 ∧ v5 = .int .i64 x5_1 ∧ Aside0 (laws_markStringS.l0 kq x0_1 x1_1 x5_1 = some (r1, r2)) ∧ Aside0 (kq ≤ k) ∧ Aside0 (Kd.R Kd.string 9 w' w0.heap.size (fun k_ => (P0_ k_ ∨ w.heap.size ≤ k_)) u9000_ x0_1) ∧ Aside0 (Kept w w' (fun k_ => P0_ k_)) ∧ Aside0 (Below w0.heap.size w0 w'))
 case atStart => exact ⟨(l0), (a1), (0), au89, au89, H', ⟨Nat.le_refl _⟩, ⟨by (with_reducible repeat (first | apply Kd.R_alloc | apply Kd.R_drewN | apply Kd.R_drew)); exact HO0.out⟩, ⟨by repeat (first | (with_reducible first | exact HK.out | apply Kept.alloc | apply Kept.drewN | apply Kept.drew) | exact HK.out)⟩, ⟨by repeat (first | (with_reducible first | exact HB.out | apply below_alloc | apply pw_below_drewN | apply below_drew1) | exact HB.out)⟩⟩
 case round =>
  clear H'
  try clear p2
  obtain ⟨x0_1, x1_1, x5_1, rfl, rfl, HA, HK1, HO_0, HK, HB⟩ := hrel
  cases gk with
  | zero => exact absurd HA.out (by simp [laws_markStringS.l0])
  | succ k1 =>
   have H := HA.out
   clear HA
   simp only [laws_markStringS.l0] at H
   by_cases c3 : x5_1 < (x0_1.length : Int)
   ·
    rw [if_pos c3] at H
    have c3b0 : decide (x5_1 < (x0_1.length : Int)) = true := decide_eq_true c3
    clear c3
    replace H := Option.bind_eq_some_iff.mp H
    obtain ⟨t554, A40, H⟩ := H
    try dsimp only at H
    have A4 := Aside0.mk A40
    clear A40
    by_cases c5 : 0 ≤ x5_1
    ·
     rw [if_pos c5] at H
     have c5b0 : decide (0 ≤ x5_1) = true := decide_eq_true c5
     clear c5
     obtain ⟨y555, hy555⟩ : ∃ y_ : List ByteArray, y_ = (x0_1.set (x5_1 : Int).toNat t554) := ⟨_, rfl⟩
     replace H : (laws_markStringS.l0 k1 y555 (wrap64 (x1_1 + 1)) (wrap64 (x5_1 + 1))) = some (r1, r2) := by first | (rw [hy555]; with_reducible exact H) | (have H2_ := (Option.bind_some _ _).symm.trans H; rw [hy555]; with_reducible exact H2_) | (have H2_ := (Option.bind_some _ _).symm.trans H; with_reducible exact H2_) | with_reducible exact H | (rw [hy555]; exact H) | exact H
     have Ny555 := Aside0.mk hy555
     clear hy555
     have H' := Aside0.mk H
     clear H
     obtain ⟨Ao7, co7, eo7⟩ := Kd.R_slice HO_0.out
     subst eo7
     go_wp2_with (first | ((with_reducible refine gate_callee (f := 90) rfl ?_); refine goesL_ (some 15) rfl rfl Tryd.func90 (by kernel_rfl) rfl #[.int .i64 x1_1] rfl au38 ?_; (with_reducible refine (laws_markText.calls k1 x1_1 t554 _ A4.out).mono ?_); rintro e w8 ⟨rfl, hb⟩; refine ⟨_, rfl, ?_⟩; have n0_ := Aside0.mk (Kd.R_below (by (with_reducible repeat (first | apply Kd.R_alloc | apply Kd.R_drewN | apply Kd.R_drew)); exact HO_0.out) hb); have n1_ := Aside0.mk (Kept.below (S := (fun k_ => P0_ k_)) au42 hb); have n2_ := Aside0.mk (below_step au41 hb); clear HO_0; clear HK; clear HB; have HO_0 := n0_; have HK := n1_; have HB := n2_; clear n0_ n1_ n2_; (try clear hb); (try clear hb2); (try clear hk); (try clear hi); have p6 : 0 ≤ (x5_1 : Int) := of_decide_eq_true au88; have q6 : (x5_1 : Int) < ((x0_1.length : Int) : Int) := of_decide_eq_true au88; obtain ⟨go6, co6, eo6, gb6, gl6, cl6, HG6⟩ := Kd.R_form HO_0.out (by omega); (first | cases eo6 | (injection eo6 with ea_ en_ ec_; (first | subst ea_ | (injection ea_ with ea_; subst ea_)); subst ec_; clear en_)); have GB6 := Aside0.mk gb6; have GG6 := Aside0.mk HG6; clear gb6 gl6 HG6; have HMgo6 := Aside0.mk (show (P0_ go6 ∨ w.heap.size ≤ go6) from (HO_0.out.1 _ rfl)); obtain ⟨hx6_0, hf6_0⟩ := Kd.R_celln (⟨#[]⟩ : ByteArray) HO_0.out (x5_1 : Int) p6 q6; replace p6 := eq_true p6; replace q6 := eq_true q6; obtain ⟨hy9_, hz9_⟩ := Kd.R_celln (⟨#[]⟩ : ByteArray) HO_0.out (x5_1 : Int) (of_decide_eq_true au88) (of_decide_eq_true au88); have HP9 := Kd.R_putg HO_0.out (x5_1 : Int) t554) | ((with_reducible refine gate_store (t := 9) (p := 16) rfl ?_); refine store_event (t := 9) (p := 16) (v := ?vo_w10) (w1 := (w8.setCell ⟨go6, (x5_1 : Int).toNat, none⟩ (.string t554))) ?hg ?ho ?hn ?hr ?_; (case ho => rfl); (case hg => rfl); (case hn => rfl); (case hr => first | (go_simp; done) | (go_simp; rfl)); intro w10 hw; have hg : w8.grownBy w10 (some go6) := (by rw [hw]; exact HP9.2); have hp_ : Kd.R Kd.string 9 w10 w0.heap.size (fun k_ => (P0_ k_ ∨ w.heap.size ≤ k_)) (.slice (some ⟨go6, 0, none⟩) x0_1.length co7) y555 := (by rw [hw, Ny555.out]; exact HP9.1); clear HP9; have n0_ := Aside0.mk (hp_); have n1_ := Aside0.mk ((by rw [hw]; exact below_set (HB.out) GB6.out : Below w0.heap.size w0 w10)); have n2_ := Aside0.mk (Kept.of_grown (S := (fun k_ => P0_ k_)) hg au42 (fun k_ e_ => (HO_0.out.1 k_ e_))); clear HO_0; clear HB; clear HK; have HO_0 := n0_; have HB := n1_; have HK := n2_; clear n0_ n1_ n2_; clear hg hw hp_))
     go_roundg k1
     case measure => have := HK1.out; omega
     case rel => exact ⟨(y555), (wrap64 (x1_1 + 1)), (wrap64 (x5_1 + 1)), au89, au89, H', ⟨by have := HK1.out; omega⟩, ⟨by (with_reducible repeat (first | apply Kd.R_alloc | apply Kd.R_drewN | apply Kd.R_drew)); exact HO_0.out⟩, ⟨by repeat (first | (with_reducible first | exact HK.out | apply Kept.alloc | apply Kept.drewN | apply Kept.drew) | exact HK.out)⟩, ⟨by repeat (first | (with_reducible first | exact HB.out | apply below_alloc | apply pw_below_drewN | apply below_drew1) | exact HB.out)⟩⟩
    ·
     rw [if_neg c5] at H
     exact absurd H (by simp)
   ·
    rw [if_neg c3] at H
    have c3b0 : decide (x5_1 < (x0_1.length : Int)) = false := decide_eq_false c3
    clear c3
    simp only [Option.some.injEq, Prod.mk.injEq] at H
    obtain ⟨rfl, rfl⟩ := H
    obtain ⟨Ao11, co11, eo11⟩ := Kd.R_slice HO_0.out
    subst eo11
    go_wp2
    go_ret
    exact ⟨by first | rfl | (simp [errW_none, errW_some] <;> rfl) | (simp [*, errW_none, errW_some] <;> rfl), by (with_reducible repeat (first | apply Kd.R_alloc | apply Kd.R_drewN | apply Kd.R_drew)); exact HO_0.out, by repeat (first | (with_reducible first | exact HB.out | apply below_alloc | apply pw_below_drewN | apply below_drew1) | exact HB.out), by repeat (first | (with_reducible first | exact HK.out | apply Kept.alloc | apply Kept.drewN | apply Kept.drew) | exact HK.out)⟩


/-! ### laws_markName: function 32 -/
def laws_markName.f (k : Nat) (l0_0 : List ByteArray) (a0_1 : ByteArray) (a0_2 : ByteArray) (a0_3 : ByteArray) (a1 : Int) : Option (Int × List ByteArray) := (laws_markStringS.f k l0_0 a1).bind fun bt557 => (some (bt557.1, bt557.2))
theorem laws_markName.mono : ∀ a0 a1 a2 a3 a4 k, LeO (laws_markName.f k a0 a1 a2 a3 a4) (laws_markName.f (k + 1) a0 a1 a2 a3 a4) := by
 intro a0 a1 a2 a3 a4 k
 unfold laws_markName.f
 repeat' first
   | (with_reducible exact laws_markStringS.mono _ _ _)
   | (with_reducible exact LeO.refl _)
   | (with_reducible exact LeO.none _)
   | (with_reducible refine LeO.ite ?_ ?_)
   | (with_reducible refine LeO.bind ?_ (fun _ => ?_))
   | exact laws_markStringS.mono _ _ _
   | exact LeO.none _
   | refine LeO.ite ?_ ?_
   | refine LeO.bind ?_ (fun _ => ?_)
set_option maxHeartbeats 8000000 in
set_option maxRecDepth 100000 in
theorem laws_markName.calls (k : Nat) (P0_0_ : Nat → Prop) (u9000_ : Value) (l0_0 : List ByteArray) (a0_1 : ByteArray) (a0_2 : ByteArray) (a0_3 : ByteArray) (a1 : Int) (r1 : Int) (r2 : List ByteArray) (w0 w : World) (hB : Below w0.heap.size w0 w) (ho0_0 : Kd.R Kd.string 9 w w0.heap.size P0_0_ u9000_ l0_0) (h : laws_markName.f k l0_0 a0_1 a0_2 a0_3 a1 = some (r1, r2)) :
  Calls Tryd.prog 32 #[.agg #[u9000_, .string a0_1, .string a0_2, .string a0_3], .int .i64 a1] w fun e w' => e = .returned (.int .i64 r1) ∧ Kd.R Kd.string 9 w' w0.heap.size (fun k_ => (P0_0_ k_ ∨ w.heap.size ≤ k_)) u9000_ r2 ∧ Below w0.heap.size w0 w' ∧ Kept w w' (fun k_ => P0_0_ k_) := by
 have hu27 := Tryd.underlying27
 have HO0_0 := Aside0.mk (show Kd.R Kd.string 9 w w0.heap.size (fun k_ => (P0_0_ k_ ∨ w.heap.size ≤ k_)) u9000_ l0_0 from Kd.R_mono ho0_0 (fun k_ hk => (.inl hk)))
 have HK := Aside0.mk (Kept.refl w (fun k_ => P0_0_ k_))
 have HW0 := Aside0.mk hB.size
 have HB := Aside0.mk hB
 clear hB
 have H : ((laws_markStringS.f k l0_0 a1).bind fun bt557 => (some (bt557.1, bt557.2))) = some (r1, r2) := h
 clear h
 replace H := Option.bind_eq_some_iff.mp H
 obtain ⟨⟨t557, t558⟩, A30, H⟩ := H
 replace H : (some (t557, t558)) = some (r1, r2) := H
 have A3 := Aside0.mk A30
 clear A30
 simp only [Option.some.injEq, Prod.mk.injEq] at H
 obtain ⟨rfl, rfl⟩ := H
 obtain ⟨Ao4, co4, eo4⟩ := Kd.R_slice HO0_0.out
 subst eo4
 go_enter Tryd.func32, Tryd.ntmps32
 go_wp2_with (first | ((with_reducible refine gate_dst (N := 2) rfl ?_); refine box_event ?hg (N := 2) ?hd (cs := #[.slice Ao4 l0_0.length co4, .string a0_1, .string a0_2, .string a0_3]) (t := 27) ?hr ?_; (case hd => rfl); (case hg => rfl); (case hr => first | (go_simp; done) | (go_simp; rfl)); intro gb556 hg w5 hbox hb; have n0_ := Aside0.mk (Kd.R_below (by (with_reducible repeat (first | apply Kd.R_alloc | apply Kd.R_drewN | apply Kd.R_drew)); exact HO0_0.out) hb); have n1_ := Aside0.mk (Kept.below (S := (fun k_ => P0_0_ k_)) au42 hb); have n2_ := Aside0.mk (below_step au41 hb); have n3_ := Aside0.mk (hbox); have n4_ := Aside0.mk ((by rw [hg]; exact (by first | exact HK.out.1 | exact (show Kept w _ (fun k_ => P0_0_ k_) from by repeat (first | (with_reducible first | exact HK.out | apply Kept.alloc | apply Kept.drewN | apply Kept.drew) | exact HK.out)).1) : w.heap.size ≤ gb556)); have n5_ := Aside0.mk ((by rw [hg]; exact (below_size au41) : w0.heap.size ≤ gb556)); clear HO0_0; clear HK; clear HB; have HO0_0 := n0_; have HK := n1_; have HB := n2_; have BK556 := n3_; have GW556 := n4_; have GE556 := n5_; clear n0_ n1_ n2_ n3_ n4_ n5_; clear hb hbox hg; have hcz6_0 : w5.cell? ⟨gb556, 0, none⟩ = some (.slice Ao4 l0_0.length co4) := (blk_cell BK556.out 0).trans rfl; have hcz6_1 : w5.cell? ⟨gb556, 1, none⟩ = some (.string a0_1) := (blk_cell BK556.out 1).trans rfl; have hcz6_2 : w5.cell? ⟨gb556, 2, none⟩ = some (.string a0_2) := (blk_cell BK556.out 2).trans rfl; have hcz6_3 : w5.cell? ⟨gb556, 3, none⟩ = some (.string a0_3) := (blk_cell BK556.out 3).trans rfl; have hfz6_0 := blk_frozen BK556.out 0; have hfz6_1 := blk_frozen BK556.out 1; have hfz6_2 := blk_frozen BK556.out 2; have hfz6_3 := blk_frozen BK556.out 3) | ((with_reducible refine gate_callee (f := 62) rfl ?_); refine goesL_ (some 8) rfl rfl Tryd.func62 (by kernel_rfl) rfl #[.slice Ao4 l0_0.length co4, .int .i64 a1] rfl au38 ?_; (with_reducible refine (laws_markStringS.calls k (fun k_ => some k_ = (.slice Ao4 l0_0.length co4 : Value).ownBlock) (.slice Ao4 l0_0.length co4) l0_0 a1 t557 t558 w0 _ ?side1 ?side2 A3.out).mono ?_); (case side1 => repeat (first | (with_reducible first | exact HB.out | apply below_alloc | apply pw_below_drewN | apply below_drew1 | refine below_set ?_ GE556.out) | exact HB.out)); (case side2 => exact Kd.R_tight rfl HO0_0.out); rintro e w7 ⟨rfl, hy0, hb, hkp⟩; refine ⟨_, rfl, ?_⟩; have n0_ := Aside0.mk (Kd.R_reok rfl hy0 (fun k_ e_ => HO0_0.out.1 k_ e_)); have n1_ := Aside0.mk (blk_kept (by (with_reducible repeat (first | refine blk_drewN ?_ _ | refine blk_drew ?_ | refine blk_alloc ?_ _)); exact BK556.out) hkp (fun hs_ => (fun e_ => (Kd.R_ne HO0_0.out BK556.out (by decide)) e_) hs_)); have n2_ := Aside0.mk (Kept.then_ (S := (fun k_ => P0_0_ k_)) (by repeat (first | (with_reducible first | exact HK.out | apply Kept.alloc | apply Kept.drewN | apply Kept.drew | refine Kept.setCell ?_ (.inr GW556.out) _) | exact HK.out)) hkp (fun k_ hs_ => (fun e_ => (HO0_0.out.1 k_ e_.symm)) hs_)); have n3_ := Aside0.mk (hb); clear HO0_0; clear BK556; clear HK; clear HB; have HO0_0 := n0_; have BK556 := n1_; have HK := n2_; have HB := n3_; clear n0_ n1_ n2_ n3_; (try clear hb); (try clear hkp); (try clear hy0)))
 go_ret
 exact ⟨by first | rfl | (simp [errW_none, errW_some] <;> rfl) | (simp [*, errW_none, errW_some] <;> rfl), by (with_reducible repeat (first | apply Kd.R_alloc | apply Kd.R_drewN | apply Kd.R_drew)); exact HO0_0.out, by repeat (first | (with_reducible first | exact HB.out | apply below_alloc | apply pw_below_drewN | apply below_drew1 | refine below_set ?_ GE556.out) | exact HB.out), by repeat (first | (with_reducible first | exact HK.out | apply Kept.alloc | apply Kept.drewN | apply Kept.drew | refine Kept.setCell ?_ (.inr GW556.out) _) | exact HK.out)⟩


/-! ### laws_heldStringS: function 63 -/
def laws_heldStringS.l0 : Nat → List ByteArray → Int → Int → Option (Int)
 | 0, _, _, _ => none
 | k + 1, x0, x1, x5 => if x5 < (x0.length : Int) then (if 0 ≤ x5 then ((laws_markText.f k x1).bind fun t560 => (if (rdOf ByteArray.empty x0 x5).toList = t560.toList then (laws_heldStringS.l0 k x0 (wrap64 (x1 + 1)) (wrap64 (x5 + 1))) else (some (-1)))) else (none)) else (some x1)
def laws_heldStringS.f (k : Nat) (l0 : List ByteArray) (a1 : Int) : Option (Int) := laws_heldStringS.l0 k l0 a1 0
theorem laws_heldStringS.mono_l : ∀ k, (∀ y0 y1 y2, LeO (laws_heldStringS.l0 k y0 y1 y2) (laws_heldStringS.l0 (k + 1) y0 y1 y2))
 | 0 => fun _ _ _ r h => by simp [laws_heldStringS.l0] at h
 | k + 1 => by
  have ih0 := laws_heldStringS.mono_l k
  ·
   intro y0 y1 y2
   unfold laws_heldStringS.l0
   repeat' first
   | (with_reducible exact ih0 _ _ _)
   | (with_reducible exact laws_markText.mono _ _)
   | (with_reducible exact LeO.refl _)
   | (with_reducible exact LeO.none _)
   | (with_reducible refine LeO.ite ?_ ?_)
   | (with_reducible refine LeO.bind ?_ (fun _ => ?_))
   | exact ih0 _ _ _
   | exact laws_markText.mono _ _
   | exact LeO.none _
   | refine LeO.ite ?_ ?_
   | refine LeO.bind ?_ (fun _ => ?_)
theorem laws_heldStringS.mono : ∀ a0 a1 k, LeO (laws_heldStringS.f k a0 a1) (laws_heldStringS.f (k + 1) a0 a1) := by
 intro a0 a1 k
 have ih0 := laws_heldStringS.mono_l k
 unfold laws_heldStringS.f
 repeat' first
   | (with_reducible exact ih0 _ _ _)
   | (with_reducible exact laws_markText.mono _ _)
   | (with_reducible exact LeO.refl _)
   | (with_reducible exact LeO.none _)
   | (with_reducible refine LeO.ite ?_ ?_)
   | (with_reducible refine LeO.bind ?_ (fun _ => ?_))
   | exact ih0 _ _ _
   | exact laws_markText.mono _ _
   | exact LeO.none _
   | refine LeO.ite ?_ ?_
   | refine LeO.bind ?_ (fun _ => ?_)
set_option maxHeartbeats 8000000 in
set_option maxRecDepth 100000 in
theorem laws_heldStringS.calls (k : Nat) (A0 : Option Addr) (c0 : Nat) (l0 : List ByteArray) (a1 : Int) (r : Int) (w : World) (hr0 : Kd.C Kd.string w A0 l0.length l0) (hc0 : l0.length ≤ c0) (h : laws_heldStringS.f k l0 a1 = some r) :
  Calls Tryd.prog 63 #[.slice A0 l0.length c0, .int .i64 a1] w fun e w' => e = .returned (.int .i64 r) ∧ Below w.heap.size w w' := by
 have HR0 := Aside0.mk hr0
 have HC0 := Aside0.mk hc0
 clear hr0 hc0
 have HB := Aside0.mk (Below.refl w.heap.size w)
 have H : (laws_heldStringS.l0 k l0 a1 0) = some r := h
 clear h
 have H' := Aside0.mk H
 clear H
 go_enter Tryd.func63, Tryd.ntmps63
 go_wp2
 go_loopg [1, 5] k (fun kq v1 v5 w' => ∃ (x1_1 : Int) (x5_1 : Int), v1 = .int .i64 x1_1 ∧ v5 = .int .i64 x5_1 ∧ Aside0 (laws_heldStringS.l0 kq l0 x1_1 x5_1 = some r) ∧ Aside0 (kq ≤ k) ∧ Aside0 (Below w.heap.size w w'))
 case atStart => exact ⟨(a1), (0), au89, au89, H', ⟨Nat.le_refl _⟩, ⟨by repeat (first | (with_reducible first | exact HB.out | apply below_alloc | apply pw_below_drewN | apply below_drew1) | exact HB.out)⟩⟩
 case round =>
  clear H'
  try clear p2
  obtain ⟨x1_1, x5_1, rfl, rfl, HA, HK1, HB⟩ := hrel
  cases gk with
  | zero => exact absurd HA.out (by simp [laws_heldStringS.l0])
  | succ k1 =>
   have H := HA.out
   clear HA
   simp only [laws_heldStringS.l0] at H
   by_cases c3 : x5_1 < (l0.length : Int)
   ·
    rw [if_pos c3] at H
    have c3b0 : decide (x5_1 < (l0.length : Int)) = true := decide_eq_true c3
    clear c3
    by_cases c4 : 0 ≤ x5_1
    ·
     rw [if_pos c4] at H
     have c4b0 : decide (0 ≤ x5_1) = true := decide_eq_true c4
     clear c4
     replace H := Option.bind_eq_some_iff.mp H
     obtain ⟨t560, A50, H⟩ := H
     try dsimp only at H
     have A5 := Aside0.mk A50
     clear A50
     by_cases c6 : (rdOf ByteArray.empty l0 x5_1).toList = t560.toList
     ·
      rw [if_pos c6] at H
      have c6b0 : ((rdOf ByteArray.empty l0 x5_1).toList == t560.toList) = true := beq_iff_eq.mpr c6
      have c6b1 : ((rdOf ByteArray.empty l0 x5_1).toList != t560.toList) = false := bne_eq_false_iff_eq.mpr c6
      clear c6
      have H' := Aside0.mk H
      clear H
      try go_wp2
      have n0_ := Aside0.mk (below_drew1 HB.out)
      clear HB
      have HB := n0_
      clear n0_
      have p559 : 0 ≤ (x5_1 : Int) := of_decide_eq_true au88
      have q559 : x5_1 < (l0.length : Int) := of_decide_eq_true au88
      obtain ⟨ad559, e559, hx559_0⟩ := Kd.at_string HR0.out x5_1 p559 q559
      have hw559_0 := hx559_0
      cases e559
      replace hx559_0 := (HB.out.cell (World.block_lt_of_cell? w _ hx559_0)).trans hx559_0
      replace p559 := eq_true p559
      replace q559 := eq_true q559
      refine start_ (n := 7) (S := fun w' => w'.cell? (ad559.add (x5_1).toNat) = some (.string (rdOf ByteArray.empty l0 x5_1))) (ds := []) #[false, false, false, false, false, false, false] (by kernel_rfl) rfl rfl (((HB.out.cell (World.block_lt_of_cell? w _ hw559_0)).trans hw559_0)) (fun hHeld => ?_)
      generalize wr.drew = w7 at HB hx559_0 hHeld ⊢
      refine pure_ (i := 0) (N := some 12) (v := ?_) (a' := ?_) #[true, false, false, false, false, false, false] rfl rfl (by kernel_rfl) (fun _ _ _ h => h) (Or.inl ⟨by rfl, ?_⟩) ?_ ?_
      rotate_left
      ·
       intro w'
       go_simp
       with_reducible rfl
      rotate_left
      ·
       simp only [Act.put, List.setIfInBounds_toArray, List.set_cons_zero, List.set_cons_succ, i64_w, i32_w]
       rfl
      refine pure_ (i := 1) (N := some 13) (v := ?_) (a' := ?_) #[true, true, false, false, false, false, false] rfl rfl (by kernel_rfl) (fun _ _ _ h => h) (Or.inl ⟨by rfl, ?_⟩) ?_ ?_
      rotate_left
      ·
       intro w'
       go_simp
       with_reducible rfl
      rotate_left
      ·
       simp only [Act.put, List.setIfInBounds_toArray, List.set_cons_zero, List.set_cons_succ, i64_w, i32_w]
       rfl
      refine pure_ (i := 2) (N := some 14) (v := ?_) (a' := ?_) #[true, true, true, false, false, false, false] rfl rfl (by kernel_rfl) (fun _ _ _ h => h) (Or.inl ⟨by rfl, ?_⟩) ?_ ?_
      rotate_left
      ·
       intro w'
       go_simp
       with_reducible rfl
      rotate_left
      ·
       simp only [Act.put, List.setIfInBounds_toArray, List.set_cons_zero, List.set_cons_succ, i64_w, i32_w]
       rfl
      refine pure_ (i := 4) (N := some 16) (v := ?_) (a' := ?_) #[true, true, true, false, true, false, false] rfl rfl (by kernel_rfl) (fun _ _ _ h => h) (Or.inl ⟨by rfl, ?_⟩) ?_ ?_
      rotate_left
      ·
       intro w'
       go_simp
       with_reducible rfl
      rotate_left
      ·
       simp only [Act.put, List.setIfInBounds_toArray, List.set_cons_zero, List.set_cons_succ, i64_w, i32_w]
       rfl
      refine take_ (i := 3) (N := some 15) (v := ?_) (a' := ?_) #[true, true, true, true, true, false, false] rfl rfl (by kernel_rfl) (fun _ _ _ h => h) (Or.inl ⟨by rfl, ?_⟩) hHeld ?_ ?_
      rotate_left
      ·
       intro w' s0
       go_simp
       with_reducible rfl
      rotate_left
      ·
       simp only [Act.put, List.setIfInBounds_toArray, List.set_cons_zero, List.set_cons_succ, i64_w, i32_w]
       rfl
      refine one_ (i := 5) (N := some 17) #[true, true, true, true, true, true, false] rfl rfl (by kernel_rfl) (by decide) (fun K hK => ?_)
      refine goes_ Tryd.func90 (by kernel_rfl) rfl #[.int .i64 x1_1] (by rfl) rfl rfl au38 ?_
      with_reducible refine (laws_markText.calls k1 x1_1 t560 _ A5.out).mono ?_
      rintro e w8 ⟨rfl, hb⟩
      refine ⟨_, rfl, ?_⟩
      have n0_ := Aside0.mk (below_step au41 hb)
      clear HB
      have HB := n0_
      clear n0_
      (try clear hb)
      (try clear hb2)
      (try clear hk)
      (try clear hi)
      refine hK.out _ _ (((HB.out.cell (World.block_lt_of_cell? w _ hw559_0)).trans hw559_0)) (fun hHeld => ?_)
      clear hK K
      refine norm_ (a' := ?_) ?_ ?_
      rotate_left
      ·
       show Act.put _ (some 17) _ = _
       simp only [Act.put, List.setIfInBounds_toArray, List.set_cons_zero, List.set_cons_succ, i64_w, i32_w]
       rfl
      refine pure_ (i := 6) (N := some 18) (v := ?_) (a' := ?_) #[true, true, true, true, true, true, true] rfl rfl (by kernel_rfl) (fun _ _ _ h => h) (Or.inl ⟨by rfl, ?_⟩) ?_ ?_
      rotate_left
      ·
       intro w'
       go_simp
       with_reducible rfl
      rotate_left
      ·
       simp only [Act.put, List.setIfInBounds_toArray, List.set_cons_zero, List.set_cons_succ, i64_w, i32_w]
       rfl
      refine done_ (by kernel_rfl) ?_
      try go_wp2
      go_roundg k1
      case measure => have := HK1.out; omega
      case rel => exact ⟨(wrap64 (x1_1 + 1)), (wrap64 (x5_1 + 1)), au89, au89, H', ⟨by have := HK1.out; omega⟩, ⟨by repeat (first | (with_reducible first | exact HB.out | apply below_alloc | apply pw_below_drewN | apply below_drew1) | exact HB.out)⟩⟩
     ·
      rw [if_neg c6] at H
      have c6b0 : ((rdOf ByteArray.empty l0 x5_1).toList == t560.toList) = false := beq_eq_false_iff_ne.mpr c6
      have c6b1 : ((rdOf ByteArray.empty l0 x5_1).toList != t560.toList) = true := bne_iff_ne.mpr c6
      obtain rfl := Option.some.inj H
      try go_wp2
      have n0_ := Aside0.mk (below_drew1 HB.out)
      clear HB
      have HB := n0_
      clear n0_
      have p559 : 0 ≤ (x5_1 : Int) := of_decide_eq_true au88
      have q559 : x5_1 < (l0.length : Int) := of_decide_eq_true au88
      obtain ⟨ad559, e559, hx559_0⟩ := Kd.at_string HR0.out x5_1 p559 q559
      have hw559_0 := hx559_0
      cases e559
      replace hx559_0 := (HB.out.cell (World.block_lt_of_cell? w _ hx559_0)).trans hx559_0
      replace p559 := eq_true p559
      replace q559 := eq_true q559
      refine start_ (n := 7) (S := fun w' => w'.cell? (ad559.add (x5_1).toNat) = some (.string (rdOf ByteArray.empty l0 x5_1))) (ds := []) #[false, false, false, false, false, false, false] (by kernel_rfl) rfl rfl (((HB.out.cell (World.block_lt_of_cell? w _ hw559_0)).trans hw559_0)) (fun hHeld => ?_)
      generalize wr.drew = w9 at HB hx559_0 hHeld ⊢
      refine pure_ (i := 0) (N := some 12) (v := ?_) (a' := ?_) #[true, false, false, false, false, false, false] rfl rfl (by kernel_rfl) (fun _ _ _ h => h) (Or.inl ⟨by rfl, ?_⟩) ?_ ?_
      rotate_left
      ·
       intro w'
       go_simp
       with_reducible rfl
      rotate_left
      ·
       simp only [Act.put, List.setIfInBounds_toArray, List.set_cons_zero, List.set_cons_succ, i64_w, i32_w]
       rfl
      refine pure_ (i := 1) (N := some 13) (v := ?_) (a' := ?_) #[true, true, false, false, false, false, false] rfl rfl (by kernel_rfl) (fun _ _ _ h => h) (Or.inl ⟨by rfl, ?_⟩) ?_ ?_
      rotate_left
      ·
       intro w'
       go_simp
       with_reducible rfl
      rotate_left
      ·
       simp only [Act.put, List.setIfInBounds_toArray, List.set_cons_zero, List.set_cons_succ, i64_w, i32_w]
       rfl
      refine pure_ (i := 2) (N := some 14) (v := ?_) (a' := ?_) #[true, true, true, false, false, false, false] rfl rfl (by kernel_rfl) (fun _ _ _ h => h) (Or.inl ⟨by rfl, ?_⟩) ?_ ?_
      rotate_left
      ·
       intro w'
       go_simp
       with_reducible rfl
      rotate_left
      ·
       simp only [Act.put, List.setIfInBounds_toArray, List.set_cons_zero, List.set_cons_succ, i64_w, i32_w]
       rfl
      refine pure_ (i := 4) (N := some 16) (v := ?_) (a' := ?_) #[true, true, true, false, true, false, false] rfl rfl (by kernel_rfl) (fun _ _ _ h => h) (Or.inl ⟨by rfl, ?_⟩) ?_ ?_
      rotate_left
      ·
       intro w'
       go_simp
       with_reducible rfl
      rotate_left
      ·
       simp only [Act.put, List.setIfInBounds_toArray, List.set_cons_zero, List.set_cons_succ, i64_w, i32_w]
       rfl
      refine take_ (i := 3) (N := some 15) (v := ?_) (a' := ?_) #[true, true, true, true, true, false, false] rfl rfl (by kernel_rfl) (fun _ _ _ h => h) (Or.inl ⟨by rfl, ?_⟩) hHeld ?_ ?_
      rotate_left
      ·
       intro w' s0
       go_simp
       with_reducible rfl
      rotate_left
      ·
       simp only [Act.put, List.setIfInBounds_toArray, List.set_cons_zero, List.set_cons_succ, i64_w, i32_w]
       rfl
      refine one_ (i := 5) (N := some 17) #[true, true, true, true, true, true, false] rfl rfl (by kernel_rfl) (by decide) (fun K hK => ?_)
      refine goes_ Tryd.func90 (by kernel_rfl) rfl #[.int .i64 x1_1] (by rfl) rfl rfl au38 ?_
      with_reducible refine (laws_markText.calls k1 x1_1 t560 _ A5.out).mono ?_
      rintro e w10 ⟨rfl, hb⟩
      refine ⟨_, rfl, ?_⟩
      have n0_ := Aside0.mk (below_step au41 hb)
      clear HB
      have HB := n0_
      clear n0_
      (try clear hb)
      (try clear hb2)
      (try clear hk)
      (try clear hi)
      refine hK.out _ _ (((HB.out.cell (World.block_lt_of_cell? w _ hw559_0)).trans hw559_0)) (fun hHeld => ?_)
      clear hK K
      refine norm_ (a' := ?_) ?_ ?_
      rotate_left
      ·
       show Act.put _ (some 17) _ = _
       simp only [Act.put, List.setIfInBounds_toArray, List.set_cons_zero, List.set_cons_succ, i64_w, i32_w]
       rfl
      refine pure_ (i := 6) (N := some 18) (v := ?_) (a' := ?_) #[true, true, true, true, true, true, true] rfl rfl (by kernel_rfl) (fun _ _ _ h => h) (Or.inl ⟨by rfl, ?_⟩) ?_ ?_
      rotate_left
      ·
       intro w'
       go_simp
       with_reducible rfl
      rotate_left
      ·
       simp only [Act.put, List.setIfInBounds_toArray, List.set_cons_zero, List.set_cons_succ, i64_w, i32_w]
       rfl
      refine done_ (by kernel_rfl) ?_
      try go_wp2
      go_ret
      exact ax2
    ·
     rw [if_neg c4] at H
     exact absurd H (by simp)
   ·
    rw [if_neg c3] at H
    have c3b0 : decide (x5_1 < (l0.length : Int)) = false := decide_eq_false c3
    clear c3
    obtain rfl := Option.some.inj H
    go_wp2
    go_ret
    exact ax2


/-! ### laws_heldName: function 33 -/
def laws_heldName.f (k : Nat) (l0_0 : List ByteArray) (a0_1 : ByteArray) (a0_2 : ByteArray) (a0_3 : ByteArray) (a1 : Int) : Option (Int) := (laws_heldStringS.f k l0_0 a1).bind fun t562 => (if t562 < 0 then (some (-1)) else (some t562))
theorem laws_heldName.mono : ∀ a0 a1 a2 a3 a4 k, LeO (laws_heldName.f k a0 a1 a2 a3 a4) (laws_heldName.f (k + 1) a0 a1 a2 a3 a4) := by
 intro a0 a1 a2 a3 a4 k
 unfold laws_heldName.f
 repeat' first
   | (with_reducible exact laws_heldStringS.mono _ _ _)
   | (with_reducible exact LeO.refl _)
   | (with_reducible exact LeO.none _)
   | (with_reducible refine LeO.ite ?_ ?_)
   | (with_reducible refine LeO.bind ?_ (fun _ => ?_))
   | exact laws_heldStringS.mono _ _ _
   | exact LeO.none _
   | refine LeO.ite ?_ ?_
   | refine LeO.bind ?_ (fun _ => ?_)
set_option maxHeartbeats 8000000 in
set_option maxRecDepth 100000 in
theorem laws_heldName.calls (k : Nat) (A0_0 : Option Addr) (c0_0 : Nat) (l0_0 : List ByteArray) (a0_1 : ByteArray) (a0_2 : ByteArray) (a0_3 : ByteArray) (a1 : Int) (r : Int) (w : World) (hr0_0 : Kd.C Kd.string w A0_0 l0_0.length l0_0) (hc0_0 : l0_0.length ≤ c0_0) (h : laws_heldName.f k l0_0 a0_1 a0_2 a0_3 a1 = some r) :
  Calls Tryd.prog 33 #[.agg #[.slice A0_0 l0_0.length c0_0, .string a0_1, .string a0_2, .string a0_3], .int .i64 a1] w fun e w' => e = .returned (.int .i64 r) ∧ Below w.heap.size w w' := by
 have hu27 := Tryd.underlying27
 have HR0_0 := Aside0.mk hr0_0
 have HC0_0 := Aside0.mk hc0_0
 clear hr0_0 hc0_0
 have HB := Aside0.mk (Below.refl w.heap.size w)
 have H : ((laws_heldStringS.f k l0_0 a1).bind fun t562 => (if t562 < 0 then (some (-1)) else (some t562))) = some r := h
 clear h
 replace H := Option.bind_eq_some_iff.mp H
 obtain ⟨t562, A30, H⟩ := H
 try dsimp only at H
 have A3 := Aside0.mk A30
 clear A30
 by_cases c4 : t562 < 0
 ·
  rw [if_pos c4] at H
  have c4b0 : decide (t562 < 0) = true := decide_eq_true c4
  clear c4
  obtain rfl := Option.some.inj H
  go_enter Tryd.func33, Tryd.ntmps33
  go_wp2_with (first | ((with_reducible refine gate_dst (N := 2) rfl ?_); refine box_event ?hg (N := 2) ?hd (cs := #[.slice A0_0 l0_0.length c0_0, .string a0_1, .string a0_2, .string a0_3]) (t := 27) ?hr ?_; (case hd => rfl); (case hg => rfl); (case hr => first | (go_simp; done) | (go_simp; rfl)); intro gb561 hg w5 hbox hb; have n0_ := Aside0.mk (below_step au41 hb); have n1_ := Aside0.mk (hbox); have n2_ := Aside0.mk ((by rw [hg]; exact (below_size au41) : w.heap.size ≤ gb561)); have n3_ := Aside0.mk ((by rw [hg]; exact (below_size au41) : w.heap.size ≤ gb561)); clear HB; have HB := n0_; have BK561 := n1_; have GW561 := n2_; have GE561 := n3_; clear n0_ n1_ n2_ n3_; clear hb hbox hg; have hcz6_0 : w5.cell? ⟨gb561, 0, none⟩ = some (.slice A0_0 l0_0.length c0_0) := (blk_cell BK561.out 0).trans rfl; have hcz6_1 : w5.cell? ⟨gb561, 1, none⟩ = some (.string a0_1) := (blk_cell BK561.out 1).trans rfl; have hcz6_2 : w5.cell? ⟨gb561, 2, none⟩ = some (.string a0_2) := (blk_cell BK561.out 2).trans rfl; have hcz6_3 : w5.cell? ⟨gb561, 3, none⟩ = some (.string a0_3) := (blk_cell BK561.out 3).trans rfl; have hfz6_0 := blk_frozen BK561.out 0; have hfz6_1 := blk_frozen BK561.out 1; have hfz6_2 := blk_frozen BK561.out 2; have hfz6_3 := blk_frozen BK561.out 3) | ((with_reducible refine gate_callee (f := 63) rfl ?_); refine goesL_ (some 8) rfl rfl Tryd.func63 (by kernel_rfl) rfl #[.slice A0_0 l0_0.length c0_0, .int .i64 a1] rfl au38 ?_; (with_reducible refine (laws_heldStringS.calls k _ _ l0_0 a1 t562 _ ?side1 ?side2 A3.out).mono ?_); (case side1 => repeat (first | exact (Kd.C_below HR0_0.out HB.out) | (with_reducible refine Kd.C_alloc ?_ _) | (with_reducible refine Kd.C_drewN ?_ _) | (with_reducible refine Kd.C_drew ?_))); (case side2 => exact HC0_0.out); rintro e w7 ⟨rfl, hb⟩; refine ⟨_, rfl, ?_⟩; have n0_ := Aside0.mk (blk_below (g := gb561) (o := .cells #[.slice A0_0 l0_0.length c0_0, .string a0_1, .string a0_2, .string a0_3] 27 (0, 0)) au68 hb); have n1_ := Aside0.mk (below_step au31 hb); clear BK561; clear HB; have BK561 := n0_; have HB := n1_; clear n0_ n1_; (try clear hb); (try clear hb2); (try clear hk); (try clear hi)))
  go_ret
  exact ax7
 ·
  rw [if_neg c4] at H
  have c4b0 : decide (t562 < 0) = false := decide_eq_false c4
  clear c4
  obtain rfl := Option.some.inj H
  go_enter Tryd.func33, Tryd.ntmps33
  go_wp2_with (first | ((with_reducible refine gate_dst (N := 2) rfl ?_); refine box_event ?hg (N := 2) ?hd (cs := #[.slice A0_0 l0_0.length c0_0, .string a0_1, .string a0_2, .string a0_3]) (t := 27) ?hr ?_; (case hd => rfl); (case hg => rfl); (case hr => first | (go_simp; done) | (go_simp; rfl)); intro gb561 hg w8 hbox hb; have n0_ := Aside0.mk (below_step au41 hb); have n1_ := Aside0.mk (hbox); have n2_ := Aside0.mk ((by rw [hg]; exact (below_size au41) : w.heap.size ≤ gb561)); have n3_ := Aside0.mk ((by rw [hg]; exact (below_size au41) : w.heap.size ≤ gb561)); clear HB; have HB := n0_; have BK561 := n1_; have GW561 := n2_; have GE561 := n3_; clear n0_ n1_ n2_ n3_; clear hb hbox hg; have hcz9_0 : w8.cell? ⟨gb561, 0, none⟩ = some (.slice A0_0 l0_0.length c0_0) := (blk_cell BK561.out 0).trans rfl; have hcz9_1 : w8.cell? ⟨gb561, 1, none⟩ = some (.string a0_1) := (blk_cell BK561.out 1).trans rfl; have hcz9_2 : w8.cell? ⟨gb561, 2, none⟩ = some (.string a0_2) := (blk_cell BK561.out 2).trans rfl; have hcz9_3 : w8.cell? ⟨gb561, 3, none⟩ = some (.string a0_3) := (blk_cell BK561.out 3).trans rfl; have hfz9_0 := blk_frozen BK561.out 0; have hfz9_1 := blk_frozen BK561.out 1; have hfz9_2 := blk_frozen BK561.out 2; have hfz9_3 := blk_frozen BK561.out 3) | ((with_reducible refine gate_callee (f := 63) rfl ?_); refine goesL_ (some 8) rfl rfl Tryd.func63 (by kernel_rfl) rfl #[.slice A0_0 l0_0.length c0_0, .int .i64 a1] rfl au38 ?_; (with_reducible refine (laws_heldStringS.calls k _ _ l0_0 a1 t562 _ ?side1 ?side2 A3.out).mono ?_); (case side1 => repeat (first | exact (Kd.C_below HR0_0.out HB.out) | (with_reducible refine Kd.C_alloc ?_ _) | (with_reducible refine Kd.C_drewN ?_ _) | (with_reducible refine Kd.C_drew ?_))); (case side2 => exact HC0_0.out); rintro e w10 ⟨rfl, hb⟩; refine ⟨_, rfl, ?_⟩; have n0_ := Aside0.mk (blk_below (g := gb561) (o := .cells #[.slice A0_0 l0_0.length c0_0, .string a0_1, .string a0_2, .string a0_3] 27 (0, 0)) au68 hb); have n1_ := Aside0.mk (below_step au31 hb); clear BK561; clear HB; have BK561 := n0_; have HB := n1_; clear n0_ n1_; (try clear hb); (try clear hb2); (try clear hk); (try clear hi)))
  go_ret
  exact ax7


/-! ### laws_FnExactParseInverse: function 9 -/
mutual
def laws_FnExactParseInverse.j0 : Nat → ByteArray → Bool → Bool → List ByteArray → ByteArray → ByteArray → ByteArray → List ByteArray → ByteArray → ByteArray → ByteArray → Option (Bool)
 | 0, _, _, _, _, _, _, _, _, _, _, _ => none
 | k + 1, x0, x4, x32, x571000, x571001, x571002, x571003, x579000, x579001, x579002, x579003 => if x32 = true then (some false) else ((laws_markName.f k x579000 x579001 x579002 x579003 1).bind fun bt580 => ((laws_heldName.f k bt580.2 x579001 x579002 x579003 1).bind fun t582 => (if t582 < 0 then (some false) else (if t582 = bt580.1 then ((impl_ParseInverse.f k x0).bind fun bt583 => ((laws_eqName.f k bt583.1 bt583.2.1 bt583.2.2.1 bt583.2.2.2.1 x571000 x571001 x571002 x571003).bind fun t591 => (if t591 = true then (laws_FnExactParseInverse.j1 k bt580.1 (bt583.2.2.2.2 != x4) bt580.2 x579001 x579002 x579003) else (laws_FnExactParseInverse.j1 k bt580.1 true bt580.2 x579001 x579002 x579003)))) else (some false)))))
def laws_FnExactParseInverse.j1 : Nat → Int → Bool → List ByteArray → ByteArray → ByteArray → ByteArray → Option (Bool)
 | 0, _, _, _, _, _, _ => none
 | k + 1, x7, x57, x579000, x579001, x579002, x579003 => if x57 = true then (some false) else ((laws_heldName.f k x579000 x579001 x579002 x579003 1).bind fun t592 => (if t592 < 0 then (some false) else (if t592 = x7 then (some true) else (some false))))
end
def laws_FnExactParseInverse.f (k : Nat) (a0 : ByteArray) : Option (Bool) := if (a0.size : Int) > 1048576 then (some true) else ((spec_ParseInverse.f k a0).bind fun bt563 => ((impl_ParseInverse.f k a0).bind fun bt571 => ((laws_eqName.f k bt571.1 bt571.2.1 bt571.2.2.1 bt571.2.2.2.1 bt563.1 bt563.2.1 bt563.2.2.1 bt563.2.2.2.1).bind fun t579 => (if t579 = true then (laws_FnExactParseInverse.j0 k a0 bt563.2.2.2.2 (bt571.2.2.2.2 != bt563.2.2.2.2) bt563.1 bt563.2.1 bt563.2.2.1 bt563.2.2.2.1 bt571.1 bt571.2.1 bt571.2.2.1 bt571.2.2.2.1) else (laws_FnExactParseInverse.j0 k a0 bt563.2.2.2.2 true bt563.1 bt563.2.1 bt563.2.2.1 bt563.2.2.2.1 bt571.1 bt571.2.1 bt571.2.2.1 bt571.2.2.2.1)))))
theorem laws_FnExactParseInverse.mono_l : ∀ k, (∀ y0 y1 y2 y3 y4 y5 y6 y7 y8 y9 y10, LeO (laws_FnExactParseInverse.j0 k y0 y1 y2 y3 y4 y5 y6 y7 y8 y9 y10) (laws_FnExactParseInverse.j0 (k + 1) y0 y1 y2 y3 y4 y5 y6 y7 y8 y9 y10)) ∧ (∀ y0 y1 y2 y3 y4 y5, LeO (laws_FnExactParseInverse.j1 k y0 y1 y2 y3 y4 y5) (laws_FnExactParseInverse.j1 (k + 1) y0 y1 y2 y3 y4 y5))
 | 0 => ⟨fun _ _ _ _ _ _ _ _ _ _ _ r h => by simp [laws_FnExactParseInverse.j0] at h, fun _ _ _ _ _ _ r h => by simp [laws_FnExactParseInverse.j1] at h⟩
 | k + 1 => by
  obtain ⟨ih0, ih1⟩ := laws_FnExactParseInverse.mono_l k
  refine ⟨?_, ?_⟩
  ·
   intro y0 y1 y2 y3 y4 y5 y6 y7 y8 y9 y10
   unfold laws_FnExactParseInverse.j0
   repeat' first
   | (with_reducible exact ih0 _ _ _ _ _ _ _ _ _ _ _)
   | (with_reducible exact ih1 _ _ _ _ _ _)
   | (with_reducible exact impl_ParseInverse.mono _ _)
   | (with_reducible exact laws_eqName.mono _ _ _ _ _ _ _ _ _)
   | (with_reducible exact laws_heldName.mono _ _ _ _ _ _)
   | (with_reducible exact laws_markName.mono _ _ _ _ _ _)
   | (with_reducible exact spec_ParseInverse.mono _ _)
   | (with_reducible exact LeO.refl _)
   | (with_reducible exact LeO.none _)
   | (with_reducible refine LeO.ite ?_ ?_)
   | (with_reducible refine LeO.bind ?_ (fun _ => ?_))
   | exact ih0 _ _ _ _ _ _ _ _ _ _ _
   | exact ih1 _ _ _ _ _ _
   | exact impl_ParseInverse.mono _ _
   | exact laws_eqName.mono _ _ _ _ _ _ _ _ _
   | exact laws_heldName.mono _ _ _ _ _ _
   | exact laws_markName.mono _ _ _ _ _ _
   | exact spec_ParseInverse.mono _ _
   | exact LeO.none _
   | refine LeO.ite ?_ ?_
   | refine LeO.bind ?_ (fun _ => ?_)
  ·
   intro y0 y1 y2 y3 y4 y5
   unfold laws_FnExactParseInverse.j1
   repeat' first
   | (with_reducible exact ih0 _ _ _ _ _ _ _ _ _ _ _)
   | (with_reducible exact ih1 _ _ _ _ _ _)
   | (with_reducible exact impl_ParseInverse.mono _ _)
   | (with_reducible exact laws_eqName.mono _ _ _ _ _ _ _ _ _)
   | (with_reducible exact laws_heldName.mono _ _ _ _ _ _)
   | (with_reducible exact laws_markName.mono _ _ _ _ _ _)
   | (with_reducible exact spec_ParseInverse.mono _ _)
   | (with_reducible exact LeO.refl _)
   | (with_reducible exact LeO.none _)
   | (with_reducible refine LeO.ite ?_ ?_)
   | (with_reducible refine LeO.bind ?_ (fun _ => ?_))
   | exact ih0 _ _ _ _ _ _ _ _ _ _ _
   | exact ih1 _ _ _ _ _ _
   | exact impl_ParseInverse.mono _ _
   | exact laws_eqName.mono _ _ _ _ _ _ _ _ _
   | exact laws_heldName.mono _ _ _ _ _ _
   | exact laws_markName.mono _ _ _ _ _ _
   | exact spec_ParseInverse.mono _ _
   | exact LeO.none _
   | refine LeO.ite ?_ ?_
   | refine LeO.bind ?_ (fun _ => ?_)
theorem laws_FnExactParseInverse.mono : ∀ a0 k, LeO (laws_FnExactParseInverse.f k a0) (laws_FnExactParseInverse.f (k + 1) a0) := by
 intro a0 k
 obtain ⟨ih0, ih1⟩ := laws_FnExactParseInverse.mono_l k
 unfold laws_FnExactParseInverse.f
 repeat' first
   | (with_reducible exact ih0 _ _ _ _ _ _ _ _ _ _ _)
   | (with_reducible exact ih1 _ _ _ _ _ _)
   | (with_reducible exact impl_ParseInverse.mono _ _)
   | (with_reducible exact laws_eqName.mono _ _ _ _ _ _ _ _ _)
   | (with_reducible exact laws_heldName.mono _ _ _ _ _ _)
   | (with_reducible exact laws_markName.mono _ _ _ _ _ _)
   | (with_reducible exact spec_ParseInverse.mono _ _)
   | (with_reducible exact LeO.refl _)
   | (with_reducible exact LeO.none _)
   | (with_reducible refine LeO.ite ?_ ?_)
   | (with_reducible refine LeO.bind ?_ (fun _ => ?_))
   | exact ih0 _ _ _ _ _ _ _ _ _ _ _
   | exact ih1 _ _ _ _ _ _
   | exact impl_ParseInverse.mono _ _
   | exact laws_eqName.mono _ _ _ _ _ _ _ _ _
   | exact laws_heldName.mono _ _ _ _ _ _
   | exact laws_markName.mono _ _ _ _ _ _
   | exact spec_ParseInverse.mono _ _
   | exact LeO.none _
   | refine LeO.ite ?_ ?_
   | refine LeO.bind ?_ (fun _ => ?_)
set_option maxRecDepth 100000 in
theorem laws_FnExactParseInverse.L0 {P : Prop} (h : P := by
  have hnb29 := NB578_570.out
  have hnc29 := NB570_578.out
  have hcz30_0 : wc.cell? ⟨gb578, 0, none⟩ = some (.slice Ao12 t571.length co12) := (blk_cell BK578.out 0).trans rfl
  have hcz30_1 : wc.cell? ⟨gb578, 1, none⟩ = some (.string t574) := (blk_cell BK578.out 1).trans rfl
  have hcz30_2 : wc.cell? ⟨gb578, 2, none⟩ = some (.string t575) := (blk_cell BK578.out 2).trans rfl
  have hcz30_3 : wc.cell? ⟨gb578, 3, none⟩ = some (.string t576) := (blk_cell BK578.out 3).trans rfl
  have hfz30_0 := blk_frozen BK578.out 0
  have hfz30_1 := blk_frozen BK578.out 1
  have hfz30_2 := blk_frozen BK578.out 2
  have hfz30_3 := blk_frozen BK578.out 3
  go_wp2_with (first | ((with_reducible refine gate_callee (f := 32) rfl ?_); refine goesL_ (some 35) rfl rfl Tryd.func32 (by kernel_rfl) rfl #[.agg #[.slice Ao12 t571.length co12, .string t574, .string t575, .string t576], .int .i64 1] rfl au38 ?_; (with_reducible refine (laws_markName.calls kj4 (fun k_ => some k_ = (.slice Ao12 t571.length co12 : Value).ownBlock) (.slice Ao12 t571.length co12) t571 t574 t575 t576 1 t580 t581 w _ ?side1 ?side2 A26.out).mono ?_); (case side1 => repeat (first | (with_reducible first | exact HB.out | apply below_alloc | apply pw_below_drewN | apply below_drew1 | refine below_set ?_ GE570.out | refine below_set ?_ GE578.out) | exact HB.out)); (case side2 => exact Kd.R_tight rfl HO_579000.out); rintro e w31 ⟨rfl, hy0, hb, hkp⟩; refine ⟨_, rfl, ?_⟩; have n0_ := Aside0.mk (Kd.R_mono (ok' := fun k_ => some k_ ≠ (.slice Ao12 t571.length co12 : Value).ownBlock) (Kd.R_keptB (HO_571000.out) hkp (fun k_ hk_ hs_ => (hk_) hs_)) (fun k_ hk_ => hk_.1)); have n1_ := Aside0.mk (Kd.R_reok rfl hy0 (fun k_ e_ => HO_579000.out.1 k_ e_)); have n2_ := Aside0.mk (blk_kept au69 hkp (fun hs_ => (fun e_ => (Kd.R_ne HO_579000.out BK570.out (by decide)) e_) hs_)); have n3_ := Aside0.mk (blk_kept au70 hkp (fun hs_ => (fun e_ => (Kd.R_ne HO_579000.out BK578.out (by decide)) e_) hs_)); have n4_ := Aside0.mk (hb); clear HO_571000; clear HO_579000; clear BK570; clear BK578; clear HB; have HO_571000 := n0_; have HO_579000 := n1_; have BK570 := n2_; have BK578 := n3_; have HB := n4_; clear n0_ n1_ n2_ n3_ n4_; (try clear hb); (try clear hkp); (try clear hy0); have hcz32_0 : w31.cell? ⟨gb578, 0, none⟩ = some (.slice Ao12 t571.length co12) := (blk_cell BK578.out 0).trans rfl; have hcz32_1 : w31.cell? ⟨gb578, 1, none⟩ = some (.string t574) := (blk_cell BK578.out 1).trans rfl; have hcz32_2 : w31.cell? ⟨gb578, 2, none⟩ = some (.string t575) := (blk_cell BK578.out 2).trans rfl; have hcz32_3 : w31.cell? ⟨gb578, 3, none⟩ = some (.string t576) := (blk_cell BK578.out 3).trans rfl; have hfz32_0 := blk_frozen BK578.out 0; have hfz32_1 := blk_frozen BK578.out 1; have hfz32_2 := blk_frozen BK578.out 2; have hfz32_3 := blk_frozen BK578.out 3) | ((with_reducible refine gate_callee (f := 33) rfl ?_); refine goesL_ (some 38) rfl rfl Tryd.func33 (by kernel_rfl) rfl #[.agg #[.slice Ao12 t581.length co12, .string t574, .string t575, .string t576], .int .i64 1] rfl au14 ?_; (with_reducible refine (laws_heldName.calls kj4 _ _ t581 t574 t575 t576 1 t582 _ ?side1 ?side2 A27.out).mono ?_); (case side1 => repeat (first | exact (Kd.R_reads' HO_579000.out).2.2 | (with_reducible refine Kd.C_alloc ?_ _) | (with_reducible refine Kd.C_drewN ?_ _) | (with_reducible refine Kd.C_drew ?_))); (case side2 => rw [show t581.length = t571.length from (Kd.R_reads' HO_579000.out).1.symm]; exact (Kd.R_reads' HO_579000.out).2.1); rintro e w33 ⟨rfl, hb⟩; refine ⟨_, rfl, ?_⟩; have n0_ := Aside0.mk (Kd.R_below au79 hb); have n1_ := Aside0.mk (Kd.R_below au80 hb); have n2_ := Aside0.mk (blk_below (g := gb570) (o := .cells #[.slice Ao8 t563.length co8, .string t566, .string t567, .string t568] 27 (0, 0)) au69 hb); have n3_ := Aside0.mk (blk_below (g := gb578) (o := .cells #[.slice Ao12 t571.length co12, .string t574, .string t575, .string t576] 27 (0, 0)) au70 hb); have n4_ := Aside0.mk (below_step au17 hb); clear HO_571000; clear HO_579000; clear BK570; clear BK578; clear HB; have HO_571000 := n0_; have HO_579000 := n1_; have BK570 := n2_; have BK578 := n3_; have HB := n4_; clear n0_ n1_ n2_ n3_ n4_; (try clear hb); (try clear hb2); (try clear hk); (try clear hi)))
  go_ret
  exact ⟨by first | rfl | (simp [errW_none, errW_some] <;> rfl) | (simp [*, errW_none, errW_some] <;> rfl), by repeat (first | (with_reducible first | exact HB.out | apply below_alloc | apply pw_below_drewN | apply below_drew1 | refine below_set ?_ GE570.out | refine below_set ?_ GE578.out) | exact HB.out)⟩) : P := h
set_option maxRecDepth 100000 in
theorem laws_FnExactParseInverse.L1 {P : Prop} (h : P := by
  have hnb65 := NB578_570.out
  have hnc65 := NB570_578.out
  have hnb66 := NB578_590.out
  have hnc66 := NB590_578.out
  have hcz67_0 : wc.cell? ⟨gb578, 0, none⟩ = some (.slice Ao12 t581.length co12) := (blk_cell BK578.out 0).trans rfl
  have hcz67_1 : wc.cell? ⟨gb578, 1, none⟩ = some (.string t574) := (blk_cell BK578.out 1).trans rfl
  have hcz67_2 : wc.cell? ⟨gb578, 2, none⟩ = some (.string t575) := (blk_cell BK578.out 2).trans rfl
  have hcz67_3 : wc.cell? ⟨gb578, 3, none⟩ = some (.string t576) := (blk_cell BK578.out 3).trans rfl
  have hfz67_0 := blk_frozen BK578.out 0
  have hfz67_1 := blk_frozen BK578.out 1
  have hfz67_2 := blk_frozen BK578.out 2
  have hfz67_3 := blk_frozen BK578.out 3
  go_wp2_with (first | ((with_reducible refine gate_callee (f := 33) rfl ?_); refine goesL_ (some 60) rfl rfl Tryd.func33 (by kernel_rfl) rfl #[.agg #[.slice Ao12 t581.length co12, .string t574, .string t575, .string t576], .int .i64 1] rfl au38 ?_; (with_reducible refine (laws_heldName.calls kj35 _ _ t581 t574 t575 t576 1 t592 _ ?side1 ?side2 A63.out).mono ?_); (case side1 => repeat (first | exact (Kd.R_reads' HO_579000.out).2.2 | (with_reducible refine Kd.C_alloc ?_ _) | (with_reducible refine Kd.C_drewN ?_ _) | (with_reducible refine Kd.C_drew ?_))); (case side2 => exact (Kd.R_reads' HO_579000.out).2.1); rintro e w68 ⟨rfl, hb⟩; refine ⟨_, rfl, ?_⟩; have n0_ := Aside0.mk (Kd.R_below au79 hb); have n1_ := Aside0.mk (Kd.R_below au80 hb); have n2_ := Aside0.mk (Kd.R_below (by (with_reducible repeat (first | apply Kd.R_alloc | apply Kd.R_drewN | apply Kd.R_drew)); exact HO_591000.out) hb); have n3_ := Aside0.mk (blk_below (g := gb570) (o := .cells #[.slice Ao8 t563.length co8, .string t566, .string t567, .string t568] 27 (0, 0)) au69 hb); have n4_ := Aside0.mk (blk_below (g := gb578) (o := .cells #[.slice Ao12 t581.length co12, .string t574, .string t575, .string t576] 27 (0, 0)) au70 hb); have n5_ := Aside0.mk (blk_below (g := gb590) (o := .cells #[.slice Ao44 t583.length co44, .string t586, .string t587, .string t588] 27 (0, 0)) (by (with_reducible repeat (first | refine blk_drewN ?_ _ | refine blk_drew ?_ | refine blk_alloc ?_ _)); exact BK590.out) hb); have n6_ := Aside0.mk (below_step au12 hb); clear HO_571000; clear HO_579000; clear HO_591000; clear BK570; clear BK578; clear BK590; clear HB; have HO_571000 := n0_; have HO_579000 := n1_; have HO_591000 := n2_; have BK570 := n3_; have BK578 := n4_; have BK590 := n5_; have HB := n6_; clear n0_ n1_ n2_ n3_ n4_ n5_ n6_; (try clear hb); (try clear hb2); (try clear hk); (try clear hi)))
  go_ret
  exact ⟨by first | rfl | (simp [errW_none, errW_some] <;> rfl) | (simp [*, errW_none, errW_some] <;> rfl), by repeat (first | (with_reducible first | exact HB.out | apply below_alloc | apply pw_below_drewN | apply below_drew1 | refine below_set ?_ GE570.out | refine below_set ?_ GE578.out | refine below_set ?_ GE590.out) | exact HB.out)⟩) : P := h
set_option maxHeartbeats 8000000 in
set_option maxRecDepth 100000 in
theorem laws_FnExactParseInverse.calls (k : Nat) (a0 : ByteArray) (r : Bool) (w : World) {gF1 gF2 gF3 : Bool} (hG : GL gF1 gF2 gF3 w) (h : laws_FnExactParseInverse.f k a0 = some r) :
  Calls Tryd.prog 9 #[.string a0] w fun e w' => e = .returned (.bool r) ∧ Below w.heap.size w w' := by
 have HG := Aside0.mk hG
 clear hG
 have hu27 := Tryd.underlying27
 have HB := Aside0.mk (Below.refl w.heap.size w)
 have H : (if (a0.size : Int) > 1048576 then (some true) else ((spec_ParseInverse.f k a0).bind fun bt563 => ((impl_ParseInverse.f k a0).bind fun bt571 => ((laws_eqName.f k bt571.1 bt571.2.1 bt571.2.2.1 bt571.2.2.2.1 bt563.1 bt563.2.1 bt563.2.2.1 bt563.2.2.2.1).bind fun t579 => (if t579 = true then (laws_FnExactParseInverse.j0 k a0 bt563.2.2.2.2 (bt571.2.2.2.2 != bt563.2.2.2.2) bt563.1 bt563.2.1 bt563.2.2.1 bt563.2.2.2.1 bt571.1 bt571.2.1 bt571.2.2.1 bt571.2.2.2.1) else (laws_FnExactParseInverse.j0 k a0 bt563.2.2.2.2 true bt563.1 bt563.2.1 bt563.2.2.1 bt563.2.2.2.1 bt571.1 bt571.2.1 bt571.2.2.1 bt571.2.2.2.1)))))) = some r := h
 clear h
 by_cases c2 : (a0.size : Int) > 1048576
 ·
  rw [if_pos c2] at H
  have c2b0 : decide (1048576 < (a0.size : Int)) = true := decide_eq_true c2
  have c2b1 : decide (1048576 < a0.size) = true := decide_eq_true (by omega)
  clear c2
  obtain rfl := Option.some.inj H
  go_enter Tryd.func9, Tryd.ntmps9
  go_wp2
  go_ret
  exact ax2
 ·
  rw [if_neg c2] at H
  have c2b0 : decide (1048576 < (a0.size : Int)) = false := decide_eq_false c2
  have c2b1 : decide (1048576 < a0.size) = false := decide_eq_false (by omega)
  clear c2
  replace H := Option.bind_eq_some_iff.mp H
  obtain ⟨⟨t563, t566, t567, t568, t569⟩, A30, H⟩ := H
  replace H : ((impl_ParseInverse.f k a0).bind fun bt571 => ((laws_eqName.f k bt571.1 bt571.2.1 bt571.2.2.1 bt571.2.2.2.1 t563 t566 t567 t568).bind fun t579 => (if t579 = true then (laws_FnExactParseInverse.j0 k a0 t569 (bt571.2.2.2.2 != t569) t563 t566 t567 t568 bt571.1 bt571.2.1 bt571.2.2.1 bt571.2.2.2.1) else (laws_FnExactParseInverse.j0 k a0 t569 true t563 t566 t567 t568 bt571.1 bt571.2.1 bt571.2.2.1 bt571.2.2.2.1)))) = some r := H
  have A3 := Aside0.mk A30
  clear A30
  replace H := Option.bind_eq_some_iff.mp H
  obtain ⟨⟨t571, t574, t575, t576, t577⟩, A40, H⟩ := H
  replace H : ((laws_eqName.f k t571 t574 t575 t576 t563 t566 t567 t568).bind fun t579 => (if t579 = true then (laws_FnExactParseInverse.j0 k a0 t569 (t577 != t569) t563 t566 t567 t568 t571 t574 t575 t576) else (laws_FnExactParseInverse.j0 k a0 t569 true t563 t566 t567 t568 t571 t574 t575 t576))) = some r := H
  have A4 := Aside0.mk A40
  clear A40
  have HC5 := Aside0.mk H
  clear H
  go_enter Tryd.func9, Tryd.ntmps9
  go_upto_region 5 with (first | ((with_reducible refine gate_callee (f := 30) rfl ?_); refine goesL_ (some 16) rfl rfl Tryd.func30 (by kernel_rfl) rfl #[.string a0] rfl au38 ?_; (with_reducible refine (spec_ParseInverse.calls k a0 t563 t566 t567 t568 t569 _ A3.out).mono ?_); rintro e w6 ⟨v564, rfl, ho0, hb⟩; refine ⟨_, rfl, ?_⟩; have n0_ := Aside0.mk (Kd.R_lower ho0 (below_size au41)); have n1_ := Aside0.mk (below_step au41 hb); clear HB; have HO565 := n0_; have HB := n1_; clear n0_ n1_; (try clear hb); (try clear hb2); (try clear hk); (try clear hi); (try clear ho0)) | ((with_reducible refine gate_dst (N := 3) rfl ?_); refine box_event ?hg (N := 3) ?hd (cs := #[.slice none 0 0, .string (⟨#[]⟩ : ByteArray), .string (⟨#[]⟩ : ByteArray), .string (⟨#[]⟩ : ByteArray)]) (t := 27) ?hr ?_; (case hd => rfl); (case hg => rfl); (case hr => first | (go_simp; done) | (go_simp; rfl)); intro gb570 hg w7 hbox hb; have n0_ := Aside0.mk (Kd.R_below au84 hb); have n1_ := Aside0.mk (below_step au41 hb); have n2_ := Aside0.mk (hbox); have n3_ := Aside0.mk ((by rw [hg]; exact (below_size au41) : w.heap.size ≤ gb570)); have n4_ := Aside0.mk ((by rw [hg]; exact (below_size au41) : w.heap.size ≤ gb570)); clear HO565; clear HB; have HO565 := n0_; have HB := n1_; have BK570 := n2_; have GW570 := n3_; have GE570 := n4_; clear n0_ n1_ n2_ n3_ n4_; clear hb hbox hg; obtain ⟨Ao8, co8, eo8⟩ := Kd.R_slice HO565.out; subst eo8; have hcz9_0 : w7.cell? ⟨gb570, 0, none⟩ = some (.slice none 0 0) := (blk_cell BK570.out 0).trans rfl; have hcz9_1 : w7.cell? ⟨gb570, 1, none⟩ = some (.string (⟨#[]⟩ : ByteArray)) := (blk_cell BK570.out 1).trans rfl; have hcz9_2 : w7.cell? ⟨gb570, 2, none⟩ = some (.string (⟨#[]⟩ : ByteArray)) := (blk_cell BK570.out 2).trans rfl; have hcz9_3 : w7.cell? ⟨gb570, 3, none⟩ = some (.string (⟨#[]⟩ : ByteArray)) := (blk_cell BK570.out 3).trans rfl; have hfz9_0 := blk_frozen BK570.out 0; have hfz9_1 := blk_frozen BK570.out 1; have hfz9_2 := blk_frozen BK570.out 2; have hfz9_3 := blk_frozen BK570.out 3) | ((with_reducible refine gate_callee (f := 31) rfl ?_); refine goesL_ (some 21) rfl rfl Tryd.func31 (by kernel_rfl) rfl #[.string a0] rfl au38 ?_; (with_reducible refine (impl_ParseInverse.calls (hG := au9) k a0 t571 t574 t575 t576 t577 _ A4.out).mono ?_); rintro e w10 ⟨v572, rfl, ho0, hb⟩; refine ⟨_, rfl, ?_⟩; have n0_ := Aside0.mk (Kd.R_elder' au8 (Kd.R_base ho0) hb); have n1_ := Aside0.mk (Kd.R_lower (Kd.R_new' ho0 (Kd.R_lt au8)) (below_size au32)); have n2_ := Aside0.mk (blk_below (g := gb570) (o := .cells #[.slice Ao8 t563.length co8, .string t566, .string t567, .string t568] 27 (0, 0)) (by (with_reducible repeat (first | refine blk_drewN ?_ _ | refine blk_drew ?_ | refine blk_alloc ?_ _)); refine blk_put (cs := #[.slice Ao8 t563.length co8, .string t566, .string t567, .string (⟨#[]⟩ : ByteArray)]) ?_ 3 _ rfl; (with_reducible repeat (first | refine blk_drewN ?_ _ | refine blk_drew ?_ | refine blk_alloc ?_ _)); refine blk_put (cs := #[.slice Ao8 t563.length co8, .string t566, .string (⟨#[]⟩ : ByteArray), .string (⟨#[]⟩ : ByteArray)]) ?_ 2 _ rfl; (with_reducible repeat (first | refine blk_drewN ?_ _ | refine blk_drew ?_ | refine blk_alloc ?_ _)); refine blk_put (cs := #[.slice Ao8 t563.length co8, .string (⟨#[]⟩ : ByteArray), .string (⟨#[]⟩ : ByteArray), .string (⟨#[]⟩ : ByteArray)]) ?_ 1 _ rfl; (with_reducible repeat (first | refine blk_drewN ?_ _ | refine blk_drew ?_ | refine blk_alloc ?_ _)); refine blk_put (cs := #[.slice none 0 0, .string (⟨#[]⟩ : ByteArray), .string (⟨#[]⟩ : ByteArray), .string (⟨#[]⟩ : ByteArray)]) ?_ 0 _ rfl; (with_reducible repeat (first | refine blk_drewN ?_ _ | refine blk_drew ?_ | refine blk_alloc ?_ _)); exact BK570.out) hb); have n3_ := Aside0.mk (below_step au32 hb); clear HO565; clear BK570; clear HB; have HO565 := n0_; have HO573 := n1_; have BK570 := n2_; have HB := n3_; clear n0_ n1_ n2_ n3_; (try clear hb); (try clear hb2); (try clear hk); (try clear hi); (try clear ho0)) | ((with_reducible refine gate_dst (N := 5) rfl ?_); refine box_event ?hg (N := 5) ?hd (cs := #[.slice none 0 0, .string (⟨#[]⟩ : ByteArray), .string (⟨#[]⟩ : ByteArray), .string (⟨#[]⟩ : ByteArray)]) (t := 27) ?hr ?_; (case hd => rfl); (case hg => rfl); (case hr => first | (go_simp; done) | (go_simp; rfl)); intro gb578 hg w11 hbox hb; have n0_ := Aside0.mk (Kd.R_below au84 hb); have n1_ := Aside0.mk (Kd.R_below (by (with_reducible repeat (first | apply Kd.R_alloc | apply Kd.R_drewN | apply Kd.R_drew)); exact HO573.out) hb); have n2_ := Aside0.mk (blk_below (g := gb570) (o := .cells #[.slice Ao8 t563.length co8, .string t566, .string t567, .string t568] 27 (0, 0)) au69 hb); have n3_ := Aside0.mk (below_step au32 hb); have n4_ := Aside0.mk (hbox); have n5_ := Aside0.mk ((by rw [hg]; exact (below_size au32) : w.heap.size ≤ gb578)); have n6_ := Aside0.mk ((by rw [hg]; exact (below_size au32) : w.heap.size ≤ gb578)); have n7_ := Aside0.mk ((by rw [hg]; exact Nat.ne_of_lt (blk_lt (g := gb570) (o := .cells #[.slice Ao8 t563.length co8, .string t566, .string t567, .string t568] 27 (0, 0)) au69) : gb570 ≠ gb578)); have n8_ := Aside0.mk ((by rw [hg]; exact Nat.ne_of_gt (blk_lt (g := gb570) (o := .cells #[.slice Ao8 t563.length co8, .string t566, .string t567, .string t568] 27 (0, 0)) au69) : gb578 ≠ gb570)); clear HO565; clear HO573; clear BK570; clear HB; have HO565 := n0_; have HO573 := n1_; have BK570 := n2_; have HB := n3_; have BK578 := n4_; have GW578 := n5_; have GE578 := n6_; have NB570_578 := n7_; have NB578_570 := n8_; clear n0_ n1_ n2_ n3_ n4_ n5_ n6_ n7_ n8_; clear hb hbox hg; obtain ⟨Ao12, co12, eo12⟩ := Kd.R_slice HO573.out; subst eo12; have hnb13 := NB578_570.out; have hnc13 := NB570_578.out; have hcz14_0 : w11.cell? ⟨gb578, 0, none⟩ = some (.slice none 0 0) := (blk_cell BK578.out 0).trans rfl; have hcz14_1 : w11.cell? ⟨gb578, 1, none⟩ = some (.string (⟨#[]⟩ : ByteArray)) := (blk_cell BK578.out 1).trans rfl; have hcz14_2 : w11.cell? ⟨gb578, 2, none⟩ = some (.string (⟨#[]⟩ : ByteArray)) := (blk_cell BK578.out 2).trans rfl; have hcz14_3 : w11.cell? ⟨gb578, 3, none⟩ = some (.string (⟨#[]⟩ : ByteArray)) := (blk_cell BK578.out 3).trans rfl; have hfz14_0 := blk_frozen BK578.out 0; have hfz14_1 := blk_frozen BK578.out 1; have hfz14_2 := blk_frozen BK578.out 2; have hfz14_3 := blk_frozen BK578.out 3))
  (try simp only [Act.put, List.setIfInBounds_toArray, List.set_cons_zero, List.set_cons_succ])
  go_cut [32] (fun v32 wc => ∃ (kq : Nat) (x32_4 : Bool), v32 = .bool x32_4 ∧ Aside0 (laws_FnExactParseInverse.j0 kq a0 t569 x32_4 t563 t566 t567 t568 t571 t574 t575 t576 = some r) ∧ Aside0 (kq ≤ k) ∧ Aside0 (Kd.R Kd.string 9 wc w.heap.size (fun k_ => some k_ ≠ ((.slice Ao12 t571.length co12) : Value).ownBlock) (.slice Ao8 t563.length co8) t563) ∧ Aside0 (Kd.R Kd.string 9 wc w.heap.size (fun k_ => some k_ ≠ ((.slice Ao8 t563.length co8) : Value).ownBlock) (.slice Ao12 t571.length co12) t571) ∧ Aside0 (wc.heap[gb570]? = some (.cells #[(.slice Ao8 t563.length co8), .string t566, .string t567, .string t568] 27 (0, 0))) ∧ Aside0 (wc.heap[gb578]? = some (.cells #[(.slice Ao12 t571.length co12), .string t574, .string t575, .string t576] 27 (0, 0))) ∧ Aside0 (Below w.heap.size w wc))
  case first =>
   have H := HC5.out
   clear HC5
   replace H := Option.bind_eq_some_iff.mp H
   obtain ⟨t579, A150, H⟩ := H
   try dsimp only at H
   have A15 := Aside0.mk A150
   clear A150
   by_cases c16 : t579 = true
   ·
    subst c16
    replace H := (if_pos rfl).symm.trans H
    have H' := Aside0.mk H
    clear H
    have hnb17 := NB578_570.out
    have hnc17 := NB570_578.out
    have hcz18_0 : w11.cell? ⟨gb578, 0, none⟩ = some (.slice none 0 0) := (blk_cell BK578.out 0).trans rfl
    have hcz18_1 : w11.cell? ⟨gb578, 1, none⟩ = some (.string (⟨#[]⟩ : ByteArray)) := (blk_cell BK578.out 1).trans rfl
    have hcz18_2 : w11.cell? ⟨gb578, 2, none⟩ = some (.string (⟨#[]⟩ : ByteArray)) := (blk_cell BK578.out 2).trans rfl
    have hcz18_3 : w11.cell? ⟨gb578, 3, none⟩ = some (.string (⟨#[]⟩ : ByteArray)) := (blk_cell BK578.out 3).trans rfl
    have hfz18_0 := blk_frozen BK578.out 0
    have hfz18_1 := blk_frozen BK578.out 1
    have hfz18_2 := blk_frozen BK578.out 2
    have hfz18_3 := blk_frozen BK578.out 3
    have hcz19_0 : w11.cell? ⟨gb570, 0, none⟩ = some (.slice Ao8 t563.length co8) := (blk_cell BK570.out 0).trans rfl
    have hcz19_1 : w11.cell? ⟨gb570, 1, none⟩ = some (.string t566) := (blk_cell BK570.out 1).trans rfl
    have hcz19_2 : w11.cell? ⟨gb570, 2, none⟩ = some (.string t567) := (blk_cell BK570.out 2).trans rfl
    have hcz19_3 : w11.cell? ⟨gb570, 3, none⟩ = some (.string t568) := (blk_cell BK570.out 3).trans rfl
    have hfz19_0 := blk_frozen BK570.out 0
    have hfz19_1 := blk_frozen BK570.out 1
    have hfz19_2 := blk_frozen BK570.out 2
    have hfz19_3 := blk_frozen BK570.out 3
    go_wp2_with (first | ((with_reducible refine gate_callee (f := 16) rfl ?_); refine goesL_ (some 26) rfl rfl Tryd.func16 (by kernel_rfl) rfl #[.agg #[.slice Ao12 t571.length co12, .string t574, .string t575, .string t576], .agg #[.slice Ao8 t563.length co8, .string t566, .string t567, .string t568]] rfl au38 ?_; (with_reducible refine (laws_eqName.calls k _ _ t571 t574 t575 t576 _ _ t563 t566 t567 t568 _ _ ?side1 ?side2 ?side3 ?side4 A15.out).mono ?_); (case side1 => refine (Kd.R_reads' (e := 9) (base := w.heap.size) (ok := fun k_ => (True ∧ some k_ ≠ (.slice Ao8 t563.length co8 : Value).ownBlock)) (n := t571.length) (c := co12) ?_).2.2; exact au5); (case side2 => exact (Kd.R_reads' HO573.out).2.1); (case side3 => refine (Kd.R_reads' (e := 9) (base := w.heap.size) (ok := fun k_ => (True ∧ some k_ ≠ (.slice Ao12 t571.length co12 : Value).ownBlock)) (n := t563.length) (c := co8) ?_).2.2; exact au6); (case side4 => exact (Kd.R_reads' HO565.out).2.1); rintro e w20 ⟨rfl, hb⟩; refine ⟨_, rfl, ?_⟩; have n0_ := Aside0.mk (Kd.R_below au6 hb); have n1_ := Aside0.mk (Kd.R_below au5 hb); have n2_ := Aside0.mk (blk_below (g := gb570) (o := .cells #[.slice Ao8 t563.length co8, .string t566, .string t567, .string t568] 27 (0, 0)) au0 hb); have n3_ := Aside0.mk (blk_below (g := gb578) (o := .cells #[.slice Ao12 t571.length co12, .string t574, .string t575, .string t576] 27 (0, 0)) (by (with_reducible repeat (first | refine blk_drewN ?_ _ | refine blk_drew ?_ | refine blk_alloc ?_ _)); refine blk_put (cs := #[.slice Ao12 t571.length co12, .string t574, .string t575, .string (⟨#[]⟩ : ByteArray)]) ?_ 3 _ rfl; (with_reducible repeat (first | refine blk_drewN ?_ _ | refine blk_drew ?_ | refine blk_alloc ?_ _)); refine blk_put (cs := #[.slice Ao12 t571.length co12, .string t574, .string (⟨#[]⟩ : ByteArray), .string (⟨#[]⟩ : ByteArray)]) ?_ 2 _ rfl; (with_reducible repeat (first | refine blk_drewN ?_ _ | refine blk_drew ?_ | refine blk_alloc ?_ _)); refine blk_put (cs := #[.slice Ao12 t571.length co12, .string (⟨#[]⟩ : ByteArray), .string (⟨#[]⟩ : ByteArray), .string (⟨#[]⟩ : ByteArray)]) ?_ 1 _ rfl; (with_reducible repeat (first | refine blk_drewN ?_ _ | refine blk_drew ?_ | refine blk_alloc ?_ _)); refine blk_put (cs := #[.slice none 0 0, .string (⟨#[]⟩ : ByteArray), .string (⟨#[]⟩ : ByteArray), .string (⟨#[]⟩ : ByteArray)]) ?_ 0 _ rfl; (with_reducible repeat (first | refine blk_drewN ?_ _ | refine blk_drew ?_ | refine blk_alloc ?_ _)); exact BK578.out) hb); have n4_ := Aside0.mk (below_step au17 hb); clear HO565; clear HO573; clear BK570; clear BK578; clear HB; have HO565 := n0_; have HO573 := n1_; have BK570 := n2_; have BK578 := n3_; have HB := n4_; clear n0_ n1_ n2_ n3_ n4_; (try clear hb); (try clear hb2); (try clear hk); (try clear hi)))
    go_meet
    case rel => exact ⟨_, ((t577 != t569)), au89, H', ⟨by first | omega | exact Nat.le_refl _⟩, ⟨by (with_reducible repeat (first | apply Kd.R_alloc | apply Kd.R_drewN | apply Kd.R_drew)); exact Kd.R_mono HO565.out (fun _ hk => hk.2)⟩, ⟨by (with_reducible repeat (first | apply Kd.R_alloc | apply Kd.R_drewN | apply Kd.R_drew)); exact Kd.R_mono HO573.out (fun _ hk => hk.2)⟩, ⟨by (with_reducible repeat (first | refine blk_drewN ?_ _ | refine blk_drew ?_ | refine blk_alloc ?_ _)); exact BK570.out⟩, ⟨by (with_reducible repeat (first | refine blk_drewN ?_ _ | refine blk_drew ?_ | refine blk_alloc ?_ _)); exact BK578.out⟩, ⟨by repeat (first | (with_reducible first | exact HB.out | apply below_alloc | apply pw_below_drewN | apply below_drew1 | refine below_set ?_ GE570.out | refine below_set ?_ GE578.out) | exact HB.out)⟩⟩
   ·
    replace c16 := Bool.eq_false_iff.mpr c16
    subst c16
    replace H := (if_neg (show ¬ (false = true) by decide)).symm.trans H
    have H' := Aside0.mk H
    clear H
    have hnb21 := NB578_570.out
    have hnc21 := NB570_578.out
    have hcz22_0 : w11.cell? ⟨gb578, 0, none⟩ = some (.slice none 0 0) := (blk_cell BK578.out 0).trans rfl
    have hcz22_1 : w11.cell? ⟨gb578, 1, none⟩ = some (.string (⟨#[]⟩ : ByteArray)) := (blk_cell BK578.out 1).trans rfl
    have hcz22_2 : w11.cell? ⟨gb578, 2, none⟩ = some (.string (⟨#[]⟩ : ByteArray)) := (blk_cell BK578.out 2).trans rfl
    have hcz22_3 : w11.cell? ⟨gb578, 3, none⟩ = some (.string (⟨#[]⟩ : ByteArray)) := (blk_cell BK578.out 3).trans rfl
    have hfz22_0 := blk_frozen BK578.out 0
    have hfz22_1 := blk_frozen BK578.out 1
    have hfz22_2 := blk_frozen BK578.out 2
    have hfz22_3 := blk_frozen BK578.out 3
    have hcz23_0 : w11.cell? ⟨gb570, 0, none⟩ = some (.slice Ao8 t563.length co8) := (blk_cell BK570.out 0).trans rfl
    have hcz23_1 : w11.cell? ⟨gb570, 1, none⟩ = some (.string t566) := (blk_cell BK570.out 1).trans rfl
    have hcz23_2 : w11.cell? ⟨gb570, 2, none⟩ = some (.string t567) := (blk_cell BK570.out 2).trans rfl
    have hcz23_3 : w11.cell? ⟨gb570, 3, none⟩ = some (.string t568) := (blk_cell BK570.out 3).trans rfl
    have hfz23_0 := blk_frozen BK570.out 0
    have hfz23_1 := blk_frozen BK570.out 1
    have hfz23_2 := blk_frozen BK570.out 2
    have hfz23_3 := blk_frozen BK570.out 3
    go_wp2_with (first | ((with_reducible refine gate_callee (f := 16) rfl ?_); refine goesL_ (some 26) rfl rfl Tryd.func16 (by kernel_rfl) rfl #[.agg #[.slice Ao12 t571.length co12, .string t574, .string t575, .string t576], .agg #[.slice Ao8 t563.length co8, .string t566, .string t567, .string t568]] rfl au38 ?_; (with_reducible refine (laws_eqName.calls k _ _ t571 t574 t575 t576 _ _ t563 t566 t567 t568 _ _ ?side1 ?side2 ?side3 ?side4 A15.out).mono ?_); (case side1 => refine (Kd.R_reads' (e := 9) (base := w.heap.size) (ok := fun k_ => (True ∧ some k_ ≠ (.slice Ao8 t563.length co8 : Value).ownBlock)) (n := t571.length) (c := co12) ?_).2.2; exact au5); (case side2 => exact (Kd.R_reads' HO573.out).2.1); (case side3 => refine (Kd.R_reads' (e := 9) (base := w.heap.size) (ok := fun k_ => (True ∧ some k_ ≠ (.slice Ao12 t571.length co12 : Value).ownBlock)) (n := t563.length) (c := co8) ?_).2.2; exact au6); (case side4 => exact (Kd.R_reads' HO565.out).2.1); rintro e w24 ⟨rfl, hb⟩; refine ⟨_, rfl, ?_⟩; have n0_ := Aside0.mk (Kd.R_below au6 hb); have n1_ := Aside0.mk (Kd.R_below au5 hb); have n2_ := Aside0.mk (blk_below (g := gb570) (o := .cells #[.slice Ao8 t563.length co8, .string t566, .string t567, .string t568] 27 (0, 0)) au0 hb); have n3_ := Aside0.mk (blk_below (g := gb578) (o := .cells #[.slice Ao12 t571.length co12, .string t574, .string t575, .string t576] 27 (0, 0)) (by (with_reducible repeat (first | refine blk_drewN ?_ _ | refine blk_drew ?_ | refine blk_alloc ?_ _)); refine blk_put (cs := #[.slice Ao12 t571.length co12, .string t574, .string t575, .string (⟨#[]⟩ : ByteArray)]) ?_ 3 _ rfl; (with_reducible repeat (first | refine blk_drewN ?_ _ | refine blk_drew ?_ | refine blk_alloc ?_ _)); refine blk_put (cs := #[.slice Ao12 t571.length co12, .string t574, .string (⟨#[]⟩ : ByteArray), .string (⟨#[]⟩ : ByteArray)]) ?_ 2 _ rfl; (with_reducible repeat (first | refine blk_drewN ?_ _ | refine blk_drew ?_ | refine blk_alloc ?_ _)); refine blk_put (cs := #[.slice Ao12 t571.length co12, .string (⟨#[]⟩ : ByteArray), .string (⟨#[]⟩ : ByteArray), .string (⟨#[]⟩ : ByteArray)]) ?_ 1 _ rfl; (with_reducible repeat (first | refine blk_drewN ?_ _ | refine blk_drew ?_ | refine blk_alloc ?_ _)); refine blk_put (cs := #[.slice none 0 0, .string (⟨#[]⟩ : ByteArray), .string (⟨#[]⟩ : ByteArray), .string (⟨#[]⟩ : ByteArray)]) ?_ 0 _ rfl; (with_reducible repeat (first | refine blk_drewN ?_ _ | refine blk_drew ?_ | refine blk_alloc ?_ _)); exact BK578.out) hb); have n4_ := Aside0.mk (below_step au17 hb); clear HO565; clear HO573; clear BK570; clear BK578; clear HB; have HO565 := n0_; have HO573 := n1_; have BK570 := n2_; have BK578 := n3_; have HB := n4_; clear n0_ n1_ n2_ n3_ n4_; (try clear hb); (try clear hb2); (try clear hk); (try clear hi)))
    go_meet
    case rel => exact ⟨_, (true), au89, H', ⟨by first | omega | exact Nat.le_refl _⟩, ⟨by (with_reducible repeat (first | apply Kd.R_alloc | apply Kd.R_drewN | apply Kd.R_drew)); exact Kd.R_mono HO565.out (fun _ hk => hk.2)⟩, ⟨by (with_reducible repeat (first | apply Kd.R_alloc | apply Kd.R_drewN | apply Kd.R_drew)); exact Kd.R_mono HO573.out (fun _ hk => hk.2)⟩, ⟨by (with_reducible repeat (first | refine blk_drewN ?_ _ | refine blk_drew ?_ | refine blk_alloc ?_ _)); exact BK570.out⟩, ⟨by (with_reducible repeat (first | refine blk_drewN ?_ _ | refine blk_drew ?_ | refine blk_alloc ?_ _)); exact BK578.out⟩, ⟨by repeat (first | (with_reducible first | exact HB.out | apply below_alloc | apply pw_below_drewN | apply below_drew1 | refine below_set ?_ GE570.out | refine below_set ?_ GE578.out) | exact HB.out)⟩⟩
  case rest =>
   clear HC5
   try clear c1
   try clear c2
   try clear c2b0
   try clear c2b1
   try clear p2
   try clear c3
   try clear c9
   try clear c13
   try clear c16
   try clear c17
   try clear c21
   try clear hcz14_0
   try clear hcz14_1
   try clear hcz14_2
   try clear hcz14_3
   try clear hcz18_0
   try clear hcz18_1
   try clear hcz18_2
   try clear hcz18_3
   try clear hcz19_0
   try clear hcz19_1
   try clear hcz19_2
   try clear hcz19_3
   try clear hcz22_0
   try clear hcz22_1
   try clear hcz22_2
   try clear hcz22_3
   try clear hcz23_0
   try clear hcz23_1
   try clear hcz23_2
   try clear hcz23_3
   try clear hcz9_0
   try clear hcz9_1
   try clear hcz9_2
   try clear hcz9_3
   try clear hfz14_0
   try clear hfz14_1
   try clear hfz14_2
   try clear hfz14_3
   try clear hfz18_0
   try clear hfz18_1
   try clear hfz18_2
   try clear hfz18_3
   try clear hfz19_0
   try clear hfz19_1
   try clear hfz19_2
   try clear hfz19_3
   try clear hfz22_0
   try clear hfz22_1
   try clear hfz22_2
   try clear hfz22_3
   try clear hfz23_0
   try clear hfz23_1
   try clear hfz23_2
   try clear hfz23_3
   try clear hfz9_0
   try clear hfz9_1
   try clear hfz9_2
   try clear hfz9_3
   obtain ⟨kq, x32_4, rfl, HA, HJ4, HO_571000, HO_579000, BK570, BK578, HB⟩ := hcut
   cases kq with
   | zero => exact absurd HA.out (by simp [laws_FnExactParseInverse.j0])
   | succ kj4 =>
    have H := HA.out
    clear HA
    simp only [laws_FnExactParseInverse.j0] at H
    by_cases c25 : x32_4 = true
    ·
     subst c25
     replace H := (if_pos rfl).symm.trans H
     obtain rfl := Option.some.inj H
     go_wp2
     go_ret
     exact ⟨by first | rfl | (simp [errW_none, errW_some] <;> rfl) | (simp [*, errW_none, errW_some] <;> rfl), by repeat (first | (with_reducible first | exact HB.out | apply below_alloc | apply pw_below_drewN | apply below_drew1 | refine below_set ?_ GE570.out | refine below_set ?_ GE578.out) | exact HB.out)⟩
    ·
     replace c25 := Bool.eq_false_iff.mpr c25
     subst c25
     replace H := (if_neg (show ¬ (false = true) by decide)).symm.trans H
     replace H := Option.bind_eq_some_iff.mp H
     obtain ⟨⟨t580, t581⟩, A260, H⟩ := H
     replace H : ((laws_heldName.f kj4 t581 t574 t575 t576 1).bind fun t582 => (if t582 < 0 then (some false) else (if t582 = t580 then ((impl_ParseInverse.f kj4 a0).bind fun bt583 => ((laws_eqName.f kj4 bt583.1 bt583.2.1 bt583.2.2.1 bt583.2.2.2.1 t563 t566 t567 t568).bind fun t591 => (if t591 = true then (laws_FnExactParseInverse.j1 kj4 t580 (bt583.2.2.2.2 != t569) t581 t574 t575 t576) else (laws_FnExactParseInverse.j1 kj4 t580 true t581 t574 t575 t576)))) else (some false)))) = some r := H
     have A26 := Aside0.mk A260
     clear A260
     replace H := Option.bind_eq_some_iff.mp H
     obtain ⟨t582, A270, H⟩ := H
     try dsimp only at H
     have A27 := Aside0.mk A270
     clear A270
     by_cases c28 : t582 < 0
     ·
      rw [if_pos c28] at H
      have c28b0 : decide (t582 < 0) = true := decide_eq_true c28
      clear c28
      obtain rfl := Option.some.inj H
      exact laws_FnExactParseInverse.L0
     ·
      rw [if_neg c28] at H
      have c28b0 : decide (t582 < 0) = false := decide_eq_false c28
      clear c28
      by_cases c34 : t582 = t580
      ·
       rw [if_pos c34] at H
       have c34b0 : (t582 == t580) = true := beq_iff_eq.mpr c34
       have c34b1 : (t582 != t580) = false := bne_eq_false_iff_eq.mpr c34
       clear c34
       replace H := Option.bind_eq_some_iff.mp H
       obtain ⟨⟨t583, t586, t587, t588, t589⟩, A350, H⟩ := H
       replace H : ((laws_eqName.f kj4 t583 t586 t587 t588 t563 t566 t567 t568).bind fun t591 => (if t591 = true then (laws_FnExactParseInverse.j1 kj4 t580 (t589 != t569) t581 t574 t575 t576) else (laws_FnExactParseInverse.j1 kj4 t580 true t581 t574 t575 t576))) = some r := H
       have A35 := Aside0.mk A350
       clear A350
       have HC36 := Aside0.mk H
       clear H
       have hnb37 := NB578_570.out
       have hnc37 := NB570_578.out
       have hcz38_0 : wc.cell? ⟨gb578, 0, none⟩ = some (.slice Ao12 t571.length co12) := (blk_cell BK578.out 0).trans rfl
       have hcz38_1 : wc.cell? ⟨gb578, 1, none⟩ = some (.string t574) := (blk_cell BK578.out 1).trans rfl
       have hcz38_2 : wc.cell? ⟨gb578, 2, none⟩ = some (.string t575) := (blk_cell BK578.out 2).trans rfl
       have hcz38_3 : wc.cell? ⟨gb578, 3, none⟩ = some (.string t576) := (blk_cell BK578.out 3).trans rfl
       have hfz38_0 := blk_frozen BK578.out 0
       have hfz38_1 := blk_frozen BK578.out 1
       have hfz38_2 := blk_frozen BK578.out 2
       have hfz38_3 := blk_frozen BK578.out 3
       go_upto_region 16 with (first | ((with_reducible refine gate_callee (f := 32) rfl ?_); refine goesL_ (some 35) rfl rfl Tryd.func32 (by kernel_rfl) rfl #[.agg #[.slice Ao12 t571.length co12, .string t574, .string t575, .string t576], .int .i64 1] rfl au38 ?_; (with_reducible refine (laws_markName.calls kj4 (fun k_ => some k_ = (.slice Ao12 t571.length co12 : Value).ownBlock) (.slice Ao12 t571.length co12) t571 t574 t575 t576 1 t580 t581 w _ ?side1 ?side2 A26.out).mono ?_); (case side1 => repeat (first | (with_reducible first | exact HB.out | apply below_alloc | apply pw_below_drewN | apply below_drew1 | refine below_set ?_ GE570.out | refine below_set ?_ GE578.out) | exact HB.out)); (case side2 => exact Kd.R_tight rfl HO_579000.out); rintro e w39 ⟨rfl, hy0, hb, hkp⟩; refine ⟨_, rfl, ?_⟩; have n0_ := Aside0.mk (Kd.R_mono (ok' := fun k_ => some k_ ≠ (.slice Ao12 t571.length co12 : Value).ownBlock) (Kd.R_keptB (HO_571000.out) hkp (fun k_ hk_ hs_ => (hk_) hs_)) (fun k_ hk_ => hk_.1)); have n1_ := Aside0.mk (Kd.R_reok rfl hy0 (fun k_ e_ => HO_579000.out.1 k_ e_)); have n2_ := Aside0.mk (blk_kept au69 hkp (fun hs_ => (fun e_ => (Kd.R_ne HO_579000.out BK570.out (by decide)) e_) hs_)); have n3_ := Aside0.mk (blk_kept au70 hkp (fun hs_ => (fun e_ => (Kd.R_ne HO_579000.out BK578.out (by decide)) e_) hs_)); have n4_ := Aside0.mk (hb); clear HO_571000; clear HO_579000; clear BK570; clear BK578; clear HB; have HO_571000 := n0_; have HO_579000 := n1_; have BK570 := n2_; have BK578 := n3_; have HB := n4_; clear n0_ n1_ n2_ n3_ n4_; (try clear hb); (try clear hkp); (try clear hy0); have hcz40_0 : w39.cell? ⟨gb578, 0, none⟩ = some (.slice Ao12 t571.length co12) := (blk_cell BK578.out 0).trans rfl; have hcz40_1 : w39.cell? ⟨gb578, 1, none⟩ = some (.string t574) := (blk_cell BK578.out 1).trans rfl; have hcz40_2 : w39.cell? ⟨gb578, 2, none⟩ = some (.string t575) := (blk_cell BK578.out 2).trans rfl; have hcz40_3 : w39.cell? ⟨gb578, 3, none⟩ = some (.string t576) := (blk_cell BK578.out 3).trans rfl; have hfz40_0 := blk_frozen BK578.out 0; have hfz40_1 := blk_frozen BK578.out 1; have hfz40_2 := blk_frozen BK578.out 2; have hfz40_3 := blk_frozen BK578.out 3) | ((with_reducible refine gate_callee (f := 33) rfl ?_); refine goesL_ (some 38) rfl rfl Tryd.func33 (by kernel_rfl) rfl #[.agg #[.slice Ao12 t581.length co12, .string t574, .string t575, .string t576], .int .i64 1] rfl au14 ?_; (with_reducible refine (laws_heldName.calls kj4 _ _ t581 t574 t575 t576 1 t582 _ ?side1 ?side2 A27.out).mono ?_); (case side1 => repeat (first | exact (Kd.R_reads' HO_579000.out).2.2 | (with_reducible refine Kd.C_alloc ?_ _) | (with_reducible refine Kd.C_drewN ?_ _) | (with_reducible refine Kd.C_drew ?_))); (case side2 => rw [show t581.length = t571.length from (Kd.R_reads' HO_579000.out).1.symm]; exact (Kd.R_reads' HO_579000.out).2.1); rintro e w41 ⟨rfl, hb⟩; refine ⟨_, rfl, ?_⟩; have n0_ := Aside0.mk (Kd.R_below au79 hb); have n1_ := Aside0.mk (Kd.R_below au80 hb); have n2_ := Aside0.mk (blk_below (g := gb570) (o := .cells #[.slice Ao8 t563.length co8, .string t566, .string t567, .string t568] 27 (0, 0)) au69 hb); have n3_ := Aside0.mk (blk_below (g := gb578) (o := .cells #[.slice Ao12 t571.length co12, .string t574, .string t575, .string t576] 27 (0, 0)) au70 hb); have n4_ := Aside0.mk (below_step au17 hb); clear HO_571000; clear HO_579000; clear BK570; clear BK578; clear HB; have HO_571000 := n0_; have HO_579000 := n1_; have BK570 := n2_; have BK578 := n3_; have HB := n4_; clear n0_ n1_ n2_ n3_ n4_; (try clear hb); (try clear hb2); (try clear hk); (try clear hi)) | ((with_reducible refine gate_callee (f := 31) rfl ?_); refine goesL_ (some 46) rfl rfl Tryd.func31 (by kernel_rfl) rfl #[.string a0] rfl au38 ?_; (with_reducible refine (impl_ParseInverse.calls (hG := au9) kj4 a0 t583 t586 t587 t588 t589 _ A35.out).mono ?_); rintro e w42 ⟨v584, rfl, ho0, hb⟩; refine ⟨_, rfl, ?_⟩; have n0_ := Aside0.mk (Kd.R_elder' au79 (Kd.R_base ho0) hb); have n1_ := Aside0.mk (Kd.R_elder' au80 (Kd.R_base ho0) hb); have n2_ := Aside0.mk (Kd.R_lower (Kd.R_new' (Kd.R_new' ho0 (Kd.R_lt au79)) (Kd.R_lt au80)) (below_size au17)); have n3_ := Aside0.mk (blk_below (g := gb570) (o := .cells #[.slice Ao8 t563.length co8, .string t566, .string t567, .string t568] 27 (0, 0)) au69 hb); have n4_ := Aside0.mk (blk_below (g := gb578) (o := .cells #[.slice Ao12 t571.length co12, .string t574, .string t575, .string t576] 27 (0, 0)) au70 hb); have n5_ := Aside0.mk (below_step au17 hb); clear HO_571000; clear HO_579000; clear BK570; clear BK578; clear HB; have HO_571000 := n0_; have HO_579000 := n1_; have HO585 := n2_; have BK570 := n3_; have BK578 := n4_; have HB := n5_; clear n0_ n1_ n2_ n3_ n4_ n5_; (try clear hb); (try clear hb2); (try clear hk); (try clear hi); (try clear ho0)) | ((with_reducible refine gate_dst (N := 9) rfl ?_); refine box_event ?hg (N := 9) ?hd (cs := #[.slice none 0 0, .string (⟨#[]⟩ : ByteArray), .string (⟨#[]⟩ : ByteArray), .string (⟨#[]⟩ : ByteArray)]) (t := 27) ?hr ?_; (case hd => rfl); (case hg => rfl); (case hr => first | (go_simp; done) | (go_simp; rfl)); intro gb590 hg w43 hbox hb; have n0_ := Aside0.mk (Kd.R_below au79 hb); have n1_ := Aside0.mk (Kd.R_below au80 hb); have n2_ := Aside0.mk (Kd.R_below (by (with_reducible repeat (first | apply Kd.R_alloc | apply Kd.R_drewN | apply Kd.R_drew)); exact HO585.out) hb); have n3_ := Aside0.mk (blk_below (g := gb570) (o := .cells #[.slice Ao8 t563.length co8, .string t566, .string t567, .string t568] 27 (0, 0)) au69 hb); have n4_ := Aside0.mk (blk_below (g := gb578) (o := .cells #[.slice Ao12 t571.length co12, .string t574, .string t575, .string t576] 27 (0, 0)) au70 hb); have n5_ := Aside0.mk (below_step au17 hb); have n6_ := Aside0.mk (hbox); have n7_ := Aside0.mk ((by rw [hg]; exact (below_size au17) : w.heap.size ≤ gb590)); have n8_ := Aside0.mk ((by rw [hg]; exact (below_size au17) : w.heap.size ≤ gb590)); have n9_ := Aside0.mk ((by rw [hg]; exact Nat.ne_of_lt (blk_lt (g := gb570) (o := .cells #[.slice Ao8 t563.length co8, .string t566, .string t567, .string t568] 27 (0, 0)) au69) : gb570 ≠ gb590)); have n10_ := Aside0.mk ((by rw [hg]; exact Nat.ne_of_gt (blk_lt (g := gb570) (o := .cells #[.slice Ao8 t563.length co8, .string t566, .string t567, .string t568] 27 (0, 0)) au69) : gb590 ≠ gb570)); have n11_ := Aside0.mk ((by rw [hg]; exact Nat.ne_of_lt (blk_lt (g := gb578) (o := .cells #[.slice Ao12 t571.length co12, .string t574, .string t575, .string t576] 27 (0, 0)) au70) : gb578 ≠ gb590)); have n12_ := Aside0.mk ((by rw [hg]; exact Nat.ne_of_gt (blk_lt (g := gb578) (o := .cells #[.slice Ao12 t571.length co12, .string t574, .string t575, .string t576] 27 (0, 0)) au70) : gb590 ≠ gb578)); clear HO_571000; clear HO_579000; clear HO585; clear BK570; clear BK578; clear HB; have HO_571000 := n0_; have HO_579000 := n1_; have HO585 := n2_; have BK570 := n3_; have BK578 := n4_; have HB := n5_; have BK590 := n6_; have GW590 := n7_; have GE590 := n8_; have NB570_590 := n9_; have NB590_570 := n10_; have NB578_590 := n11_; have NB590_578 := n12_; clear n0_ n1_ n2_ n3_ n4_ n5_ n6_ n7_ n8_ n9_ n10_ n11_ n12_; clear hb hbox hg; obtain ⟨Ao44, co44, eo44⟩ := Kd.R_slice HO585.out; subst eo44; have hnb45 := NB590_570.out; have hnc45 := NB570_590.out; have hnb46 := NB590_578.out; have hnc46 := NB578_590.out; have hcz47_0 : w43.cell? ⟨gb590, 0, none⟩ = some (.slice none 0 0) := (blk_cell BK590.out 0).trans rfl; have hcz47_1 : w43.cell? ⟨gb590, 1, none⟩ = some (.string (⟨#[]⟩ : ByteArray)) := (blk_cell BK590.out 1).trans rfl; have hcz47_2 : w43.cell? ⟨gb590, 2, none⟩ = some (.string (⟨#[]⟩ : ByteArray)) := (blk_cell BK590.out 2).trans rfl; have hcz47_3 : w43.cell? ⟨gb590, 3, none⟩ = some (.string (⟨#[]⟩ : ByteArray)) := (blk_cell BK590.out 3).trans rfl; have hfz47_0 := blk_frozen BK590.out 0; have hfz47_1 := blk_frozen BK590.out 1; have hfz47_2 := blk_frozen BK590.out 2; have hfz47_3 := blk_frozen BK590.out 3))
       (try simp only [Act.put, List.setIfInBounds_toArray, List.set_cons_zero, List.set_cons_succ])
       go_cut [57] (fun v57 wc => ∃ (kq : Nat) (x57_35 : Bool), v57 = .bool x57_35 ∧ Aside0 (laws_FnExactParseInverse.j1 kq t580 x57_35 t581 t574 t575 t576 = some r) ∧ Aside0 (kq ≤ kj4) ∧ Aside0 (Kd.R Kd.string 9 wc w.heap.size (fun k_ => some k_ ≠ ((.slice Ao12 t571.length co12) : Value).ownBlock ∧ some k_ ≠ ((.slice Ao44 t583.length co44) : Value).ownBlock) (.slice Ao8 t563.length co8) t563) ∧ Aside0 (Kd.R Kd.string 9 wc w.heap.size (fun k_ => some k_ ≠ ((.slice Ao8 t563.length co8) : Value).ownBlock ∧ some k_ ≠ ((.slice Ao44 t583.length co44) : Value).ownBlock) (.slice Ao12 t571.length co12) t581) ∧ Aside0 (Kd.R Kd.string 9 wc w.heap.size (fun k_ => some k_ ≠ ((.slice Ao8 t563.length co8) : Value).ownBlock ∧ some k_ ≠ ((.slice Ao12 t571.length co12) : Value).ownBlock) (.slice Ao44 t583.length co44) t583) ∧ Aside0 (wc.heap[gb570]? = some (.cells #[(.slice Ao8 t563.length co8), .string t566, .string t567, .string t568] 27 (0, 0))) ∧ Aside0 (wc.heap[gb578]? = some (.cells #[(.slice Ao12 t571.length co12), .string t574, .string t575, .string t576] 27 (0, 0))) ∧ Aside0 (wc.heap[gb590]? = some (.cells #[(.slice Ao44 t583.length co44), .string t586, .string t587, .string t588] 27 (0, 0))) ∧ Aside0 (Below w.heap.size w wc))
       case first =>
        have H := HC36.out
        clear HC36
        replace H := Option.bind_eq_some_iff.mp H
        obtain ⟨t591, A480, H⟩ := H
        try dsimp only at H
        have A48 := Aside0.mk A480
        clear A480
        by_cases c49 : t591 = true
        ·
         subst c49
         replace H := (if_pos rfl).symm.trans H
         have H' := Aside0.mk H
         clear H
         have hnb50 := NB590_570.out
         have hnc50 := NB570_590.out
         have hnb51 := NB590_578.out
         have hnc51 := NB578_590.out
         have hcz52_0 : w43.cell? ⟨gb590, 0, none⟩ = some (.slice none 0 0) := (blk_cell BK590.out 0).trans rfl
         have hcz52_1 : w43.cell? ⟨gb590, 1, none⟩ = some (.string (⟨#[]⟩ : ByteArray)) := (blk_cell BK590.out 1).trans rfl
         have hcz52_2 : w43.cell? ⟨gb590, 2, none⟩ = some (.string (⟨#[]⟩ : ByteArray)) := (blk_cell BK590.out 2).trans rfl
         have hcz52_3 : w43.cell? ⟨gb590, 3, none⟩ = some (.string (⟨#[]⟩ : ByteArray)) := (blk_cell BK590.out 3).trans rfl
         have hfz52_0 := blk_frozen BK590.out 0
         have hfz52_1 := blk_frozen BK590.out 1
         have hfz52_2 := blk_frozen BK590.out 2
         have hfz52_3 := blk_frozen BK590.out 3
         have hnb53 := NB570_578.out
         have hnc53 := NB578_570.out
         have hcz54_0 : w43.cell? ⟨gb570, 0, none⟩ = some (.slice Ao8 t563.length co8) := (blk_cell BK570.out 0).trans rfl
         have hcz54_1 : w43.cell? ⟨gb570, 1, none⟩ = some (.string t566) := (blk_cell BK570.out 1).trans rfl
         have hcz54_2 : w43.cell? ⟨gb570, 2, none⟩ = some (.string t567) := (blk_cell BK570.out 2).trans rfl
         have hcz54_3 : w43.cell? ⟨gb570, 3, none⟩ = some (.string t568) := (blk_cell BK570.out 3).trans rfl
         have hfz54_0 := blk_frozen BK570.out 0
         have hfz54_1 := blk_frozen BK570.out 1
         have hfz54_2 := blk_frozen BK570.out 2
         have hfz54_3 := blk_frozen BK570.out 3
         go_wp2_with (first | ((with_reducible refine gate_callee (f := 16) rfl ?_); refine goesL_ (some 51) rfl rfl Tryd.func16 (by kernel_rfl) rfl #[.agg #[.slice Ao44 t583.length co44, .string t586, .string t587, .string t588], .agg #[.slice Ao8 t563.length co8, .string t566, .string t567, .string t568]] rfl au38 ?_; (with_reducible refine (laws_eqName.calls kj4 _ _ t583 t586 t587 t588 _ _ t563 t566 t567 t568 _ _ ?side1 ?side2 ?side3 ?side4 A48.out).mono ?_); (case side1 => refine (Kd.R_reads' (e := 9) (base := w.heap.size) (ok := fun k_ => ((True ∧ some k_ ≠ (.slice Ao8 t563.length co8 : Value).ownBlock) ∧ some k_ ≠ (.slice Ao12 t571.length co12 : Value).ownBlock)) (n := t583.length) (c := co44) ?_).2.2; exact au7); (case side2 => exact (Kd.R_reads' HO585.out).2.1); (case side3 => refine (Kd.R_reads' (e := 9) (base := w.heap.size) (ok := fun k_ => (some k_ ≠ (.slice Ao12 t571.length co12 : Value).ownBlock ∧ some k_ ≠ (.slice Ao44 t583.length co44 : Value).ownBlock)) (n := t563.length) (c := co8) ?_).2.2; exact au3); (case side4 => exact (Kd.R_reads' HO_571000.out).2.1); rintro e w55 ⟨rfl, hb⟩; refine ⟨_, rfl, ?_⟩; have n0_ := Aside0.mk (Kd.R_below au3 hb); have n1_ := Aside0.mk (Kd.R_below au4 hb); have n2_ := Aside0.mk (Kd.R_below au7 hb); have n3_ := Aside0.mk (blk_below (g := gb570) (o := .cells #[.slice Ao8 t563.length co8, .string t566, .string t567, .string t568] 27 (0, 0)) au1 hb); have n4_ := Aside0.mk (blk_below (g := gb578) (o := .cells #[.slice Ao12 t571.length co12, .string t574, .string t575, .string t576] 27 (0, 0)) au2 hb); have n5_ := Aside0.mk (blk_below (g := gb590) (o := .cells #[.slice Ao44 t583.length co44, .string t586, .string t587, .string t588] 27 (0, 0)) (by (with_reducible repeat (first | refine blk_drewN ?_ _ | refine blk_drew ?_ | refine blk_alloc ?_ _)); refine blk_put (cs := #[.slice Ao44 t583.length co44, .string t586, .string t587, .string (⟨#[]⟩ : ByteArray)]) ?_ 3 _ rfl; (with_reducible repeat (first | refine blk_drewN ?_ _ | refine blk_drew ?_ | refine blk_alloc ?_ _)); refine blk_put (cs := #[.slice Ao44 t583.length co44, .string t586, .string (⟨#[]⟩ : ByteArray), .string (⟨#[]⟩ : ByteArray)]) ?_ 2 _ rfl; (with_reducible repeat (first | refine blk_drewN ?_ _ | refine blk_drew ?_ | refine blk_alloc ?_ _)); refine blk_put (cs := #[.slice Ao44 t583.length co44, .string (⟨#[]⟩ : ByteArray), .string (⟨#[]⟩ : ByteArray), .string (⟨#[]⟩ : ByteArray)]) ?_ 1 _ rfl; (with_reducible repeat (first | refine blk_drewN ?_ _ | refine blk_drew ?_ | refine blk_alloc ?_ _)); refine blk_put (cs := #[.slice none 0 0, .string (⟨#[]⟩ : ByteArray), .string (⟨#[]⟩ : ByteArray), .string (⟨#[]⟩ : ByteArray)]) ?_ 0 _ rfl; (with_reducible repeat (first | refine blk_drewN ?_ _ | refine blk_drew ?_ | refine blk_alloc ?_ _)); exact BK590.out) hb); have n6_ := Aside0.mk (below_step au12 hb); clear HO_571000; clear HO_579000; clear HO585; clear BK570; clear BK578; clear BK590; clear HB; have HO_571000 := n0_; have HO_579000 := n1_; have HO585 := n2_; have BK570 := n3_; have BK578 := n4_; have BK590 := n5_; have HB := n6_; clear n0_ n1_ n2_ n3_ n4_ n5_ n6_; (try clear hb); (try clear hb2); (try clear hk); (try clear hi)))
         go_meet
         case rel => exact ⟨_, ((t589 != t569)), au89, H', ⟨by have := HJ4.out; first | omega | exact Nat.le_refl _⟩, ⟨by (with_reducible repeat (first | apply Kd.R_alloc | apply Kd.R_drewN | apply Kd.R_drew)); exact HO_571000.out⟩, ⟨by (with_reducible repeat (first | apply Kd.R_alloc | apply Kd.R_drewN | apply Kd.R_drew)); exact HO_579000.out⟩, ⟨by (with_reducible repeat (first | apply Kd.R_alloc | apply Kd.R_drewN | apply Kd.R_drew)); exact Kd.R_mono HO585.out (fun _ hk => ⟨hk.1.2, hk.2⟩)⟩, ⟨by (with_reducible repeat (first | refine blk_drewN ?_ _ | refine blk_drew ?_ | refine blk_alloc ?_ _)); exact BK570.out⟩, ⟨by (with_reducible repeat (first | refine blk_drewN ?_ _ | refine blk_drew ?_ | refine blk_alloc ?_ _)); exact BK578.out⟩, ⟨by (with_reducible repeat (first | refine blk_drewN ?_ _ | refine blk_drew ?_ | refine blk_alloc ?_ _)); exact BK590.out⟩, ⟨by repeat (first | (with_reducible first | exact HB.out | apply below_alloc | apply pw_below_drewN | apply below_drew1 | refine below_set ?_ GE570.out | refine below_set ?_ GE578.out | refine below_set ?_ GE590.out) | exact HB.out)⟩⟩
        ·
         replace c49 := Bool.eq_false_iff.mpr c49
         subst c49
         replace H := (if_neg (show ¬ (false = true) by decide)).symm.trans H
         have H' := Aside0.mk H
         clear H
         have hnb56 := NB590_570.out
         have hnc56 := NB570_590.out
         have hnb57 := NB590_578.out
         have hnc57 := NB578_590.out
         have hcz58_0 : w43.cell? ⟨gb590, 0, none⟩ = some (.slice none 0 0) := (blk_cell BK590.out 0).trans rfl
         have hcz58_1 : w43.cell? ⟨gb590, 1, none⟩ = some (.string (⟨#[]⟩ : ByteArray)) := (blk_cell BK590.out 1).trans rfl
         have hcz58_2 : w43.cell? ⟨gb590, 2, none⟩ = some (.string (⟨#[]⟩ : ByteArray)) := (blk_cell BK590.out 2).trans rfl
         have hcz58_3 : w43.cell? ⟨gb590, 3, none⟩ = some (.string (⟨#[]⟩ : ByteArray)) := (blk_cell BK590.out 3).trans rfl
         have hfz58_0 := blk_frozen BK590.out 0
         have hfz58_1 := blk_frozen BK590.out 1
         have hfz58_2 := blk_frozen BK590.out 2
         have hfz58_3 := blk_frozen BK590.out 3
         have hnb59 := NB570_578.out
         have hnc59 := NB578_570.out
         have hcz60_0 : w43.cell? ⟨gb570, 0, none⟩ = some (.slice Ao8 t563.length co8) := (blk_cell BK570.out 0).trans rfl
         have hcz60_1 : w43.cell? ⟨gb570, 1, none⟩ = some (.string t566) := (blk_cell BK570.out 1).trans rfl
         have hcz60_2 : w43.cell? ⟨gb570, 2, none⟩ = some (.string t567) := (blk_cell BK570.out 2).trans rfl
         have hcz60_3 : w43.cell? ⟨gb570, 3, none⟩ = some (.string t568) := (blk_cell BK570.out 3).trans rfl
         have hfz60_0 := blk_frozen BK570.out 0
         have hfz60_1 := blk_frozen BK570.out 1
         have hfz60_2 := blk_frozen BK570.out 2
         have hfz60_3 := blk_frozen BK570.out 3
         go_wp2_with (first | ((with_reducible refine gate_callee (f := 16) rfl ?_); refine goesL_ (some 51) rfl rfl Tryd.func16 (by kernel_rfl) rfl #[.agg #[.slice Ao44 t583.length co44, .string t586, .string t587, .string t588], .agg #[.slice Ao8 t563.length co8, .string t566, .string t567, .string t568]] rfl au38 ?_; (with_reducible refine (laws_eqName.calls kj4 _ _ t583 t586 t587 t588 _ _ t563 t566 t567 t568 _ _ ?side1 ?side2 ?side3 ?side4 A48.out).mono ?_); (case side1 => refine (Kd.R_reads' (e := 9) (base := w.heap.size) (ok := fun k_ => ((True ∧ some k_ ≠ (.slice Ao8 t563.length co8 : Value).ownBlock) ∧ some k_ ≠ (.slice Ao12 t571.length co12 : Value).ownBlock)) (n := t583.length) (c := co44) ?_).2.2; exact au7); (case side2 => exact (Kd.R_reads' HO585.out).2.1); (case side3 => refine (Kd.R_reads' (e := 9) (base := w.heap.size) (ok := fun k_ => (some k_ ≠ (.slice Ao12 t571.length co12 : Value).ownBlock ∧ some k_ ≠ (.slice Ao44 t583.length co44 : Value).ownBlock)) (n := t563.length) (c := co8) ?_).2.2; exact au3); (case side4 => exact (Kd.R_reads' HO_571000.out).2.1); rintro e w61 ⟨rfl, hb⟩; refine ⟨_, rfl, ?_⟩; have n0_ := Aside0.mk (Kd.R_below au3 hb); have n1_ := Aside0.mk (Kd.R_below au4 hb); have n2_ := Aside0.mk (Kd.R_below au7 hb); have n3_ := Aside0.mk (blk_below (g := gb570) (o := .cells #[.slice Ao8 t563.length co8, .string t566, .string t567, .string t568] 27 (0, 0)) au1 hb); have n4_ := Aside0.mk (blk_below (g := gb578) (o := .cells #[.slice Ao12 t571.length co12, .string t574, .string t575, .string t576] 27 (0, 0)) au2 hb); have n5_ := Aside0.mk (blk_below (g := gb590) (o := .cells #[.slice Ao44 t583.length co44, .string t586, .string t587, .string t588] 27 (0, 0)) (by (with_reducible repeat (first | refine blk_drewN ?_ _ | refine blk_drew ?_ | refine blk_alloc ?_ _)); refine blk_put (cs := #[.slice Ao44 t583.length co44, .string t586, .string t587, .string (⟨#[]⟩ : ByteArray)]) ?_ 3 _ rfl; (with_reducible repeat (first | refine blk_drewN ?_ _ | refine blk_drew ?_ | refine blk_alloc ?_ _)); refine blk_put (cs := #[.slice Ao44 t583.length co44, .string t586, .string (⟨#[]⟩ : ByteArray), .string (⟨#[]⟩ : ByteArray)]) ?_ 2 _ rfl; (with_reducible repeat (first | refine blk_drewN ?_ _ | refine blk_drew ?_ | refine blk_alloc ?_ _)); refine blk_put (cs := #[.slice Ao44 t583.length co44, .string (⟨#[]⟩ : ByteArray), .string (⟨#[]⟩ : ByteArray), .string (⟨#[]⟩ : ByteArray)]) ?_ 1 _ rfl; (with_reducible repeat (first | refine blk_drewN ?_ _ | refine blk_drew ?_ | refine blk_alloc ?_ _)); refine blk_put (cs := #[.slice none 0 0, .string (⟨#[]⟩ : ByteArray), .string (⟨#[]⟩ : ByteArray), .string (⟨#[]⟩ : ByteArray)]) ?_ 0 _ rfl; (with_reducible repeat (first | refine blk_drewN ?_ _ | refine blk_drew ?_ | refine blk_alloc ?_ _)); exact BK590.out) hb); have n6_ := Aside0.mk (below_step au12 hb); clear HO_571000; clear HO_579000; clear HO585; clear BK570; clear BK578; clear BK590; clear HB; have HO_571000 := n0_; have HO_579000 := n1_; have HO585 := n2_; have BK570 := n3_; have BK578 := n4_; have BK590 := n5_; have HB := n6_; clear n0_ n1_ n2_ n3_ n4_ n5_ n6_; (try clear hb); (try clear hb2); (try clear hk); (try clear hi)))
         go_meet
         case rel => exact ⟨_, (true), au89, H', ⟨by have := HJ4.out; first | omega | exact Nat.le_refl _⟩, ⟨by (with_reducible repeat (first | apply Kd.R_alloc | apply Kd.R_drewN | apply Kd.R_drew)); exact HO_571000.out⟩, ⟨by (with_reducible repeat (first | apply Kd.R_alloc | apply Kd.R_drewN | apply Kd.R_drew)); exact HO_579000.out⟩, ⟨by (with_reducible repeat (first | apply Kd.R_alloc | apply Kd.R_drewN | apply Kd.R_drew)); exact Kd.R_mono HO585.out (fun _ hk => ⟨hk.1.2, hk.2⟩)⟩, ⟨by (with_reducible repeat (first | refine blk_drewN ?_ _ | refine blk_drew ?_ | refine blk_alloc ?_ _)); exact BK570.out⟩, ⟨by (with_reducible repeat (first | refine blk_drewN ?_ _ | refine blk_drew ?_ | refine blk_alloc ?_ _)); exact BK578.out⟩, ⟨by (with_reducible repeat (first | refine blk_drewN ?_ _ | refine blk_drew ?_ | refine blk_alloc ?_ _)); exact BK590.out⟩, ⟨by repeat (first | (with_reducible first | exact HB.out | apply below_alloc | apply pw_below_drewN | apply below_drew1 | refine below_set ?_ GE570.out | refine below_set ?_ GE578.out | refine below_set ?_ GE590.out) | exact HB.out)⟩⟩
       case rest =>
        clear HC36
        try clear c1
        try clear c2
        try clear c2b0
        try clear c2b1
        try clear p2
        try clear c3
        try clear c4
        try clear c5
        try clear c9
        try clear c13
        try clear c16
        try clear c17
        try clear c21
        try clear c25
        try clear c28
        try clear c28b0
        try clear c29
        try clear c30
        try clear c31
        try clear c32
        try clear c33
        try clear c34
        try clear c34b0
        try clear c34b1
        try clear c37
        try clear c45
        try clear c46
        try clear c49
        try clear c50
        try clear c51
        try clear c53
        try clear c56
        try clear c57
        try clear c59
        try clear hcz14_0
        try clear hcz14_1
        try clear hcz14_2
        try clear hcz14_3
        try clear hcz18_0
        try clear hcz18_1
        try clear hcz18_2
        try clear hcz18_3
        try clear hcz19_0
        try clear hcz19_1
        try clear hcz19_2
        try clear hcz19_3
        try clear hcz22_0
        try clear hcz22_1
        try clear hcz22_2
        try clear hcz22_3
        try clear hcz23_0
        try clear hcz23_1
        try clear hcz23_2
        try clear hcz23_3
        try clear hcz30_0
        try clear hcz30_1
        try clear hcz30_2
        try clear hcz30_3
        try clear hcz32_0
        try clear hcz32_1
        try clear hcz32_2
        try clear hcz32_3
        try clear hcz38_0
        try clear hcz38_1
        try clear hcz38_2
        try clear hcz38_3
        try clear hcz40_0
        try clear hcz40_1
        try clear hcz40_2
        try clear hcz40_3
        try clear hcz47_0
        try clear hcz47_1
        try clear hcz47_2
        try clear hcz47_3
        try clear hcz52_0
        try clear hcz52_1
        try clear hcz52_2
        try clear hcz52_3
        try clear hcz54_0
        try clear hcz54_1
        try clear hcz54_2
        try clear hcz54_3
        try clear hcz58_0
        try clear hcz58_1
        try clear hcz58_2
        try clear hcz58_3
        try clear hcz60_0
        try clear hcz60_1
        try clear hcz60_2
        try clear hcz60_3
        try clear hcz9_0
        try clear hcz9_1
        try clear hcz9_2
        try clear hcz9_3
        try clear hfz14_0
        try clear hfz14_1
        try clear hfz14_2
        try clear hfz14_3
        try clear hfz18_0
        try clear hfz18_1
        try clear hfz18_2
        try clear hfz18_3
        try clear hfz19_0
        try clear hfz19_1
        try clear hfz19_2
        try clear hfz19_3
        try clear hfz22_0
        try clear hfz22_1
        try clear hfz22_2
        try clear hfz22_3
        try clear hfz23_0
        try clear hfz23_1
        try clear hfz23_2
        try clear hfz23_3
        try clear hfz30_0
        try clear hfz30_1
        try clear hfz30_2
        try clear hfz30_3
        try clear hfz32_0
        try clear hfz32_1
        try clear hfz32_2
        try clear hfz32_3
        try clear hfz38_0
        try clear hfz38_1
        try clear hfz38_2
        try clear hfz38_3
        try clear hfz40_0
        try clear hfz40_1
        try clear hfz40_2
        try clear hfz40_3
        try clear hfz47_0
        try clear hfz47_1
        try clear hfz47_2
        try clear hfz47_3
        try clear hfz52_0
        try clear hfz52_1
        try clear hfz52_2
        try clear hfz52_3
        try clear hfz54_0
        try clear hfz54_1
        try clear hfz54_2
        try clear hfz54_3
        try clear hfz58_0
        try clear hfz58_1
        try clear hfz58_2
        try clear hfz58_3
        try clear hfz60_0
        try clear hfz60_1
        try clear hfz60_2
        try clear hfz60_3
        try clear hfz9_0
        try clear hfz9_1
        try clear hfz9_2
        try clear hfz9_3
        try clear p2
        obtain ⟨kq, x57_35, rfl, HA, HJ35, HO_571000, HO_579000, HO_591000, BK570, BK578, BK590, HB⟩ := hcut
        have hl579000_35 := (Kd.R_reads' HO_579000.out).1
        rw [hl579000_35] at HO_579000
        (try simp only [hl579000_35])
        (try simp only [hl579000_35] at BK570)
        (try simp only [hl579000_35] at BK578)
        (try simp only [hl579000_35] at BK590)
        (try simp only [hl579000_35] at HO_571000)
        (try simp only [hl579000_35] at HO_591000)
        cases kq with
        | zero => exact absurd HA.out (by simp [laws_FnExactParseInverse.j1])
        | succ kj35 =>
         have H := HA.out
         clear HA
         simp only [laws_FnExactParseInverse.j1] at H
         by_cases c62 : x57_35 = true
         ·
          subst c62
          replace H := (if_pos rfl).symm.trans H
          obtain rfl := Option.some.inj H
          go_wp2
          go_ret
          exact ⟨by first | rfl | (simp [errW_none, errW_some] <;> rfl) | (simp [*, errW_none, errW_some] <;> rfl), by repeat (first | (with_reducible first | exact HB.out | apply below_alloc | apply pw_below_drewN | apply below_drew1 | refine below_set ?_ GE570.out | refine below_set ?_ GE578.out | refine below_set ?_ GE590.out) | exact HB.out)⟩
         ·
          replace c62 := Bool.eq_false_iff.mpr c62
          subst c62
          replace H := (if_neg (show ¬ (false = true) by decide)).symm.trans H
          replace H := Option.bind_eq_some_iff.mp H
          obtain ⟨t592, A630, H⟩ := H
          try dsimp only at H
          have A63 := Aside0.mk A630
          clear A630
          by_cases c64 : t592 < 0
          ·
           rw [if_pos c64] at H
           have c64b0 : decide (t592 < 0) = true := decide_eq_true c64
           clear c64
           obtain rfl := Option.some.inj H
           exact laws_FnExactParseInverse.L1
          ·
           rw [if_neg c64] at H
           have c64b0 : decide (t592 < 0) = false := decide_eq_false c64
           clear c64
           by_cases c69 : t592 = t580
           ·
            rw [if_pos c69] at H
            have c69b0 : (t592 == t580) = true := beq_iff_eq.mpr c69
            have c69b1 : (t592 != t580) = false := bne_eq_false_iff_eq.mpr c69
            clear c69
            obtain rfl := Option.some.inj H
            exact laws_FnExactParseInverse.L1
           ·
            rw [if_neg c69] at H
            have c69b0 : (t592 == t580) = false := beq_eq_false_iff_ne.mpr c69
            have c69b1 : (t592 != t580) = true := bne_iff_ne.mpr c69
            obtain rfl := Option.some.inj H
            exact laws_FnExactParseInverse.L1
      ·
       rw [if_neg c34] at H
       have c34b0 : (t582 == t580) = false := beq_eq_false_iff_ne.mpr c34
       have c34b1 : (t582 != t580) = true := bne_iff_ne.mpr c34
       obtain rfl := Option.some.inj H
       exact laws_FnExactParseInverse.L0



end Go.Proofs.YtcckamdpncbkoaaDoor.G

namespace Go.Proofs.YtcckamdpncbkoaaDoor.Opn
open Go.RowKit Go.Proofs.YtcckamdpncbkoaaDoorW.PrintWords
set_option linter.unusedVariables false
set_option linter.unusedSimpArgs false
variable {H : Type} {enc : TypeId × Value → H} {P : Program} {w : World} {base : Nat} {spare : Nat → Bool} {held : Bool}
def okStr (s : ByteArray) : Prop := s.size ≤ 9223372036854775807
end Go.Proofs.YtcckamdpncbkoaaDoor.Opn

namespace Go.Proofs.YtcckamdpncbkoaaDoor.G
open Go.Proofs.YtcckamdpncbkoaaDoor.Opn
open Go.RowKit Go.Proofs.YtcckamdpncbkoaaDoorW.PrintWords Go.Proofs.YtcckamdpncbkoaaDoorW.PrintLast Go.Proofs.YtcckamdpncbkoaaDoorW.PrintMore
open Go.Proofs.YtcckamdpncbkoaaDoor.Gl Go.Proofs.YtcckamdpncbkoaaDoor.Ext
attribute [local go_sem] max2_int min2_int max_two min_two max_three min_three max_four min_four   -- for this text's walks alone
set_option linter.unusedVariables false
set_option linter.unusedSimpArgs false


def laws_FnExactParseInverse.Pur : Prop := ∀ (a0 : ByteArray), okStr a0 → ∃ k, laws_FnExactParseInverse.f k a0 = some true
theorem laws_FnExactParseInverse.wlk (P : laws_FnExactParseInverse.Pur) (a0 : ByteArray) (w : World)  {gF1 gF2 gF3 : Bool} (hG : GL gF1 gF2 gF3 w) (ba0 : okStr a0) :
    Calls Tryd.prog 9 #[.string a0] w fun e w' => e = .returned (.bool true) ∧ Below w.heap.size w w' := by
  obtain ⟨k, h⟩ := P a0 ba0
  refine (laws_FnExactParseInverse.calls k a0 true w hG  h).mono ?_
  rintro e w' ⟨rfl, hd⟩
  exact ⟨rfl, hd⟩

end Go.Proofs.YtcckamdpncbkoaaDoor.G

namespace Go.Proofs.YtcckamdpncbkoaaDoor.B
open Go.RowKit Go.Proofs.YtcckamdpncbkoaaDoorW.PrintWords Go.Proofs.YtcckamdpncbkoaaDoorW.PrintLast
set_option linter.unusedVariables false
set_option linter.unusedSimpArgs false
theorem w64 {x : Int} (h : -9223372036854775808 ≤ x) (h' : x ≤ 9223372036854775807) : wrap64 x = x := by unfold wrap64; omega
theorem ev_pos {α : Type} {c : Prop} [Decidable c] {g f : Nat → Option α} {r : α} (h : c) (e : Ev g r) : Ev (fun k => if c then g k else f k) r := Ev.congr (fun _ => if_pos h) e
theorem ev_neg {α : Type} {c : Prop} [Decidable c] {g f : Nat → Option α} {r : α} (h : ¬ c) (e : Ev f r) : Ev (fun k => if c then g k else f k) r := Ev.congr (fun _ => if_neg h) e
theorem ev_ite {α : Type} {c : Prop} [Decidable c] {g f : Nat → Option α} {a b : α} (h : c → Ev g a) (h' : ¬ c → Ev f b) : Ev (fun k => if c then g k else f k) (if c then a else b) := by
  by_cases hc : c
  · rw [if_pos hc]; exact ev_pos hc (h hc)
  · rw [if_neg hc]; exact ev_neg hc (h' hc)
theorem ev_bind0 {α β : Type} {o : Option α} {f : Nat → α → Option β} {a : α} {r : β} (h : o = some a) (k : Ev (fun n => f n a) r) : Ev (fun n => o.bind (f n)) r := Ev.congr (fun _ => by rw [h]; rfl) k
theorem ev_eq {α : Type} {g : Nat → Option α} {a b : α} (h : Ev g a) (e : a = b) : Ev g b := e ▸ h
abbrev L (s : ByteArray) : List UInt8 := s.data.toList
def mkB (l : List UInt8) : ByteArray := ⟨l.toArray⟩
theorem L_mk (l : List UInt8) : L (mkB l) = l := by simp [mkB]
theorem mk_L (s : ByteArray) : mkB (L s) = s := by cases s; simp [mkB, L]
theorem L_inj {a b : ByteArray} (h : L a = L b) : a = b := by rw [← mk_L a, h, mk_L]
theorem L_iff {a b : ByteArray} : a = b ↔ L a = L b := ⟨fun h => by rw [h], L_inj⟩
theorem L_len (s : ByteArray) : (L s).length = s.size := (Lib.size_eq s).symm
theorem size_mk (l : List UInt8) : (mkB l).size = l.length := by rw [← L_len, L_mk]
theorem toList_L (s : ByteArray) : s.toList = L s := Lib.toList_data s
theorem L_extract (s : ByteArray) (a b : Nat) : L (s.extract a b) = ((L s).drop a).take (b - a) := Lib.extract_data s a b
theorem L_append (a b : ByteArray) : L (a ++ b) = L a ++ L b := by simp [L, ByteArray.data_append]
theorem size_append (a b : ByteArray) : (a ++ b).size = a.size + b.size := by rw [← L_len, L_append, List.length_append, L_len, L_len]
theorem bt_get (s : ByteArray) (i : Nat) (h : i < s.size) : bt s (i : Int) = (((L s)[i]'(by rw [L_len]; exact h)).toNat : Int) := by
  unfold bt
  simp only [Int.toNat_natCast, h, dif_pos]
  rfl
theorem bt_getD (s : ByteArray) (i : Nat) (h : i < s.size) : bt s (i : Int) = (((L s).getD i 0).toNat : Int) := by
  rw [bt_get s i h, List.getD_eq_getElem?_getD, List.getElem?_eq_getElem (by rw [L_len]; exact h)]; rfl
theorem size_pos_iff (s : ByteArray) : s.size = 0 ↔ L s = [] := by rw [← L_len, List.length_eq_zero_iff]
theorem u8_inj {a b : UInt8} (h : (a.toNat : Int) = (b.toNat : Int)) : a = b := UInt8.toNat_inj.1 (by omega)
theorem toList_eq_iff {a b : ByteArray} : a.toList = b.toList ↔ a = b := by rw [toList_L, toList_L, L_iff]
def ahd (seg : List UInt8) : List (List UInt8) → List (List UInt8)
  | [] => [seg]
  | h :: t => (seg ++ h) :: t
def spl (b : UInt8) : List UInt8 → List (List UInt8)
  | [] => [[]]
  | c :: cs => if c = b then [] :: spl b cs else ahd [c] (spl b cs)
theorem spl_nil (b : UInt8) : spl b [] = [[]] := rfl
theorem spl_cons (b c : UInt8) (cs : List UInt8) : spl b (c :: cs) = if c = b then [] :: spl b cs else ahd [c] (spl b cs) := rfl
theorem spl_ne (b : UInt8) (l : List UInt8) : spl b l ≠ [] := by
  cases l with
  | nil => simp [spl]
  | cons c cs => unfold spl; split <;> simp; unfold ahd; split <;> simp
theorem ahd_nil (p : List (List UInt8)) (h : p ≠ []) : ahd [] p = p := by cases p <;> simp_all [ahd]
theorem ahd_ahd (a b : List UInt8) (p : List (List UInt8)) : ahd a (ahd b p) = ahd (a ++ b) p := by cases p <;> simp [ahd]
theorem spl_length (b : UInt8) (l : List UInt8) : (spl b l).length ≤ l.length + 1 := by
  induction l with
  | nil => simp [spl]
  | cons c cs ih =>
    unfold spl
    split
    · simp; omega
    · cases h : spl b cs with
      | nil => exact absurd h (spl_ne b cs)
      | cons p q => rw [h] at ih; simp [ahd] at ih ⊢; omega
theorem spl_step (b : UInt8) (l : List UInt8) (from_ i : Nat) (hi : i < l.length) (hf : from_ ≤ i) :
    ahd ((l.drop from_).take (i - from_)) (spl b (l.drop i)) =
      if l[i] = b then ((l.drop from_).take (i - from_)) :: spl b (l.drop (i + 1)) else ahd ((l.drop from_).take (i + 1 - from_)) (spl b (l.drop (i + 1))) := by
  rw [List.drop_eq_getElem_cons hi, spl_cons]
  by_cases h : l[i] = b
  · rw [if_pos h, if_pos h]
    simp [ahd]
  · rw [if_neg h, if_neg h]
    have e : (l.drop from_).take (i + 1 - from_) = (l.drop from_).take (i - from_) ++ [l[i]] := by
      rw [show i + 1 - from_ = (i - from_) + 1 by omega, List.take_succ_eq_append_getElem (by rw [List.length_drop]; omega)]
      congr 2
      rw [List.getElem_drop]
      congr 1
      omega
    rw [e]
    exact ahd_ahd _ _ _
theorem spl_none (c : UInt8) : ∀ l : List UInt8, (∀ k : Nat, l[k]? ≠ some c) → spl c l = [l]
  | [], _ => rfl
  | a :: l, h => by
    have h0 : a ≠ c := fun e => h 0 (by simp [e])
    rw [spl_cons, if_neg h0, spl_none c l (fun k => by simpa using h (k + 1))]; rfl
theorem spl_first (c : UInt8) : ∀ (i : Nat) (l : List UInt8), l[i]? = some c → (∀ k : Nat, k < i → l[k]? ≠ some c) → spl c l = l.take i :: spl c (l.drop (i + 1))
  | 0, [], h, _ => by simp at h
  | 0, a :: l, h, _ => by
    have h0 : a = c := by simpa using h
    rw [spl_cons, if_pos h0]; rfl
  | i + 1, [], h, _ => by simp at h
  | i + 1, a :: l, h, hk => by
    have h0 : a ≠ c := fun e => hk 0 (by omega) (by simp [e])
    rw [spl_cons, if_neg h0, spl_first c i l (by simpa using h) (fun k hk' => by simpa using hk (k + 1) (by omega))]
    rfl
theorem indexB_one (s : ByteArray) (c : UInt8) : Lib.indexB s (mkB [c]) = Lib.indexByte (L s) c := by
  unfold Lib.indexB
  have : (mkB [c]).data.toList = [c] := L_mk [c]
  rw [this]
  exact Lib.index_one _ _
theorem splitB_spl (c : UInt8) (n : Nat) : ∀ s : ByteArray, s.size ≤ n → (Lib.splitB (mkB [c]) 0 (Lib.countB s (mkB [c])) s).map L = spl c (L s) := by
  have h1 : (mkB [c]).size = 1 := by rw [size_mk]; rfl
  induction n with
  | zero =>
    intro s hs
    rcases Lib.indexB_cases s (mkB [c]) with hm | ⟨i, hi, hr⟩
    · rw [Lib.splitB_miss _ _ _ _ hm]
      have := Lib.indexByte_none (by rw [← indexB_one]; exact hm : Lib.indexByte (L s) c = -1)
      rw [spl_none c (L s) this]; rfl
    · omega
  | succ n ih =>
    intro s hs
    rcases Lib.indexB_cases s (mkB [c]) with hm | ⟨i, hi, hr⟩
    · rw [Lib.splitB_miss _ _ _ _ hm]
      have := Lib.indexByte_none (by rw [← indexB_one]; exact hm : Lib.indexByte (L s) c = -1)
      rw [spl_none c (L s) this]; rfl
    · rw [h1] at hr
      have hc := Lib.countB_hit s (mkB [c]) i (by omega) hi
      rw [h1] at hc
      rw [hc, Nat.add_comm 1, Lib.splitB_hit _ _ _ _ i hi, h1, List.map_cons, ih (s.extract (i + 1) s.size) (by rw [ByteArray.size_extract]; omega)]
      obtain ⟨a, b⟩ := Lib.indexByte_some (by rw [← indexB_one]; exact hi : Lib.indexByte (L s) c = i)
      rw [spl_first c i (L s) a b, L_extract, L_extract]
      congr 1
      congr 1
      rw [List.take_of_length_le (by rw [List.length_drop, L_len]; omega)]
theorem splitB_eq (c : UInt8) (s : ByteArray) : Lib.splitB (mkB [c]) 0 (Lib.countB s (mkB [c])) s = (spl c (L s)).map mkB := by
  rw [← splitB_spl c s.size s (Nat.le_refl _), List.map_map]
  have : (mkB ∘ L) = id := by funext x; exact mk_L x
  rw [this, List.map_id]
end Go.Proofs.YtcckamdpncbkoaaDoor.B

namespace Go.Proofs.YtcckamdpncbkoaaDoor.G
open Go.RowKit Go.Proofs.YtcckamdpncbkoaaDoorW.PrintWords Go.Proofs.YtcckamdpncbkoaaDoorW.PrintLast Go.Proofs.YtcckamdpncbkoaaDoor.B
set_option linter.unusedVariables false
set_option linter.unusedSimpArgs false
theorem split_loop (s : ByteArray) (b : UInt8) (hs : s.size ≤ 8796093022000) (d : Nat) : ∀ (out : List ByteArray) (f i : Nat), out.length ≤ i → f ≤ i → i ≤ s.size → s.size - i = d →
    Ev (fun k => spec_l1Split.l0 k s (b.toNat : Int) out f i) (out ++ (ahd (((L s).drop f).take (i - f)) (spl b ((L s).drop i))).map mkB) := by
  have hL : (L s).length = s.size := L_len s
  induction d with
  | zero =>
    intro out f i h0 h1 h2 hd
    have e : i = s.size := by omega
    refine Ev.step (f := fun _ => some (out ++ [s.extract f s.size])) (fun k => ?_) (ev_eq (Ev.now _) ?_)
    · simp only [spec_l1Split.l0]
      rw [if_neg (by omega), if_pos (by omega), if_pos (by omega), if_pos (by omega)]
      simp
    · rw [List.drop_of_length_le (l := L s) (i := i) (by omega)]
      simp [spl, ahd]
      apply L_inj
      rw [L_extract, L_mk, e]
  | succ d ih =>
    intro out f i h0 h1 h2 hd
    have hlt : i < s.size := by omega
    have hlt' : i < (L s).length := by omega
    rw [spl_step b (L s) f i hlt' h1]
    have hw : wrap64 ((i : Int) + 1) = ((i + 1 : Nat) : Int) := by rw [w64 (by omega) (by omega)]; rfl
    by_cases e : (L s)[i] = b
    · rw [if_pos e]
      refine Ev.step (f := fun k => spec_l1Split.l0 k s (b.toNat : Int) (out ++ [s.extract f i]) ((i + 1 : Nat) : Int) ((i + 1 : Nat) : Int)) (fun k => ?_) (ev_eq (ih (out ++ [s.extract f i]) (i + 1) (i + 1) (by simp; omega) (by omega) (by omega) (by omega)) ?_)
      · simp only [spec_l1Split.l0]
        rw [if_pos (by omega), if_pos (by omega), if_pos (by rw [bt_get s i hlt, e]), if_pos (by omega), if_pos (by omega), if_pos (by omega), if_pos (by omega), hw]
        simp
      · rw [Nat.sub_self, List.take_zero, ahd_nil _ (spl_ne b _), List.append_assoc]
        congr 1
        simp
        apply L_inj
        rw [L_extract, L_mk]
    · rw [if_neg e]
      refine Ev.step (f := fun k => spec_l1Split.l0 k s (b.toNat : Int) out f ((i + 1 : Nat) : Int)) (fun k => ?_) (ih out f (i + 1) (by omega) (by omega) (by omega) (by omega))
      simp only [spec_l1Split.l0]
      rw [if_pos (by omega), if_pos (by omega), if_neg (by rw [bt_get s i hlt]; exact fun h => e (u8_inj h)), hw]
theorem split_ev (s : ByteArray) (b : UInt8) (hs : s.size ≤ 8796093022000) : Ev (fun k => spec_l1Split.f k s (b.toNat : Int)) ((spl b (L s)).map mkB) := by
  have := split_loop s b hs s.size [] 0 0 (by simp) (by omega) (by omega) (by omega)
  unfold spec_l1Split.f
  simpa [ahd_nil _ (spl_ne b _)] using this
def upD (c : Int) : Bool := decide (65 ≤ c) && decide (c ≤ 90)
def loD (c : Int) : Bool := decide (97 ≤ c) && decide (c ≤ 122)
def leD (c : Int) : Bool := upD c || loD c
def inD (n : Nat) : Bool := decide (1 ≤ n) && decide (n ≤ 12)
theorem spec_up (c : Int) : spec_l2Upper.f c = some (upD c) := by unfold spec_l2Upper.f upD; by_cases h : 65 ≤ c <;> simp [h]
theorem spec_lo (c : Int) : spec_l2Lower.f c = some (loD c) := by unfold spec_l2Lower.f loD; by_cases h : 97 ≤ c <;> simp [h]
theorem impl_up (c : Int) : impl_isUpper.f c = some (upD c) := by unfold impl_isUpper.f upD; by_cases h : 65 ≤ c <;> simp [h]
theorem impl_lo (c : Int) : impl_isLower.f c = some (loD c) := by unfold impl_isLower.f loD; by_cases h : 97 ≤ c <;> simp [h]
theorem spec_le (c : Int) : spec_l2Letter.f c = some (leD c) := by unfold spec_l2Letter.f leD; rw [spec_up, spec_lo]; cases upD c <;> simp
theorem impl_le (c : Int) : impl_isLetter.f c = some (leD c) := by unfold impl_isLetter.f leD; rw [impl_up, impl_lo]; cases upD c <;> simp
theorem in12 (n : Nat) : (if (n : Int) ≥ 1 then some (decide ((n : Int) ≤ 12)) else some false) = some (inD n) := by
  unfold inD
  by_cases h : 1 ≤ n
  · rw [if_pos (by omega)]
    congr 1
    rw [decide_eq_true h, Bool.true_and, decide_eq_decide]; omega
  · rw [if_neg (by omega)]; simp [h]
theorem spec_in (s : ByteArray) : spec_l1In.f (s.size : Int) 1 12 = some (inD s.size) := in12 s.size
theorem impl_in (s : ByteArray) : impl_inside.f (s.size : Int) 1 12 = some (inD s.size) := in12 s.size
theorem inD_iff {n : Nat} : inD n = true ↔ 1 ≤ n ∧ n ≤ 12 := by simp [inD]
def okD (s : ByteArray) (i : Nat) : Bool := leD (bt s i) || ((decide (bt s i = 45) || decide (bt s i = 39)) && leD (bt s ((i : Int) - 1)))
def wlD (s : ByteArray) : Nat → Nat → Bool
  | 0, _ => true
  | d + 1, i => okD s i && wlD s d (i + 1)
def wordD (s : ByteArray) : Bool := inD s.size && ((leD (bt s 0) && leD (bt s ((s.size : Int) - 1))) && wlD s (s.size - 1) 1)
def greatD (s : ByteArray) : Bool := wordD s && upD (bt s 0)
theorem word_step (s : ByteArray) (i k : Nat) (h1 : 1 ≤ i) (h2 : i < s.size) (h3 : s.size ≤ 12) : spec_l2Word.l0 (k + 1) s (i : Int) = if okD s i = true then spec_l2Word.l0 k s ((i + 1 : Nat) : Int) else some false := by
  have hw : wrap64 ((i : Int) + 1) = ((i + 1 : Nat) : Int) := by rw [w64 (by omega) (by omega)]; rfl
  have hw' : wrap64 ((i : Int) - 1) = (i : Int) - 1 := w64 (by omega) (by omega)
  have a1 : (0 : Int) ≤ (i : Int) - 1 := by omega
  have a2 : (i : Int) - 1 < (s.size : Int) := by omega
  simp only [spec_l2Word.l0]
  rw [if_pos (show (i : Int) < (s.size : Int) by omega), if_pos (show (0 : Int) ≤ (i : Int) by omega), spec_le, hw, hw']
  simp only [Option.bind_some, if_pos a1, if_pos a2, spec_le]
  unfold okD
  generalize ((i + 1 : Nat) : Int) = j
  cases leD (bt s i) <;> cases leD (bt s ((i : Int) - 1)) <;> by_cases c : bt s i = 45 <;> by_cases d : bt s i = 39 <;> simp [c, d]
theorem word_loop (s : ByteArray) (hs : s.size ≤ 12) (d : Nat) : ∀ i : Nat, 1 ≤ i → i ≤ s.size → s.size - i = d → Ev (fun k => spec_l2Word.l0 k s (i : Int)) (wlD s d i) := by
  induction d with
  | zero =>
    intro i h1 h2 hd
    refine Ev.step (f := fun _ => some true) (fun k => ?_) (Ev.now _)
    simp only [spec_l2Word.l0]; rw [if_neg (by omega)]
  | succ d ih =>
    intro i h1 h2 hd
    refine Ev.step (f := fun k => if okD s i = true then spec_l2Word.l0 k s ((i + 1 : Nat) : Int) else some false) (fun k => word_step s i k h1 (by omega) hs) ?_
    unfold wlD
    cases h : okD s i with
    | true => exact ev_pos rfl (ev_eq (ih (i + 1) (by omega) (by omega) (by omega)) (by simp))
    | false => exact ev_neg (by simp) (ev_eq (Ev.now _) (by simp))
theorem loops_eq (s : ByteArray) (k : Nat) : ∀ i : Int, impl_isNameWord.l0 k s i = spec_l2Word.l0 k s i := by
  induction k with
  | zero => intro i; simp [impl_isNameWord.l0, spec_l2Word.l0]
  | succ k ih => intro i; simp only [impl_isNameWord.l0, spec_l2Word.l0, impl_le, spec_le, ih]
theorem spec_word (s : ByteArray) : Ev (fun k => spec_l2Word.f k s) (wordD s) := by
  unfold spec_l2Word.f wordD
  cases h : inD s.size with
  | false =>
    refine Ev.step (f := fun _ => some false) (fun k => ?_) (ev_eq (Ev.now _) (by simp))
    simp only [spec_in, h, Option.bind_some, spec_l2Word.j0]; simp
  | true =>
    obtain ⟨h1, h2⟩ := inD_iff.1 h
    have hw : wrap64 ((s.size : Int) - 1) = (s.size : Int) - 1 := w64 (by omega) (by omega)
    refine Ev.step (f := fun k => if (leD (bt s 0) && leD (bt s ((s.size : Int) - 1))) = true then spec_l2Word.l0 k s ((1 : Nat) : Int) else some false) (fun k => ?_) ?_
    · have a1 : (0 : Int) < (s.size : Int) := by omega
      have a2 : (0 : Int) ≤ (s.size : Int) - 1 := by omega
      have a3 : (s.size : Int) - 1 < (s.size : Int) := by omega
      simp only [spec_in, h, Option.bind_some, if_pos a1, if_pos a2, if_pos a3, hw, spec_le, spec_l2Word.j0]
      cases leD (bt s 0) <;> cases leD (bt s ((s.size : Int) - 1)) <;> simp
    · cases h3 : (leD (bt s 0) && leD (bt s ((s.size : Int) - 1))) with
      | true => exact ev_pos rfl (ev_eq (word_loop s h2 (s.size - 1) 1 (by omega) (by omega) rfl) (by simp))
      | false => exact ev_neg (by simp) (ev_eq (Ev.now _) (by simp))
theorem impl_word (s : ByteArray) : Ev (fun k => impl_isNameWord.f k s) (wordD s) := by
  unfold impl_isNameWord.f wordD
  cases h : inD s.size with
  | false =>
    refine Ev.step (f := fun _ => some false) (fun k => ?_) (ev_eq (Ev.now _) (by simp))
    simp only [impl_in, h, Option.bind_some, impl_isNameWord.j0]; simp
  | true =>
    obtain ⟨h1, h2⟩ := inD_iff.1 h
    have hw : wrap64 ((s.size : Int) - 1) = (s.size : Int) - 1 := w64 (by omega) (by omega)
    refine Ev.step (f := fun k => if (leD (bt s 0) && leD (bt s ((s.size : Int) - 1))) = true then spec_l2Word.l0 k s ((0 : Nat) : Int) else some false) (fun k => ?_) ?_
    · have a1 : (0 : Int) < (s.size : Int) := by omega
      have a2 : (0 : Int) ≤ (s.size : Int) - 1 := by omega
      have a3 : (s.size : Int) - 1 < (s.size : Int) := by omega
      simp only [impl_in, h, Option.bind_some, if_pos a1, if_pos a2, if_pos a3, hw, impl_le, impl_isNameWord.j0, loops_eq]
      cases leD (bt s 0) <;> cases leD (bt s ((s.size : Int) - 1)) <;> simp
    · cases h3 : (leD (bt s 0) && leD (bt s ((s.size : Int) - 1))) with
      | true =>
        refine ev_pos rfl (Ev.step (f := fun k => spec_l2Word.l0 k s ((1 : Nat) : Int)) (fun k => ?_) (ev_eq (word_loop s h2 (s.size - 1) 1 (by omega) (by omega) rfl) (by simp)))
        have h0 : leD (bt s 0) = true := by simp at h3; exact h3.1
        simp only [spec_l2Word.l0]
        rw [if_pos (by omega), if_pos (by omega), spec_le, show ((0 : Nat) : Int) = 0 from rfl, h0, w64 (by omega) (by omega)]
        simp
      | false => exact ev_neg (by simp) (ev_eq (Ev.now _) (by simp))
theorem word_in {s : ByteArray} (h : wordD s = true) : 1 ≤ s.size ∧ s.size ≤ 12 := by
  unfold wordD at h
  cases hi : inD s.size with
  | true => exact inD_iff.1 hi
  | false => rw [hi] at h; simp at h
theorem impl_great (s : ByteArray) : Ev (fun k => impl_isGreatWord.f k s) (greatD s) := by
  unfold impl_isGreatWord.f greatD
  refine Ev.bind (impl_word s) ?_
  cases h : wordD s with
  | true =>
    have := word_in h
    refine ev_pos rfl (ev_pos (by omega) (ev_eq (Ev.congr (f := fun _ => some (upD (bt s 0))) (fun k => by rw [impl_up]; rfl) (Ev.now _)) (by simp)))
  | false => exact ev_neg (by simp) (ev_eq (Ev.now _) (by simp))
def lowF (s : ByteArray) (j : Nat) : Bool := ((L s).drop j).all fun b => loD (b.toNat : Int)
def lowD (s : ByteArray) : Bool := lowF s 0
def wsD (l : List ByteArray) : Bool := l.all fun w => inD w.size && lowD w
theorem lowF_step (s : ByteArray) (j : Nat) (h : j < s.size) : lowF s j = (loD (bt s j) && lowF s (j + 1)) := by
  unfold lowF
  have hl : j < (L s).length := by rw [L_len]; exact h
  rw [List.drop_eq_getElem_cons hl, List.all_cons, bt_get s j h]
theorem lowF_end (s : ByteArray) (j : Nat) (h : s.size ≤ j) : lowF s j = true := by
  unfold lowF
  rw [List.drop_of_length_le (by rw [L_len]; exact h)]; rfl
theorem low_all (s : ByteArray) (h : lowD s = true) (j : Nat) (hj : j < s.size) : leD (bt s j) = true := by
  have hl : j < (L s).length := by rw [L_len]; exact hj
  have := List.all_eq_true.1 h _ (by rw [List.drop_zero]; exact List.getElem_mem hl)
  rw [bt_get s j hj]
  unfold leD
  rw [this]; simp
theorem wl_low (s : ByteArray) (h : lowD s = true) (d : Nat) : ∀ i, i + d ≤ s.size → wlD s d i = true := by
  induction d with
  | zero => intro i _; rfl
  | succ d ih =>
    intro i hi
    unfold wlD okD
    rw [low_all s h i (by omega), ih (i + 1) (by omega)]; rfl
theorem word_low (s : ByteArray) : (wordD s && lowD s) = (inD s.size && lowD s) := by
  cases h : lowD s with
  | false => simp
  | true =>
    unfold wordD
    cases hi : inD s.size with
    | false => simp
    | true =>
      obtain ⟨h1, h2⟩ := inD_iff.1 hi
      have e1 := low_all s h 0 (by omega)
      have e2 := low_all s h (s.size - 1) (by omega)
      rw [show ((s.size - 1 : Nat) : Int) = (s.size : Int) - 1 by omega] at e2
      rw [show ((0 : Nat) : Int) = 0 from rfl] at e1
      rw [e1, e2, wl_low s h (s.size - 1) 1 (by omega)]; rfl
theorem rd_get (l : List ByteArray) (i : Nat) (h : i < l.length) : rdOf ByteArray.empty l (i : Int) = l[i] := by simp [rdOf, h]
theorem spec_inner (ws : List ByteArray) (i : Nat) (hi : i < ws.length) (hs : (ws[i]).size ≤ 12) (hl : ws.length ≤ 4611686018427387904) (T : Bool) (hT : Ev (fun k => spec_l2Particle.l0 k ws ((i + 1 : Nat) : Int)) T) (d : Nat) : ∀ j : Nat, j ≤ (ws[i]).size → (ws[i]).size - j = d →
    Ev (fun k => spec_l2Particle.l1 k ws (i : Int) (j : Int)) (lowF ws[i] j && T) := by
  have hw : wrap64 ((i : Int) + 1) = ((i + 1 : Nat) : Int) := by rw [w64 (by omega) (by omega)]; rfl
  induction d with
  | zero =>
    intro j h1 hd
    refine Ev.step (f := fun k => spec_l2Particle.l0 k ws ((i + 1 : Nat) : Int)) (fun k => ?_) (ev_eq hT (by rw [lowF_end _ _ (by omega)]; simp))
    simp only [spec_l2Particle.l1, rd_get ws i hi]
    rw [if_pos (by omega), if_pos (by omega), if_neg (by omega), hw]
  | succ d ih =>
    intro j h1 hd
    rw [lowF_step _ j (by omega)]
    have hw' : wrap64 ((j : Int) + 1) = ((j + 1 : Nat) : Int) := by rw [w64 (by omega) (by omega)]; rfl
    refine Ev.step (f := fun k => if loD (bt ws[i] (j : Int)) = true then spec_l2Particle.l1 k ws (i : Int) ((j + 1 : Nat) : Int) else some false) (fun k => ?_) ?_
    · simp only [spec_l2Particle.l1, rd_get ws i hi]
      rw [if_pos (by omega), if_pos (by omega), if_pos (by omega), if_pos (by omega), hw', spec_lo]; rfl
    · cases h : loD (bt ws[i] (j : Int)) with
      | true => exact ev_pos rfl (ev_eq (ih (j + 1) (by omega) (by omega)) (by simp))
      | false => exact ev_neg (by simp) (ev_eq (Ev.now _) (by simp))
theorem spec_outer (ws : List ByteArray) (hl : ws.length ≤ 4611686018427387904) (d : Nat) : ∀ i : Nat, i ≤ ws.length → ws.length - i = d →
    Ev (fun k => spec_l2Particle.l0 k ws (i : Int)) (wsD (ws.drop i) && decide (ws.length ≤ 2)) := by
  induction d with
  | zero =>
    intro i h1 hd
    refine Ev.step (f := fun k => some (decide ((ws.length : Int) ≤ 2))) (fun k => ?_) (ev_eq (Ev.now _) ?_)
    · simp only [spec_l2Particle.l0]; rw [if_neg (by omega)]
    · rw [List.drop_of_length_le (by omega)]
      show decide _ = (true && decide _)
      rw [Bool.true_and, decide_eq_decide]; omega
  | succ d ih =>
    intro i h1 hd
    have hi : i < ws.length := by omega
    refine Ev.step (f := fun k => (spec_l2Word.f k ws[i]).bind fun t => if t = true then spec_l2Particle.l1 k ws (i : Int) ((0 : Nat) : Int) else some false) (fun k => ?_) ?_
    · simp only [spec_l2Particle.l0, rd_get ws i hi]
      rw [if_pos (by omega), if_pos (by omega)]; rfl
    · refine Ev.bind (spec_word _) ?_
      have e : (wsD (ws.drop i) && decide (ws.length ≤ 2)) = ((wordD ws[i] && lowD ws[i]) && (wsD (ws.drop (i + 1)) && decide (ws.length ≤ 2))) := by
        rw [word_low, List.drop_eq_getElem_cons hi]
        simp only [wsD, List.all_cons, Bool.and_assoc]
      rw [e]
      cases h : wordD ws[i] with
      | true => exact ev_pos rfl (ev_eq (spec_inner ws i hi (word_in h).2 hl _ (ih (i + 1) (by omega) (by omega)) _ 0 (by omega) rfl) (by simp [lowD]))
      | false => exact ev_neg (by simp) (ev_eq (Ev.now _) (by simp))
theorem impl_inner (ws ws' : List ByteArray) (n i : Nat) (w : ByteArray) (hi : i < 4611686018427387904) (hs : w.size ≤ 12) (T : Bool) (hT : Ev (fun k => impl_isParticle.l0 k ws ws' (n : Int) ((i + 1 : Nat) : Int)) T) (d : Nat) : ∀ j : Nat, j ≤ w.size → w.size - j = d →
    Ev (fun k => impl_isParticle.l1 k ws w (j : Int) ws' (n : Int) (i : Int)) (lowF w j && T) := by
  have hw : wrap64 ((i : Int) + 1) = ((i + 1 : Nat) : Int) := by rw [w64 (by omega) (by omega)]; rfl
  induction d with
  | zero =>
    intro j h1 hd
    refine Ev.step (f := fun k => impl_isParticle.l0 k ws ws' (n : Int) ((i + 1 : Nat) : Int)) (fun k => ?_) (ev_eq hT (by rw [lowF_end _ _ (by omega)]; simp))
    simp only [impl_isParticle.l1]
    rw [if_neg (by omega), hw]
  | succ d ih =>
    intro j h1 hd
    rw [lowF_step _ j (by omega)]
    have hw' : wrap64 ((j : Int) + 1) = ((j + 1 : Nat) : Int) := by rw [w64 (by omega) (by omega)]; rfl
    refine Ev.step (f := fun k => if loD (bt w (j : Int)) = true then impl_isParticle.l1 k ws w ((j + 1 : Nat) : Int) ws' (n : Int) (i : Int) else some false) (fun k => ?_) ?_
    · simp only [impl_isParticle.l1]
      rw [if_pos (by omega), if_pos (by omega), hw', impl_lo]; rfl
    · cases h : loD (bt w (j : Int)) with
      | true => exact ev_pos rfl (ev_eq (ih (j + 1) (by omega) (by omega)) (by simp))
      | false => exact ev_neg (by simp) (ev_eq (Ev.now _) (by simp))
theorem impl_outer (ws : List ByteArray) (hl : ws.length ≤ 4611686018427387904) (d : Nat) : ∀ i : Nat, i ≤ ws.length → ws.length - i = d →
    Ev (fun k => impl_isParticle.l0 k ws ws (ws.length : Int) (i : Int)) (wsD (ws.drop i) && decide (ws.length ≤ 2)) := by
  induction d with
  | zero =>
    intro i h1 hd
    refine Ev.step (f := fun k => some (decide ((ws.length : Int) ≤ 2))) (fun k => ?_) (ev_eq (Ev.now _) ?_)
    · simp only [impl_isParticle.l0]; rw [if_neg (by omega)]
    · rw [List.drop_of_length_le (by omega)]
      show decide _ = (true && decide _)
      rw [Bool.true_and, decide_eq_decide]; omega
  | succ d ih =>
    intro i h1 hd
    have hi : i < ws.length := by omega
    have e : (wsD (ws.drop i) && decide (ws.length ≤ 2)) = (inD (ws[i]).size && (lowD ws[i] && (wsD (ws.drop (i + 1)) && decide (ws.length ≤ 2)))) := by
      rw [List.drop_eq_getElem_cons hi]
      simp only [wsD, List.all_cons, Bool.and_assoc]
    rw [e]
    refine Ev.step (f := fun k => if inD (ws[i]).size = true then impl_isParticle.l1 k ws ws[i] ((0 : Nat) : Int) ws (ws.length : Int) (i : Int) else some false) (fun k => ?_) ?_
    · simp only [impl_isParticle.l0, rd_get ws i hi]
      rw [if_pos (by omega), if_pos (by omega), if_pos (by omega), impl_in]; rfl
    · cases h : inD (ws[i]).size with
      | true => exact ev_pos rfl (ev_eq (impl_inner ws ws ws.length i ws[i] (by omega) (inD_iff.1 h).2 _ (ih (i + 1) (by omega) (by omega)) _ 0 (by omega) rfl) (by simp [lowD]))
      | false => exact ev_neg (by simp) (ev_eq (Ev.now _) (by simp))
def wordsOf (s : ByteArray) : List ByteArray := (spl 32 (L s)).map mkB
def partD (s : ByteArray) : Bool := decide (s.size = 0) || (wsD (wordsOf s) && decide ((wordsOf s).length ≤ 2))
theorem wordsOf_len (s : ByteArray) : (wordsOf s).length ≤ s.size + 1 := by
  have := spl_length 32 (L s)
  rw [L_len] at this
  unfold wordsOf
  rw [List.length_map]; exact this
theorem nil_iff (s : ByteArray) : s.toList = ([] : List UInt8) ↔ s.size = 0 := by rw [toList_L, size_pos_iff]
theorem split_sp (s : ByteArray) (c : UInt8) (hs : s.size ≤ 4294967280) : strings_Split.f s (⟨#[c]⟩ : ByteArray) = some ((spl c (L s)).map mkB) := by
  have e : (⟨#[c]⟩ : ByteArray) = mkB [c] := rfl
  have h1 : (mkB [c]).size = 1 := by rw [size_mk]; rfl
  have hc := Lib.countB_le (mkB [c]) (by omega) s.size s (Nat.le_refl _)
  unfold strings_Split.f
  rw [e, if_pos ⟨by omega, by omega, Lib.splitB_all (mkB [c]) (by omega) 0 _ s rfl, by omega⟩, splitB_eq]
theorem spec_part (s : ByteArray) (hs : s.size ≤ 4294967280) : Ev (fun k => spec_l2Particle.f k s) (partD s) := by
  unfold spec_l2Particle.f partD
  by_cases h : s.size = 0
  · exact ev_pos ((nil_iff s).2 h) (ev_eq (Ev.now _) (by simp [h]))
  · refine ev_neg (fun e => h ((nil_iff s).1 e)) (Ev.bind (split_ev s 32 (by omega)) (ev_eq (spec_outer (wordsOf s) (by have := wordsOf_len s; omega) _ 0 (by omega) rfl) ?_))
    simp [h]
theorem impl_part (s : ByteArray) (hs : s.size ≤ 4294967280) : Ev (fun k => impl_isParticle.f k s) (partD s) := by
  unfold impl_isParticle.f partD
  by_cases h : s.size = 0
  · exact ev_pos ((nil_iff s).2 h) (ev_eq (Ev.now _) (by simp [h]))
  · refine ev_neg (fun e => h ((nil_iff s).1 e)) (ev_bind0 (split_sp s 32 hs) (ev_eq (impl_outer (wordsOf s) (by have := wordsOf_len s; omega) _ 0 (by omega) rfl) ?_))
    simp [h]
end Go.Proofs.YtcckamdpncbkoaaDoor.G

namespace Go.Proofs.YtcckamdpncbkoaaDoor.G
open Go.RowKit Go.Proofs.YtcckamdpncbkoaaDoorW.PrintWords Go.Proofs.YtcckamdpncbkoaaDoorW.PrintLast Go.Proofs.YtcckamdpncbkoaaDoorW.PrintMore
open Go.Proofs.YtcckamdpncbkoaaDoor.Gl Go.Proofs.YtcckamdpncbkoaaDoor.Ext
attribute [local go_sem] max2_int min2_int max_two min_two max_three min_three max_four min_four   -- for this text's walks alone
set_option linter.unusedVariables false
set_option linter.unusedSimpArgs false

/-! ### laws_szStringS: function 38 -/
def laws_szStringS.l0 : Nat → List ByteArray → Int → Int → Option (Int)
 | 0, _, _, _ => none
 | k + 1, x0, x1, x5 => if x5 < (x0.length : Int) then (if 0 ≤ x5 then (if (wrap64 (x1 - ((rdOf ByteArray.empty x0 x5).size : Int))) < 0 then (some (-1)) else (laws_szStringS.l0 k x0 (wrap64 (x1 - ((rdOf ByteArray.empty x0 x5).size : Int))) (wrap64 (x5 + 1)))) else (none)) else (some x1)
def laws_szStringS.f (k : Nat) (l0 : List ByteArray) (a1 : Int) : Option (Int) := if (wrap64 (a1 - (l0.length : Int))) < 0 then (some (-1)) else (laws_szStringS.l0 k l0 (wrap64 (a1 - (l0.length : Int))) 0)
theorem laws_szStringS.mono_l : ∀ k, (∀ y0 y1 y2, LeO (laws_szStringS.l0 k y0 y1 y2) (laws_szStringS.l0 (k + 1) y0 y1 y2))
 | 0 => fun _ _ _ r h => by simp [laws_szStringS.l0] at h
 | k + 1 => by
  have ih0 := laws_szStringS.mono_l k
  ·
   intro y0 y1 y2
   unfold laws_szStringS.l0
   repeat' first
   | (with_reducible exact ih0 _ _ _)
   | (with_reducible exact LeO.refl _)
   | (with_reducible exact LeO.none _)
   | (with_reducible refine LeO.ite ?_ ?_)
   | (with_reducible refine LeO.bind ?_ (fun _ => ?_))
   | exact ih0 _ _ _
   | exact LeO.none _
   | refine LeO.ite ?_ ?_
   | refine LeO.bind ?_ (fun _ => ?_)
theorem laws_szStringS.mono : ∀ a0 a1 k, LeO (laws_szStringS.f k a0 a1) (laws_szStringS.f (k + 1) a0 a1) := by
 intro a0 a1 k
 have ih0 := laws_szStringS.mono_l k
 unfold laws_szStringS.f
 repeat' first
   | (with_reducible exact ih0 _ _ _)
   | (with_reducible exact LeO.refl _)
   | (with_reducible exact LeO.none _)
   | (with_reducible refine LeO.ite ?_ ?_)
   | (with_reducible refine LeO.bind ?_ (fun _ => ?_))
   | exact ih0 _ _ _
   | exact LeO.none _
   | refine LeO.ite ?_ ?_
   | refine LeO.bind ?_ (fun _ => ?_)
set_option maxHeartbeats 8000000 in
set_option maxRecDepth 100000 in
theorem laws_szStringS.calls (k : Nat) (A0 : Option Addr) (c0 : Nat) (l0 : List ByteArray) (a1 : Int) (r : Int) (w : World) (hr0 : Kd.C Kd.string w A0 l0.length l0) (hc0 : l0.length ≤ c0) (h : laws_szStringS.f k l0 a1 = some r) :
  Calls Tryd.prog 38 #[.slice A0 l0.length c0, .int .i64 a1] w fun e w' => e = .returned (.int .i64 r) ∧ Drawn0 w w' := by
 have HR0 := Aside0.mk hr0
 have HC0 := Aside0.mk hc0
 clear hr0 hc0
 have H : (if (wrap64 (a1 - (l0.length : Int))) < 0 then (some (-1)) else (laws_szStringS.l0 k l0 (wrap64 (a1 - (l0.length : Int))) 0)) = some r := h
 clear h
 by_cases c3 : (wrap64 (a1 - (l0.length : Int))) < 0
 ·
  rw [if_pos c3] at H
  have c3b0 : decide ((wrap64 (a1 - (l0.length : Int))) < 0) = true := decide_eq_true c3
  clear c3
  obtain rfl := Option.some.inj H
  go_enter Tryd.func38, Tryd.ntmps38
  go_wp2
  go_ret
  exact ax0
 ·
  rw [if_neg c3] at H
  have c3b0 : decide ((wrap64 (a1 - (l0.length : Int))) < 0) = false := decide_eq_false c3
  clear c3
  have H' := Aside0.mk H
  clear H
  go_enter Tryd.func38, Tryd.ntmps38
  go_wp2
  go_loopg [1, 5] k (fun kq v1 v5 w' => ∃ (x1_1 : Int) (x5_1 : Int), v1 = .int .i64 x1_1 ∧ v5 = .int .i64 x5_1 ∧ Aside0 (laws_szStringS.l0 kq l0 x1_1 x5_1 = some r) ∧ Aside0 (kq ≤ k) ∧ Drawn0 w w')
  case atStart => exact ⟨(wrap64 (a1 - (l0.length : Int))), (0), au89, au89, H', ⟨Nat.le_refl _⟩, by repeat (first | exact Drawn0.refl _ | apply Drawn0.step)⟩
  case round =>
   clear H'
   try clear p2
   try clear c3
   try clear c3b0
   obtain ⟨x1_1, x5_1, rfl, rfl, HA, HK1, ⟨m1, rfl⟩⟩ := hrel
   cases gk with
   | zero => exact absurd HA.out (by simp [laws_szStringS.l0])
   | succ k1 =>
    have H := HA.out
    clear HA
    simp only [laws_szStringS.l0] at H
    by_cases c4 : x5_1 < (l0.length : Int)
    ·
     rw [if_pos c4] at H
     have c4b0 : decide (x5_1 < (l0.length : Int)) = true := decide_eq_true c4
     clear c4
     by_cases c5 : 0 ≤ x5_1
     ·
      rw [if_pos c5] at H
      have c5b0 : decide (0 ≤ x5_1) = true := decide_eq_true c5
      clear c5
      by_cases c6 : (wrap64 (x1_1 - ((rdOf ByteArray.empty l0 x5_1).size : Int))) < 0
      ·
       rw [if_pos c6] at H
       have c6b0 : decide ((wrap64 (x1_1 - ((rdOf ByteArray.empty l0 x5_1).size : Int))) < 0) = true := decide_eq_true c6
       clear c6
       obtain rfl := Option.some.inj H
       have p101 : 0 ≤ (x5_1 : Int) := of_decide_eq_true au88
       have q101 : x5_1 < (l0.length : Int) := of_decide_eq_true au88
       obtain ⟨ad101, e101, hx101_0⟩ := Kd.at_string HR0.out x5_1 p101 q101
       cases e101
       replace p101 := eq_true p101
       replace q101 := eq_true q101
       go_wp2
       go_ret
       exact ax0
      ·
       rw [if_neg c6] at H
       have c6b0 : decide ((wrap64 (x1_1 - ((rdOf ByteArray.empty l0 x5_1).size : Int))) < 0) = false := decide_eq_false c6
       clear c6
       have H' := Aside0.mk H
       clear H
       have p101 : 0 ≤ (x5_1 : Int) := of_decide_eq_true au88
       have q101 : x5_1 < (l0.length : Int) := of_decide_eq_true au88
       obtain ⟨ad101, e101, hx101_0⟩ := Kd.at_string HR0.out x5_1 p101 q101
       cases e101
       replace p101 := eq_true p101
       replace q101 := eq_true q101
       go_wp2
       go_roundg k1
       case measure => have := HK1.out; omega
       case rel => exact ⟨(wrap64 (x1_1 - ((rdOf ByteArray.empty l0 x5_1).size : Int))), (wrap64 (x5_1 + 1)), au89, au89, H', ⟨by have := HK1.out; omega⟩, by repeat (first | exact Drawn0.refl _ | apply Drawn0.step)⟩
     ·
      rw [if_neg c5] at H
      exact absurd H (by simp)
    ·
     rw [if_neg c4] at H
     have c4b0 : decide (x5_1 < (l0.length : Int)) = false := decide_eq_false c4
     clear c4
     obtain rfl := Option.some.inj H
     go_wp2
     go_ret
     exact ax0


/-! ### laws_toStringS: function 40 -/
def laws_toStringS.l0 : Nat → List ByteArray → List ByteArray → Int → Option (List ByteArray)
 | 0, _, _, _ => none
 | k + 1, x0, x3, x4 => if x4 < (x0.length : Int) then (if 0 ≤ x4 then (if x4 < (x3.length : Int) then (laws_toStringS.l0 k x0 (x3.set (x4 : Int).toNat (rdOf ByteArray.empty x0 x4)) (wrap64 (x4 + 1))) else (none)) else (none)) else (some x3)
def laws_toStringS.f (k : Nat) (l0 : List ByteArray) : Option (List ByteArray) := if 0 ≤ (l0.length : Int) then (if ((l0.length : Int) : Int).toNat ≤ 17592186044416 then (laws_toStringS.l0 k l0 (List.replicate ((l0.length : Int) : Int).toNat (⟨#[]⟩ : ByteArray)) 0) else (none)) else (none)
theorem laws_toStringS.mono_l : ∀ k, (∀ y0 y1 y2, LeO (laws_toStringS.l0 k y0 y1 y2) (laws_toStringS.l0 (k + 1) y0 y1 y2))
 | 0 => fun _ _ _ r h => by simp [laws_toStringS.l0] at h
 | k + 1 => by
  have ih0 := laws_toStringS.mono_l k
  ·
   intro y0 y1 y2
   unfold laws_toStringS.l0
   repeat' first
   | (with_reducible exact ih0 _ _ _)
   | (with_reducible exact LeO.refl _)
   | (with_reducible exact LeO.none _)
   | (with_reducible refine LeO.ite ?_ ?_)
   | (with_reducible refine LeO.bind ?_ (fun _ => ?_))
   | exact ih0 _ _ _
   | exact LeO.none _
   | refine LeO.ite ?_ ?_
   | refine LeO.bind ?_ (fun _ => ?_)
theorem laws_toStringS.mono : ∀ a0 k, LeO (laws_toStringS.f k a0) (laws_toStringS.f (k + 1) a0) := by
 intro a0 k
 have ih0 := laws_toStringS.mono_l k
 unfold laws_toStringS.f
 repeat' first
   | (with_reducible exact ih0 _ _ _)
   | (with_reducible exact LeO.refl _)
   | (with_reducible exact LeO.none _)
   | (with_reducible refine LeO.ite ?_ ?_)
   | (with_reducible refine LeO.bind ?_ (fun _ => ?_))
   | exact ih0 _ _ _
   | exact LeO.none _
   | refine LeO.ite ?_ ?_
   | refine LeO.bind ?_ (fun _ => ?_)
set_option maxHeartbeats 8000000 in
set_option maxRecDepth 100000 in
theorem laws_toStringS.calls (k : Nat) (A0 : Option Addr) (c0 : Nat) (l0 : List ByteArray) (r : List ByteArray) (w : World) (hr0 : Kd.C Kd.string w A0 l0.length l0) (hc0 : l0.length ≤ c0) (h : laws_toStringS.f k l0 = some r) :
  Calls Tryd.prog 40 #[.slice A0 l0.length c0] w fun e w' => ∃ v0_ : Value, e = .returned (v0_) ∧ Kd.R Kd.string 9 w' w.heap.size (fun _ => True) v0_ r ∧ Below w.heap.size w w' := by
 have HR0 := Aside0.mk hr0
 have HC0 := Aside0.mk hc0
 clear hr0 hc0
 have HB := Aside0.mk (Below.refl w.heap.size w)
 have H : (if 0 ≤ (l0.length : Int) then (if ((l0.length : Int) : Int).toNat ≤ 17592186044416 then (laws_toStringS.l0 k l0 (List.replicate ((l0.length : Int) : Int).toNat (⟨#[]⟩ : ByteArray)) 0) else (none)) else (none)) = some r := h
 clear h
 by_cases c2 : 0 ≤ (l0.length : Int)
 ·
  rw [if_pos c2] at H
  have c2b0 := eq_true c2
  have c2b1 : decide (0 ≤ (l0.length : Int)) = true := decide_eq_true c2
  clear c2
  by_cases c3 : ((l0.length : Int) : Int).toNat ≤ 17592186044416
  ·
   rw [if_pos c3] at H
   have c3b0 := eq_true c3
   have c3b1 : decide (((l0.length : Int) : Int).toNat ≤ 17592186044416) = true := decide_eq_true c3
   clear c3
   obtain ⟨y140, hy140⟩ : ∃ y_ : List ByteArray, y_ = (List.replicate ((l0.length : Int) : Int).toNat (⟨#[]⟩ : ByteArray)) := ⟨_, rfl⟩
   replace H : (laws_toStringS.l0 k l0 y140 0) = some r := by first | (rw [hy140]; with_reducible exact H) | (have H2_ := (Option.bind_some _ _).symm.trans H; rw [hy140]; with_reducible exact H2_) | (have H2_ := (Option.bind_some _ _).symm.trans H; with_reducible exact H2_) | with_reducible exact H | (rw [hy140]; exact H) | exact H
   have Ny140 := Aside0.mk hy140
   clear hy140
   have H' := Aside0.mk H
   clear H
   go_enter Tryd.func40, Tryd.ntmps40
   go_wp2_with (first | ((with_reducible refine gate_dst (N := 7) rfl ?_); refine Kd.R_make Kd.string _ 9 rfl (N := 7) rfl 22 _ _ rfl (l0.length : Int) rfl rfl Tryd.underlying22 (.string ⟨#[]⟩) 16 info9 rfl (by decide) (by omega) (⟨#[]⟩ : ByteArray) (ok := fun _ => True) (okp := fun _ => True) rfl (fun _ hk => hk) trivial (of_decide_eq_true au88) (Nat.le_trans (Nat.mul_le_mul_right _ (of_decide_eq_true au88 : (l0.length : Int).toNat ≤ 17592186044416)) (by omega)) (Below.refl _ _) (Nat.le_refl _) ?_; intro v141 w4 ho5 hb hg_ hnew_; clear hg_ hnew_; (first | rw [← Ny140.out] at ho5 | (simp only [Int.reduceToNat] at ho5; rw [← Ny140.out] at ho5)); have n0_ := Aside0.mk (Kd.R_lower ho5 (below_size au41)); have n1_ := Aside0.mk (below_step au41 hb); clear HB; have HO142 := n0_; have HB := n1_; clear n0_ n1_; clear hb ho5))
   go_loopg [4] k (fun kq v4 w' => ∃ (x3_1 : List ByteArray) (x4_1 : Int), v4 = .int .i64 x4_1 ∧ Aside0 (laws_toStringS.l0 kq l0 x3_1 x4_1 = some r) ∧ Aside0 (kq ≤ k) ∧ Aside0 (Kd.R Kd.string 9 w' w.heap.size (fun _ => True) v141 x3_1) ∧ Aside0 (Below w.heap.size w w'))
   case atStart => exact ⟨(y140), (0), au89, H', ⟨Nat.le_refl _⟩, ⟨by (with_reducible repeat (first | apply Kd.R_alloc | apply Kd.R_drewN | apply Kd.R_drew)); exact HO142.out⟩, ⟨by repeat (first | (with_reducible first | exact HB.out | apply below_alloc | apply pw_below_drewN | apply below_drew1) | exact HB.out)⟩⟩
   case round =>
    clear H'
    try clear c2
    try clear c2b0
    try clear c2b1
    try clear p2
    try clear c3
    try clear c3b0
    try clear c3b1
    try clear c4
    obtain ⟨x3_1, x4_1, rfl, HA, HK1, HO_3, HB⟩ := hrel
    cases gk with
    | zero => exact absurd HA.out (by simp [laws_toStringS.l0])
    | succ k1 =>
     have H := HA.out
     clear HA
     simp only [laws_toStringS.l0] at H
     by_cases c6 : x4_1 < (l0.length : Int)
     ·
      rw [if_pos c6] at H
      have c6b0 : decide (x4_1 < (l0.length : Int)) = true := decide_eq_true c6
      clear c6
      by_cases c7 : 0 ≤ x4_1
      ·
       rw [if_pos c7] at H
       have c7b0 : decide (0 ≤ x4_1) = true := decide_eq_true c7
       clear c7
       by_cases c8 : x4_1 < (x3_1.length : Int)
       ·
        rw [if_pos c8] at H
        have c8b0 : decide (x4_1 < (x3_1.length : Int)) = true := decide_eq_true c8
        clear c8
        obtain ⟨y144, hy144⟩ : ∃ y_ : List ByteArray, y_ = (x3_1.set (x4_1 : Int).toNat (rdOf ByteArray.empty l0 x4_1)) := ⟨_, rfl⟩
        replace H : (laws_toStringS.l0 k1 l0 y144 (wrap64 (x4_1 + 1))) = some r := by first | (rw [hy144]; with_reducible exact H) | (have H2_ := (Option.bind_some _ _).symm.trans H; rw [hy144]; with_reducible exact H2_) | (have H2_ := (Option.bind_some _ _).symm.trans H; with_reducible exact H2_) | with_reducible exact H | (rw [hy144]; exact H) | exact H
        have Ny144 := Aside0.mk hy144
        clear hy144
        have H' := Aside0.mk H
        clear H
        have p143 : 0 ≤ (x4_1 : Int) := of_decide_eq_true au88
        have q143 : x4_1 < (l0.length : Int) := of_decide_eq_true au88
        obtain ⟨ad143, e143, hx143_0⟩ := Kd.at_string HR0.out x4_1 p143 q143
        cases e143
        replace hx143_0 := (HB.out.cell (World.block_lt_of_cell? w _ hx143_0)).trans hx143_0
        replace p143 := eq_true p143
        replace q143 := eq_true q143
        have p9 : 0 ≤ (x4_1 : Int) := of_decide_eq_true au88
        have q9 : (x4_1 : Int) < ((x3_1.length : Int) : Int) := of_decide_eq_true au88
        obtain ⟨go9, co9, eo9, gb9, gl9, cl9, HG9⟩ := Kd.R_form HO_3.out (by omega)
        (first | cases eo9 | (injection eo9 with ea_ en_ ec_; (first | subst ea_ | (injection ea_ with ea_; subst ea_)); subst ec_; clear en_))
        have GB9 := Aside0.mk gb9
        have GG9 := Aside0.mk HG9
        clear gb9 gl9 HG9
        obtain ⟨hx9_0, hf9_0⟩ := Kd.R_celln (⟨#[]⟩ : ByteArray) HO_3.out (x4_1 : Int) p9 q9
        replace p9 := eq_true p9
        replace q9 := eq_true q9
        have HP10 := Kd.R_putg HO_3.out (x4_1 : Int) (rdOf ByteArray.empty l0 x4_1)
        go_wp2_with (first | ((with_reducible refine gate_store (t := 9) (p := 20) rfl ?_); refine store_event (t := 9) (p := 20) (v := ?vo_w11) (w1 := (wr.setCell ⟨go9, (x4_1 : Int).toNat, none⟩ (.string (rdOf ByteArray.empty l0 x4_1)))) ?hg ?ho ?hn ?hr ?_; (case ho => rfl); (case hg => rfl); (case hn => rfl); (case hr => first | (go_simp; done) | (go_simp; rfl)); intro w11 hw; have hg : wr.grownBy w11 (some go9) := (by rw [hw]; exact HP10.2); have hp_ : Kd.R Kd.string 9 w11 w.heap.size (fun _ => True) (.slice (some ⟨go9, 0, none⟩) x3_1.length co9) y144 := (by rw [hw, Ny144.out]; exact HP10.1); clear HP10; have n0_ := Aside0.mk (hp_); have n1_ := Aside0.mk ((by rw [hw]; exact below_set (HB.out) GB9.out : Below w.heap.size w w11)); clear HO_3; clear HB; have HO_3 := n0_; have HB := n1_; clear n0_ n1_; clear hg hw hp_))
        go_roundg k1
        case measure => have := HK1.out; omega
        case rel => exact ⟨(y144), (wrap64 (x4_1 + 1)), au89, H', ⟨by have := HK1.out; omega⟩, ⟨by (with_reducible repeat (first | apply Kd.R_alloc | apply Kd.R_drewN | apply Kd.R_drew)); exact HO_3.out⟩, ⟨by repeat (first | (with_reducible first | exact HB.out | apply below_alloc | apply pw_below_drewN | apply below_drew1) | exact HB.out)⟩⟩
       ·
        rw [if_neg c8] at H
        exact absurd H (by simp)
      ·
       rw [if_neg c7] at H
       exact absurd H (by simp)
     ·
      rw [if_neg c6] at H
      have c6b0 : decide (x4_1 < (l0.length : Int)) = false := decide_eq_false c6
      clear c6
      obtain rfl := Option.some.inj H
      go_wp2
      go_ret
      exact ⟨_, by first | rfl | (simp [errW_none, errW_some] <;> rfl) | (simp [*, errW_none, errW_some] <;> rfl), by (with_reducible repeat (first | apply Kd.R_alloc | apply Kd.R_drewN | apply Kd.R_drew)); exact HO_3.out, by repeat (first | (with_reducible first | exact HB.out | apply below_alloc | apply pw_below_drewN | apply below_drew1) | exact HB.out)⟩
  ·
   rw [if_neg c3] at H
   exact absurd H (by simp)
 ·
  rw [if_neg c2] at H
  exact absurd H (by simp)

end Go.Proofs.YtcckamdpncbkoaaDoor.G

namespace Go.Proofs.YtcckamdpncbkoaaDoor.G
open Go.RowKit Go.Proofs.YtcckamdpncbkoaaDoorW.PrintWords Go.Proofs.YtcckamdpncbkoaaDoorW.PrintLast Go.Proofs.YtcckamdpncbkoaaDoor.B
set_option linter.unusedVariables false
set_option linter.unusedSimpArgs false
def bytesS (l : List ByteArray) : Nat := (l.map (·.size)).sum
def bulkS (l : List ByteArray) : Nat := l.length + bytesS l
theorem bytesS_cons (a : ByteArray) (l : List ByteArray) : bytesS (a :: l) = a.size + bytesS l := by simp [bytesS]
end Go.Proofs.YtcckamdpncbkoaaDoor.G

namespace Go.Proofs.YtcckamdpncbkoaaDoor.G
open Go.RowKit Go.Proofs.YtcckamdpncbkoaaDoorW.PrintWords Go.Proofs.YtcckamdpncbkoaaDoorW.PrintLast Go.Proofs.YtcckamdpncbkoaaDoorW.PrintMore
open Go.Proofs.YtcckamdpncbkoaaDoor.Gl Go.Proofs.YtcckamdpncbkoaaDoor.Ext
attribute [local go_sem] max2_int min2_int max_two min_two max_three min_three max_four min_four   -- for this text's walks alone
set_option linter.unusedVariables false
set_option linter.unusedSimpArgs false

/-! ### spec_IsValidName: function 13 -/
def spec_IsValidName.f (k : Nat) (l0_0 : List ByteArray) (a0_1 : ByteArray) (a0_2 : ByteArray) (a0_3 : ByteArray) : Option (Bool) := (spec_l2Good.f k l0_0 a0_1 a0_2 a0_3).bind fun t139 => (some t139)
theorem spec_IsValidName.mono : ∀ a0 a1 a2 a3 k, LeO (spec_IsValidName.f k a0 a1 a2 a3) (spec_IsValidName.f (k + 1) a0 a1 a2 a3) := by
 intro a0 a1 a2 a3 k
 unfold spec_IsValidName.f
 repeat' first
   | (with_reducible exact spec_l2Good.mono _ _ _ _ _)
   | (with_reducible exact LeO.refl _)
   | (with_reducible exact LeO.none _)
   | (with_reducible refine LeO.ite ?_ ?_)
   | (with_reducible refine LeO.bind ?_ (fun _ => ?_))
   | exact spec_l2Good.mono _ _ _ _ _
   | exact LeO.none _
   | refine LeO.ite ?_ ?_
   | refine LeO.bind ?_ (fun _ => ?_)
set_option maxHeartbeats 8000000 in
set_option maxRecDepth 100000 in
theorem spec_IsValidName.calls (k : Nat) (A0_0 : Option Addr) (c0_0 : Nat) (l0_0 : List ByteArray) (a0_1 : ByteArray) (a0_2 : ByteArray) (a0_3 : ByteArray) (r : Bool) (w : World) (hr0_0 : Kd.C Kd.string w A0_0 l0_0.length l0_0) (hc0_0 : l0_0.length ≤ c0_0) (h : spec_IsValidName.f k l0_0 a0_1 a0_2 a0_3 = some r) :
  Calls Tryd.prog 13 #[.agg #[.slice A0_0 l0_0.length c0_0, .string a0_1, .string a0_2, .string a0_3]] w fun e w' => e = .returned (.bool r) ∧ Below w.heap.size w w' := by
 have hu27 := Tryd.underlying27
 have HR0_0 := Aside0.mk hr0_0
 have HC0_0 := Aside0.mk hc0_0
 clear hr0_0 hc0_0
 have HB := Aside0.mk (Below.refl w.heap.size w)
 have H : ((spec_l2Good.f k l0_0 a0_1 a0_2 a0_3).bind fun t139 => (some t139)) = some r := h
 clear h
 replace H := Option.bind_eq_some_iff.mp H
 obtain ⟨t139, A20, H⟩ := H
 try dsimp only at H
 have A2 := Aside0.mk A20
 clear A20
 obtain rfl := Option.some.inj H
 go_enter Tryd.func13, Tryd.ntmps13
 go_wp2_with (first | ((with_reducible refine gate_dst (N := 1) rfl ?_); refine box_event ?hg (N := 1) ?hd (cs := #[.slice A0_0 l0_0.length c0_0, .string a0_1, .string a0_2, .string a0_3]) (t := 27) ?hr ?_; (case hd => rfl); (case hg => rfl); (case hr => first | (go_simp; done) | (go_simp; rfl)); intro gb138 hg w3 hbox hb; have n0_ := Aside0.mk (below_step au41 hb); have n1_ := Aside0.mk (hbox); have n2_ := Aside0.mk ((by rw [hg]; exact (below_size au41) : w.heap.size ≤ gb138)); have n3_ := Aside0.mk ((by rw [hg]; exact (below_size au41) : w.heap.size ≤ gb138)); clear HB; have HB := n0_; have BK138 := n1_; have GW138 := n2_; have GE138 := n3_; clear n0_ n1_ n2_ n3_; clear hb hbox hg; have hcz4_0 : w3.cell? ⟨gb138, 0, none⟩ = some (.slice A0_0 l0_0.length c0_0) := (blk_cell BK138.out 0).trans rfl; have hcz4_1 : w3.cell? ⟨gb138, 1, none⟩ = some (.string a0_1) := (blk_cell BK138.out 1).trans rfl; have hcz4_2 : w3.cell? ⟨gb138, 2, none⟩ = some (.string a0_2) := (blk_cell BK138.out 2).trans rfl; have hcz4_3 : w3.cell? ⟨gb138, 3, none⟩ = some (.string a0_3) := (blk_cell BK138.out 3).trans rfl; have hfz4_0 := blk_frozen BK138.out 0; have hfz4_1 := blk_frozen BK138.out 1; have hfz4_2 := blk_frozen BK138.out 2; have hfz4_3 := blk_frozen BK138.out 3) | ((with_reducible refine gate_callee (f := 39) rfl ?_); refine goesL_ (some 4) rfl rfl Tryd.func39 (by kernel_rfl) rfl #[.agg #[.slice A0_0 l0_0.length c0_0, .string a0_1, .string a0_2, .string a0_3]] rfl au38 ?_; (with_reducible refine (spec_l2Good.calls k _ _ l0_0 a0_1 a0_2 a0_3 t139 _ ?side1 ?side2 A2.out).mono ?_); (case side1 => repeat (first | exact (Kd.C_below HR0_0.out HB.out) | (with_reducible refine Kd.C_alloc ?_ _) | (with_reducible refine Kd.C_drewN ?_ _) | (with_reducible refine Kd.C_drew ?_))); (case side2 => exact HC0_0.out); rintro e w5 ⟨rfl, hb⟩; refine ⟨_, rfl, ?_⟩; have n0_ := Aside0.mk (blk_below (g := gb138) (o := .cells #[.slice A0_0 l0_0.length c0_0, .string a0_1, .string a0_2, .string a0_3] 27 (0, 0)) (by (with_reducible repeat (first | refine blk_drewN ?_ _ | refine blk_drew ?_ | refine blk_alloc ?_ _)); exact BK138.out) hb); have n1_ := Aside0.mk (below_step (by repeat (first | (with_reducible first | exact HB.out | apply below_alloc | apply pw_below_drewN | apply below_drew1 | refine below_set ?_ GE138.out) | exact HB.out)) hb); clear BK138; clear HB; have BK138 := n0_; have HB := n1_; clear n0_ n1_; (try clear hb); (try clear hb2); (try clear hk); (try clear hi)))
 go_ret
 exact ⟨by first | rfl | (simp [errW_none, errW_some] <;> rfl) | (simp [*, errW_none, errW_some] <;> rfl), by repeat (first | (with_reducible first | exact HB.out | apply below_alloc | apply pw_below_drewN | apply below_drew1 | refine below_set ?_ GE138.out) | exact HB.out)⟩


/-! ### laws_szName: function 12 -/
def laws_szName.f (k : Nat) (l0_0 : List ByteArray) (a0_1 : ByteArray) (a0_2 : ByteArray) (a0_3 : ByteArray) (a1 : Int) : Option (Int) := (laws_szStringS.f k l0_0 a1).bind fun t103 => (if t103 < 0 then (some (-1)) else (if (wrap64 (t103 - (a0_1.size : Int))) < 0 then (some (-1)) else (if (wrap64 ((wrap64 (t103 - (a0_1.size : Int))) - (a0_2.size : Int))) < 0 then (some (-1)) else (if (wrap64 ((wrap64 ((wrap64 (t103 - (a0_1.size : Int))) - (a0_2.size : Int))) - (a0_3.size : Int))) < 0 then (some (-1)) else (some (wrap64 ((wrap64 ((wrap64 (t103 - (a0_1.size : Int))) - (a0_2.size : Int))) - (a0_3.size : Int))))))))
theorem laws_szName.mono : ∀ a0 a1 a2 a3 a4 k, LeO (laws_szName.f k a0 a1 a2 a3 a4) (laws_szName.f (k + 1) a0 a1 a2 a3 a4) := by
 intro a0 a1 a2 a3 a4 k
 unfold laws_szName.f
 repeat' first
   | (with_reducible exact laws_szStringS.mono _ _ _)
   | (with_reducible exact LeO.refl _)
   | (with_reducible exact LeO.none _)
   | (with_reducible refine LeO.ite ?_ ?_)
   | (with_reducible refine LeO.bind ?_ (fun _ => ?_))
   | exact laws_szStringS.mono _ _ _
   | exact LeO.none _
   | refine LeO.ite ?_ ?_
   | refine LeO.bind ?_ (fun _ => ?_)
set_option maxRecDepth 100000 in
theorem laws_szName.L0 {P : Prop} (h : P := by
  go_enter Tryd.func12, Tryd.ntmps12
  go_wp2_with (first | ((with_reducible refine gate_dst (N := 2) rfl ?_); refine box_event ?hg (N := 2) ?hd (cs := #[.slice A0_0 l0_0.length c0_0, .string a0_1, .string a0_2, .string a0_3]) (t := 24) ?hr ?_; (case hd => rfl); (case hg => rfl); (case hr => first | (go_simp; done) | (go_simp; rfl)); intro gb102 hg w11 hbox hb; have n0_ := Aside0.mk (below_step au41 hb); have n1_ := Aside0.mk (hbox); have n2_ := Aside0.mk ((by rw [hg]; exact (below_size au41) : w.heap.size ≤ gb102)); have n3_ := Aside0.mk ((by rw [hg]; exact (below_size au41) : w.heap.size ≤ gb102)); clear HB; have HB := n0_; have BK102 := n1_; have GW102 := n2_; have GE102 := n3_; clear n0_ n1_ n2_ n3_; clear hb hbox hg; have hcz12_0 : w11.cell? ⟨gb102, 0, none⟩ = some (.slice A0_0 l0_0.length c0_0) := (blk_cell BK102.out 0).trans rfl; have hcz12_1 : w11.cell? ⟨gb102, 1, none⟩ = some (.string a0_1) := (blk_cell BK102.out 1).trans rfl; have hcz12_2 : w11.cell? ⟨gb102, 2, none⟩ = some (.string a0_2) := (blk_cell BK102.out 2).trans rfl; have hcz12_3 : w11.cell? ⟨gb102, 3, none⟩ = some (.string a0_3) := (blk_cell BK102.out 3).trans rfl; have hfz12_0 := blk_frozen BK102.out 0; have hfz12_1 := blk_frozen BK102.out 1; have hfz12_2 := blk_frozen BK102.out 2; have hfz12_3 := blk_frozen BK102.out 3) | ((with_reducible refine gate_callee (f := 38) rfl ?_); refine goesL_ (some 8) rfl rfl Tryd.func38 (by kernel_rfl) rfl #[.slice A0_0 l0_0.length c0_0, .int .i64 a1] rfl au38 ?_; (with_reducible refine (laws_szStringS.calls k _ _ l0_0 a1 t103 _ ?side1 ?side2 A3.out).mono ?_); (case side1 => repeat (first | exact (Kd.C_below HR0_0.out HB.out) | (with_reducible refine Kd.C_alloc ?_ _) | (with_reducible refine Kd.C_drewN ?_ _) | (with_reducible refine Kd.C_drew ?_))); (case side2 => exact HC0_0.out); rintro e w' ⟨rfl, ⟨nd, rfl⟩⟩; refine ⟨_, rfl, ?_⟩))
  go_ret
  exact ⟨by first | rfl | (simp [errW_none, errW_some] <;> rfl) | (simp [*, errW_none, errW_some] <;> rfl), by repeat (first | (with_reducible first | exact HB.out | apply below_alloc | apply pw_below_drewN | apply below_drew1 | refine below_set ?_ GE102.out) | exact HB.out)⟩) : P := h
set_option maxHeartbeats 8000000 in
set_option maxRecDepth 100000 in
theorem laws_szName.calls (k : Nat) (A0_0 : Option Addr) (c0_0 : Nat) (l0_0 : List ByteArray) (a0_1 : ByteArray) (a0_2 : ByteArray) (a0_3 : ByteArray) (a1 : Int) (r : Int) (w : World) (hr0_0 : Kd.C Kd.string w A0_0 l0_0.length l0_0) (hc0_0 : l0_0.length ≤ c0_0) (h : laws_szName.f k l0_0 a0_1 a0_2 a0_3 a1 = some r) :
  Calls Tryd.prog 12 #[.agg #[.slice A0_0 l0_0.length c0_0, .string a0_1, .string a0_2, .string a0_3], .int .i64 a1] w fun e w' => e = .returned (.int .i64 r) ∧ Below w.heap.size w w' := by
 have hu24 := Tryd.underlying24
 have HR0_0 := Aside0.mk hr0_0
 have HC0_0 := Aside0.mk hc0_0
 clear hr0_0 hc0_0
 have HB := Aside0.mk (Below.refl w.heap.size w)
 have H : ((laws_szStringS.f k l0_0 a1).bind fun t103 => (if t103 < 0 then (some (-1)) else (if (wrap64 (t103 - (a0_1.size : Int))) < 0 then (some (-1)) else (if (wrap64 ((wrap64 (t103 - (a0_1.size : Int))) - (a0_2.size : Int))) < 0 then (some (-1)) else (if (wrap64 ((wrap64 ((wrap64 (t103 - (a0_1.size : Int))) - (a0_2.size : Int))) - (a0_3.size : Int))) < 0 then (some (-1)) else (some (wrap64 ((wrap64 ((wrap64 (t103 - (a0_1.size : Int))) - (a0_2.size : Int))) - (a0_3.size : Int))))))))) = some r := h
 clear h
 replace H := Option.bind_eq_some_iff.mp H
 obtain ⟨t103, A30, H⟩ := H
 try dsimp only at H
 have A3 := Aside0.mk A30
 clear A30
 by_cases c4 : t103 < 0
 ·
  rw [if_pos c4] at H
  have c4b0 : decide (t103 < 0) = true := decide_eq_true c4
  clear c4
  obtain rfl := Option.some.inj H
  exact laws_szName.L0
 ·
  rw [if_neg c4] at H
  have c4b0 : decide (t103 < 0) = false := decide_eq_false c4
  clear c4
  by_cases c7 : (wrap64 (t103 - (a0_1.size : Int))) < 0
  ·
   rw [if_pos c7] at H
   have c7b0 : decide ((wrap64 (t103 - (a0_1.size : Int))) < 0) = true := decide_eq_true c7
   clear c7
   obtain rfl := Option.some.inj H
   exact laws_szName.L0
  ·
   rw [if_neg c7] at H
   have c7b0 : decide ((wrap64 (t103 - (a0_1.size : Int))) < 0) = false := decide_eq_false c7
   clear c7
   by_cases c10 : (wrap64 ((wrap64 (t103 - (a0_1.size : Int))) - (a0_2.size : Int))) < 0
   ·
    rw [if_pos c10] at H
    have c10b0 : decide ((wrap64 ((wrap64 (t103 - (a0_1.size : Int))) - (a0_2.size : Int))) < 0) = true := decide_eq_true c10
    clear c10
    obtain rfl := Option.some.inj H
    exact laws_szName.L0
   ·
    rw [if_neg c10] at H
    have c10b0 : decide ((wrap64 ((wrap64 (t103 - (a0_1.size : Int))) - (a0_2.size : Int))) < 0) = false := decide_eq_false c10
    clear c10
    by_cases c13 : (wrap64 ((wrap64 ((wrap64 (t103 - (a0_1.size : Int))) - (a0_2.size : Int))) - (a0_3.size : Int))) < 0
    ·
     rw [if_pos c13] at H
     have c13b0 : decide ((wrap64 ((wrap64 ((wrap64 (t103 - (a0_1.size : Int))) - (a0_2.size : Int))) - (a0_3.size : Int))) < 0) = true := decide_eq_true c13
     clear c13
     obtain rfl := Option.some.inj H
     exact laws_szName.L0
    ·
     rw [if_neg c13] at H
     have c13b0 : decide ((wrap64 ((wrap64 ((wrap64 (t103 - (a0_1.size : Int))) - (a0_2.size : Int))) - (a0_3.size : Int))) < 0) = false := decide_eq_false c13
     clear c13
     obtain rfl := Option.some.inj H
     exact laws_szName.L0


/-! ### laws_toName: function 14 -/
def laws_toName.f (k : Nat) (l0_0 : List ByteArray) (a0_1 : ByteArray) (a0_2 : ByteArray) (a0_3 : ByteArray) : Option (List ByteArray × ByteArray × ByteArray × ByteArray) := (laws_toStringS.f k l0_0).bind fun t148 => (some (t148, a0_1, a0_2, a0_3))
theorem laws_toName.mono : ∀ a0 a1 a2 a3 k, LeO (laws_toName.f k a0 a1 a2 a3) (laws_toName.f (k + 1) a0 a1 a2 a3) := by
 intro a0 a1 a2 a3 k
 unfold laws_toName.f
 repeat' first
   | (with_reducible exact laws_toStringS.mono _ _)
   | (with_reducible exact LeO.refl _)
   | (with_reducible exact LeO.none _)
   | (with_reducible refine LeO.ite ?_ ?_)
   | (with_reducible refine LeO.bind ?_ (fun _ => ?_))
   | exact laws_toStringS.mono _ _
   | exact LeO.none _
   | refine LeO.ite ?_ ?_
   | refine LeO.bind ?_ (fun _ => ?_)
set_option maxHeartbeats 8000000 in
set_option maxRecDepth 100000 in
theorem laws_toName.calls (k : Nat) (A0_0 : Option Addr) (c0_0 : Nat) (l0_0 : List ByteArray) (a0_1 : ByteArray) (a0_2 : ByteArray) (a0_3 : ByteArray) (r1 : List ByteArray) (r2 : ByteArray) (r3 : ByteArray) (r4 : ByteArray) (w : World) (hr0_0 : Kd.C Kd.string w A0_0 l0_0.length l0_0) (hc0_0 : l0_0.length ≤ c0_0) (h : laws_toName.f k l0_0 a0_1 a0_2 a0_3 = some (r1, r2, r3, r4)) :
  Calls Tryd.prog 14 #[.agg #[.slice A0_0 l0_0.length c0_0, .string a0_1, .string a0_2, .string a0_3]] w fun e w' => ∃ v0_ : Value, e = .returned (.agg #[v0_, .string r2, .string r3, .string r4]) ∧ Kd.R Kd.string 9 w' w.heap.size (fun _ => True) v0_ r1 ∧ Below w.heap.size w w' := by
 have hu24 := Tryd.underlying24
 have hu27 := Tryd.underlying27
 have HR0_0 := Aside0.mk hr0_0
 have HC0_0 := Aside0.mk hc0_0
 clear hr0_0 hc0_0
 have HB := Aside0.mk (Below.refl w.heap.size w)
 have H : ((laws_toStringS.f k l0_0).bind fun t148 => (some (t148, a0_1, a0_2, a0_3))) = some (r1, r2, r3, r4) := h
 clear h
 replace H := Option.bind_eq_some_iff.mp H
 obtain ⟨t148, A20, H⟩ := H
 try dsimp only at H
 have A2 := Aside0.mk A20
 clear A20
 simp only [Option.some.injEq, Prod.mk.injEq] at H
 obtain ⟨rfl, rfl, rfl, rfl⟩ := H
 go_enter Tryd.func14, Tryd.ntmps14
 go_wp2_with (first | ((with_reducible refine gate_dst (N := 1) rfl ?_); refine box_event ?hg (N := 1) ?hd (cs := #[.slice A0_0 l0_0.length c0_0, .string a0_1, .string a0_2, .string a0_3]) (t := 24) ?hr ?_; (case hd => rfl); (case hg => rfl); (case hr => first | (go_simp; done) | (go_simp; rfl)); intro gb145 hg w3 hbox hb; have n0_ := Aside0.mk (below_step au41 hb); have n1_ := Aside0.mk (hbox); have n2_ := Aside0.mk ((by rw [hg]; exact (below_size au41) : w.heap.size ≤ gb145)); have n3_ := Aside0.mk ((by rw [hg]; exact (below_size au41) : w.heap.size ≤ gb145)); clear HB; have HB := n0_; have BK145 := n1_; have GW145 := n2_; have GE145 := n3_; clear n0_ n1_ n2_ n3_; clear hb hbox hg) | ((with_reducible refine gate_dst (N := 2) rfl ?_); refine box_event ?hg (N := 2) ?hd (cs := #[.slice none 0 0, .string (⟨#[]⟩ : ByteArray), .string (⟨#[]⟩ : ByteArray), .string (⟨#[]⟩ : ByteArray)]) (t := 27) ?hr ?_; (case hd => rfl); (case hg => rfl); (case hr => first | (go_simp; done) | (go_simp; rfl)); intro gb146 hg w4 hbox hb; have n0_ := Aside0.mk (blk_below (g := gb145) (o := .cells #[.slice A0_0 l0_0.length c0_0, .string a0_1, .string a0_2, .string a0_3] 24 (0, 0)) au71 hb); have n1_ := Aside0.mk (below_step au33 hb); have n2_ := Aside0.mk (hbox); have n3_ := Aside0.mk ((by rw [hg]; exact (below_size au33) : w.heap.size ≤ gb146)); have n4_ := Aside0.mk ((by rw [hg]; exact (below_size au33) : w.heap.size ≤ gb146)); have n5_ := Aside0.mk ((by rw [hg]; exact Nat.ne_of_lt (blk_lt (g := gb145) (o := .cells #[.slice A0_0 l0_0.length c0_0, .string a0_1, .string a0_2, .string a0_3] 24 (0, 0)) au71) : gb145 ≠ gb146)); have n6_ := Aside0.mk ((by rw [hg]; exact Nat.ne_of_gt (blk_lt (g := gb145) (o := .cells #[.slice A0_0 l0_0.length c0_0, .string a0_1, .string a0_2, .string a0_3] 24 (0, 0)) au71) : gb146 ≠ gb145)); clear BK145; clear HB; have BK145 := n0_; have HB := n1_; have BK146 := n2_; have GW146 := n3_; have GE146 := n4_; have NB145_146 := n5_; have NB146_145 := n6_; clear n0_ n1_ n2_ n3_ n4_ n5_ n6_; clear hb hbox hg) | ((with_reducible refine gate_dst (N := 3) rfl ?_); refine box_event ?hg (N := 3) ?hd (cs := #[.slice none 0 0, .string (⟨#[]⟩ : ByteArray), .string (⟨#[]⟩ : ByteArray), .string (⟨#[]⟩ : ByteArray)]) (t := 27) ?hr ?_; (case hd => rfl); (case hg => rfl); (case hr => first | (go_simp; done) | (go_simp; rfl)); intro gb147 hg w5 hbox hb; have n0_ := Aside0.mk (blk_below (g := gb145) (o := .cells #[.slice A0_0 l0_0.length c0_0, .string a0_1, .string a0_2, .string a0_3] 24 (0, 0)) au71 hb); have n1_ := Aside0.mk (blk_below (g := gb146) (o := .cells #[.slice none 0 0, .string (⟨#[]⟩ : ByteArray), .string (⟨#[]⟩ : ByteArray), .string (⟨#[]⟩ : ByteArray)] 27 (0, 0)) au72 hb); have n2_ := Aside0.mk (below_step au18 hb); have n3_ := Aside0.mk (hbox); have n4_ := Aside0.mk ((by rw [hg]; exact (below_size au18) : w.heap.size ≤ gb147)); have n5_ := Aside0.mk ((by rw [hg]; exact (below_size au18) : w.heap.size ≤ gb147)); have n6_ := Aside0.mk ((by rw [hg]; exact Nat.ne_of_lt (blk_lt (g := gb145) (o := .cells #[.slice A0_0 l0_0.length c0_0, .string a0_1, .string a0_2, .string a0_3] 24 (0, 0)) au71) : gb145 ≠ gb147)); have n7_ := Aside0.mk ((by rw [hg]; exact Nat.ne_of_gt (blk_lt (g := gb145) (o := .cells #[.slice A0_0 l0_0.length c0_0, .string a0_1, .string a0_2, .string a0_3] 24 (0, 0)) au71) : gb147 ≠ gb145)); have n8_ := Aside0.mk ((by rw [hg]; exact Nat.ne_of_lt (blk_lt (g := gb146) (o := .cells #[.slice none 0 0, .string (⟨#[]⟩ : ByteArray), .string (⟨#[]⟩ : ByteArray), .string (⟨#[]⟩ : ByteArray)] 27 (0, 0)) au72) : gb146 ≠ gb147)); have n9_ := Aside0.mk ((by rw [hg]; exact Nat.ne_of_gt (blk_lt (g := gb146) (o := .cells #[.slice none 0 0, .string (⟨#[]⟩ : ByteArray), .string (⟨#[]⟩ : ByteArray), .string (⟨#[]⟩ : ByteArray)] 27 (0, 0)) au72) : gb147 ≠ gb146)); clear BK145; clear BK146; clear HB; have BK145 := n0_; have BK146 := n1_; have HB := n2_; have BK147 := n3_; have GW147 := n4_; have GE147 := n5_; have NB145_147 := n6_; have NB147_145 := n7_; have NB146_147 := n8_; have NB147_146 := n9_; clear n0_ n1_ n2_ n3_ n4_ n5_ n6_ n7_ n8_ n9_; clear hb hbox hg; have hnb6 := NB145_146.out; have hnc6 := NB146_145.out; have hnb7 := NB145_147.out; have hnc7 := NB147_145.out; have hcz8_0 : w5.cell? ⟨gb145, 0, none⟩ = some (.slice A0_0 l0_0.length c0_0) := (blk_cell BK145.out 0).trans rfl; have hcz8_1 : w5.cell? ⟨gb145, 1, none⟩ = some (.string a0_1) := (blk_cell BK145.out 1).trans rfl; have hcz8_2 : w5.cell? ⟨gb145, 2, none⟩ = some (.string a0_2) := (blk_cell BK145.out 2).trans rfl; have hcz8_3 : w5.cell? ⟨gb145, 3, none⟩ = some (.string a0_3) := (blk_cell BK145.out 3).trans rfl; have hfz8_0 := blk_frozen BK145.out 0; have hfz8_1 := blk_frozen BK145.out 1; have hfz8_2 := blk_frozen BK145.out 2; have hfz8_3 := blk_frozen BK145.out 3) | ((with_reducible refine gate_callee (f := 40) rfl ?_); refine goesL_ (some 6) rfl rfl Tryd.func40 (by kernel_rfl) rfl #[.slice A0_0 l0_0.length c0_0] rfl au38 ?_; (with_reducible refine (laws_toStringS.calls k _ _ l0_0 t148 _ ?side1 ?side2 A2.out).mono ?_); (case side1 => repeat (first | exact (Kd.C_below HR0_0.out HB.out) | (with_reducible refine Kd.C_alloc ?_ _) | (with_reducible refine Kd.C_drewN ?_ _) | (with_reducible refine Kd.C_drew ?_))); (case side2 => exact HC0_0.out); rintro e w9 ⟨v149, rfl, ho0, hb⟩; refine ⟨_, rfl, ?_⟩; have n0_ := Aside0.mk (Kd.R_lower ho0 (below_size au13)); have n1_ := Aside0.mk (blk_below (g := gb145) (o := .cells #[.slice A0_0 l0_0.length c0_0, .string a0_1, .string a0_2, .string a0_3] 24 (0, 0)) au71 hb); have n2_ := Aside0.mk (blk_below (g := gb146) (o := .cells #[.slice none 0 0, .string (⟨#[]⟩ : ByteArray), .string (⟨#[]⟩ : ByteArray), .string (⟨#[]⟩ : ByteArray)] 27 (0, 0)) au72 hb); have n3_ := Aside0.mk (blk_below (g := gb147) (o := .cells #[.slice none 0 0, .string (⟨#[]⟩ : ByteArray), .string (⟨#[]⟩ : ByteArray), .string (⟨#[]⟩ : ByteArray)] 27 (0, 0)) (by (with_reducible repeat (first | refine blk_drewN ?_ _ | refine blk_drew ?_ | refine blk_alloc ?_ _)); exact BK147.out) hb); have n4_ := Aside0.mk (below_step au13 hb); clear BK145; clear BK146; clear BK147; clear HB; have HO150 := n0_; have BK145 := n1_; have BK146 := n2_; have BK147 := n3_; have HB := n4_; clear n0_ n1_ n2_ n3_ n4_; (try clear hb); (try clear hb2); (try clear hk); (try clear hi); (try clear ho0); obtain ⟨Ao10, co10, eo10⟩ := Kd.R_slice HO150.out; subst eo10; have hnb11 := NB147_146.out; have hnc11 := NB146_147.out; have hcz12_0 : w9.cell? ⟨gb147, 0, none⟩ = some (.slice none 0 0) := (blk_cell BK147.out 0).trans rfl; have hcz12_1 : w9.cell? ⟨gb147, 1, none⟩ = some (.string (⟨#[]⟩ : ByteArray)) := (blk_cell BK147.out 1).trans rfl; have hcz12_2 : w9.cell? ⟨gb147, 2, none⟩ = some (.string (⟨#[]⟩ : ByteArray)) := (blk_cell BK147.out 2).trans rfl; have hcz12_3 : w9.cell? ⟨gb147, 3, none⟩ = some (.string (⟨#[]⟩ : ByteArray)) := (blk_cell BK147.out 3).trans rfl; have hfz12_0 := blk_frozen BK147.out 0; have hfz12_1 := blk_frozen BK147.out 1; have hfz12_2 := blk_frozen BK147.out 2; have hfz12_3 := blk_frozen BK147.out 3; have hcz13_0 : w9.cell? ⟨gb145, 0, none⟩ = some (.slice A0_0 l0_0.length c0_0) := (blk_cell BK145.out 0).trans rfl; have hcz13_1 : w9.cell? ⟨gb145, 1, none⟩ = some (.string a0_1) := (blk_cell BK145.out 1).trans rfl; have hcz13_2 : w9.cell? ⟨gb145, 2, none⟩ = some (.string a0_2) := (blk_cell BK145.out 2).trans rfl; have hcz13_3 : w9.cell? ⟨gb145, 3, none⟩ = some (.string a0_3) := (blk_cell BK145.out 3).trans rfl; have hfz13_0 := blk_frozen BK145.out 0; have hfz13_1 := blk_frozen BK145.out 1; have hfz13_2 := blk_frozen BK145.out 2; have hfz13_3 := blk_frozen BK145.out 3; have hcz14_0 : w9.cell? ⟨gb146, 0, none⟩ = some (.slice none 0 0) := (blk_cell BK146.out 0).trans rfl; have hcz14_1 : w9.cell? ⟨gb146, 1, none⟩ = some (.string (⟨#[]⟩ : ByteArray)) := (blk_cell BK146.out 1).trans rfl; have hcz14_2 : w9.cell? ⟨gb146, 2, none⟩ = some (.string (⟨#[]⟩ : ByteArray)) := (blk_cell BK146.out 2).trans rfl; have hcz14_3 : w9.cell? ⟨gb146, 3, none⟩ = some (.string (⟨#[]⟩ : ByteArray)) := (blk_cell BK146.out 3).trans rfl; have hfz14_0 := blk_frozen BK146.out 0; have hfz14_1 := blk_frozen BK146.out 1; have hfz14_2 := blk_frozen BK146.out 2; have hfz14_3 := blk_frozen BK146.out 3))
 refine bodyPost_ret (results_cell_row rfl _ _ gb146 27 #[.slice Ao10 t148.length co10, .string a0_1, .string a0_2, .string a0_3] (0, 0) _ rfl (by (with_reducible repeat (first | refine blk_drewN ?_ _ | refine blk_drew ?_ | refine blk_alloc ?_ _)); refine blk_put (cs := #[.slice Ao10 t148.length co10, .string a0_1, .string a0_2, .string (⟨#[]⟩ : ByteArray)]) ?_ 3 _ rfl; (with_reducible repeat (first | refine blk_drewN ?_ _ | refine blk_drew ?_ | refine blk_alloc ?_ _)); refine blk_put (cs := #[.slice Ao10 t148.length co10, .string a0_1, .string (⟨#[]⟩ : ByteArray), .string (⟨#[]⟩ : ByteArray)]) ?_ 2 _ rfl; (with_reducible repeat (first | refine blk_drewN ?_ _ | refine blk_drew ?_ | refine blk_alloc ?_ _)); refine blk_put (cs := #[.slice Ao10 t148.length co10, .string (⟨#[]⟩ : ByteArray), .string (⟨#[]⟩ : ByteArray), .string (⟨#[]⟩ : ByteArray)]) ?_ 1 _ rfl; (with_reducible repeat (first | refine blk_drewN ?_ _ | refine blk_drew ?_ | refine blk_alloc ?_ _)); refine blk_put (cs := #[.slice none 0 0, .string (⟨#[]⟩ : ByteArray), .string (⟨#[]⟩ : ByteArray), .string (⟨#[]⟩ : ByteArray)]) ?_ 0 _ rfl; (with_reducible repeat (first | refine blk_drewN ?_ _ | refine blk_drew ?_ | refine blk_alloc ?_ _)); refine blk_far ?_ NB146_147.out _; (with_reducible repeat (first | refine blk_drewN ?_ _ | refine blk_drew ?_ | refine blk_alloc ?_ _)); refine blk_far ?_ NB146_147.out _; (with_reducible repeat (first | refine blk_drewN ?_ _ | refine blk_drew ?_ | refine blk_alloc ?_ _)); refine blk_far ?_ NB146_147.out _; (with_reducible repeat (first | refine blk_drewN ?_ _ | refine blk_drew ?_ | refine blk_alloc ?_ _)); refine blk_far ?_ NB146_147.out _; (with_reducible repeat (first | refine blk_drewN ?_ _ | refine blk_drew ?_ | refine blk_alloc ?_ _)); exact BK146.out) Tryd.underlying27 rfl (by kernel_rfl)) rfl ?_
 exact ⟨_, by first | rfl | (simp [errW_none, errW_some] <;> rfl) | (simp [*, errW_none, errW_some] <;> rfl), by (with_reducible repeat (first | apply Kd.R_alloc | apply Kd.R_drewN | apply Kd.R_drew)); exact Kd.R_mono (Kd.R_far (p := ⟨gb146, 3, none⟩) (Kd.R_far (p := ⟨gb146, 2, none⟩) (Kd.R_far (p := ⟨gb146, 1, none⟩) (Kd.R_far (p := ⟨gb146, 0, none⟩) (Kd.R_far (p := ⟨gb147, 3, none⟩) (Kd.R_far (p := ⟨gb147, 2, none⟩) (Kd.R_far (p := ⟨gb147, 1, none⟩) (Kd.R_far (p := ⟨gb147, 0, none⟩) (Kd.R_types (Kd.R_types HO150.out BK147.out (by decide)) BK146.out (by decide)) (fun _ hk => hk.1.2) (.slice Ao10 t148.length co10)) (fun _ hk => hk.1.2) (.string a0_1)) (fun _ hk => hk.1.2) (.string a0_2)) (fun _ hk => hk.1.2) (.string a0_3)) (fun _ hk => hk.2) (.slice Ao10 t148.length co10)) (fun _ hk => hk.2) (.string a0_1)) (fun _ hk => hk.2) (.string a0_2)) (fun _ hk => hk.2) (.string a0_3)) (fun _ hk => trivial), by repeat (first | (with_reducible first | exact HB.out | apply below_alloc | apply pw_below_drewN | apply below_drew1 | refine below_set ?_ GE145.out | refine below_set ?_ GE146.out | refine below_set ?_ GE147.out) | exact HB.out)⟩

end Go.Proofs.YtcckamdpncbkoaaDoor.G
