/- Texts of this session for the law FnExactIsValidEntry, put together by a program (merge.py): each ends with its namespace; conditions stand with each theorem. -/
import Derived.Test.YtcckamdpncbkoabDoorKFnExactIsValidEntry2
import Derived.Test.YtcckamdpncbkoabDoorKFnExactIsValidEntry3
import Derived.Shelf.Strings.Builder1
import Derived.Shelf.Strings.Builder2
import Derived.Shelf.Strings.OnBuilder
import Derived.Shelf.Small.Utf8
import Derived.Shelf.Small.Strs
import Derived.Shelf.Strings.Search1
import Derived.Shelf.Strings.Search2
import Derived.Shelf.Strings.Search3
import Derived.Shelf.Strings.Count
import Derived.Shelf.LaysM
import Derived.Shelf.Strings.Shaped
import Derived.Shelf.Strings.Split
import Derived.Shelf.Strings.SplitShaped
import Derived.Shelf.Strings.Runes
import Derived.Shelf.Strings.AsciiSet
import Derived.Shelf.Unicode.DecodeSlow
import Derived.Ground.SlgfProg
import Derived.Shelf.SlicesE.IndexFunc
import Derived.Shelf.SlicesE.DeleteFunc
import Derived.Test.YtcckamdpncbkoabDoorProg
namespace Go.Proofs.YtcckamdpncbkoabDoor.G
open Go.RowKit Go.Proofs.YtcckamdpncbkoabDoorW.PrintWords Go.Proofs.YtcckamdpncbkoabDoorW.PrintLast Go.Proofs.YtcckamdpncbkoabDoorW.PrintMore
open Go.Proofs.YtcckamdpncbkoabDoor.Gl Go.Proofs.YtcckamdpncbkoabDoor.Ext
attribute [local go_sem] max2_int min2_int max_two min_two max_three min_three max_four min_four   -- for this text's walks alone
set_option linter.unusedVariables false
set_option linter.unusedSimpArgs false

/-! ### impl_isUpper: function 130 -/
def impl_isUpper.f (a0 : Int) : Option (Bool) := if a0 ≥ 65 then (some (decide (a0 ≤ 90))) else (some false)
set_option maxHeartbeats 8000000 in
set_option maxRecDepth 100000 in
theorem impl_isUpper.calls (a0 : Int) (r : Bool) (w : World) (h : impl_isUpper.f a0 = some r) :
    Calls Tryd.prog 130 #[.int .u8 a0] w fun e w' => e = .returned (.bool r) ∧ Drawn0 w w' := by
  have H : (if a0 ≥ 65 then (some (decide (a0 ≤ 90))) else (some false)) = some r := h
  clear h
  by_cases c2 : a0 ≥ 65
  · rw [if_pos c2] at H
    have c2b0 : decide (65 ≤ a0) = true := decide_eq_true c2
    clear c2
    obtain rfl := Option.some.inj H
    go_enter Tryd.func130, Tryd.ntmps130
    go_wp2
    go_ret
    exact ⟨by first | rfl | (simp; done) | (simp [*]; done), by repeat (first | exact Drawn0.refl _ | apply Drawn0.step)⟩
  · rw [if_neg c2] at H
    have c2b0 : decide (65 ≤ a0) = false := decide_eq_false c2
    clear c2
    obtain rfl := Option.some.inj H
    go_enter Tryd.func130, Tryd.ntmps130
    go_wp2
    go_ret
    exact ⟨by first | rfl | (simp; done) | (simp [*]; done), by repeat (first | exact Drawn0.refl _ | apply Drawn0.step)⟩


/-! ### impl_isLetter: function 132 -/
def impl_isLetter.f (a0 : Int) : Option (Bool) := (impl_isUpper.f a0).bind fun t199 => (if t199 = true then (some true) else ((impl_isLower.f a0).bind fun t200 => (some t200)))
set_option maxHeartbeats 8000000 in
set_option maxRecDepth 100000 in
theorem impl_isLetter.calls (a0 : Int) (r : Bool) (w : World) (h : impl_isLetter.f a0 = some r) :
    Calls Tryd.prog 132 #[.int .u8 a0] w fun e w' => e = .returned (.bool r) ∧ Drawn0 w w' := by
  have H : ((impl_isUpper.f a0).bind fun t199 => (if t199 = true then (some true) else ((impl_isLower.f a0).bind fun t200 => (some t200)))) = some r := h
  clear h
  replace H := Option.bind_eq_some_iff.mp H
  obtain ⟨t199, A20, H⟩ := H
  try dsimp only at H
  have A2 := Aside0.mk A20
  clear A20
  by_cases c3 : t199 = true
  · subst c3
    replace H := (if_pos rfl).symm.trans H
    obtain rfl := Option.some.inj H
    go_enter Tryd.func132, Tryd.ntmps132
    go_wp2_with (first | ((with_reducible refine gate_callee (f := 130) rfl ?_); refine goesL_ (some 4) rfl rfl Tryd.func130 (by kernel_rfl) rfl #[.int .u8 a0] rfl au11 ?_; (with_reducible refine (impl_isUpper.calls a0 true _ A2.out).mono ?_); rintro e w' ⟨rfl, ⟨nd, rfl⟩⟩; refine ⟨_, rfl, ?_⟩))
    go_ret
    exact ⟨by first | rfl | (simp; done) | (simp [*]; done), by repeat (first | exact Drawn0.refl _ | apply Drawn0.step)⟩
  · replace c3 := Bool.eq_false_iff.mpr c3
    subst c3
    replace H := (if_neg (show ¬ (false = true) by decide)).symm.trans H
    replace H := Option.bind_eq_some_iff.mp H
    obtain ⟨t200, A40, H⟩ := H
    try dsimp only at H
    have A4 := Aside0.mk A40
    clear A40
    obtain rfl := Option.some.inj H
    go_enter Tryd.func132, Tryd.ntmps132
    go_wp2_with (first | ((with_reducible refine gate_callee (f := 130) rfl ?_); refine goesL_ (some 4) rfl rfl Tryd.func130 (by kernel_rfl) rfl #[.int .u8 a0] rfl au11 ?_; (with_reducible refine (impl_isUpper.calls a0 false _ A2.out).mono ?_); rintro e w' ⟨rfl, ⟨nd, rfl⟩⟩; refine ⟨_, rfl, ?_⟩) | (go_at_call 131; (with_reducible refine (impl_isLower.calls a0 t200 _ A4.out).mono ?_); rintro e w' ⟨rfl, ⟨nd, rfl⟩⟩))
    go_ret
    exact ⟨by first | rfl | (simp; done) | (simp [*]; done), by repeat (first | exact Drawn0.refl _ | apply Drawn0.step)⟩


/-! ### impl_isNameWord: function 77 -/
mutual
def impl_isNameWord.j0 : Nat → ByteArray → Bool → Option (Bool)
  | 0, _, _ => none
  | k + 1, x0, x22 => if x22 = true then (some false) else (impl_isNameWord.l0 k x0 0)
def impl_isNameWord.l0 : Nat → ByteArray → Int → Option (Bool)
  | 0, _, _ => none
  | k + 1, x0, x3 => if x3 < (x0.size : Int) then (if 0 ≤ x3 then ((impl_isLetter.f (bt x0 x3)).bind fun t204 => (if t204 = true then (impl_isNameWord.l0 k x0 (wrap64 (x3 + 1))) else (if (bt x0 x3) = 45 then (if 0 ≤ (wrap64 (x3 - 1)) then (if (wrap64 (x3 - 1)) < (x0.size : Int) then ((impl_isLetter.f (bt x0 (wrap64 (x3 - 1)))).bind fun t205 => (if t205 = true then (impl_isNameWord.l0 k x0 (wrap64 (x3 + 1))) else (some false))) else (none)) else (none)) else (if (bt x0 x3) = 39 then (if 0 ≤ (wrap64 (x3 - 1)) then (if (wrap64 (x3 - 1)) < (x0.size : Int) then ((impl_isLetter.f (bt x0 (wrap64 (x3 - 1)))).bind fun t206 => (if t206 = true then (impl_isNameWord.l0 k x0 (wrap64 (x3 + 1))) else (some false))) else (none)) else (none)) else (some false))))) else (none)) else (some true)
end
def impl_isNameWord.f (k : Nat) (a0 : ByteArray) : Option (Bool) := (impl_inside.f (a0.size : Int) 1 12).bind fun t201 => (if t201 = true then (if 0 ≤ (wrap64 ((a0.size : Int) - 1)) then (if (wrap64 ((a0.size : Int) - 1)) < (a0.size : Int) then ((impl_isLetter.f (bt a0 (wrap64 ((a0.size : Int) - 1)))).bind fun t202 => (if t202 = true then (if 0 < (a0.size : Int) then ((impl_isLetter.f (bt a0 0)).bind fun t203 => (impl_isNameWord.j0 k a0 (!t203))) else (none)) else (impl_isNameWord.j0 k a0 true))) else (none)) else (none)) else (impl_isNameWord.j0 k a0 true))
theorem impl_isNameWord.mono_l : ∀ k, (∀ y0 y1, LeO (impl_isNameWord.j0 k y0 y1) (impl_isNameWord.j0 (k + 1) y0 y1)) ∧ (∀ y0 y1, LeO (impl_isNameWord.l0 k y0 y1) (impl_isNameWord.l0 (k + 1) y0 y1))
  | 0 => ⟨fun _ _ r h => by simp [impl_isNameWord.j0] at h, fun _ _ r h => by simp [impl_isNameWord.l0] at h⟩
  | k + 1 => by
    obtain ⟨ih0, ih1⟩ := impl_isNameWord.mono_l k
    refine ⟨?_, ?_⟩
    · intro y0 y1
      unfold impl_isNameWord.j0
      repeat' first
      | (with_reducible exact ih0 _ _)
      | (with_reducible exact ih1 _ _)
      | (with_reducible exact LeO.refl _)
      | (with_reducible exact LeO.none _)
      | (with_reducible refine LeO.ite ?_ ?_)
      | (with_reducible refine LeO.bind ?_ (fun _ => ?_))
      | exact ih0 _ _
      | exact ih1 _ _
      | exact LeO.none _
      | refine LeO.ite ?_ ?_
      | refine LeO.bind ?_ (fun _ => ?_)
    · intro y0 y1
      unfold impl_isNameWord.l0
      repeat' first
      | (with_reducible exact ih0 _ _)
      | (with_reducible exact ih1 _ _)
      | (with_reducible exact LeO.refl _)
      | (with_reducible exact LeO.none _)
      | (with_reducible refine LeO.ite ?_ ?_)
      | (with_reducible refine LeO.bind ?_ (fun _ => ?_))
      | exact ih0 _ _
      | exact ih1 _ _
      | exact LeO.none _
      | refine LeO.ite ?_ ?_
      | refine LeO.bind ?_ (fun _ => ?_)
theorem impl_isNameWord.mono : ∀ a0 k, LeO (impl_isNameWord.f k a0) (impl_isNameWord.f (k + 1) a0) := by
  intro a0 k
  obtain ⟨ih0, ih1⟩ := impl_isNameWord.mono_l k
  unfold impl_isNameWord.f
  repeat' first
      | (with_reducible exact ih0 _ _)
      | (with_reducible exact ih1 _ _)
      | (with_reducible exact LeO.refl _)
      | (with_reducible exact LeO.none _)
      | (with_reducible refine LeO.ite ?_ ?_)
      | (with_reducible refine LeO.bind ?_ (fun _ => ?_))
      | exact ih0 _ _
      | exact ih1 _ _
      | exact LeO.none _
      | refine LeO.ite ?_ ?_
      | refine LeO.bind ?_ (fun _ => ?_)
set_option maxRecDepth 100000 in
theorem impl_isNameWord.L0 {P : Prop} (h : P := by
    go_wp2_with (first | ((with_reducible refine gate_callee (f := 132) rfl ?_); refine goesL_ (some 32) rfl rfl Tryd.func132 (by kernel_rfl) rfl #[.int .u8 (bt a0 x3_2)] rfl au11 ?_; (with_reducible refine (impl_isLetter.calls (bt a0 x3_2) _ _ A18.out).mono ?_); rintro e w' ⟨rfl, ⟨nd, rfl⟩⟩; refine ⟨_, rfl, ?_⟩; have p20 : 0 ≤ (x3_2 : Int) := of_decide_eq_true au27; have q20 : x3_2 < (a0.size : Int) := of_decide_eq_true au27; have hx20 := bt_at a0 x3_2; replace p20 := eq_true p20; replace q20 := eq_true q20; have p28 : 0 ≤ (x3_2 : Int) := of_decide_eq_true au27; have q28 : x3_2 < (a0.size : Int) := of_decide_eq_true au27; have hx28 := bt_at a0 x3_2; replace p28 := eq_true p28; replace q28 := eq_true q28; have p33 : 0 ≤ ((ji30) : Int) := of_decide_eq_true au27; have q33 : (ji30) < (a0.size : Int) := of_decide_eq_true au27; have hx33 := bt_at a0 (ji30); replace p33 := eq_true p33; replace q33 := eq_true q33) | (go_at_call 132; (with_reducible refine (impl_isLetter.calls (bt a0 (ji30)) _ _ A34.out).mono ?_); rintro e w' ⟨rfl, ⟨nd, rfl⟩⟩))
    go_ret
    first | (exact ⟨by first | rfl | (simp; done) | (simp only [← hji30] <;> (first | rfl | simp)) | (simp [*]; done), by repeat (first | exact Drawn0.refl _ | apply Drawn0.step)⟩) | (exact ⟨by first | rfl | (simp; done) | (simp [*]; done), by repeat (first | exact Drawn0.refl _ | apply Drawn0.step)⟩)) : P := h
set_option maxHeartbeats 8000000 in
set_option maxRecDepth 100000 in
theorem impl_isNameWord.calls (k : Nat) (a0 : ByteArray) (r : Bool) (w : World) (h : impl_isNameWord.f k a0 = some r) :
    Calls Tryd.prog 77 #[.string a0] w fun e w' => e = .returned (.bool r) ∧ Drawn0 w w' := by
  have H : ((impl_inside.f (a0.size : Int) 1 12).bind fun t201 => (if t201 = true then (if 0 ≤ (wrap64 ((a0.size : Int) - 1)) then (if (wrap64 ((a0.size : Int) - 1)) < (a0.size : Int) then ((impl_isLetter.f (bt a0 (wrap64 ((a0.size : Int) - 1)))).bind fun t202 => (if t202 = true then (if 0 < (a0.size : Int) then ((impl_isLetter.f (bt a0 0)).bind fun t203 => (impl_isNameWord.j0 k a0 (!t203))) else (none)) else (impl_isNameWord.j0 k a0 true))) else (none)) else (none)) else (impl_isNameWord.j0 k a0 true))) = some r := h
  clear h
  have HC2 := Aside0.mk H
  clear H
  go_enter Tryd.func77, Tryd.ntmps77
  go_upto_region 1 with (fail)
  go_cut [22] (fun v22 wc => ∃ (kq : Nat) (x22_1 : Bool), v22 = .bool x22_1 ∧ Aside0 (impl_isNameWord.j0 kq a0 x22_1 = some r) ∧ Aside0 (kq ≤ k) ∧ Drawn0 w wc)
  case first =>
    have H := HC2.out
    clear HC2
    replace H := Option.bind_eq_some_iff.mp H
    obtain ⟨t201, A30, H⟩ := H
    try dsimp only at H
    have A3 := Aside0.mk A30
    clear A30
    by_cases c4 : t201 = true
    · subst c4
      replace H := (if_pos rfl).symm.trans H
      obtain ⟨ji5, hji5⟩ : ∃ j_ : Int, (wrap64 ((a0.size : Int) - 1)) = j_ := ⟨_, rfl⟩
      replace H : (if 0 ≤ (ji5) then (if (ji5) < (a0.size : Int) then ((impl_isLetter.f (bt a0 (ji5))).bind fun t202 => (if t202 = true then (if 0 < (a0.size : Int) then ((impl_isLetter.f (bt a0 0)).bind fun t203 => (impl_isNameWord.j0 k a0 (!t203))) else (none)) else (impl_isNameWord.j0 k a0 true))) else (none)) else (none)) = some r := by first | (rw [hji5] at H; exact H) | (simp only [hji5] at H ⊢; exact H)
      (try rw [hji5] at A3)
      have hji5w : (IntKind.i64.wrap ((a0.size : Int) - 1)) = ji5 := (i64_w _).trans hji5
      by_cases c6 : 0 ≤ (ji5)
      · rw [if_pos c6] at H
        have c6b0 : decide (0 ≤ (ji5)) = true := decide_eq_true c6
        clear c6
        (first | rw [c6b0] | (simp only [i64_w, i32_w]; rw [c6b0]) | skip)
        by_cases c7 : (ji5) < (a0.size : Int)
        · rw [if_pos c7] at H
          have c7b0 : decide ((ji5) < (a0.size : Int)) = true := decide_eq_true c7
          clear c7
          replace H := Option.bind_eq_some_iff.mp H
          obtain ⟨t202, A90, H⟩ := H
          try dsimp only at H
          have A9 := Aside0.mk A90
          clear A90
          by_cases c10 : t202 = true
          · subst c10
            replace H := (if_pos rfl).symm.trans H
            by_cases c11 : 0 < (a0.size : Int)
            · rw [if_pos c11] at H
              have c11b0 : decide (0 < (a0.size : Int)) = true := decide_eq_true c11
              have c11b1 : decide (0 < a0.size) = true := decide_eq_true (by omega)
              clear c11
              replace H := Option.bind_eq_some_iff.mp H
              obtain ⟨t203, A130, H⟩ := H
              try dsimp only at H
              have A13 := Aside0.mk A130
              clear A130
              have H' := Aside0.mk H
              clear H
              go_wp2_with (first | ((with_reducible refine gate_callee (f := 106) rfl ?_); refine goesL_ (some 6) rfl rfl Tryd.func106 (by kernel_rfl) rfl #[.int .i64 (a0.size : Int), .int .i64 1, .int .i64 12] rfl au11 ?_; (with_reducible refine (impl_inside.calls (a0.size : Int) 1 12 _ _ A3.out).mono ?_); rintro e w' ⟨rfl, ⟨nd, rfl⟩⟩; refine ⟨_, rfl, ?_⟩; have p8 : 0 ≤ ((ji5) : Int) := of_decide_eq_true au27; have q8 : (ji5) < (a0.size : Int) := of_decide_eq_true au27; have hx8 := bt_at a0 (ji5); replace p8 := eq_true p8; replace q8 := eq_true q8) | (go_at_call 132; (with_reducible refine (impl_isLetter.calls (bt a0 (ji5)) _ _ A9.out).mono ?_); rintro e w' ⟨rfl, ⟨nd, rfl⟩⟩; have p12 : 0 ≤ (0 : Int) := (by omega); have q12 : 0 < a0.size := (by have : (0 : Int) < (a0.size : Int) := of_decide_eq_true au27; omega); have hx12 : ∀ h : 0 < a0.size, ((a0[0]'h).toNat : Int) = bt a0 0 := bt_at a0 0; clear p12; have qi12 : (0 < (a0.size : Int)) = True := eq_true (of_decide_eq_true au27); replace q12 := eq_true q12) | (go_at_call 132; (with_reducible refine (impl_isLetter.calls (bt a0 0) t203 _ A13.out).mono ?_); rintro e w' ⟨rfl, ⟨nd, rfl⟩⟩))
              go_meet
              case rel => exact ⟨_, (!t203), au28, H', ⟨by first | omega | exact Nat.le_refl _⟩, by repeat (first | exact Drawn0.refl _ | apply Drawn0.step)⟩
            · rw [if_neg c11] at H
              exact absurd H (by simp)
          · replace c10 := Bool.eq_false_iff.mpr c10
            subst c10
            replace H := (if_neg (show ¬ (false = true) by decide)).symm.trans H
            have H' := Aside0.mk H
            clear H
            go_wp2_with (first | ((with_reducible refine gate_callee (f := 106) rfl ?_); refine goesL_ (some 6) rfl rfl Tryd.func106 (by kernel_rfl) rfl #[.int .i64 (a0.size : Int), .int .i64 1, .int .i64 12] rfl au11 ?_; (with_reducible refine (impl_inside.calls (a0.size : Int) 1 12 _ _ A3.out).mono ?_); rintro e w' ⟨rfl, ⟨nd, rfl⟩⟩; refine ⟨_, rfl, ?_⟩; have p8 : 0 ≤ ((ji5) : Int) := of_decide_eq_true au27; have q8 : (ji5) < (a0.size : Int) := of_decide_eq_true au27; have hx8 := bt_at a0 (ji5); replace p8 := eq_true p8; replace q8 := eq_true q8) | (go_at_call 132; (with_reducible refine (impl_isLetter.calls (bt a0 (ji5)) _ _ A9.out).mono ?_); rintro e w' ⟨rfl, ⟨nd, rfl⟩⟩))
            go_meet
            case rel => exact ⟨_, (true), au28, H', ⟨by first | omega | exact Nat.le_refl _⟩, by repeat (first | exact Drawn0.refl _ | apply Drawn0.step)⟩
        · rw [if_neg c7] at H
          exact absurd H (by simp)
      · rw [if_neg c6] at H
        exact absurd H (by simp)
    · replace c4 := Bool.eq_false_iff.mpr c4
      subst c4
      replace H := (if_neg (show ¬ (false = true) by decide)).symm.trans H
      have H' := Aside0.mk H
      clear H
      go_wp2_with (first | ((with_reducible refine gate_callee (f := 106) rfl ?_); refine goesL_ (some 6) rfl rfl Tryd.func106 (by kernel_rfl) rfl #[.int .i64 (a0.size : Int), .int .i64 1, .int .i64 12] rfl au11 ?_; (with_reducible refine (impl_inside.calls (a0.size : Int) 1 12 _ _ A3.out).mono ?_); rintro e w' ⟨rfl, ⟨nd, rfl⟩⟩; refine ⟨_, rfl, ?_⟩))
      go_meet
      case rel => exact ⟨_, (true), au28, H', ⟨by first | omega | exact Nat.le_refl _⟩, by repeat (first | exact Drawn0.refl _ | apply Drawn0.step)⟩
  case rest =>
    clear HC2
    try clear c1
    try clear p1
    try clear q1
    try clear hx1
    try clear qi1
    try clear p2
    try clear c4
    try clear c6
    try clear c6b0
    try clear p6
    try clear c7
    try clear c7b0
    try clear p8
    try clear q8
    try clear hx8
    try clear c10
    try clear c11
    try clear c11b0
    try clear c11b1
    try clear p12
    try clear q12
    try clear hx12
    try clear qi12
    try clear p12
    try clear p8
    try clear q12
    try clear q8
    obtain ⟨kq, x22_1, rfl, HA, HJ1, ⟨mc1, rfl⟩⟩ := hcut
    cases kq with
    | zero => exact absurd HA.out (by simp [impl_isNameWord.j0])
    | succ kj1 =>
      have H := HA.out
      clear HA
      simp only [impl_isNameWord.j0] at H
      by_cases c14 : x22_1 = true
      · subst c14
        replace H := (if_pos rfl).symm.trans H
        obtain rfl := Option.some.inj H
        exact impl_isNameWord.L0
      · replace c14 := Bool.eq_false_iff.mpr c14
        subst c14
        replace H := (if_neg (show ¬ (false = true) by decide)).symm.trans H
        have H' := Aside0.mk H
        clear H
        go_wp2
        go_loopg [3] kj1 (fun kq v3 w' => ∃ (x3_2 : Int), v3 = .int .i64 x3_2 ∧ Aside0 (impl_isNameWord.l0 kq a0 x3_2 = some r) ∧ Aside0 (kq ≤ kj1) ∧ Drawn0 w w')
        case atStart => exact ⟨(0), au28, H', ⟨Nat.le_refl _⟩, by repeat (first | exact Drawn0.refl _ | apply Drawn0.step)⟩
        case round =>
          clear H'
          try clear c1
          try clear p1
          try clear q1
          try clear hx1
          try clear qi1
          try clear p2
          try clear c4
          try clear c6
          try clear c6b0
          try clear p6
          try clear c7
          try clear c7b0
          try clear p8
          try clear q8
          try clear hx8
          try clear c10
          try clear c11
          try clear c11b0
          try clear c11b1
          try clear p12
          try clear q12
          try clear hx12
          try clear qi12
          try clear c14
          try clear p1
          try clear p12
          try clear p2
          try clear p6
          try clear p8
          try clear q1
          try clear q12
          try clear q8
          obtain ⟨x3_2, rfl, HA, HK2, ⟨m2, rfl⟩⟩ := hrel
          cases gk with
          | zero => exact absurd HA.out (by simp [impl_isNameWord.l0])
          | succ k2 =>
            have H := HA.out
            clear HA
            simp only [impl_isNameWord.l0] at H
            by_cases c15 : x3_2 < (a0.size : Int)
            · rw [if_pos c15] at H
              have c15b0 : decide (x3_2 < (a0.size : Int)) = true := decide_eq_true c15
              clear c15
              by_cases c16 : 0 ≤ x3_2
              · rw [if_pos c16] at H
                have c16b0 : decide (0 ≤ x3_2) = true := decide_eq_true c16
                clear c16
                replace H := Option.bind_eq_some_iff.mp H
                obtain ⟨t204, A180, H⟩ := H
                try dsimp only at H
                have A18 := Aside0.mk A180
                clear A180
                by_cases c19 : t204 = true
                · subst c19
                  replace H := (if_pos rfl).symm.trans H
                  have H' := Aside0.mk H
                  clear H
                  have p17 : 0 ≤ (x3_2 : Int) := of_decide_eq_true au27
                  have q17 : x3_2 < (a0.size : Int) := of_decide_eq_true au27
                  have hx17 := bt_at a0 x3_2
                  replace p17 := eq_true p17
                  replace q17 := eq_true q17
                  go_wp2_with (first | ((with_reducible refine gate_callee (f := 132) rfl ?_); refine goesL_ (some 32) rfl rfl Tryd.func132 (by kernel_rfl) rfl #[.int .u8 (bt a0 x3_2)] rfl au11 ?_; (with_reducible refine (impl_isLetter.calls (bt a0 x3_2) _ _ A18.out).mono ?_); rintro e w' ⟨rfl, ⟨nd, rfl⟩⟩; refine ⟨_, rfl, ?_⟩))
                  go_roundg k2
                  case measure => have := HJ1.out; have := HK2.out; omega
                  case rel => exact ⟨(wrap64 (x3_2 + 1)), au28, H', ⟨by have := HJ1.out; have := HK2.out; omega⟩, by repeat (first | exact Drawn0.refl _ | apply Drawn0.step)⟩
                · replace c19 := Bool.eq_false_iff.mpr c19
                  subst c19
                  replace H := (if_neg (show ¬ (false = true) by decide)).symm.trans H
                  by_cases c21 : (bt a0 x3_2) = 45
                  · rw [if_pos c21] at H
                    have c21b0 : ((bt a0 x3_2) == 45) = true := beq_iff_eq.mpr c21
                    have c21b1 : ((bt a0 x3_2) != 45) = false := bne_eq_false_iff_eq.mpr c21
                    clear c21
                    obtain ⟨ji22, hji22⟩ : ∃ j_ : Int, (wrap64 (x3_2 - 1)) = j_ := ⟨_, rfl⟩
                    replace H : (if 0 ≤ (ji22) then (if (ji22) < (a0.size : Int) then ((impl_isLetter.f (bt a0 (ji22))).bind fun t205 => (if t205 = true then (impl_isNameWord.l0 k2 a0 (wrap64 (x3_2 + 1))) else (some false))) else (none)) else (none)) = some r := by first | (rw [hji22] at H; exact H) | (simp only [hji22] at H ⊢; exact H)
                    (try rw [hji22] at A18)
                    have hji22w : (IntKind.i64.wrap (x3_2 - 1)) = ji22 := (i64_w _).trans hji22
                    by_cases c23 : 0 ≤ (ji22)
                    · rw [if_pos c23] at H
                      have c23b0 : decide (0 ≤ (ji22)) = true := decide_eq_true c23
                      clear c23
                      by_cases c24 : (ji22) < (a0.size : Int)
                      · rw [if_pos c24] at H
                        have c24b0 : decide ((ji22) < (a0.size : Int)) = true := decide_eq_true c24
                        clear c24
                        replace H := Option.bind_eq_some_iff.mp H
                        obtain ⟨t205, A260, H⟩ := H
                        try dsimp only at H
                        have A26 := Aside0.mk A260
                        clear A260
                        by_cases c27 : t205 = true
                        · subst c27
                          replace H := (if_pos rfl).symm.trans H
                          have H' := Aside0.mk H
                          clear H
                          have p17 : 0 ≤ (x3_2 : Int) := of_decide_eq_true au27
                          have q17 : x3_2 < (a0.size : Int) := of_decide_eq_true au27
                          have hx17 := bt_at a0 x3_2
                          replace p17 := eq_true p17
                          replace q17 := eq_true q17
                          go_wp2_with (first | ((with_reducible refine gate_callee (f := 132) rfl ?_); refine goesL_ (some 32) rfl rfl Tryd.func132 (by kernel_rfl) rfl #[.int .u8 (bt a0 x3_2)] rfl au11 ?_; (with_reducible refine (impl_isLetter.calls (bt a0 x3_2) _ _ A18.out).mono ?_); rintro e w' ⟨rfl, ⟨nd, rfl⟩⟩; refine ⟨_, rfl, ?_⟩; have p20 : 0 ≤ (x3_2 : Int) := of_decide_eq_true au27; have q20 : x3_2 < (a0.size : Int) := of_decide_eq_true au27; have hx20 := bt_at a0 x3_2; replace p20 := eq_true p20; replace q20 := eq_true q20; have p25 : 0 ≤ ((ji22) : Int) := of_decide_eq_true au27; have q25 : (ji22) < (a0.size : Int) := of_decide_eq_true au27; have hx25 := bt_at a0 (ji22); replace p25 := eq_true p25; replace q25 := eq_true q25) | (go_at_call 132; (with_reducible refine (impl_isLetter.calls (bt a0 (ji22)) _ _ A26.out).mono ?_); rintro e w' ⟨rfl, ⟨nd, rfl⟩⟩))
                          go_roundg k2
                          case measure => have := HJ1.out; have := HK2.out; omega
                          case rel => exact ⟨(wrap64 (x3_2 + 1)), au28, H', ⟨by have := HJ1.out; have := HK2.out; omega⟩, by repeat (first | exact Drawn0.refl _ | apply Drawn0.step)⟩
                        · replace c27 := Bool.eq_false_iff.mpr c27
                          subst c27
                          replace H := (if_neg (show ¬ (false = true) by decide)).symm.trans H
                          obtain rfl := Option.some.inj H
                          have p17 : 0 ≤ (x3_2 : Int) := of_decide_eq_true au27
                          have q17 : x3_2 < (a0.size : Int) := of_decide_eq_true au27
                          have hx17 := bt_at a0 x3_2
                          replace p17 := eq_true p17
                          replace q17 := eq_true q17
                          go_wp2_with (first | ((with_reducible refine gate_callee (f := 132) rfl ?_); refine goesL_ (some 32) rfl rfl Tryd.func132 (by kernel_rfl) rfl #[.int .u8 (bt a0 x3_2)] rfl au11 ?_; (with_reducible refine (impl_isLetter.calls (bt a0 x3_2) _ _ A18.out).mono ?_); rintro e w' ⟨rfl, ⟨nd, rfl⟩⟩; refine ⟨_, rfl, ?_⟩; have p20 : 0 ≤ (x3_2 : Int) := of_decide_eq_true au27; have q20 : x3_2 < (a0.size : Int) := of_decide_eq_true au27; have hx20 := bt_at a0 x3_2; replace p20 := eq_true p20; replace q20 := eq_true q20; have p25 : 0 ≤ ((ji22) : Int) := of_decide_eq_true au27; have q25 : (ji22) < (a0.size : Int) := of_decide_eq_true au27; have hx25 := bt_at a0 (ji22); replace p25 := eq_true p25; replace q25 := eq_true q25) | (go_at_call 132; (with_reducible refine (impl_isLetter.calls (bt a0 (ji22)) _ _ A26.out).mono ?_); rintro e w' ⟨rfl, ⟨nd, rfl⟩⟩))
                          go_ret
                          exact ⟨by first | rfl | (simp; done) | (simp only [← hji22] <;> (first | rfl | simp)) | (simp [*]; done), by repeat (first | exact Drawn0.refl _ | apply Drawn0.step)⟩
                      · rw [if_neg c24] at H
                        exact absurd H (by simp)
                    · rw [if_neg c23] at H
                      exact absurd H (by simp)
                  · rw [if_neg c21] at H
                    have c21b0 : ((bt a0 x3_2) == 45) = false := beq_eq_false_iff_ne.mpr c21
                    have c21b1 : ((bt a0 x3_2) != 45) = true := bne_iff_ne.mpr c21
                    by_cases c29 : (bt a0 x3_2) = 39
                    · rw [if_pos c29] at H
                      have c29b0 : ((bt a0 x3_2) == 39) = true := beq_iff_eq.mpr c29
                      have c29b1 : ((bt a0 x3_2) != 39) = false := bne_eq_false_iff_eq.mpr c29
                      clear c29
                      obtain ⟨ji30, hji30⟩ : ∃ j_ : Int, (wrap64 (x3_2 - 1)) = j_ := ⟨_, rfl⟩
                      replace H : (if 0 ≤ (ji30) then (if (ji30) < (a0.size : Int) then ((impl_isLetter.f (bt a0 (ji30))).bind fun t206 => (if t206 = true then (impl_isNameWord.l0 k2 a0 (wrap64 (x3_2 + 1))) else (some false))) else (none)) else (none)) = some r := by first | (rw [hji30] at H; exact H) | (simp only [hji30] at H ⊢; exact H)
                      (try rw [hji30] at A18)
                      have hji30w : (IntKind.i64.wrap (x3_2 - 1)) = ji30 := (i64_w _).trans hji30
                      by_cases c31 : 0 ≤ (ji30)
                      · rw [if_pos c31] at H
                        have c31b0 : decide (0 ≤ (ji30)) = true := decide_eq_true c31
                        clear c31
                        by_cases c32 : (ji30) < (a0.size : Int)
                        · rw [if_pos c32] at H
                          have c32b0 : decide ((ji30) < (a0.size : Int)) = true := decide_eq_true c32
                          clear c32
                          replace H := Option.bind_eq_some_iff.mp H
                          obtain ⟨t206, A340, H⟩ := H
                          try dsimp only at H
                          have A34 := Aside0.mk A340
                          clear A340
                          by_cases c35 : t206 = true
                          · subst c35
                            replace H := (if_pos rfl).symm.trans H
                            have H' := Aside0.mk H
                            clear H
                            have p17 : 0 ≤ (x3_2 : Int) := of_decide_eq_true au27
                            have q17 : x3_2 < (a0.size : Int) := of_decide_eq_true au27
                            have hx17 := bt_at a0 x3_2
                            replace p17 := eq_true p17
                            replace q17 := eq_true q17
                            go_wp2_with (first | ((with_reducible refine gate_callee (f := 132) rfl ?_); refine goesL_ (some 32) rfl rfl Tryd.func132 (by kernel_rfl) rfl #[.int .u8 (bt a0 x3_2)] rfl au11 ?_; (with_reducible refine (impl_isLetter.calls (bt a0 x3_2) _ _ A18.out).mono ?_); rintro e w' ⟨rfl, ⟨nd, rfl⟩⟩; refine ⟨_, rfl, ?_⟩; have p20 : 0 ≤ (x3_2 : Int) := of_decide_eq_true au27; have q20 : x3_2 < (a0.size : Int) := of_decide_eq_true au27; have hx20 := bt_at a0 x3_2; replace p20 := eq_true p20; replace q20 := eq_true q20; have p28 : 0 ≤ (x3_2 : Int) := of_decide_eq_true au27; have q28 : x3_2 < (a0.size : Int) := of_decide_eq_true au27; have hx28 := bt_at a0 x3_2; replace p28 := eq_true p28; replace q28 := eq_true q28; have p33 : 0 ≤ ((ji30) : Int) := of_decide_eq_true au27; have q33 : (ji30) < (a0.size : Int) := of_decide_eq_true au27; have hx33 := bt_at a0 (ji30); replace p33 := eq_true p33; replace q33 := eq_true q33) | (go_at_call 132; (with_reducible refine (impl_isLetter.calls (bt a0 (ji30)) _ _ A34.out).mono ?_); rintro e w' ⟨rfl, ⟨nd, rfl⟩⟩))
                            go_roundg k2
                            case measure => have := HJ1.out; have := HK2.out; omega
                            case rel => exact ⟨(wrap64 (x3_2 + 1)), au28, H', ⟨by have := HJ1.out; have := HK2.out; omega⟩, by repeat (first | exact Drawn0.refl _ | apply Drawn0.step)⟩
                          · replace c35 := Bool.eq_false_iff.mpr c35
                            subst c35
                            replace H := (if_neg (show ¬ (false = true) by decide)).symm.trans H
                            obtain rfl := Option.some.inj H
                            have p17 : 0 ≤ (x3_2 : Int) := of_decide_eq_true au27
                            have q17 : x3_2 < (a0.size : Int) := of_decide_eq_true au27
                            have hx17 := bt_at a0 x3_2
                            replace p17 := eq_true p17
                            replace q17 := eq_true q17
                            exact impl_isNameWord.L0
                        · rw [if_neg c32] at H
                          exact absurd H (by simp)
                      · rw [if_neg c31] at H
                        exact absurd H (by simp)
                    · rw [if_neg c29] at H
                      have c29b0 : ((bt a0 x3_2) == 39) = false := beq_eq_false_iff_ne.mpr c29
                      have c29b1 : ((bt a0 x3_2) != 39) = true := bne_iff_ne.mpr c29
                      obtain rfl := Option.some.inj H
                      have p17 : 0 ≤ (x3_2 : Int) := of_decide_eq_true au27
                      have q17 : x3_2 < (a0.size : Int) := of_decide_eq_true au27
                      have hx17 := bt_at a0 x3_2
                      replace p17 := eq_true p17
                      replace q17 := eq_true q17
                      go_wp2_with (first | ((with_reducible refine gate_callee (f := 132) rfl ?_); refine goesL_ (some 32) rfl rfl Tryd.func132 (by kernel_rfl) rfl #[.int .u8 (bt a0 x3_2)] rfl au11 ?_; (with_reducible refine (impl_isLetter.calls (bt a0 x3_2) _ _ A18.out).mono ?_); rintro e w' ⟨rfl, ⟨nd, rfl⟩⟩; refine ⟨_, rfl, ?_⟩; have p20 : 0 ≤ (x3_2 : Int) := of_decide_eq_true au27; have q20 : x3_2 < (a0.size : Int) := of_decide_eq_true au27; have hx20 := bt_at a0 x3_2; replace p20 := eq_true p20; replace q20 := eq_true q20; have p28 : 0 ≤ (x3_2 : Int) := of_decide_eq_true au27; have q28 : x3_2 < (a0.size : Int) := of_decide_eq_true au27; have hx28 := bt_at a0 x3_2; replace p28 := eq_true p28; replace q28 := eq_true q28))
                      go_ret
                      exact ⟨by first | rfl | (simp; done) | (simp [*]; done), by repeat (first | exact Drawn0.refl _ | apply Drawn0.step)⟩
              · rw [if_neg c16] at H
                exact absurd H (by simp)
            · rw [if_neg c15] at H
              have c15b0 : decide (x3_2 < (a0.size : Int)) = false := decide_eq_false c15
              clear c15
              obtain rfl := Option.some.inj H
              exact impl_isNameWord.L0


/-! ### impl_isGreatWord: function 75 -/
def impl_isGreatWord.f (k : Nat) (a0 : ByteArray) : Option (Bool) := (impl_isNameWord.f k a0).bind fun t207 => (if t207 = true then (if 0 < (a0.size : Int) then ((impl_isUpper.f (bt a0 0)).bind fun t208 => (some t208)) else (none)) else (some false))
theorem impl_isGreatWord.mono : ∀ a0 k, LeO (impl_isGreatWord.f k a0) (impl_isGreatWord.f (k + 1) a0) := by
  intro a0 k
  unfold impl_isGreatWord.f
  repeat' first
      | (with_reducible exact impl_isNameWord.mono _ _)
      | (with_reducible exact LeO.refl _)
      | (with_reducible exact LeO.none _)
      | (with_reducible refine LeO.ite ?_ ?_)
      | (with_reducible refine LeO.bind ?_ (fun _ => ?_))
      | exact impl_isNameWord.mono _ _
      | exact LeO.none _
      | refine LeO.ite ?_ ?_
      | refine LeO.bind ?_ (fun _ => ?_)
set_option maxHeartbeats 8000000 in
set_option maxRecDepth 100000 in
theorem impl_isGreatWord.calls (k : Nat) (a0 : ByteArray) (r : Bool) (w : World) (h : impl_isGreatWord.f k a0 = some r) :
    Calls Tryd.prog 75 #[.string a0] w fun e w' => e = .returned (.bool r) ∧ Drawn0 w w' := by
  have H : ((impl_isNameWord.f k a0).bind fun t207 => (if t207 = true then (if 0 < (a0.size : Int) then ((impl_isUpper.f (bt a0 0)).bind fun t208 => (some t208)) else (none)) else (some false))) = some r := h
  clear h
  replace H := Option.bind_eq_some_iff.mp H
  obtain ⟨t207, A20, H⟩ := H
  try dsimp only at H
  have A2 := Aside0.mk A20
  clear A20
  by_cases c3 : t207 = true
  · subst c3
    replace H := (if_pos rfl).symm.trans H
    by_cases c4 : 0 < (a0.size : Int)
    · rw [if_pos c4] at H
      have c4b0 : decide (0 < (a0.size : Int)) = true := decide_eq_true c4
      have c4b1 : decide (0 < a0.size) = true := decide_eq_true (by omega)
      clear c4
      replace H := Option.bind_eq_some_iff.mp H
      obtain ⟨t208, A60, H⟩ := H
      try dsimp only at H
      have A6 := Aside0.mk A60
      clear A60
      obtain rfl := Option.some.inj H
      go_enter Tryd.func75, Tryd.ntmps75
      go_wp2_with (first | ((with_reducible refine gate_callee (f := 77) rfl ?_); refine goesL_ (some 4) rfl rfl Tryd.func77 (by kernel_rfl) rfl #[.string a0] rfl au11 ?_; (with_reducible refine (impl_isNameWord.calls k a0 true _ A2.out).mono ?_); rintro e w' ⟨rfl, ⟨nd, rfl⟩⟩; refine ⟨_, rfl, ?_⟩; have p5 : 0 ≤ (0 : Int) := (by omega); have q5 : 0 < a0.size := (by have : (0 : Int) < (a0.size : Int) := of_decide_eq_true au27; omega); have hx5 : ∀ h : 0 < a0.size, ((a0[0]'h).toNat : Int) = bt a0 0 := bt_at a0 0; clear p5; have qi5 : (0 < (a0.size : Int)) = True := eq_true (of_decide_eq_true au27); replace q5 := eq_true q5) | (go_at_call 130; (with_reducible refine (impl_isUpper.calls (bt a0 0) t208 _ A6.out).mono ?_); rintro e w' ⟨rfl, ⟨nd, rfl⟩⟩))
      go_ret
      exact ⟨by first | rfl | (simp; done) | (simp [*]; done), by repeat (first | exact Drawn0.refl _ | apply Drawn0.step)⟩
    · rw [if_neg c4] at H
      exact absurd H (by simp)
  · replace c3 := Bool.eq_false_iff.mpr c3
    subst c3
    replace H := (if_neg (show ¬ (false = true) by decide)).symm.trans H
    obtain rfl := Option.some.inj H
    go_enter Tryd.func75, Tryd.ntmps75
    go_wp2_with (first | ((with_reducible refine gate_callee (f := 77) rfl ?_); refine goesL_ (some 4) rfl rfl Tryd.func77 (by kernel_rfl) rfl #[.string a0] rfl au11 ?_; (with_reducible refine (impl_isNameWord.calls k a0 false _ A2.out).mono ?_); rintro e w' ⟨rfl, ⟨nd, rfl⟩⟩; refine ⟨_, rfl, ?_⟩))
    go_ret
    exact ⟨by first | rfl | (simp; done) | (simp [*]; done), by repeat (first | exact Drawn0.refl _ | apply Drawn0.step)⟩

end Go.Proofs.YtcckamdpncbkoabDoor.G

namespace Go.Proofs
open Go.Shelf
def Tryd.lays146_ren : Go.Shelf.Ren := ⟨fun | 146 => 70 | 221 => 122 | 268 => 160 | 138 => 161 | 143 => 162 | 195 => 172 | 197 => 173 | 218 => 174 | 219 => 175 | 260 => 186 | 217 => 187 | 225 => 188 | 224 => 189 | 267 => 190 | 266 => 194 | 314 => 195 | n => n, fun | 9 => 9 | 31 => 32 | 3 => 3 | 4 => 4 | 0 => 0 | 105 => 152 | 21 => 21 | 5 => 5 | 46 => 150 | 119 => 166 | 139 => 169 | 138 => 168 | 146 => 171 | 51 => 170 | n => n, fun | 1 => 0 | 3 => 1 | 4 => 2 | n => n⟩
theorem Tryd.lays146 : Go.Proofs.Lays.n146 Tryd.prog Tryd.lays146_ren := {
  mixed := by kernel_rfl
  f138 := Tryd.func161.trans (congrArg some (by kernel_rfl))
  f143 := Tryd.func162.trans (congrArg some (by kernel_rfl))
  f146 := Tryd.func70.trans (congrArg some (by kernel_rfl))
  f195 := Tryd.func172.trans (congrArg some (by kernel_rfl))
  f197 := Tryd.func173.trans (congrArg some (by kernel_rfl))
  f217 := Tryd.func187.trans (congrArg some (by kernel_rfl))
  f218 := Tryd.func174.trans (congrArg some (by kernel_rfl))
  f219 := Tryd.func175.trans (congrArg some (by kernel_rfl))
  f221 := Tryd.func122.trans (congrArg some (by kernel_rfl))
  f224 := Tryd.func189.trans (congrArg some (by kernel_rfl))
  f225 := Tryd.func188.trans (congrArg some (by kernel_rfl))
  f260 := Tryd.func186.trans (congrArg some (by kernel_rfl))
  f266 := Tryd.func194.trans (congrArg some (by kernel_rfl))
  f267 := Tryd.func190.trans (congrArg some (by kernel_rfl))
  f268 := Tryd.func160.trans (congrArg some (by kernel_rfl))
  f314 := Tryd.func195.trans (congrArg some (by kernel_rfl))
  t0 := Tryd.underlying0
  a0 := Tryd.isAgg0
  z0 := Tryd.sizeOf0
  v0 := Tryd.zeroValue0
  t3 := Tryd.underlying3
  a3 := Tryd.isAgg3
  z3 := Tryd.sizeOf3
  v3 := Tryd.zeroValue3
  t4 := Tryd.underlying4
  a4 := Tryd.isAgg4
  z4 := Tryd.sizeOf4
  v4 := Tryd.zeroValue4
  t5 := Tryd.underlying5
  a5 := Tryd.isAgg5
  z5 := Tryd.sizeOf5
  v5 := Tryd.zeroValue5
  t9 := Tryd.underlying9
  a9 := Tryd.isAgg9
  z9 := Tryd.sizeOf9
  v9 := Tryd.zeroValue9
  t21 := Tryd.underlying21
  a21 := Tryd.isAgg21
  z21 := Tryd.sizeOf21
  v21 := Tryd.zeroValue21
  t31 := Tryd.underlying32
  a31 := Tryd.isAgg32
  z31 := Tryd.sizeOf32
  v31 := Tryd.zeroValue32
  t46 := Tryd.underlying150
  a46 := Tryd.isAgg150
  z46 := Tryd.sizeOf150
  v46 := Tryd.zeroValue150
  t51 := Tryd.underlying170
  a51 := Tryd.isAgg170
  z51 := Tryd.sizeOf170
  v51 := Tryd.zeroValue170
  t105 := Tryd.underlying152
  a105 := Tryd.isAgg152
  z105 := Tryd.sizeOf152
  v105 := Tryd.zeroValue152
  t119 := Tryd.underlying166
  a119 := Tryd.isAgg166
  z119 := Tryd.sizeOf166
  t138 := Tryd.underlying168
  a138 := Tryd.isAgg168
  z138 := Tryd.sizeOf168
  v138 := Tryd.zeroValue168
  t139 := Tryd.underlying169
  a139 := Tryd.isAgg169
  z139 := Tryd.sizeOf169
  v139 := Tryd.zeroValue169
  t146 := Tryd.underlying171
  a146 := Tryd.isAgg171
  z146 := Tryd.sizeOf171
  v146 := Tryd.zeroValue171
  g1 := by kernel_rfl
  g3 := by kernel_rfl
  g4 := by kernel_rfl }
open Go.RowKit Go.Lib in
theorem Tryd.strings_Split (s sep : ByteArray) (m : Int) (w : World) (hs : s.size < 4294967281) (hm : w.cell? ⟨0, 0, none⟩ = some (.int .i64 m)) (h1 : 1 ≤ sep.size) :
    Calls Tryd.prog 70 #[.string s, .string sep] w fun e w' =>
      e = .returned (.slice (some ⟨w.heap.size, 0, none⟩) (Lib.countB s sep + 1) (Lib.countB s sep + 1)) ∧ w' = w.alloc (.cells ((Lib.splitB sep 0 (Lib.countB s sep) s).map Value.string).toArray 9) := Any.strings_Split Tryd.lays146 (by kernel_rfl) s sep m w hs hm h1
end Go.Proofs

namespace Go.Proofs.YtcckamdpncbkoabDoor.G
open Go.RowKit Go.Proofs.YtcckamdpncbkoabDoorW.PrintWords Go.Proofs.YtcckamdpncbkoabDoorW.PrintLast Go.Proofs.YtcckamdpncbkoabDoorW.PrintMore
open Go.Proofs.YtcckamdpncbkoabDoor.Gl Go.Proofs.YtcckamdpncbkoabDoor.Ext
attribute [local go_sem] max2_int min2_int max_two min_two max_three min_three max_four min_four   -- for this text's walks alone
set_option linter.unusedVariables false
set_option linter.unusedSimpArgs false

/-! ### strings_Split: function 70 -/
def strings_Split.f (a0 : ByteArray) (a1 : ByteArray) : Option (List ByteArray) :=
  if a0.size < 4294967281 ∧ 1 ≤ a1.size ∧ (Lib.splitB a1 0 (Lib.countB a0 a1) a0).length = Lib.countB a0 a1 + 1 ∧ Lib.countB a0 a1 < 4294967296 then some (Lib.splitB a1 0 (Lib.countB a0 a1) a0) else none
theorem strings_Split.calls (a0 : ByteArray) (a1 : ByteArray) (r : List ByteArray) (w : World) {gF1 gF2 gF3 : Bool} (hG : GL gF1 gF2 gF3 w) (h : strings_Split.f a0 a1 = some r) :
    Calls Tryd.prog 70 #[.string a0, .string a1] w fun e w' => ∃ v0_ : Value, e = .returned (v0_) ∧ Kd.R Kd.string 9 w' w.heap.size (fun _ => True) v0_ r ∧ Below w.heap.size w w' := by
  unfold strings_Split.f at h
  by_cases hg : a0.size < 4294967281 ∧ 1 ≤ a1.size ∧ (Lib.splitB a1 0 (Lib.countB a0 a1) a0).length = Lib.countB a0 a1 + 1 ∧ Lib.countB a0 a1 < 4294967296
  · rw [if_pos hg] at h
    obtain rfl := Option.some.inj h
    obtain ⟨m, hm⟩ := hG.mx
    refine (Tryd.strings_Split a0 a1 m w hg.1 hm hg.2.1).mono ?_
    rintro e w' ⟨rfl, rfl⟩
    rw [← hg.2.2.1]
    refine ⟨_, rfl, Kd.R_of_own (own_lit_of (enc := Value.string) w w.heap.size 9 _ (Nat.le_refl _) ?_) (fun _ _ => trivial), (Below.refl _ _).alloc (Nat.le_refl _) _⟩
    rw [hg.2.2.1]; omega
  · rw [if_neg hg] at h; cases h


/-! ### impl_isParticle: function 76 -/
mutual
def impl_isParticle.l0 : Nat → List ByteArray → List ByteArray → Int → Int → Option (Bool)
  | 0, _, _, _, _ => none
  | k + 1, x3, x11, x12, x13 => if x13 < x12 then (if 0 ≤ x13 then (if x13 < (x11.length : Int) then ((impl_inside.f ((rdOf ByteArray.empty x11 x13).size : Int) 1 12).bind fun t203 => (if t203 = true then (impl_isParticle.l1 k x3 (rdOf ByteArray.empty x11 x13) 0 x11 x12 x13) else (some false))) else (none)) else (none)) else (some (decide ((x3.length : Int) ≤ 2)))
def impl_isParticle.l1 : Nat → List ByteArray → ByteArray → Int → List ByteArray → Int → Int → Option (Bool)
  | 0, _, _, _, _, _, _ => none
  | k + 1, x3, x5, x6, x11, x12, x13 => if x6 < (x5.size : Int) then (if 0 ≤ x6 then ((impl_isLower.f (bt x5 x6)).bind fun t204 => (if t204 = true then (impl_isParticle.l1 k x3 x5 (wrap64 (x6 + 1)) x11 x12 x13) else (some false))) else (none)) else (impl_isParticle.l0 k x3 x11 x12 (wrap64 (x13 + 1)))
end
def impl_isParticle.f (k : Nat) (a0 : ByteArray) : Option (Bool) := if a0.toList = ([] : List UInt8) then (some true) else ((strings_Split.f a0 (⟨#[32]⟩ : ByteArray)).bind fun t199 => (impl_isParticle.l0 k t199 t199 (t199.length : Int) 0))
theorem impl_isParticle.mono_l : ∀ k, (∀ y0 y1 y2 y3, LeO (impl_isParticle.l0 k y0 y1 y2 y3) (impl_isParticle.l0 (k + 1) y0 y1 y2 y3)) ∧ (∀ y0 y1 y2 y3 y4 y5, LeO (impl_isParticle.l1 k y0 y1 y2 y3 y4 y5) (impl_isParticle.l1 (k + 1) y0 y1 y2 y3 y4 y5))
  | 0 => ⟨fun _ _ _ _ r h => by simp [impl_isParticle.l0] at h, fun _ _ _ _ _ _ r h => by simp [impl_isParticle.l1] at h⟩
  | k + 1 => by
    obtain ⟨ih0, ih1⟩ := impl_isParticle.mono_l k
    refine ⟨?_, ?_⟩
    · intro y0 y1 y2 y3
      unfold impl_isParticle.l0
      repeat' first
      | (with_reducible exact ih0 _ _ _ _)
      | (with_reducible exact ih1 _ _ _ _ _ _)
      | (with_reducible exact LeO.refl _)
      | (with_reducible exact LeO.none _)
      | (with_reducible refine LeO.ite ?_ ?_)
      | (with_reducible refine LeO.bind ?_ (fun _ => ?_))
      | exact ih0 _ _ _ _
      | exact ih1 _ _ _ _ _ _
      | exact LeO.none _
      | refine LeO.ite ?_ ?_
      | refine LeO.bind ?_ (fun _ => ?_)
    · intro y0 y1 y2 y3 y4 y5
      unfold impl_isParticle.l1
      repeat' first
      | (with_reducible exact ih0 _ _ _ _)
      | (with_reducible exact ih1 _ _ _ _ _ _)
      | (with_reducible exact LeO.refl _)
      | (with_reducible exact LeO.none _)
      | (with_reducible refine LeO.ite ?_ ?_)
      | (with_reducible refine LeO.bind ?_ (fun _ => ?_))
      | exact ih0 _ _ _ _
      | exact ih1 _ _ _ _ _ _
      | exact LeO.none _
      | refine LeO.ite ?_ ?_
      | refine LeO.bind ?_ (fun _ => ?_)
theorem impl_isParticle.mono : ∀ a0 k, LeO (impl_isParticle.f k a0) (impl_isParticle.f (k + 1) a0) := by
  intro a0 k
  obtain ⟨ih0, ih1⟩ := impl_isParticle.mono_l k
  unfold impl_isParticle.f
  repeat' first
      | (with_reducible exact ih0 _ _ _ _)
      | (with_reducible exact ih1 _ _ _ _ _ _)
      | (with_reducible exact LeO.refl _)
      | (with_reducible exact LeO.none _)
      | (with_reducible refine LeO.ite ?_ ?_)
      | (with_reducible refine LeO.bind ?_ (fun _ => ?_))
      | exact ih0 _ _ _ _
      | exact ih1 _ _ _ _ _ _
      | exact LeO.none _
      | refine LeO.ite ?_ ?_
      | refine LeO.bind ?_ (fun _ => ?_)
set_option maxHeartbeats 8000000 in
set_option maxRecDepth 100000 in
theorem impl_isParticle.calls (k : Nat) (a0 : ByteArray) (r : Bool) (w : World) {gF1 gF2 gF3 : Bool} (hG : GL gF1 gF2 gF3 w) (h : impl_isParticle.f k a0 = some r) :
    Calls Tryd.prog 76 #[.string a0] w fun e w' => e = .returned (.bool r) ∧ Below w.heap.size w w' := by
  have HG := Aside0.mk hG
  clear hG
  have HB := Aside0.mk (Below.refl w.heap.size w)
  have H : (if a0.toList = ([] : List UInt8) then (some true) else ((strings_Split.f a0 (⟨#[32]⟩ : ByteArray)).bind fun t199 => (impl_isParticle.l0 k t199 t199 (t199.length : Int) 0))) = some r := h
  clear h
  by_cases c2 : a0.toList = ([] : List UInt8)
  · rw [if_pos c2] at H
    have c2b0 : (a0.toList == ([] : List UInt8)) = true := beq_iff_eq.mpr c2
    have c2b1 : (a0.toList != ([] : List UInt8)) = false := bne_eq_false_iff_eq.mpr c2
    clear c2
    obtain rfl := Option.some.inj H
    go_enter Tryd.func76, Tryd.ntmps76
    go_wp2
    go_ret
    exact ⟨by first | rfl | (simp [errW_none, errW_some] <;> rfl) | (simp [*, errW_none, errW_some] <;> rfl), by repeat (first | (with_reducible first | exact HB.out | apply below_alloc | apply pw_below_drewN | apply below_drew1) | exact HB.out)⟩
  · rw [if_neg c2] at H
    have c2b0 : (a0.toList == ([] : List UInt8)) = false := beq_eq_false_iff_ne.mpr c2
    have c2b1 : (a0.toList != ([] : List UInt8)) = true := bne_iff_ne.mpr c2
    replace H := Option.bind_eq_some_iff.mp H
    obtain ⟨t199, A30, H⟩ := H
    try dsimp only at H
    have A3 := Aside0.mk A30
    clear A30
    have H' := Aside0.mk H
    clear H
    go_enter Tryd.func76, Tryd.ntmps76
    go_wp2_with (first | ((with_reducible refine gate_callee (f := 70) rfl ?_); refine goesL_ (some 10) rfl rfl Tryd.func70 (by kernel_rfl) rfl #[.string a0, .string (⟨#[32]⟩ : ByteArray)] rfl au11 ?_; (with_reducible refine (strings_Split.calls (hG := au2) a0 (⟨#[32]⟩ : ByteArray) t199 _ A3.out).mono ?_); rintro e w4 ⟨v200, rfl, ho0, hb⟩; refine ⟨_, rfl, ?_⟩; have n0_ := Aside0.mk (Kd.R_lower ho0 (below_size au12)); have n1_ := Aside0.mk (below_step au12 hb); clear HB; have HO201 := n0_; have HB := n1_; clear n0_ n1_; (try clear hb); (try clear hb2); (try clear hk); (try clear hi); (try clear ho0); obtain ⟨Ao5, co5, eo5⟩ := Kd.R_slice HO201.out; subst eo5))
    go_loopg [13] k (fun kq v13 w' => ∃ (x13_1 : Int), v13 = .int .i64 x13_1 ∧ Aside0 (impl_isParticle.l0 kq t199 t199 (t199.length : Int) x13_1 = some r) ∧ Aside0 (kq ≤ k) ∧ Aside0 (Kd.R Kd.string 9 w' w.heap.size (fun _ => True) (.slice Ao5 t199.length co5) t199) ∧ Aside0 (Kd.R Kd.string 9 w' w.heap.size (fun _ => True) (.slice Ao5 t199.length co5) t199) ∧ Aside0 (Below w.heap.size w w'))
    case atStart => exact ⟨(0), au28, H', ⟨Nat.le_refl _⟩, ⟨by (with_reducible repeat (first | apply Kd.R_alloc | apply Kd.R_drewN | apply Kd.R_drew)); exact HO201.out⟩, ⟨by (with_reducible repeat (first | apply Kd.R_alloc | apply Kd.R_drewN | apply Kd.R_drew)); exact HO201.out⟩, ⟨by repeat (first | (with_reducible first | exact HB.out | apply below_alloc | apply pw_below_drewN | apply below_drew1) | exact HB.out)⟩⟩
    case round =>
      clear H'
      try clear c2
      try clear c2b0
      try clear c2b1
      try clear p2
      obtain ⟨x13_1, rfl, HA, HK1, HO_3, HO_11, HB⟩ := hrel
      cases gk with
      | zero => exact absurd HA.out (by simp [impl_isParticle.l0])
      | succ k1 =>
        have H := HA.out
        clear HA
        simp only [impl_isParticle.l0] at H
        by_cases c6 : x13_1 < (t199.length : Int)
        · rw [if_pos c6] at H
          have c6b0 : decide (x13_1 < (t199.length : Int)) = true := decide_eq_true c6
          clear c6
          by_cases c7 : 0 ≤ x13_1
          · rw [if_pos c7] at H
            have c7b0 : decide (0 ≤ x13_1) = true := decide_eq_true c7
            clear c7
            by_cases c8 : x13_1 < (t199.length : Int)
            · rw [if_pos c8] at H
              have c8b0 : decide (x13_1 < (t199.length : Int)) = true := decide_eq_true c8
              clear c8
              replace H := Option.bind_eq_some_iff.mp H
              obtain ⟨t203, A90, H⟩ := H
              try dsimp only at H
              have A9 := Aside0.mk A90
              clear A90
              by_cases c10 : t203 = true
              · subst c10
                replace H := (if_pos rfl).symm.trans H
                have H' := Aside0.mk H
                clear H
                have p202 : 0 ≤ (x13_1 : Int) := of_decide_eq_true au27
                have q202 : x13_1 < (t199.length : Int) := of_decide_eq_true au27
                obtain ⟨ad202, e202, hx202_0⟩ := Kd.at_string (Kd.R_reads' HO_11.out).2.2 x13_1 p202 q202
                cases e202
                replace p202 := eq_true p202
                replace q202 := eq_true q202
                go_wp2_with (first | ((with_reducible refine gate_callee (f := 106) rfl ?_); refine goesL_ (some 19) rfl rfl Tryd.func106 (by kernel_rfl) rfl #[.int .i64 ((rdOf ByteArray.empty t199 x13_1).size : Int), .int .i64 1, .int .i64 12] rfl au11 ?_; (with_reducible refine (impl_inside.calls ((rdOf ByteArray.empty t199 x13_1).size : Int) 1 12 true _ A9.out).mono ?_); rintro e w' ⟨rfl, ⟨nd, rfl⟩⟩; refine ⟨_, rfl, ?_⟩))
                go_loopg [6] k1 (fun kq v6 w' => ∃ (x6_2 : Int), v6 = .int .i64 x6_2 ∧ Aside0 (impl_isParticle.l1 kq t199 (rdOf ByteArray.empty t199 x13_1) x6_2 t199 (t199.length : Int) x13_1 = some r) ∧ Aside0 (kq ≤ k1) ∧ Aside0 (Kd.R Kd.string 9 w' w.heap.size (fun _ => True) (.slice (some ad202) t199.length co5) t199) ∧ Aside0 (Kd.R Kd.string 9 w' w.heap.size (fun _ => True) (.slice (some ad202) t199.length co5) t199) ∧ Aside0 (Below w.heap.size w w'))
                case atStart => exact ⟨(0), au28, H', ⟨Nat.le_refl _⟩, ⟨by (with_reducible repeat (first | apply Kd.R_alloc | apply Kd.R_drewN | apply Kd.R_drew)); exact HO_3.out⟩, ⟨by (with_reducible repeat (first | apply Kd.R_alloc | apply Kd.R_drewN | apply Kd.R_drew)); exact HO_11.out⟩, ⟨by repeat (first | (with_reducible first | exact HB.out | apply below_alloc | apply pw_below_drewN | apply below_drew1) | exact HB.out)⟩⟩
                case round =>
                  clear H'
                  try clear c1
                  try clear c2
                  try clear c2b0
                  try clear c2b1
                  try clear p2
                  try clear q2
                  try clear hx2
                  try clear c6
                  try clear c6b0
                  try clear c7
                  try clear c7b0
                  try clear c8
                  try clear c8b0
                  try clear c10
                  try clear hx202_0
                  try clear p2
                  try clear p202
                  try clear q202
                  obtain ⟨x6_2, rfl, HA, HK2, HO_3, HO_11, HB⟩ := hrel
                  cases gk with
                  | zero => exact absurd HA.out (by simp [impl_isParticle.l1])
                  | succ k2 =>
                    have H := HA.out
                    clear HA
                    simp only [impl_isParticle.l1] at H
                    by_cases c11 : x6_2 < ((rdOf ByteArray.empty t199 x13_1).size : Int)
                    · rw [if_pos c11] at H
                      have c11b0 : decide (x6_2 < ((rdOf ByteArray.empty t199 x13_1).size : Int)) = true := decide_eq_true c11
                      clear c11
                      by_cases c12 : 0 ≤ x6_2
                      · rw [if_pos c12] at H
                        have c12b0 : decide (0 ≤ x6_2) = true := decide_eq_true c12
                        clear c12
                        replace H := Option.bind_eq_some_iff.mp H
                        obtain ⟨t204, A140, H⟩ := H
                        try dsimp only at H
                        have A14 := Aside0.mk A140
                        clear A140
                        by_cases c15 : t204 = true
                        · subst c15
                          replace H := (if_pos rfl).symm.trans H
                          have H' := Aside0.mk H
                          clear H
                          have p13 : 0 ≤ (x6_2 : Int) := of_decide_eq_true au27
                          have q13 : x6_2 < ((rdOf ByteArray.empty t199 x13_1).size : Int) := of_decide_eq_true au27
                          have hx13 := bt_at (rdOf ByteArray.empty t199 x13_1) x6_2
                          replace p13 := eq_true p13
                          replace q13 := eq_true q13
                          go_wp2_with (first | ((with_reducible refine gate_callee (f := 131) rfl ?_); refine goesL_ (some 30) rfl rfl Tryd.func131 (by kernel_rfl) rfl #[.int .u8 (bt (rdOf ByteArray.empty t199 x13_1) x6_2)] rfl au11 ?_; (with_reducible refine (impl_isLower.calls (bt (rdOf ByteArray.empty t199 x13_1) x6_2) true _ A14.out).mono ?_); rintro e w' ⟨rfl, ⟨nd, rfl⟩⟩; refine ⟨_, rfl, ?_⟩))
                          go_roundg k2
                          case measure => have := HK1.out; have := HK2.out; omega
                          case rel => exact ⟨(wrap64 (x6_2 + 1)), au28, H', ⟨by have := HK1.out; have := HK2.out; omega⟩, ⟨by (with_reducible repeat (first | apply Kd.R_alloc | apply Kd.R_drewN | apply Kd.R_drew)); exact HO_3.out⟩, ⟨by (with_reducible repeat (first | apply Kd.R_alloc | apply Kd.R_drewN | apply Kd.R_drew)); exact HO_11.out⟩, ⟨by repeat (first | (with_reducible first | exact HB.out | apply below_alloc | apply pw_below_drewN | apply below_drew1) | exact HB.out)⟩⟩
                        · replace c15 := Bool.eq_false_iff.mpr c15
                          subst c15
                          replace H := (if_neg (show ¬ (false = true) by decide)).symm.trans H
                          obtain rfl := Option.some.inj H
                          have p13 : 0 ≤ (x6_2 : Int) := of_decide_eq_true au27
                          have q13 : x6_2 < ((rdOf ByteArray.empty t199 x13_1).size : Int) := of_decide_eq_true au27
                          have hx13 := bt_at (rdOf ByteArray.empty t199 x13_1) x6_2
                          replace p13 := eq_true p13
                          replace q13 := eq_true q13
                          go_wp2_with (first | ((with_reducible refine gate_callee (f := 131) rfl ?_); refine goesL_ (some 30) rfl rfl Tryd.func131 (by kernel_rfl) rfl #[.int .u8 (bt (rdOf ByteArray.empty t199 x13_1) x6_2)] rfl au11 ?_; (with_reducible refine (impl_isLower.calls (bt (rdOf ByteArray.empty t199 x13_1) x6_2) false _ A14.out).mono ?_); rintro e w' ⟨rfl, ⟨nd, rfl⟩⟩; refine ⟨_, rfl, ?_⟩))
                          go_ret
                          exact ⟨by first | rfl | (simp [errW_none, errW_some] <;> rfl) | (simp [*, errW_none, errW_some] <;> rfl), by repeat (first | (with_reducible first | exact HB.out | apply below_alloc | apply pw_below_drewN | apply below_drew1) | exact HB.out)⟩
                      · rw [if_neg c12] at H
                        exact absurd H (by simp)
                    · rw [if_neg c11] at H
                      have c11b0 : decide (x6_2 < ((rdOf ByteArray.empty t199 x13_1).size : Int)) = false := decide_eq_false c11
                      clear c11
                      have H' := Aside0.mk H
                      clear H
                      go_wp2
                      go_roundg k2
                      case measure => have := HK1.out; have := HK2.out; omega
                      case rel => exact ⟨(wrap64 (x13_1 + 1)), au28, H', ⟨by have := HK1.out; have := HK2.out; omega⟩, ⟨by (with_reducible repeat (first | apply Kd.R_alloc | apply Kd.R_drewN | apply Kd.R_drew)); exact HO_3.out⟩, ⟨by (with_reducible repeat (first | apply Kd.R_alloc | apply Kd.R_drewN | apply Kd.R_drew)); exact HO_11.out⟩, ⟨by repeat (first | (with_reducible first | exact HB.out | apply below_alloc | apply pw_below_drewN | apply below_drew1) | exact HB.out)⟩⟩
              · replace c10 := Bool.eq_false_iff.mpr c10
                subst c10
                replace H := (if_neg (show ¬ (false = true) by decide)).symm.trans H
                obtain rfl := Option.some.inj H
                have p202 : 0 ≤ (x13_1 : Int) := of_decide_eq_true au27
                have q202 : x13_1 < (t199.length : Int) := of_decide_eq_true au27
                obtain ⟨ad202, e202, hx202_0⟩ := Kd.at_string (Kd.R_reads' HO_11.out).2.2 x13_1 p202 q202
                cases e202
                replace p202 := eq_true p202
                replace q202 := eq_true q202
                go_wp2_with (first | ((with_reducible refine gate_callee (f := 106) rfl ?_); refine goesL_ (some 19) rfl rfl Tryd.func106 (by kernel_rfl) rfl #[.int .i64 ((rdOf ByteArray.empty t199 x13_1).size : Int), .int .i64 1, .int .i64 12] rfl au11 ?_; (with_reducible refine (impl_inside.calls ((rdOf ByteArray.empty t199 x13_1).size : Int) 1 12 false _ A9.out).mono ?_); rintro e w' ⟨rfl, ⟨nd, rfl⟩⟩; refine ⟨_, rfl, ?_⟩))
                go_ret
                exact ⟨by first | rfl | (simp [errW_none, errW_some] <;> rfl) | (simp [*, errW_none, errW_some] <;> rfl), by repeat (first | (with_reducible first | exact HB.out | apply below_alloc | apply pw_below_drewN | apply below_drew1) | exact HB.out)⟩
            · rw [if_neg c8] at H
              exact absurd H (by simp)
          · rw [if_neg c7] at H
            exact absurd H (by simp)
        · rw [if_neg c6] at H
          have c6b0 : decide (x13_1 < (t199.length : Int)) = false := decide_eq_false c6
          clear c6
          obtain rfl := Option.some.inj H
          go_wp2
          go_ret
          exact ⟨by first | rfl | (simp [errW_none, errW_some] <;> rfl) | (simp [*, errW_none, errW_some] <;> rfl), by repeat (first | (with_reducible first | exact HB.out | apply below_alloc | apply pw_below_drewN | apply below_drew1) | exact HB.out)⟩


/-! ### impl_IsValidName_1: function 74 -/
def impl_IsValidName_1.f (k : Nat) (a0 : ByteArray) : Option (Bool) := (impl_isGreatWord.f k a0).bind fun t209 => (some (!t209))
theorem impl_IsValidName_1.mono : ∀ a0 k, LeO (impl_IsValidName_1.f k a0) (impl_IsValidName_1.f (k + 1) a0) := by
  intro a0 k
  unfold impl_IsValidName_1.f
  repeat' first
      | (with_reducible exact impl_isGreatWord.mono _ _)
      | (with_reducible exact LeO.refl _)
      | (with_reducible exact LeO.none _)
      | (with_reducible refine LeO.ite ?_ ?_)
      | (with_reducible refine LeO.bind ?_ (fun _ => ?_))
      | exact impl_isGreatWord.mono _ _
      | exact LeO.none _
      | refine LeO.ite ?_ ?_
      | refine LeO.bind ?_ (fun _ => ?_)
set_option maxHeartbeats 8000000 in
set_option maxRecDepth 100000 in
theorem impl_IsValidName_1.calls (k : Nat) (a0 : ByteArray) (r : Bool) (w : World) (h : impl_IsValidName_1.f k a0 = some r) :
    Calls Tryd.prog 74 #[.string a0] w fun e w' => e = .returned (.bool r) ∧ Drawn0 w w' := by
  have H : ((impl_isGreatWord.f k a0).bind fun t209 => (some (!t209))) = some r := h
  clear h
  replace H := Option.bind_eq_some_iff.mp H
  obtain ⟨t209, A20, H⟩ := H
  try dsimp only at H
  have A2 := Aside0.mk A20
  clear A20
  obtain rfl := Option.some.inj H
  go_enter Tryd.func74, Tryd.ntmps74
  go_wp2_with (first | ((with_reducible refine gate_callee (f := 75) rfl ?_); refine goesL_ (some 4) rfl rfl Tryd.func75 (by kernel_rfl) rfl #[.string a0] rfl au11 ?_; (with_reducible refine (impl_isGreatWord.calls k a0 t209 _ A2.out).mono ?_); rintro e w' ⟨rfl, ⟨nd, rfl⟩⟩; refine ⟨_, rfl, ?_⟩))
  go_ret
  exact ⟨by first | rfl | (simp; done) | (simp [*]; done), by repeat (first | exact Drawn0.refl _ | apply Drawn0.step)⟩


/-! ### slices_IndexFunc_string_string_at_74: function 129 -/
def slices_IndexFunc_string_string_at_74.l0 : Nat → List ByteArray → Int → Int → Option (Int)
  | 0, _, _, _ => none
  | k + 1, x0, x7, x8 => if x8 < x7 then (if 0 ≤ x8 then (if x8 < (x0.length : Int) then ((impl_IsValidName_1.f k (rdOf ByteArray.empty x0 x8)).bind fun t200 => (if t200 = true then (some x8) else (slices_IndexFunc_string_string_at_74.l0 k x0 x7 (wrap64 (x8 + 1))))) else (none)) else (none)) else (some (-1))
def slices_IndexFunc_string_string_at_74.f (k : Nat) (l0 : List ByteArray)  : Option (Int) := slices_IndexFunc_string_string_at_74.l0 k l0 (l0.length : Int) 0
theorem slices_IndexFunc_string_string_at_74.mono_l : ∀ k, (∀ y0 y1 y2, LeO (slices_IndexFunc_string_string_at_74.l0 k y0 y1 y2) (slices_IndexFunc_string_string_at_74.l0 (k + 1) y0 y1 y2))
  | 0 => fun _ _ _ r h => by simp [slices_IndexFunc_string_string_at_74.l0] at h
  | k + 1 => by
    have ih0 := slices_IndexFunc_string_string_at_74.mono_l k
    · intro y0 y1 y2
      unfold slices_IndexFunc_string_string_at_74.l0
      repeat' first
      | (with_reducible exact ih0 _ _ _)
      | (with_reducible exact impl_IsValidName_1.mono _ _)
      | (with_reducible exact LeO.refl _)
      | (with_reducible exact LeO.none _)
      | (with_reducible refine LeO.ite ?_ ?_)
      | (with_reducible refine LeO.bind ?_ (fun _ => ?_))
      | exact ih0 _ _ _
      | exact impl_IsValidName_1.mono _ _
      | exact LeO.none _
      | refine LeO.ite ?_ ?_
      | refine LeO.bind ?_ (fun _ => ?_)
theorem slices_IndexFunc_string_string_at_74.mono : ∀ a0 k, LeO (slices_IndexFunc_string_string_at_74.f k a0) (slices_IndexFunc_string_string_at_74.f (k + 1) a0) := by
  intro a0 k
  have ih0 := slices_IndexFunc_string_string_at_74.mono_l k
  unfold slices_IndexFunc_string_string_at_74.f
  repeat' first
      | (with_reducible exact ih0 _ _ _)
      | (with_reducible exact impl_IsValidName_1.mono _ _)
      | (with_reducible exact LeO.refl _)
      | (with_reducible exact LeO.none _)
      | (with_reducible refine LeO.ite ?_ ?_)
      | (with_reducible refine LeO.bind ?_ (fun _ => ?_))
      | exact ih0 _ _ _
      | exact impl_IsValidName_1.mono _ _
      | exact LeO.none _
      | refine LeO.ite ?_ ?_
      | refine LeO.bind ?_ (fun _ => ?_)
set_option maxHeartbeats 8000000 in
set_option maxRecDepth 100000 in
theorem slices_IndexFunc_string_string_at_74.calls (k : Nat) (A0 : Option Addr) (c0 : Nat) (l0 : List ByteArray)  (r : Int) (w : World) (hr0 : Kd.C Kd.string w A0 l0.length l0) (hc0 : l0.length ≤ c0) (h : slices_IndexFunc_string_string_at_74.f k l0 = some r) :
    Calls Tryd.prog 129 #[.slice A0 l0.length c0, .func (.func 74) #[] #[]] w fun e w' => e = .returned (.int .i64 r) ∧ Drawn0 w w' := by
  have HR0 := Aside0.mk hr0
  have HC0 := Aside0.mk hc0
  clear hr0 hc0
  have H : (slices_IndexFunc_string_string_at_74.l0 k l0 (l0.length : Int) 0) = some r := h
  clear h
  have H' := Aside0.mk H
  clear H
  go_enter Tryd.func129, Tryd.ntmps129
  go_wp2
  go_loopg [8] k (fun kq v8 w' => ∃ (x8_1 : Int), v8 = .int .i64 x8_1 ∧ Aside0 (slices_IndexFunc_string_string_at_74.l0 kq l0 (l0.length : Int) x8_1 = some r) ∧ Aside0 (kq ≤ k) ∧ Drawn0 w w')
  case atStart => exact ⟨(0), au28, H', ⟨Nat.le_refl _⟩, by repeat (first | exact Drawn0.refl _ | apply Drawn0.step)⟩
  case round =>
    clear H'
    try clear p2
    obtain ⟨x8_1, rfl, HA, HK1, ⟨m1, rfl⟩⟩ := hrel
    cases gk with
    | zero => exact absurd HA.out (by simp [slices_IndexFunc_string_string_at_74.l0])
    | succ k1 =>
      have H := HA.out
      clear HA
      simp only [slices_IndexFunc_string_string_at_74.l0] at H
      by_cases c3 : x8_1 < (l0.length : Int)
      · rw [if_pos c3] at H
        have c3b0 : decide (x8_1 < (l0.length : Int)) = true := decide_eq_true c3
        clear c3
        by_cases c4 : 0 ≤ x8_1
        · rw [if_pos c4] at H
          have c4b0 : decide (0 ≤ x8_1) = true := decide_eq_true c4
          clear c4
          by_cases c5 : x8_1 < (l0.length : Int)
          · rw [if_pos c5] at H
            have c5b0 : decide (x8_1 < (l0.length : Int)) = true := decide_eq_true c5
            clear c5
            replace H := Option.bind_eq_some_iff.mp H
            obtain ⟨t200, A60, H⟩ := H
            try dsimp only at H
            have A6 := Aside0.mk A60
            clear A60
            by_cases c7 : t200 = true
            · subst c7
              replace H := (if_pos rfl).symm.trans H
              obtain rfl := Option.some.inj H
              have p199 : 0 ≤ (x8_1 : Int) := of_decide_eq_true au27
              have q199 : x8_1 < (l0.length : Int) := of_decide_eq_true au27
              obtain ⟨ad199, e199, hx199_0⟩ := Kd.at_string HR0.out x8_1 p199 q199
              cases e199
              replace p199 := eq_true p199
              replace q199 := eq_true q199
              go_wp2_with (first | ((with_reducible refine gate_tmp (t := 11) rfl ?_); refine goesLt_ (t := 11) (show _ = Value.func (.func 74) #[] #[] from rfl) (some 16) rfl rfl Tryd.func74 (by kernel_rfl) rfl #[.string (rdOf ByteArray.empty l0 x8_1)] rfl au11 ?_; (with_reducible refine (impl_IsValidName_1.calls k1 (rdOf ByteArray.empty l0 x8_1) true _ A6.out).mono ?_); rintro e w' ⟨rfl, ⟨nd, rfl⟩⟩; refine ⟨_, rfl, ?_⟩))
              go_ret
              exact ⟨by first | rfl | (simp; done) | (simp [*]; done), by repeat (first | exact Drawn0.refl _ | apply Drawn0.step)⟩
            · replace c7 := Bool.eq_false_iff.mpr c7
              subst c7
              replace H := (if_neg (show ¬ (false = true) by decide)).symm.trans H
              have H' := Aside0.mk H
              clear H
              have p199 : 0 ≤ (x8_1 : Int) := of_decide_eq_true au27
              have q199 : x8_1 < (l0.length : Int) := of_decide_eq_true au27
              obtain ⟨ad199, e199, hx199_0⟩ := Kd.at_string HR0.out x8_1 p199 q199
              cases e199
              replace p199 := eq_true p199
              replace q199 := eq_true q199
              go_wp2_with (first | ((with_reducible refine gate_tmp (t := 11) rfl ?_); refine goesLt_ (t := 11) (show _ = Value.func (.func 74) #[] #[] from rfl) (some 16) rfl rfl Tryd.func74 (by kernel_rfl) rfl #[.string (rdOf ByteArray.empty l0 x8_1)] rfl au11 ?_; (with_reducible refine (impl_IsValidName_1.calls k1 (rdOf ByteArray.empty l0 x8_1) false _ A6.out).mono ?_); rintro e w' ⟨rfl, ⟨nd, rfl⟩⟩; refine ⟨_, rfl, ?_⟩))
              go_roundg k1
              case measure => have := HK1.out; omega
              case rel => exact ⟨(wrap64 (x8_1 + 1)), au28, H', ⟨by have := HK1.out; omega⟩, by repeat (first | exact Drawn0.refl _ | apply Drawn0.step)⟩
          · rw [if_neg c5] at H
            exact absurd H (by simp)
        · rw [if_neg c4] at H
          exact absurd H (by simp)
      · rw [if_neg c3] at H
        have c3b0 : decide (x8_1 < (l0.length : Int)) = false := decide_eq_false c3
        clear c3
        obtain rfl := Option.some.inj H
        go_wp2
        go_ret
        exact ⟨by first | rfl | (simp; done) | (simp [*]; done), by repeat (first | exact Drawn0.refl _ | apply Drawn0.step)⟩


/-! ### slices_ContainsFunc_string_string_at_74: function 73 -/
def slices_ContainsFunc_string_string_at_74.f (k : Nat) (l0 : List ByteArray)  : Option (Bool) := (slices_IndexFunc_string_string_at_74.f k l0).bind fun t201 => (some (decide (t201 ≥ 0)))
theorem slices_ContainsFunc_string_string_at_74.mono : ∀ a0 k, LeO (slices_ContainsFunc_string_string_at_74.f k a0) (slices_ContainsFunc_string_string_at_74.f (k + 1) a0) := by
  intro a0 k
  unfold slices_ContainsFunc_string_string_at_74.f
  repeat' first
      | (with_reducible exact slices_IndexFunc_string_string_at_74.mono _ _)
      | (with_reducible exact LeO.refl _)
      | (with_reducible exact LeO.none _)
      | (with_reducible refine LeO.ite ?_ ?_)
      | (with_reducible refine LeO.bind ?_ (fun _ => ?_))
      | exact slices_IndexFunc_string_string_at_74.mono _ _
      | exact LeO.none _
      | refine LeO.ite ?_ ?_
      | refine LeO.bind ?_ (fun _ => ?_)
set_option maxHeartbeats 8000000 in
set_option maxRecDepth 100000 in
theorem slices_ContainsFunc_string_string_at_74.calls (k : Nat) (A0 : Option Addr) (c0 : Nat) (l0 : List ByteArray)  (r : Bool) (w : World) (hr0 : Kd.C Kd.string w A0 l0.length l0) (hc0 : l0.length ≤ c0) (h : slices_ContainsFunc_string_string_at_74.f k l0 = some r) :
    Calls Tryd.prog 73 #[.slice A0 l0.length c0, .func (.func 74) #[] #[]] w fun e w' => e = .returned (.bool r) ∧ Drawn0 w w' := by
  have HR0 := Aside0.mk hr0
  have HC0 := Aside0.mk hc0
  clear hr0 hc0
  have H : ((slices_IndexFunc_string_string_at_74.f k l0).bind fun t201 => (some (decide (t201 ≥ 0)))) = some r := h
  clear h
  replace H := Option.bind_eq_some_iff.mp H
  obtain ⟨t201, A30, H⟩ := H
  try dsimp only at H
  have A3 := Aside0.mk A30
  clear A30
  obtain rfl := Option.some.inj H
  go_enter Tryd.func73, Tryd.ntmps73
  go_wp2_with (first | ((with_reducible refine gate_callee (f := 129) rfl ?_); refine goesL_ (some 7) rfl rfl Tryd.func129 (by kernel_rfl) rfl #[.slice A0 l0.length c0, .func (.func 74) #[] #[]] rfl au11 ?_; (with_reducible refine (slices_IndexFunc_string_string_at_74.calls k _ _ l0  t201 _ ?side1 ?side2 A3.out).mono ?_); (case side1 => repeat (first | exact HR0.out | (with_reducible refine Kd.C_alloc ?_ _) | (with_reducible refine Kd.C_drewN ?_ _) | (with_reducible refine Kd.C_drew ?_))); (case side2 => exact HC0.out); rintro e w' ⟨rfl, ⟨nd, rfl⟩⟩; refine ⟨_, rfl, ?_⟩))
  go_ret
  exact ⟨by first | rfl | (simp; done) | (simp [*]; done), by repeat (first | exact Drawn0.refl _ | apply Drawn0.step)⟩


/-! ### impl_IsValidName: function 22 -/
def impl_IsValidName.j0 : Nat → Bool → List ByteArray → ByteArray → ByteArray → ByteArray → Option (Bool)
  | 0, _, _, _, _, _ => none
  | k + 1, x11, x206000, x206001, x206002, x206003 => if x11 = true then (some false) else ((impl_isParticle.f k x206001).bind fun t207 => (if t207 = true then ((impl_isGreatWord.f k x206002).bind fun t208 => (if t208 = true then (if x206003.toList = ([] : List UInt8) then (some true) else ((impl_isNameWord.f k x206003).bind fun t209 => (some t209))) else (some false))) else (some false)))
def impl_IsValidName.f (k : Nat) (l0_0 : List ByteArray) (a0_1 : ByteArray) (a0_2 : ByteArray) (a0_3 : ByteArray) : Option (Bool) := if (l0_0.length : Int) > 3 then (impl_IsValidName.j0 k true l0_0 a0_1 a0_2 a0_3) else ((slices_ContainsFunc_string_string_at_74.f k l0_0).bind fun t206 => (impl_IsValidName.j0 k t206 l0_0 a0_1 a0_2 a0_3))
theorem impl_IsValidName.mono_l : ∀ k, (∀ y0 y1 y2 y3 y4, LeO (impl_IsValidName.j0 k y0 y1 y2 y3 y4) (impl_IsValidName.j0 (k + 1) y0 y1 y2 y3 y4))
  | 0 => fun _ _ _ _ _ r h => by simp [impl_IsValidName.j0] at h
  | k + 1 => by
    have ih0 := impl_IsValidName.mono_l k
    · intro y0 y1 y2 y3 y4
      unfold impl_IsValidName.j0
      repeat' first
      | (with_reducible exact ih0 _ _ _ _ _)
      | (with_reducible exact impl_isGreatWord.mono _ _)
      | (with_reducible exact impl_isNameWord.mono _ _)
      | (with_reducible exact impl_isParticle.mono _ _)
      | (with_reducible exact slices_ContainsFunc_string_string_at_74.mono _ _)
      | (with_reducible exact LeO.refl _)
      | (with_reducible exact LeO.none _)
      | (with_reducible refine LeO.ite ?_ ?_)
      | (with_reducible refine LeO.bind ?_ (fun _ => ?_))
      | exact ih0 _ _ _ _ _
      | exact impl_isGreatWord.mono _ _
      | exact impl_isNameWord.mono _ _
      | exact impl_isParticle.mono _ _
      | exact slices_ContainsFunc_string_string_at_74.mono _ _
      | exact LeO.none _
      | refine LeO.ite ?_ ?_
      | refine LeO.bind ?_ (fun _ => ?_)
theorem impl_IsValidName.mono : ∀ a0 a1 a2 a3 k, LeO (impl_IsValidName.f k a0 a1 a2 a3) (impl_IsValidName.f (k + 1) a0 a1 a2 a3) := by
  intro a0 a1 a2 a3 k
  have ih0 := impl_IsValidName.mono_l k
  unfold impl_IsValidName.f
  repeat' first
      | (with_reducible exact ih0 _ _ _ _ _)
      | (with_reducible exact impl_isGreatWord.mono _ _)
      | (with_reducible exact impl_isNameWord.mono _ _)
      | (with_reducible exact impl_isParticle.mono _ _)
      | (with_reducible exact slices_ContainsFunc_string_string_at_74.mono _ _)
      | (with_reducible exact LeO.refl _)
      | (with_reducible exact LeO.none _)
      | (with_reducible refine LeO.ite ?_ ?_)
      | (with_reducible refine LeO.bind ?_ (fun _ => ?_))
      | exact ih0 _ _ _ _ _
      | exact impl_isGreatWord.mono _ _
      | exact impl_isNameWord.mono _ _
      | exact impl_isParticle.mono _ _
      | exact slices_ContainsFunc_string_string_at_74.mono _ _
      | exact LeO.none _
      | refine LeO.ite ?_ ?_
      | refine LeO.bind ?_ (fun _ => ?_)
set_option maxRecDepth 100000 in
theorem impl_IsValidName.L0 {P : Prop} (h : P := by
    have hcz18_0 : wc.cell? ⟨gb205, 0, none⟩ = some (.slice A0_0 l0_0.length c0_0) := (blk_cell BK205.out 0).trans rfl
    have hcz18_1 : wc.cell? ⟨gb205, 1, none⟩ = some (.string a0_1) := (blk_cell BK205.out 1).trans rfl
    have hcz18_2 : wc.cell? ⟨gb205, 2, none⟩ = some (.string a0_2) := (blk_cell BK205.out 2).trans rfl
    have hcz18_3 : wc.cell? ⟨gb205, 3, none⟩ = some (.string a0_3) := (blk_cell BK205.out 3).trans rfl
    have hfz18_0 := blk_frozen BK205.out 0
    have hfz18_1 := blk_frozen BK205.out 1
    have hfz18_2 := blk_frozen BK205.out 2
    have hfz18_3 := blk_frozen BK205.out 3
    go_wp2_with (first | ((with_reducible refine gate_callee (f := 76) rfl ?_); refine goesL_ (some 14) rfl rfl Tryd.func76 (by kernel_rfl) rfl #[.string a0_1] rfl au11 ?_; (with_reducible refine (impl_isParticle.calls (hG := au2) kj1 a0_1 _ _ A9.out).mono ?_); rintro e w19 ⟨rfl, hb⟩; refine ⟨_, rfl, ?_⟩; have n0_ := Aside0.mk (blk_below (g := gb205) (o := .cells #[.slice A0_0 l0_0.length c0_0, .string a0_1, .string a0_2, .string a0_3] 34 (0, 0)) (by (with_reducible repeat (first | refine blk_drewN ?_ _ | refine blk_drew ?_ | refine blk_alloc ?_ _)); exact BK205.out) hb); have n1_ := Aside0.mk (below_step (by repeat (first | (with_reducible first | exact HB.out | apply below_alloc | apply pw_below_drewN | apply below_drew1 | refine below_set ?_ GE205.out) | exact HB.out)) hb); clear BK205; clear HB; have BK205 := n0_; have HB := n1_; clear n0_ n1_; (try clear hb); (try clear hb2); (try clear hk); (try clear hi); have hcz20_0 : w19.cell? ⟨gb205, 0, none⟩ = some (.slice A0_0 l0_0.length c0_0) := (blk_cell BK205.out 0).trans rfl; have hcz20_1 : w19.cell? ⟨gb205, 1, none⟩ = some (.string a0_1) := (blk_cell BK205.out 1).trans rfl; have hcz20_2 : w19.cell? ⟨gb205, 2, none⟩ = some (.string a0_2) := (blk_cell BK205.out 2).trans rfl; have hcz20_3 : w19.cell? ⟨gb205, 3, none⟩ = some (.string a0_3) := (blk_cell BK205.out 3).trans rfl; have hfz20_0 := blk_frozen BK205.out 0; have hfz20_1 := blk_frozen BK205.out 1; have hfz20_2 := blk_frozen BK205.out 2; have hfz20_3 := blk_frozen BK205.out 3) | (go_at_call 75; (with_reducible refine (impl_isGreatWord.calls kj1 a0_2 _ _ A11.out).mono ?_); rintro e w' ⟨rfl, ⟨nd, rfl⟩⟩) | (go_at_call 77; (with_reducible refine (impl_isNameWord.calls kj1 a0_3 t209 _ A17.out).mono ?_); rintro e w' ⟨rfl, ⟨nd, rfl⟩⟩))
    go_ret
    exact ⟨by first | rfl | (simp [errW_none, errW_some] <;> rfl) | (simp [*, errW_none, errW_some] <;> rfl), by repeat (first | (with_reducible first | exact HB.out | apply below_alloc | apply pw_below_drewN | apply below_drew1 | refine below_set ?_ GE205.out) | exact HB.out)⟩) : P := h
set_option maxHeartbeats 8000000 in
set_option maxRecDepth 100000 in
theorem impl_IsValidName.calls (k : Nat) (A0_0 : Option Addr) (c0_0 : Nat) (l0_0 : List ByteArray) (a0_1 : ByteArray) (a0_2 : ByteArray) (a0_3 : ByteArray) (r : Bool) (w : World) {gF1 gF2 gF3 : Bool} (hG : GL gF1 gF2 gF3 w) (hr0_0 : Kd.C Kd.string w A0_0 l0_0.length l0_0) (hc0_0 : l0_0.length ≤ c0_0) (h : impl_IsValidName.f k l0_0 a0_1 a0_2 a0_3 = some r) :
    Calls Tryd.prog 22 #[.agg #[.slice A0_0 l0_0.length c0_0, .string a0_1, .string a0_2, .string a0_3]] w fun e w' => e = .returned (.bool r) ∧ Below w.heap.size w w' := by
  have HG := Aside0.mk hG
  clear hG
  have hu34 := Tryd.underlying34
  have HR0_0 := Aside0.mk hr0_0
  have HC0_0 := Aside0.mk hc0_0
  clear hr0_0 hc0_0
  have HB := Aside0.mk (Below.refl w.heap.size w)
  have H : (if (l0_0.length : Int) > 3 then (impl_IsValidName.j0 k true l0_0 a0_1 a0_2 a0_3) else ((slices_ContainsFunc_string_string_at_74.f k l0_0).bind fun t206 => (impl_IsValidName.j0 k t206 l0_0 a0_1 a0_2 a0_3))) = some r := h
  clear h
  have HC2 := Aside0.mk H
  clear H
  go_enter Tryd.func22, Tryd.ntmps22
  go_upto_region 1 with (first | ((with_reducible refine gate_dst (N := 1) rfl ?_); refine box_event ?hg (N := 1) ?hd (cs := #[.slice A0_0 l0_0.length c0_0, .string a0_1, .string a0_2, .string a0_3]) (t := 34) ?hr ?_; (case hd => rfl); (case hg => rfl); (case hr => first | (go_simp; done) | (go_simp; rfl)); intro gb205 hg w3 hbox hb; have n0_ := Aside0.mk (below_step au12 hb); have n1_ := Aside0.mk (hbox); have n2_ := Aside0.mk ((by rw [hg]; exact (below_size au12) : w.heap.size ≤ gb205)); have n3_ := Aside0.mk ((by rw [hg]; exact (below_size au12) : w.heap.size ≤ gb205)); clear HB; have HB := n0_; have BK205 := n1_; have GW205 := n2_; have GE205 := n3_; clear n0_ n1_ n2_ n3_; clear hb hbox hg))
  (try simp only [Act.put, List.setIfInBounds_toArray, List.set_cons_zero, List.set_cons_succ])
  go_cut [11] (fun v11 wc => ∃ (kq : Nat) (x11_1 : Bool), v11 = .bool x11_1 ∧ Aside0 (impl_IsValidName.j0 kq x11_1 l0_0 a0_1 a0_2 a0_3 = some r) ∧ Aside0 (kq ≤ k) ∧ Aside0 (wc.heap[gb205]? = some (.cells #[(.slice A0_0 l0_0.length c0_0), .string a0_1, .string a0_2, .string a0_3] 34 (0, 0))) ∧ Aside0 (Below w.heap.size w wc))
  case first =>
    have H := HC2.out
    clear HC2
    by_cases c4 : (l0_0.length : Int) > 3
    · rw [if_pos c4] at H
      have c4b0 : decide (3 < (l0_0.length : Int)) = true := decide_eq_true c4
      have c4b1 : decide (3 < l0_0.length) = true := decide_eq_true (by omega)
      clear c4
      (first | rw [c4b0] | (simp only [i64_w, i32_w]; rw [c4b0]) | skip)
      have H' := Aside0.mk H
      clear H
      have hcz5_0 : w3.cell? ⟨gb205, 0, none⟩ = some (.slice A0_0 l0_0.length c0_0) := (blk_cell BK205.out 0).trans rfl
      have hcz5_1 : w3.cell? ⟨gb205, 1, none⟩ = some (.string a0_1) := (blk_cell BK205.out 1).trans rfl
      have hcz5_2 : w3.cell? ⟨gb205, 2, none⟩ = some (.string a0_2) := (blk_cell BK205.out 2).trans rfl
      have hcz5_3 : w3.cell? ⟨gb205, 3, none⟩ = some (.string a0_3) := (blk_cell BK205.out 3).trans rfl
      have hfz5_0 := blk_frozen BK205.out 0
      have hfz5_1 := blk_frozen BK205.out 1
      have hfz5_2 := blk_frozen BK205.out 2
      have hfz5_3 := blk_frozen BK205.out 3
      go_wp2
      go_meet
      case rel => exact ⟨_, (true), au28, H', ⟨by first | omega | exact Nat.le_refl _⟩, ⟨by (with_reducible repeat (first | refine blk_drewN ?_ _ | refine blk_drew ?_ | refine blk_alloc ?_ _)); exact BK205.out⟩, ⟨by repeat (first | (with_reducible first | exact HB.out | apply below_alloc | apply pw_below_drewN | apply below_drew1 | refine below_set ?_ GE205.out) | exact HB.out)⟩⟩
    · rw [if_neg c4] at H
      have c4b0 : decide (3 < (l0_0.length : Int)) = false := decide_eq_false c4
      have c4b1 : decide (3 < l0_0.length) = false := decide_eq_false (by omega)
      clear c4
      (first | rw [c4b0] | (simp only [i64_w, i32_w]; rw [c4b0]) | skip)
      replace H := Option.bind_eq_some_iff.mp H
      obtain ⟨t206, A60, H⟩ := H
      try dsimp only at H
      have A6 := Aside0.mk A60
      clear A60
      have H' := Aside0.mk H
      clear H
      have hcz7_0 : w3.cell? ⟨gb205, 0, none⟩ = some (.slice A0_0 l0_0.length c0_0) := (blk_cell BK205.out 0).trans rfl
      have hcz7_1 : w3.cell? ⟨gb205, 1, none⟩ = some (.string a0_1) := (blk_cell BK205.out 1).trans rfl
      have hcz7_2 : w3.cell? ⟨gb205, 2, none⟩ = some (.string a0_2) := (blk_cell BK205.out 2).trans rfl
      have hcz7_3 : w3.cell? ⟨gb205, 3, none⟩ = some (.string a0_3) := (blk_cell BK205.out 3).trans rfl
      have hfz7_0 := blk_frozen BK205.out 0
      have hfz7_1 := blk_frozen BK205.out 1
      have hfz7_2 := blk_frozen BK205.out 2
      have hfz7_3 := blk_frozen BK205.out 3
      go_wp2_with (first | (go_at_call 73; (with_reducible refine (slices_ContainsFunc_string_string_at_74.calls k _ _ l0_0  t206 _ ?side1 ?side2 A6.out).mono ?_); (case side1 => repeat (first | exact (Kd.C_below HR0_0.out HB.out) | (with_reducible refine Kd.C_alloc ?_ _) | (with_reducible refine Kd.C_drewN ?_ _) | (with_reducible refine Kd.C_drew ?_))); (case side2 => exact HC0_0.out); rintro e w' ⟨rfl, ⟨nd, rfl⟩⟩))
      go_meet
      case rel => exact ⟨_, (t206), au28, H', ⟨by first | omega | exact Nat.le_refl _⟩, ⟨by (with_reducible repeat (first | refine blk_drewN ?_ _ | refine blk_drew ?_ | refine blk_alloc ?_ _)); exact BK205.out⟩, ⟨by repeat (first | (with_reducible first | exact HB.out | apply below_alloc | apply pw_below_drewN | apply below_drew1 | refine below_set ?_ GE205.out) | exact HB.out)⟩⟩
  case rest =>
    clear HC2
    try clear c2
    try clear p2
    try clear c4
    try clear c4b0
    try clear c4b1
    try clear hcz5_0
    try clear hcz5_1
    try clear hcz5_2
    try clear hcz5_3
    try clear hcz7_0
    try clear hcz7_1
    try clear hcz7_2
    try clear hcz7_3
    try clear hfz5_0
    try clear hfz5_1
    try clear hfz5_2
    try clear hfz5_3
    try clear hfz7_0
    try clear hfz7_1
    try clear hfz7_2
    try clear hfz7_3
    obtain ⟨kq, x11_1, rfl, HA, HJ1, BK205, HB⟩ := hcut
    cases kq with
    | zero => exact absurd HA.out (by simp [impl_IsValidName.j0])
    | succ kj1 =>
      have H := HA.out
      clear HA
      simp only [impl_IsValidName.j0] at H
      by_cases c8 : x11_1 = true
      · subst c8
        replace H := (if_pos rfl).symm.trans H
        obtain rfl := Option.some.inj H
        go_wp2
        go_ret
        exact ⟨by first | rfl | (simp [errW_none, errW_some] <;> rfl) | (simp [*, errW_none, errW_some] <;> rfl), by repeat (first | (with_reducible first | exact HB.out | apply below_alloc | apply pw_below_drewN | apply below_drew1 | refine below_set ?_ GE205.out) | exact HB.out)⟩
      · replace c8 := Bool.eq_false_iff.mpr c8
        subst c8
        replace H := (if_neg (show ¬ (false = true) by decide)).symm.trans H
        replace H := Option.bind_eq_some_iff.mp H
        obtain ⟨t207, A90, H⟩ := H
        try dsimp only at H
        have A9 := Aside0.mk A90
        clear A90
        by_cases c10 : t207 = true
        · subst c10
          replace H := (if_pos rfl).symm.trans H
          replace H := Option.bind_eq_some_iff.mp H
          obtain ⟨t208, A110, H⟩ := H
          try dsimp only at H
          have A11 := Aside0.mk A110
          clear A110
          by_cases c12 : t208 = true
          · subst c12
            replace H := (if_pos rfl).symm.trans H
            by_cases c13 : a0_3.toList = ([] : List UInt8)
            · rw [if_pos c13] at H
              have c13b0 : (a0_3.toList == ([] : List UInt8)) = true := beq_iff_eq.mpr c13
              have c13b1 : (a0_3.toList != ([] : List UInt8)) = false := bne_eq_false_iff_eq.mpr c13
              clear c13
              obtain rfl := Option.some.inj H
              exact impl_IsValidName.L0
            · rw [if_neg c13] at H
              have c13b0 : (a0_3.toList == ([] : List UInt8)) = false := beq_eq_false_iff_ne.mpr c13
              have c13b1 : (a0_3.toList != ([] : List UInt8)) = true := bne_iff_ne.mpr c13
              replace H := Option.bind_eq_some_iff.mp H
              obtain ⟨t209, A170, H⟩ := H
              try dsimp only at H
              have A17 := Aside0.mk A170
              clear A170
              obtain rfl := Option.some.inj H
              exact impl_IsValidName.L0
          · replace c12 := Bool.eq_false_iff.mpr c12
            subst c12
            replace H := (if_neg (show ¬ (false = true) by decide)).symm.trans H
            obtain rfl := Option.some.inj H
            exact impl_IsValidName.L0
        · replace c10 := Bool.eq_false_iff.mpr c10
          subst c10
          replace H := (if_neg (show ¬ (false = true) by decide)).symm.trans H
          obtain rfl := Option.some.inj H
          have hcz24_0 : wc.cell? ⟨gb205, 0, none⟩ = some (.slice A0_0 l0_0.length c0_0) := (blk_cell BK205.out 0).trans rfl
          have hcz24_1 : wc.cell? ⟨gb205, 1, none⟩ = some (.string a0_1) := (blk_cell BK205.out 1).trans rfl
          have hcz24_2 : wc.cell? ⟨gb205, 2, none⟩ = some (.string a0_2) := (blk_cell BK205.out 2).trans rfl
          have hcz24_3 : wc.cell? ⟨gb205, 3, none⟩ = some (.string a0_3) := (blk_cell BK205.out 3).trans rfl
          have hfz24_0 := blk_frozen BK205.out 0
          have hfz24_1 := blk_frozen BK205.out 1
          have hfz24_2 := blk_frozen BK205.out 2
          have hfz24_3 := blk_frozen BK205.out 3
          go_wp2_with (first | ((with_reducible refine gate_callee (f := 76) rfl ?_); refine goesL_ (some 14) rfl rfl Tryd.func76 (by kernel_rfl) rfl #[.string a0_1] rfl au11 ?_; (with_reducible refine (impl_isParticle.calls (hG := au2) kj1 a0_1 _ _ A9.out).mono ?_); rintro e w25 ⟨rfl, hb⟩; refine ⟨_, rfl, ?_⟩; have n0_ := Aside0.mk (blk_below (g := gb205) (o := .cells #[.slice A0_0 l0_0.length c0_0, .string a0_1, .string a0_2, .string a0_3] 34 (0, 0)) (by (with_reducible repeat (first | refine blk_drewN ?_ _ | refine blk_drew ?_ | refine blk_alloc ?_ _)); exact BK205.out) hb); have n1_ := Aside0.mk (below_step (by repeat (first | (with_reducible first | exact HB.out | apply below_alloc | apply pw_below_drewN | apply below_drew1 | refine below_set ?_ GE205.out) | exact HB.out)) hb); clear BK205; clear HB; have BK205 := n0_; have HB := n1_; clear n0_ n1_; (try clear hb); (try clear hb2); (try clear hk); (try clear hi)))
          go_ret
          exact ⟨by first | rfl | (simp [errW_none, errW_some] <;> rfl) | (simp [*, errW_none, errW_some] <;> rfl), by repeat (first | (with_reducible first | exact HB.out | apply below_alloc | apply pw_below_drewN | apply below_drew1 | refine below_set ?_ GE205.out) | exact HB.out)⟩


/-! ### impl_areNames_1: function 119 -/
def impl_areNames_1.f (k : Nat) (l0_0 : List ByteArray) (a0_1 : ByteArray) (a0_2 : ByteArray) (a0_3 : ByteArray) : Option (Bool) := (impl_IsValidName.f k l0_0 a0_1 a0_2 a0_3).bind fun t211 => (some (!t211))
theorem impl_areNames_1.mono : ∀ a0 a1 a2 a3 k, LeO (impl_areNames_1.f k a0 a1 a2 a3) (impl_areNames_1.f (k + 1) a0 a1 a2 a3) := by
  intro a0 a1 a2 a3 k
  unfold impl_areNames_1.f
  repeat' first
      | (with_reducible exact impl_IsValidName.mono _ _ _ _ _)
      | (with_reducible exact LeO.refl _)
      | (with_reducible exact LeO.none _)
      | (with_reducible refine LeO.ite ?_ ?_)
      | (with_reducible refine LeO.bind ?_ (fun _ => ?_))
      | exact impl_IsValidName.mono _ _ _ _ _
      | exact LeO.none _
      | refine LeO.ite ?_ ?_
      | refine LeO.bind ?_ (fun _ => ?_)
set_option maxHeartbeats 8000000 in
set_option maxRecDepth 100000 in
theorem impl_areNames_1.calls (k : Nat) (A0_0 : Option Addr) (c0_0 : Nat) (l0_0 : List ByteArray) (a0_1 : ByteArray) (a0_2 : ByteArray) (a0_3 : ByteArray) (r : Bool) (w : World) {gF1 gF2 gF3 : Bool} (hG : GL gF1 gF2 gF3 w) (hr0_0 : Kd.C Kd.string w A0_0 l0_0.length l0_0) (hc0_0 : l0_0.length ≤ c0_0) (h : impl_areNames_1.f k l0_0 a0_1 a0_2 a0_3 = some r) :
    Calls Tryd.prog 119 #[.agg #[.slice A0_0 l0_0.length c0_0, .string a0_1, .string a0_2, .string a0_3]] w fun e w' => e = .returned (.bool r) ∧ Below w.heap.size w w' := by
  have HG := Aside0.mk hG
  clear hG
  have hu34 := Tryd.underlying34
  have HR0_0 := Aside0.mk hr0_0
  have HC0_0 := Aside0.mk hc0_0
  clear hr0_0 hc0_0
  have HB := Aside0.mk (Below.refl w.heap.size w)
  have H : ((impl_IsValidName.f k l0_0 a0_1 a0_2 a0_3).bind fun t211 => (some (!t211))) = some r := h
  clear h
  replace H := Option.bind_eq_some_iff.mp H
  obtain ⟨t211, A20, H⟩ := H
  try dsimp only at H
  have A2 := Aside0.mk A20
  clear A20
  obtain rfl := Option.some.inj H
  go_enter Tryd.func119, Tryd.ntmps119
  go_wp2_with (first | ((with_reducible refine gate_dst (N := 1) rfl ?_); refine box_event ?hg (N := 1) ?hd (cs := #[.slice A0_0 l0_0.length c0_0, .string a0_1, .string a0_2, .string a0_3]) (t := 34) ?hr ?_; (case hd => rfl); (case hg => rfl); (case hr => first | (go_simp; done) | (go_simp; rfl)); intro gb210 hg w3 hbox hb; have n0_ := Aside0.mk (below_step au12 hb); have n1_ := Aside0.mk (hbox); have n2_ := Aside0.mk ((by rw [hg]; exact (below_size au12) : w.heap.size ≤ gb210)); have n3_ := Aside0.mk ((by rw [hg]; exact (below_size au12) : w.heap.size ≤ gb210)); clear HB; have HB := n0_; have BK210 := n1_; have GW210 := n2_; have GE210 := n3_; clear n0_ n1_ n2_ n3_; clear hb hbox hg; have hcz4_0 : w3.cell? ⟨gb210, 0, none⟩ = some (.slice A0_0 l0_0.length c0_0) := (blk_cell BK210.out 0).trans rfl; have hcz4_1 : w3.cell? ⟨gb210, 1, none⟩ = some (.string a0_1) := (blk_cell BK210.out 1).trans rfl; have hcz4_2 : w3.cell? ⟨gb210, 2, none⟩ = some (.string a0_2) := (blk_cell BK210.out 2).trans rfl; have hcz4_3 : w3.cell? ⟨gb210, 3, none⟩ = some (.string a0_3) := (blk_cell BK210.out 3).trans rfl; have hfz4_0 := blk_frozen BK210.out 0; have hfz4_1 := blk_frozen BK210.out 1; have hfz4_2 := blk_frozen BK210.out 2; have hfz4_3 := blk_frozen BK210.out 3) | ((with_reducible refine gate_callee (f := 22) rfl ?_); refine goesL_ (some 4) rfl rfl Tryd.func22 (by kernel_rfl) rfl #[.agg #[.slice A0_0 l0_0.length c0_0, .string a0_1, .string a0_2, .string a0_3]] rfl au11 ?_; (with_reducible refine (impl_IsValidName.calls (hG := au2) k _ _ l0_0 a0_1 a0_2 a0_3 t211 _ ?side1 ?side2 A2.out).mono ?_); (case side1 => repeat (first | exact (Kd.C_below HR0_0.out HB.out) | (with_reducible refine Kd.C_alloc ?_ _) | (with_reducible refine Kd.C_drewN ?_ _) | (with_reducible refine Kd.C_drew ?_))); (case side2 => exact HC0_0.out); rintro e w5 ⟨rfl, hb⟩; refine ⟨_, rfl, ?_⟩; have n0_ := Aside0.mk (blk_below (g := gb210) (o := .cells #[.slice A0_0 l0_0.length c0_0, .string a0_1, .string a0_2, .string a0_3] 34 (0, 0)) (by (with_reducible repeat (first | refine blk_drewN ?_ _ | refine blk_drew ?_ | refine blk_alloc ?_ _)); exact BK210.out) hb); have n1_ := Aside0.mk (below_step (by repeat (first | (with_reducible first | exact HB.out | apply below_alloc | apply pw_below_drewN | apply below_drew1 | refine below_set ?_ GE210.out) | exact HB.out)) hb); clear BK210; clear HB; have BK210 := n0_; have HB := n1_; clear n0_ n1_; (try clear hb); (try clear hb2); (try clear hk); (try clear hi)))
  go_ret
  exact ⟨by first | rfl | (simp [errW_none, errW_some] <;> rfl) | (simp [*, errW_none, errW_some] <;> rfl), by repeat (first | (with_reducible first | exact HB.out | apply below_alloc | apply pw_below_drewN | apply below_drew1 | refine below_set ?_ GE210.out) | exact HB.out)⟩


/-! ### impl_Name_157_at_119: function 157 -/
def impl_Name_157_at_119.l0 : Nat → List (S34) → Int → Int → Option (Int)
  | 0, _, _, _ => none
  | k + 1, x0, x7, x8 => if x8 < x7 then (if 0 ≤ x8 then (if x8 < (x0.length : Int) then ((impl_areNames_1.f k ((rd_T34 x0 x8).f0) ((rd_T34 x0 x8).f1) ((rd_T34 x0 x8).f2) ((rd_T34 x0 x8).f3)).bind fun t200 => (if t200 = true then (some x8) else (impl_Name_157_at_119.l0 k x0 x7 (wrap64 (x8 + 1))))) else (none)) else (none)) else (some (-1))
def impl_Name_157_at_119.f (k : Nat) (l0 : List (S34))  : Option (Int) := impl_Name_157_at_119.l0 k l0 (l0.length : Int) 0
theorem impl_Name_157_at_119.mono_l : ∀ k, (∀ y0 y1 y2, LeO (impl_Name_157_at_119.l0 k y0 y1 y2) (impl_Name_157_at_119.l0 (k + 1) y0 y1 y2))
  | 0 => fun _ _ _ r h => by simp [impl_Name_157_at_119.l0] at h
  | k + 1 => by
    have ih0 := impl_Name_157_at_119.mono_l k
    · intro y0 y1 y2
      unfold impl_Name_157_at_119.l0
      repeat' first
      | (with_reducible exact ih0 _ _ _)
      | (with_reducible exact impl_areNames_1.mono _ _ _ _ _)
      | (with_reducible exact LeO.refl _)
      | (with_reducible exact LeO.none _)
      | (with_reducible refine LeO.ite ?_ ?_)
      | (with_reducible refine LeO.bind ?_ (fun _ => ?_))
      | exact ih0 _ _ _
      | exact impl_areNames_1.mono _ _ _ _ _
      | exact LeO.none _
      | refine LeO.ite ?_ ?_
      | refine LeO.bind ?_ (fun _ => ?_)
theorem impl_Name_157_at_119.mono : ∀ a0 k, LeO (impl_Name_157_at_119.f k a0) (impl_Name_157_at_119.f (k + 1) a0) := by
  intro a0 k
  have ih0 := impl_Name_157_at_119.mono_l k
  unfold impl_Name_157_at_119.f
  repeat' first
      | (with_reducible exact ih0 _ _ _)
      | (with_reducible exact impl_areNames_1.mono _ _ _ _ _)
      | (with_reducible exact LeO.refl _)
      | (with_reducible exact LeO.none _)
      | (with_reducible refine LeO.ite ?_ ?_)
      | (with_reducible refine LeO.bind ?_ (fun _ => ?_))
      | exact ih0 _ _ _
      | exact impl_areNames_1.mono _ _ _ _ _
      | exact LeO.none _
      | refine LeO.ite ?_ ?_
      | refine LeO.bind ?_ (fun _ => ?_)
set_option maxRecDepth 100000 in
theorem impl_Name_157_at_119.L0 {P : Prop} (h : P := by
    go_wp2_with (first | ((with_reducible refine gate_tmp (t := 11) rfl ?_); refine goesLt_ (t := 11) (show _ = Value.func (.func 119) #[] #[] from rfl) (some 16) rfl rfl Tryd.func119 (by kernel_rfl) rfl #[.agg #[.slice A199_0 ((rd_T34 l0 x8_1).f0).length c199_0, .string ((rd_T34 l0 x8_1).f1), .string ((rd_T34 l0 x8_1).f2), .string ((rd_T34 l0 x8_1).f3)]] rfl au11 ?_; (with_reducible refine (impl_areNames_1.calls (hG := au2) k1 _ _ ((rd_T34 l0 x8_1).f0) ((rd_T34 l0 x8_1).f1) ((rd_T34 l0 x8_1).f2) ((rd_T34 l0 x8_1).f3) _ _ ?side1 ?side2 A6.out).mono ?_); (case side1 => repeat (first | exact (Kd.C_below HR199_0.out HB.out) | (with_reducible refine Kd.C_alloc ?_ _) | (with_reducible refine Kd.C_drewN ?_ _) | (with_reducible refine Kd.C_drew ?_))); (case side2 => exact HC199_0.out); rintro e w8 ⟨rfl, hb⟩; refine ⟨_, rfl, ?_⟩; have n0_ := Aside0.mk (below_step au12 hb); clear HB; have HB := n0_; clear n0_; (try clear hb); (try clear hb2); (try clear hk); (try clear hi)))
    go_ret
    exact ⟨by first | rfl | (simp [errW_none, errW_some] <;> rfl) | (simp [*, errW_none, errW_some] <;> rfl), by repeat (first | (with_reducible first | exact HB.out | apply below_alloc | apply pw_below_drewN | apply below_drew1) | exact HB.out)⟩) : P := h
set_option maxHeartbeats 8000000 in
set_option maxRecDepth 100000 in
theorem impl_Name_157_at_119.calls (k : Nat) (A0 : Option Addr) (c0 : Nat) (l0 : List (S34))  (r : Int) (w : World) {gF1 gF2 gF3 : Bool} (hG : GL gF1 gF2 gF3 w) (hr0 : Kd.C k34 w A0 l0.length l0) (hc0 : l0.length ≤ c0) (h : impl_Name_157_at_119.f k l0 = some r) :
    Calls Tryd.prog 157 #[.slice A0 l0.length c0, .func (.func 119) #[] #[]] w fun e w' => e = .returned (.int .i64 r) ∧ Below w.heap.size w w' := by
  have HG := Aside0.mk hG
  clear hG
  have hu34 := Tryd.underlying34
  have HR0 := Aside0.mk hr0
  have HC0 := Aside0.mk hc0
  clear hr0 hc0
  have HB := Aside0.mk (Below.refl w.heap.size w)
  have H : (impl_Name_157_at_119.l0 k l0 (l0.length : Int) 0) = some r := h
  clear h
  have H' := Aside0.mk H
  clear H
  go_enter Tryd.func157, Tryd.ntmps157
  go_wp2
  go_loopg [8] k (fun kq v8 w' => ∃ (x8_1 : Int), v8 = .int .i64 x8_1 ∧ Aside0 (impl_Name_157_at_119.l0 kq l0 (l0.length : Int) x8_1 = some r) ∧ Aside0 (kq ≤ k) ∧ Aside0 (Below w.heap.size w w'))
  case atStart => exact ⟨(0), au28, H', ⟨Nat.le_refl _⟩, ⟨by repeat (first | (with_reducible first | exact HB.out | apply below_alloc | apply pw_below_drewN | apply below_drew1) | exact HB.out)⟩⟩
  case round =>
    clear H'
    try clear p2
    obtain ⟨x8_1, rfl, HA, HK1, HB⟩ := hrel
    cases gk with
    | zero => exact absurd HA.out (by simp [impl_Name_157_at_119.l0])
    | succ k1 =>
      have H := HA.out
      clear HA
      simp only [impl_Name_157_at_119.l0] at H
      by_cases c3 : x8_1 < (l0.length : Int)
      · rw [if_pos c3] at H
        have c3b0 : decide (x8_1 < (l0.length : Int)) = true := decide_eq_true c3
        clear c3
        by_cases c4 : 0 ≤ x8_1
        · rw [if_pos c4] at H
          have c4b0 : decide (0 ≤ x8_1) = true := decide_eq_true c4
          clear c4
          by_cases c5 : x8_1 < (l0.length : Int)
          · rw [if_pos c5] at H
            have c5b0 : decide (x8_1 < (l0.length : Int)) = true := decide_eq_true c5
            clear c5
            replace H := Option.bind_eq_some_iff.mp H
            obtain ⟨t200, A60, H⟩ := H
            try dsimp only at H
            have A6 := Aside0.mk A60
            clear A60
            by_cases c7 : t200 = true
            · subst c7
              replace H := (if_pos rfl).symm.trans H
              obtain rfl := Option.some.inj H
              have p199 : 0 ≤ (x8_1 : Int) := of_decide_eq_true au27
              have q199 : x8_1 < (l0.length : Int) := of_decide_eq_true au27
              obtain ⟨ad199, A199_0, c199_0, e199, hx199_0, hx199_1, hx199_2, hx199_3, hl199_0, hi199_0⟩ := at_T34 HR0.out x8_1 p199 q199
              cases e199
              replace hx199_0 := (HB.out.cell (World.block_lt_of_cell? w _ hx199_0)).trans hx199_0
              replace hx199_1 := (HB.out.cell (World.block_lt_of_cell? w _ hx199_1)).trans hx199_1
              replace hx199_2 := (HB.out.cell (World.block_lt_of_cell? w _ hx199_2)).trans hx199_2
              replace hx199_3 := (HB.out.cell (World.block_lt_of_cell? w _ hx199_3)).trans hx199_3
              have HR199_0 := Aside0.mk hi199_0
              have HC199_0 := Aside0.mk hl199_0
              clear hi199_0 hl199_0
              replace p199 := eq_true p199
              replace q199 := eq_true q199
              exact impl_Name_157_at_119.L0
            · replace c7 := Bool.eq_false_iff.mpr c7
              subst c7
              replace H := (if_neg (show ¬ (false = true) by decide)).symm.trans H
              have H' := Aside0.mk H
              clear H
              have p199 : 0 ≤ (x8_1 : Int) := of_decide_eq_true au27
              have q199 : x8_1 < (l0.length : Int) := of_decide_eq_true au27
              obtain ⟨ad199, A199_0, c199_0, e199, hx199_0, hx199_1, hx199_2, hx199_3, hl199_0, hi199_0⟩ := at_T34 HR0.out x8_1 p199 q199
              cases e199
              replace hx199_0 := (HB.out.cell (World.block_lt_of_cell? w _ hx199_0)).trans hx199_0
              replace hx199_1 := (HB.out.cell (World.block_lt_of_cell? w _ hx199_1)).trans hx199_1
              replace hx199_2 := (HB.out.cell (World.block_lt_of_cell? w _ hx199_2)).trans hx199_2
              replace hx199_3 := (HB.out.cell (World.block_lt_of_cell? w _ hx199_3)).trans hx199_3
              have HR199_0 := Aside0.mk hi199_0
              have HC199_0 := Aside0.mk hl199_0
              clear hi199_0 hl199_0
              replace p199 := eq_true p199
              replace q199 := eq_true q199
              go_wp2_with (first | ((with_reducible refine gate_tmp (t := 11) rfl ?_); refine goesLt_ (t := 11) (show _ = Value.func (.func 119) #[] #[] from rfl) (some 16) rfl rfl Tryd.func119 (by kernel_rfl) rfl #[.agg #[.slice A199_0 ((rd_T34 l0 x8_1).f0).length c199_0, .string ((rd_T34 l0 x8_1).f1), .string ((rd_T34 l0 x8_1).f2), .string ((rd_T34 l0 x8_1).f3)]] rfl au11 ?_; (with_reducible refine (impl_areNames_1.calls (hG := au2) k1 _ _ ((rd_T34 l0 x8_1).f0) ((rd_T34 l0 x8_1).f1) ((rd_T34 l0 x8_1).f2) ((rd_T34 l0 x8_1).f3) _ _ ?side1 ?side2 A6.out).mono ?_); (case side1 => repeat (first | exact (Kd.C_below HR199_0.out HB.out) | (with_reducible refine Kd.C_alloc ?_ _) | (with_reducible refine Kd.C_drewN ?_ _) | (with_reducible refine Kd.C_drew ?_))); (case side2 => exact HC199_0.out); rintro e w9 ⟨rfl, hb⟩; refine ⟨_, rfl, ?_⟩; have n0_ := Aside0.mk (below_step au12 hb); clear HB; have HB := n0_; clear n0_; (try clear hb); (try clear hb2); (try clear hk); (try clear hi)))
              go_roundg k1
              case measure => have := HK1.out; omega
              case rel => exact ⟨(wrap64 (x8_1 + 1)), au28, H', ⟨by have := HK1.out; omega⟩, ⟨by repeat (first | (with_reducible first | exact HB.out | apply below_alloc | apply pw_below_drewN | apply below_drew1) | exact HB.out)⟩⟩
          · rw [if_neg c5] at H
            exact absurd H (by simp)
        · rw [if_neg c4] at H
          exact absurd H (by simp)
      · rw [if_neg c3] at H
        have c3b0 : decide (x8_1 < (l0.length : Int)) = false := decide_eq_false c3
        clear c3
        obtain rfl := Option.some.inj H
        exact impl_Name_157_at_119.L0


/-! ### impl_Name_118_at_119: function 118 -/
def impl_Name_118_at_119.f (k : Nat) (l0 : List (S34))  : Option (Bool) := (impl_Name_157_at_119.f k l0).bind fun t201 => (some (decide (t201 ≥ 0)))
theorem impl_Name_118_at_119.mono : ∀ a0 k, LeO (impl_Name_118_at_119.f k a0) (impl_Name_118_at_119.f (k + 1) a0) := by
  intro a0 k
  unfold impl_Name_118_at_119.f
  repeat' first
      | (with_reducible exact impl_Name_157_at_119.mono _ _)
      | (with_reducible exact LeO.refl _)
      | (with_reducible exact LeO.none _)
      | (with_reducible refine LeO.ite ?_ ?_)
      | (with_reducible refine LeO.bind ?_ (fun _ => ?_))
      | exact impl_Name_157_at_119.mono _ _
      | exact LeO.none _
      | refine LeO.ite ?_ ?_
      | refine LeO.bind ?_ (fun _ => ?_)
set_option maxHeartbeats 8000000 in
set_option maxRecDepth 100000 in
theorem impl_Name_118_at_119.calls (k : Nat) (A0 : Option Addr) (c0 : Nat) (l0 : List (S34))  (r : Bool) (w : World) {gF1 gF2 gF3 : Bool} (hG : GL gF1 gF2 gF3 w) (hr0 : Kd.C k34 w A0 l0.length l0) (hc0 : l0.length ≤ c0) (h : impl_Name_118_at_119.f k l0 = some r) :
    Calls Tryd.prog 118 #[.slice A0 l0.length c0, .func (.func 119) #[] #[]] w fun e w' => e = .returned (.bool r) ∧ Below w.heap.size w w' := by
  have HG := Aside0.mk hG
  clear hG
  have HR0 := Aside0.mk hr0
  have HC0 := Aside0.mk hc0
  clear hr0 hc0
  have HB := Aside0.mk (Below.refl w.heap.size w)
  have H : ((impl_Name_157_at_119.f k l0).bind fun t201 => (some (decide (t201 ≥ 0)))) = some r := h
  clear h
  replace H := Option.bind_eq_some_iff.mp H
  obtain ⟨t201, A30, H⟩ := H
  try dsimp only at H
  have A3 := Aside0.mk A30
  clear A30
  obtain rfl := Option.some.inj H
  go_enter Tryd.func118, Tryd.ntmps118
  go_wp2_with (first | ((with_reducible refine gate_callee (f := 157) rfl ?_); refine goesL_ (some 7) rfl rfl Tryd.func157 (by kernel_rfl) rfl #[.slice A0 l0.length c0, .func (.func 119) #[] #[]] rfl au11 ?_; (with_reducible refine (impl_Name_157_at_119.calls (hG := au2) k _ _ l0  t201 _ ?side1 ?side2 A3.out).mono ?_); (case side1 => repeat (first | exact HR0.out | (with_reducible refine Kd.C_alloc ?_ _) | (with_reducible refine Kd.C_drewN ?_ _) | (with_reducible refine Kd.C_drew ?_))); (case side2 => exact HC0.out); rintro e w4 ⟨rfl, hb⟩; refine ⟨_, rfl, ?_⟩; have n0_ := Aside0.mk (below_step au12 hb); clear HB; have HB := n0_; clear n0_; (try clear hb); (try clear hb2); (try clear hk); (try clear hi)))
  go_ret
  exact ⟨by first | rfl | (simp [errW_none, errW_some] <;> rfl) | (simp [*, errW_none, errW_some] <;> rfl), by repeat (first | (with_reducible first | exact HB.out | apply below_alloc | apply pw_below_drewN | apply below_drew1) | exact HB.out)⟩


/-! ### impl_areNames: function 64 -/
def impl_areNames.f (k : Nat) (l0 : List (S34)) : Option (Bool) := if (l0.length : Int) ≤ 4 then ((impl_Name_118_at_119.f k l0).bind fun t202 => (some (!t202))) else (some false)
theorem impl_areNames.mono : ∀ a0 k, LeO (impl_areNames.f k a0) (impl_areNames.f (k + 1) a0) := by
  intro a0 k
  unfold impl_areNames.f
  repeat' first
      | (with_reducible exact impl_Name_118_at_119.mono _ _)
      | (with_reducible exact LeO.refl _)
      | (with_reducible exact LeO.none _)
      | (with_reducible refine LeO.ite ?_ ?_)
      | (with_reducible refine LeO.bind ?_ (fun _ => ?_))
      | exact impl_Name_118_at_119.mono _ _
      | exact LeO.none _
      | refine LeO.ite ?_ ?_
      | refine LeO.bind ?_ (fun _ => ?_)
set_option maxHeartbeats 8000000 in
set_option maxRecDepth 100000 in
theorem impl_areNames.calls (k : Nat) (A0 : Option Addr) (c0 : Nat) (l0 : List (S34)) (r : Bool) (w : World) {gF1 gF2 gF3 : Bool} (hG : GL gF1 gF2 gF3 w) (hr0 : Kd.C k34 w A0 l0.length l0) (hc0 : l0.length ≤ c0) (h : impl_areNames.f k l0 = some r) :
    Calls Tryd.prog 64 #[.slice A0 l0.length c0] w fun e w' => e = .returned (.bool r) ∧ Below w.heap.size w w' := by
  have HG := Aside0.mk hG
  clear hG
  have HR0 := Aside0.mk hr0
  have HC0 := Aside0.mk hc0
  clear hr0 hc0
  have HB := Aside0.mk (Below.refl w.heap.size w)
  have H : (if (l0.length : Int) ≤ 4 then ((impl_Name_118_at_119.f k l0).bind fun t202 => (some (!t202))) else (some false)) = some r := h
  clear h
  by_cases c2 : (l0.length : Int) ≤ 4
  · rw [if_pos c2] at H
    have c2b0 : decide ((l0.length : Int) ≤ 4) = true := decide_eq_true c2
    have c2b1 : decide (l0.length ≤ 4) = true := decide_eq_true (by omega)
    clear c2
    replace H := Option.bind_eq_some_iff.mp H
    obtain ⟨t202, A30, H⟩ := H
    try dsimp only at H
    have A3 := Aside0.mk A30
    clear A30
    obtain rfl := Option.some.inj H
    go_enter Tryd.func64, Tryd.ntmps64
    go_wp2_with (first | (go_at_call 118; (with_reducible refine (impl_Name_118_at_119.calls (hG := au2) k _ _ l0  t202 _ ?side1 ?side2 A3.out).mono ?_); (case side1 => repeat (first | exact HR0.out | (with_reducible refine Kd.C_alloc ?_ _) | (with_reducible refine Kd.C_drewN ?_ _) | (with_reducible refine Kd.C_drew ?_))); (case side2 => exact HC0.out); rintro e w4 ⟨rfl, hb⟩; have n0_ := Aside0.mk (below_step au12 hb); clear HB; have HB := n0_; clear n0_; (try clear hb); (try clear hb2); (try clear hk); (try clear hi)))
    go_ret
    exact ⟨by first | rfl | (simp [errW_none, errW_some] <;> rfl) | (simp [*, errW_none, errW_some] <;> rfl), by repeat (first | (with_reducible first | exact HB.out | apply below_alloc | apply pw_below_drewN | apply below_drew1) | exact HB.out)⟩
  · rw [if_neg c2] at H
    have c2b0 : decide ((l0.length : Int) ≤ 4) = false := decide_eq_false c2
    have c2b1 : decide (l0.length ≤ 4) = false := decide_eq_false (by omega)
    clear c2
    obtain rfl := Option.some.inj H
    go_enter Tryd.func64, Tryd.ntmps64
    go_wp2
    go_ret
    exact ⟨by first | rfl | (simp [errW_none, errW_some] <;> rfl) | (simp [*, errW_none, errW_some] <;> rfl), by repeat (first | (with_reducible first | exact HB.out | apply below_alloc | apply pw_below_drewN | apply below_drew1) | exact HB.out)⟩


/-! ### impl_IsValidEntry: function 44 -/
def impl_IsValidEntry.j0 : Nat → Bool → ByteArray → Int → List (S34) → List (S34) → ByteArray → ByteArray → ByteArray → Int → Int → Int → Bool → Int → ByteArray → ByteArray → Option (Bool)
  | 0, _, _, _, _, _, _, _, _, _, _, _, _, _, _, _ => none
  | k + 1, x36, x679000, x679001, x679002, x679003, x679004, x679005, x679006, x679007, x679008, x679009, x679010, x679011, x679012, x679013 => if x36 = true then (some false) else ((impl_isText.f k x679004).bind fun t685 => (if t685 = true then ((impl_isText.f k x679005).bind fun t686 => (if t686 = true then ((impl_isText.f k x679006).bind fun t687 => (if t687 = true then ((impl_isText.f k x679012).bind fun t688 => (if t688 = true then (if x679013.toList = ([] : List UInt8) then (some true) else ((impl_isKey.f k x679013).bind fun t689 => (if t689 = true then (some (x679013.toList != x679000.toList)) else (some false)))) else (some false))) else (some false))) else (some false))) else (some false)))
def impl_IsValidEntry.f (k : Nat) (a0_0 : ByteArray) (a0_1 : Int) (l0_2 : List (S34)) (l0_3 : List (S34)) (a0_4 : ByteArray) (a0_5 : ByteArray) (a0_6 : ByteArray) (a0_7 : Int) (a0_8 : Int) (a0_9 : Int) (a0_10 : Bool) (a0_11 : Int) (a0_12 : ByteArray) (a0_13 : ByteArray) : Option (Bool) := (impl_isKey.f k a0_0).bind fun t679 => (if t679 = true then ((impl_isKind.f a0_1).bind fun t680 => (if t680 = true then ((impl_areNames.f k l0_2).bind fun t681 => (if t681 = true then ((impl_areNames.f k l0_3).bind fun t682 => (if t682 = true then ((impl_IsValidDate.f k a0_7 a0_8 a0_9 a0_10).bind fun t683 => (if t683 = true then ((impl_inside.f a0_11 0 9999).bind fun t684 => (impl_IsValidEntry.j0 k (!t684) a0_0 a0_1 l0_2 l0_3 a0_4 a0_5 a0_6 a0_7 a0_8 a0_9 a0_10 a0_11 a0_12 a0_13)) else (impl_IsValidEntry.j0 k true a0_0 a0_1 l0_2 l0_3 a0_4 a0_5 a0_6 a0_7 a0_8 a0_9 a0_10 a0_11 a0_12 a0_13))) else (impl_IsValidEntry.j0 k true a0_0 a0_1 l0_2 l0_3 a0_4 a0_5 a0_6 a0_7 a0_8 a0_9 a0_10 a0_11 a0_12 a0_13))) else (impl_IsValidEntry.j0 k true a0_0 a0_1 l0_2 l0_3 a0_4 a0_5 a0_6 a0_7 a0_8 a0_9 a0_10 a0_11 a0_12 a0_13))) else (impl_IsValidEntry.j0 k true a0_0 a0_1 l0_2 l0_3 a0_4 a0_5 a0_6 a0_7 a0_8 a0_9 a0_10 a0_11 a0_12 a0_13))) else (impl_IsValidEntry.j0 k true a0_0 a0_1 l0_2 l0_3 a0_4 a0_5 a0_6 a0_7 a0_8 a0_9 a0_10 a0_11 a0_12 a0_13))
theorem impl_IsValidEntry.mono_l : ∀ k, (∀ y0 y1 y2 y3 y4 y5 y6 y7 y8 y9 y10 y11 y12 y13 y14, LeO (impl_IsValidEntry.j0 k y0 y1 y2 y3 y4 y5 y6 y7 y8 y9 y10 y11 y12 y13 y14) (impl_IsValidEntry.j0 (k + 1) y0 y1 y2 y3 y4 y5 y6 y7 y8 y9 y10 y11 y12 y13 y14))
  | 0 => fun _ _ _ _ _ _ _ _ _ _ _ _ _ _ _ r h => by simp [impl_IsValidEntry.j0] at h
  | k + 1 => by
    have ih0 := impl_IsValidEntry.mono_l k
    · intro y0 y1 y2 y3 y4 y5 y6 y7 y8 y9 y10 y11 y12 y13 y14
      unfold impl_IsValidEntry.j0
      repeat' first
      | (with_reducible exact ih0 _ _ _ _ _ _ _ _ _ _ _ _ _ _ _)
      | (with_reducible exact impl_IsValidDate.mono _ _ _ _ _)
      | (with_reducible exact impl_areNames.mono _ _)
      | (with_reducible exact impl_isKey.mono _ _)
      | (with_reducible exact impl_isText.mono _ _)
      | (with_reducible exact LeO.refl _)
      | (with_reducible exact LeO.none _)
      | (with_reducible refine LeO.ite ?_ ?_)
      | (with_reducible refine LeO.bind ?_ (fun _ => ?_))
      | exact ih0 _ _ _ _ _ _ _ _ _ _ _ _ _ _ _
      | exact impl_IsValidDate.mono _ _ _ _ _
      | exact impl_areNames.mono _ _
      | exact impl_isKey.mono _ _
      | exact impl_isText.mono _ _
      | exact LeO.none _
      | refine LeO.ite ?_ ?_
      | refine LeO.bind ?_ (fun _ => ?_)
theorem impl_IsValidEntry.mono : ∀ a0 a1 a2 a3 a4 a5 a6 a7 a8 a9 a10 a11 a12 a13 k, LeO (impl_IsValidEntry.f k a0 a1 a2 a3 a4 a5 a6 a7 a8 a9 a10 a11 a12 a13) (impl_IsValidEntry.f (k + 1) a0 a1 a2 a3 a4 a5 a6 a7 a8 a9 a10 a11 a12 a13) := by
  intro a0 a1 a2 a3 a4 a5 a6 a7 a8 a9 a10 a11 a12 a13 k
  have ih0 := impl_IsValidEntry.mono_l k
  unfold impl_IsValidEntry.f
  repeat' first
      | (with_reducible exact ih0 _ _ _ _ _ _ _ _ _ _ _ _ _ _ _)
      | (with_reducible exact impl_IsValidDate.mono _ _ _ _ _)
      | (with_reducible exact impl_areNames.mono _ _)
      | (with_reducible exact impl_isKey.mono _ _)
      | (with_reducible exact impl_isText.mono _ _)
      | (with_reducible exact LeO.refl _)
      | (with_reducible exact LeO.none _)
      | (with_reducible refine LeO.ite ?_ ?_)
      | (with_reducible refine LeO.bind ?_ (fun _ => ?_))
      | exact ih0 _ _ _ _ _ _ _ _ _ _ _ _ _ _ _
      | exact impl_IsValidDate.mono _ _ _ _ _
      | exact impl_areNames.mono _ _
      | exact impl_isKey.mono _ _
      | exact impl_isText.mono _ _
      | exact LeO.none _
      | refine LeO.ite ?_ ?_
      | refine LeO.bind ?_ (fun _ => ?_)
set_option maxRecDepth 100000 in
theorem impl_IsValidEntry.L0 {P : Prop} (h : P := by
    have hcz57_0 : wc.cell? ⟨gb678, 0, none⟩ = some (.string a0_0) := (blk_cell BK678.out 0).trans rfl
    have hcz57_1 : wc.cell? ⟨gb678, 1, none⟩ = some (.int .i64 a0_1) := (blk_cell BK678.out 1).trans rfl
    have hcz57_2 : wc.cell? ⟨gb678, 2, none⟩ = some (.slice A0_2 l0_2.length c0_2) := (blk_cell BK678.out 2).trans rfl
    have hcz57_3 : wc.cell? ⟨gb678, 3, none⟩ = some (.slice A0_3 l0_3.length c0_3) := (blk_cell BK678.out 3).trans rfl
    have hcz57_4 : wc.cell? ⟨gb678, 4, none⟩ = some (.string a0_4) := (blk_cell BK678.out 4).trans rfl
    have hcz57_5 : wc.cell? ⟨gb678, 5, none⟩ = some (.string a0_5) := (blk_cell BK678.out 5).trans rfl
    have hcz57_6 : wc.cell? ⟨gb678, 6, none⟩ = some (.string a0_6) := (blk_cell BK678.out 6).trans rfl
    have hcz57_7 : wc.cell? ⟨gb678, 7, none⟩ = some (.int .i64 a0_7) := (blk_cell BK678.out 7).trans rfl
    have hcz57_8 : wc.cell? ⟨gb678, 8, none⟩ = some (.int .i64 a0_8) := (blk_cell BK678.out 8).trans rfl
    have hcz57_9 : wc.cell? ⟨gb678, 9, none⟩ = some (.int .i64 a0_9) := (blk_cell BK678.out 9).trans rfl
    have hcz57_10 : wc.cell? ⟨gb678, 10, none⟩ = some (.bool a0_10) := (blk_cell BK678.out 10).trans rfl
    have hcz57_11 : wc.cell? ⟨gb678, 11, none⟩ = some (.int .i64 a0_11) := (blk_cell BK678.out 11).trans rfl
    have hcz57_12 : wc.cell? ⟨gb678, 12, none⟩ = some (.string a0_12) := (blk_cell BK678.out 12).trans rfl
    have hcz57_13 : wc.cell? ⟨gb678, 13, none⟩ = some (.string a0_13) := (blk_cell BK678.out 13).trans rfl
    have hfz57_0 := blk_frozen BK678.out 0
    have hfz57_1 := blk_frozen BK678.out 1
    have hfz57_2 := blk_frozen BK678.out 2
    have hfz57_3 := blk_frozen BK678.out 3
    have hfz57_4 := blk_frozen BK678.out 4
    have hfz57_5 := blk_frozen BK678.out 5
    have hfz57_6 := blk_frozen BK678.out 6
    have hfz57_7 := blk_frozen BK678.out 7
    have hfz57_8 := blk_frozen BK678.out 8
    have hfz57_9 := blk_frozen BK678.out 9
    have hfz57_10 := blk_frozen BK678.out 10
    have hfz57_11 := blk_frozen BK678.out 11
    have hfz57_12 := blk_frozen BK678.out 12
    have hfz57_13 := blk_frozen BK678.out 13
    go_wp2_with (first | ((with_reducible refine gate_callee (f := 107) rfl ?_); refine goesL_ (some 39) rfl rfl Tryd.func107 (by kernel_rfl) rfl #[.string a0_4] rfl au11 ?_; (with_reducible refine (impl_isText.calls kj1 a0_4 _ _ A37.out).mono ?_); rintro e w58 ⟨rfl, hb⟩; refine ⟨_, rfl, ?_⟩; have n0_ := Aside0.mk (blk_below (g := gb678) (o := .cells #[.string a0_0, .int .i64 a0_1, .slice A0_2 l0_2.length c0_2, .slice A0_3 l0_3.length c0_3, .string a0_4, .string a0_5, .string a0_6, .int .i64 a0_7, .int .i64 a0_8, .int .i64 a0_9, .bool a0_10, .int .i64 a0_11, .string a0_12, .string a0_13] 65 (0, 0)) au18 hb); have n1_ := Aside0.mk (below_step au8 hb); clear BK678; clear HB; have BK678 := n0_; have HB := n1_; clear n0_ n1_; (try clear hb); (try clear hb2); (try clear hk); (try clear hi); have hcz59_0 : w58.cell? ⟨gb678, 0, none⟩ = some (.string a0_0) := (blk_cell BK678.out 0).trans rfl; have hcz59_1 : w58.cell? ⟨gb678, 1, none⟩ = some (.int .i64 a0_1) := (blk_cell BK678.out 1).trans rfl; have hcz59_2 : w58.cell? ⟨gb678, 2, none⟩ = some (.slice A0_2 l0_2.length c0_2) := (blk_cell BK678.out 2).trans rfl; have hcz59_3 : w58.cell? ⟨gb678, 3, none⟩ = some (.slice A0_3 l0_3.length c0_3) := (blk_cell BK678.out 3).trans rfl; have hcz59_4 : w58.cell? ⟨gb678, 4, none⟩ = some (.string a0_4) := (blk_cell BK678.out 4).trans rfl; have hcz59_5 : w58.cell? ⟨gb678, 5, none⟩ = some (.string a0_5) := (blk_cell BK678.out 5).trans rfl; have hcz59_6 : w58.cell? ⟨gb678, 6, none⟩ = some (.string a0_6) := (blk_cell BK678.out 6).trans rfl; have hcz59_7 : w58.cell? ⟨gb678, 7, none⟩ = some (.int .i64 a0_7) := (blk_cell BK678.out 7).trans rfl; have hcz59_8 : w58.cell? ⟨gb678, 8, none⟩ = some (.int .i64 a0_8) := (blk_cell BK678.out 8).trans rfl; have hcz59_9 : w58.cell? ⟨gb678, 9, none⟩ = some (.int .i64 a0_9) := (blk_cell BK678.out 9).trans rfl; have hcz59_10 : w58.cell? ⟨gb678, 10, none⟩ = some (.bool a0_10) := (blk_cell BK678.out 10).trans rfl; have hcz59_11 : w58.cell? ⟨gb678, 11, none⟩ = some (.int .i64 a0_11) := (blk_cell BK678.out 11).trans rfl; have hcz59_12 : w58.cell? ⟨gb678, 12, none⟩ = some (.string a0_12) := (blk_cell BK678.out 12).trans rfl; have hcz59_13 : w58.cell? ⟨gb678, 13, none⟩ = some (.string a0_13) := (blk_cell BK678.out 13).trans rfl; have hfz59_0 := blk_frozen BK678.out 0; have hfz59_1 := blk_frozen BK678.out 1; have hfz59_2 := blk_frozen BK678.out 2; have hfz59_3 := blk_frozen BK678.out 3; have hfz59_4 := blk_frozen BK678.out 4; have hfz59_5 := blk_frozen BK678.out 5; have hfz59_6 := blk_frozen BK678.out 6; have hfz59_7 := blk_frozen BK678.out 7; have hfz59_8 := blk_frozen BK678.out 8; have hfz59_9 := blk_frozen BK678.out 9; have hfz59_10 := blk_frozen BK678.out 10; have hfz59_11 := blk_frozen BK678.out 11; have hfz59_12 := blk_frozen BK678.out 12; have hfz59_13 := blk_frozen BK678.out 13) | (go_at_call 107; (with_reducible refine (impl_isText.calls kj1 a0_5 _ _ A39.out).mono ?_); rintro e w60 ⟨rfl, hb⟩; have n0_ := Aside0.mk (blk_below (g := gb678) (o := .cells #[.string a0_0, .int .i64 a0_1, .slice A0_2 l0_2.length c0_2, .slice A0_3 l0_3.length c0_3, .string a0_4, .string a0_5, .string a0_6, .int .i64 a0_7, .int .i64 a0_8, .int .i64 a0_9, .bool a0_10, .int .i64 a0_11, .string a0_12, .string a0_13] 65 (0, 0)) au18 hb); have n1_ := Aside0.mk (below_step au8 hb); clear BK678; clear HB; have BK678 := n0_; have HB := n1_; clear n0_ n1_; (try clear hb); (try clear hb2); (try clear hk); (try clear hi); have hcz61_0 : w60.cell? ⟨gb678, 0, none⟩ = some (.string a0_0) := (blk_cell BK678.out 0).trans rfl; have hcz61_1 : w60.cell? ⟨gb678, 1, none⟩ = some (.int .i64 a0_1) := (blk_cell BK678.out 1).trans rfl; have hcz61_2 : w60.cell? ⟨gb678, 2, none⟩ = some (.slice A0_2 l0_2.length c0_2) := (blk_cell BK678.out 2).trans rfl; have hcz61_3 : w60.cell? ⟨gb678, 3, none⟩ = some (.slice A0_3 l0_3.length c0_3) := (blk_cell BK678.out 3).trans rfl; have hcz61_4 : w60.cell? ⟨gb678, 4, none⟩ = some (.string a0_4) := (blk_cell BK678.out 4).trans rfl; have hcz61_5 : w60.cell? ⟨gb678, 5, none⟩ = some (.string a0_5) := (blk_cell BK678.out 5).trans rfl; have hcz61_6 : w60.cell? ⟨gb678, 6, none⟩ = some (.string a0_6) := (blk_cell BK678.out 6).trans rfl; have hcz61_7 : w60.cell? ⟨gb678, 7, none⟩ = some (.int .i64 a0_7) := (blk_cell BK678.out 7).trans rfl; have hcz61_8 : w60.cell? ⟨gb678, 8, none⟩ = some (.int .i64 a0_8) := (blk_cell BK678.out 8).trans rfl; have hcz61_9 : w60.cell? ⟨gb678, 9, none⟩ = some (.int .i64 a0_9) := (blk_cell BK678.out 9).trans rfl; have hcz61_10 : w60.cell? ⟨gb678, 10, none⟩ = some (.bool a0_10) := (blk_cell BK678.out 10).trans rfl; have hcz61_11 : w60.cell? ⟨gb678, 11, none⟩ = some (.int .i64 a0_11) := (blk_cell BK678.out 11).trans rfl; have hcz61_12 : w60.cell? ⟨gb678, 12, none⟩ = some (.string a0_12) := (blk_cell BK678.out 12).trans rfl; have hcz61_13 : w60.cell? ⟨gb678, 13, none⟩ = some (.string a0_13) := (blk_cell BK678.out 13).trans rfl; have hfz61_0 := blk_frozen BK678.out 0; have hfz61_1 := blk_frozen BK678.out 1; have hfz61_2 := blk_frozen BK678.out 2; have hfz61_3 := blk_frozen BK678.out 3; have hfz61_4 := blk_frozen BK678.out 4; have hfz61_5 := blk_frozen BK678.out 5; have hfz61_6 := blk_frozen BK678.out 6; have hfz61_7 := blk_frozen BK678.out 7; have hfz61_8 := blk_frozen BK678.out 8; have hfz61_9 := blk_frozen BK678.out 9; have hfz61_10 := blk_frozen BK678.out 10; have hfz61_11 := blk_frozen BK678.out 11; have hfz61_12 := blk_frozen BK678.out 12; have hfz61_13 := blk_frozen BK678.out 13) | (go_at_call 107; (with_reducible refine (impl_isText.calls kj1 a0_6 _ _ A41.out).mono ?_); rintro e w62 ⟨rfl, hb⟩; have n0_ := Aside0.mk (blk_below (g := gb678) (o := .cells #[.string a0_0, .int .i64 a0_1, .slice A0_2 l0_2.length c0_2, .slice A0_3 l0_3.length c0_3, .string a0_4, .string a0_5, .string a0_6, .int .i64 a0_7, .int .i64 a0_8, .int .i64 a0_9, .bool a0_10, .int .i64 a0_11, .string a0_12, .string a0_13] 65 (0, 0)) au18 hb); have n1_ := Aside0.mk (below_step au8 hb); clear BK678; clear HB; have BK678 := n0_; have HB := n1_; clear n0_ n1_; (try clear hb); (try clear hb2); (try clear hk); (try clear hi); have hcz63_0 : w62.cell? ⟨gb678, 0, none⟩ = some (.string a0_0) := (blk_cell BK678.out 0).trans rfl; have hcz63_1 : w62.cell? ⟨gb678, 1, none⟩ = some (.int .i64 a0_1) := (blk_cell BK678.out 1).trans rfl; have hcz63_2 : w62.cell? ⟨gb678, 2, none⟩ = some (.slice A0_2 l0_2.length c0_2) := (blk_cell BK678.out 2).trans rfl; have hcz63_3 : w62.cell? ⟨gb678, 3, none⟩ = some (.slice A0_3 l0_3.length c0_3) := (blk_cell BK678.out 3).trans rfl; have hcz63_4 : w62.cell? ⟨gb678, 4, none⟩ = some (.string a0_4) := (blk_cell BK678.out 4).trans rfl; have hcz63_5 : w62.cell? ⟨gb678, 5, none⟩ = some (.string a0_5) := (blk_cell BK678.out 5).trans rfl; have hcz63_6 : w62.cell? ⟨gb678, 6, none⟩ = some (.string a0_6) := (blk_cell BK678.out 6).trans rfl; have hcz63_7 : w62.cell? ⟨gb678, 7, none⟩ = some (.int .i64 a0_7) := (blk_cell BK678.out 7).trans rfl; have hcz63_8 : w62.cell? ⟨gb678, 8, none⟩ = some (.int .i64 a0_8) := (blk_cell BK678.out 8).trans rfl; have hcz63_9 : w62.cell? ⟨gb678, 9, none⟩ = some (.int .i64 a0_9) := (blk_cell BK678.out 9).trans rfl; have hcz63_10 : w62.cell? ⟨gb678, 10, none⟩ = some (.bool a0_10) := (blk_cell BK678.out 10).trans rfl; have hcz63_11 : w62.cell? ⟨gb678, 11, none⟩ = some (.int .i64 a0_11) := (blk_cell BK678.out 11).trans rfl; have hcz63_12 : w62.cell? ⟨gb678, 12, none⟩ = some (.string a0_12) := (blk_cell BK678.out 12).trans rfl; have hcz63_13 : w62.cell? ⟨gb678, 13, none⟩ = some (.string a0_13) := (blk_cell BK678.out 13).trans rfl; have hfz63_0 := blk_frozen BK678.out 0; have hfz63_1 := blk_frozen BK678.out 1; have hfz63_2 := blk_frozen BK678.out 2; have hfz63_3 := blk_frozen BK678.out 3; have hfz63_4 := blk_frozen BK678.out 4; have hfz63_5 := blk_frozen BK678.out 5; have hfz63_6 := blk_frozen BK678.out 6; have hfz63_7 := blk_frozen BK678.out 7; have hfz63_8 := blk_frozen BK678.out 8; have hfz63_9 := blk_frozen BK678.out 9; have hfz63_10 := blk_frozen BK678.out 10; have hfz63_11 := blk_frozen BK678.out 11; have hfz63_12 := blk_frozen BK678.out 12; have hfz63_13 := blk_frozen BK678.out 13) | (go_at_call 107; (with_reducible refine (impl_isText.calls kj1 a0_12 _ _ A43.out).mono ?_); rintro e w64 ⟨rfl, hb⟩; have n0_ := Aside0.mk (blk_below (g := gb678) (o := .cells #[.string a0_0, .int .i64 a0_1, .slice A0_2 l0_2.length c0_2, .slice A0_3 l0_3.length c0_3, .string a0_4, .string a0_5, .string a0_6, .int .i64 a0_7, .int .i64 a0_8, .int .i64 a0_9, .bool a0_10, .int .i64 a0_11, .string a0_12, .string a0_13] 65 (0, 0)) au18 hb); have n1_ := Aside0.mk (below_step au8 hb); clear BK678; clear HB; have BK678 := n0_; have HB := n1_; clear n0_ n1_; (try clear hb); (try clear hb2); (try clear hk); (try clear hi); have hcz65_0 : w64.cell? ⟨gb678, 0, none⟩ = some (.string a0_0) := (blk_cell BK678.out 0).trans rfl; have hcz65_1 : w64.cell? ⟨gb678, 1, none⟩ = some (.int .i64 a0_1) := (blk_cell BK678.out 1).trans rfl; have hcz65_2 : w64.cell? ⟨gb678, 2, none⟩ = some (.slice A0_2 l0_2.length c0_2) := (blk_cell BK678.out 2).trans rfl; have hcz65_3 : w64.cell? ⟨gb678, 3, none⟩ = some (.slice A0_3 l0_3.length c0_3) := (blk_cell BK678.out 3).trans rfl; have hcz65_4 : w64.cell? ⟨gb678, 4, none⟩ = some (.string a0_4) := (blk_cell BK678.out 4).trans rfl; have hcz65_5 : w64.cell? ⟨gb678, 5, none⟩ = some (.string a0_5) := (blk_cell BK678.out 5).trans rfl; have hcz65_6 : w64.cell? ⟨gb678, 6, none⟩ = some (.string a0_6) := (blk_cell BK678.out 6).trans rfl; have hcz65_7 : w64.cell? ⟨gb678, 7, none⟩ = some (.int .i64 a0_7) := (blk_cell BK678.out 7).trans rfl; have hcz65_8 : w64.cell? ⟨gb678, 8, none⟩ = some (.int .i64 a0_8) := (blk_cell BK678.out 8).trans rfl; have hcz65_9 : w64.cell? ⟨gb678, 9, none⟩ = some (.int .i64 a0_9) := (blk_cell BK678.out 9).trans rfl; have hcz65_10 : w64.cell? ⟨gb678, 10, none⟩ = some (.bool a0_10) := (blk_cell BK678.out 10).trans rfl; have hcz65_11 : w64.cell? ⟨gb678, 11, none⟩ = some (.int .i64 a0_11) := (blk_cell BK678.out 11).trans rfl; have hcz65_12 : w64.cell? ⟨gb678, 12, none⟩ = some (.string a0_12) := (blk_cell BK678.out 12).trans rfl; have hcz65_13 : w64.cell? ⟨gb678, 13, none⟩ = some (.string a0_13) := (blk_cell BK678.out 13).trans rfl; have hfz65_0 := blk_frozen BK678.out 0; have hfz65_1 := blk_frozen BK678.out 1; have hfz65_2 := blk_frozen BK678.out 2; have hfz65_3 := blk_frozen BK678.out 3; have hfz65_4 := blk_frozen BK678.out 4; have hfz65_5 := blk_frozen BK678.out 5; have hfz65_6 := blk_frozen BK678.out 6; have hfz65_7 := blk_frozen BK678.out 7; have hfz65_8 := blk_frozen BK678.out 8; have hfz65_9 := blk_frozen BK678.out 9; have hfz65_10 := blk_frozen BK678.out 10; have hfz65_11 := blk_frozen BK678.out 11; have hfz65_12 := blk_frozen BK678.out 12; have hfz65_13 := blk_frozen BK678.out 13) | (go_at_call 103; (with_reducible refine (impl_isKey.calls kj1 a0_13 _ _ A55.out).mono ?_); rintro e w' ⟨rfl, ⟨nd, rfl⟩⟩))
    go_ret
    exact ⟨by first | rfl | (simp [errW_none, errW_some] <;> rfl) | (simp [*, errW_none, errW_some] <;> rfl), by repeat (first | (with_reducible first | exact HB.out | apply below_alloc | apply pw_below_drewN | apply below_drew1 | refine below_set ?_ GE678.out) | exact HB.out)⟩) : P := h
set_option maxRecDepth 100000 in
theorem impl_IsValidEntry.L1 {P : Prop} (h : P := by
    have hcz34_0 : w3.cell? ⟨gb678, 0, none⟩ = some (.string a0_0) := (blk_cell BK678.out 0).trans rfl
    have hcz34_1 : w3.cell? ⟨gb678, 1, none⟩ = some (.int .i64 a0_1) := (blk_cell BK678.out 1).trans rfl
    have hcz34_2 : w3.cell? ⟨gb678, 2, none⟩ = some (.slice A0_2 l0_2.length c0_2) := (blk_cell BK678.out 2).trans rfl
    have hcz34_3 : w3.cell? ⟨gb678, 3, none⟩ = some (.slice A0_3 l0_3.length c0_3) := (blk_cell BK678.out 3).trans rfl
    have hcz34_4 : w3.cell? ⟨gb678, 4, none⟩ = some (.string a0_4) := (blk_cell BK678.out 4).trans rfl
    have hcz34_5 : w3.cell? ⟨gb678, 5, none⟩ = some (.string a0_5) := (blk_cell BK678.out 5).trans rfl
    have hcz34_6 : w3.cell? ⟨gb678, 6, none⟩ = some (.string a0_6) := (blk_cell BK678.out 6).trans rfl
    have hcz34_7 : w3.cell? ⟨gb678, 7, none⟩ = some (.int .i64 a0_7) := (blk_cell BK678.out 7).trans rfl
    have hcz34_8 : w3.cell? ⟨gb678, 8, none⟩ = some (.int .i64 a0_8) := (blk_cell BK678.out 8).trans rfl
    have hcz34_9 : w3.cell? ⟨gb678, 9, none⟩ = some (.int .i64 a0_9) := (blk_cell BK678.out 9).trans rfl
    have hcz34_10 : w3.cell? ⟨gb678, 10, none⟩ = some (.bool a0_10) := (blk_cell BK678.out 10).trans rfl
    have hcz34_11 : w3.cell? ⟨gb678, 11, none⟩ = some (.int .i64 a0_11) := (blk_cell BK678.out 11).trans rfl
    have hcz34_12 : w3.cell? ⟨gb678, 12, none⟩ = some (.string a0_12) := (blk_cell BK678.out 12).trans rfl
    have hcz34_13 : w3.cell? ⟨gb678, 13, none⟩ = some (.string a0_13) := (blk_cell BK678.out 13).trans rfl
    have hfz34_0 := blk_frozen BK678.out 0
    have hfz34_1 := blk_frozen BK678.out 1
    have hfz34_2 := blk_frozen BK678.out 2
    have hfz34_3 := blk_frozen BK678.out 3
    have hfz34_4 := blk_frozen BK678.out 4
    have hfz34_5 := blk_frozen BK678.out 5
    have hfz34_6 := blk_frozen BK678.out 6
    have hfz34_7 := blk_frozen BK678.out 7
    have hfz34_8 := blk_frozen BK678.out 8
    have hfz34_9 := blk_frozen BK678.out 9
    have hfz34_10 := blk_frozen BK678.out 10
    have hfz34_11 := blk_frozen BK678.out 11
    have hfz34_12 := blk_frozen BK678.out 12
    have hfz34_13 := blk_frozen BK678.out 13
    go_wp2_with (first | ((with_reducible refine gate_callee (f := 103) rfl ?_); refine goesL_ (some 5) rfl rfl Tryd.func103 (by kernel_rfl) rfl #[.string a0_0] rfl au11 ?_; (with_reducible refine (impl_isKey.calls k a0_0 _ _ A4.out).mono ?_); rintro e w' ⟨rfl, ⟨nd, rfl⟩⟩; refine ⟨_, rfl, ?_⟩) | (go_at_call 104; (with_reducible refine (impl_isKind.calls a0_1 _ _ A6.out).mono ?_); rintro e w' ⟨rfl, ⟨nd, rfl⟩⟩))
    go_meet
    case rel => exact ⟨_, (true), au28, H', ⟨by first | omega | exact Nat.le_refl _⟩, ⟨by (with_reducible repeat (first | refine blk_drewN ?_ _ | refine blk_drew ?_ | refine blk_alloc ?_ _)); exact BK678.out⟩, ⟨by repeat (first | (with_reducible first | exact HB.out | apply below_alloc | apply pw_below_drewN | apply below_drew1 | refine below_set ?_ GE678.out) | exact HB.out)⟩⟩) : P := h
set_option maxHeartbeats 8000000 in
set_option maxRecDepth 100000 in
theorem impl_IsValidEntry.calls (k : Nat) (a0_0 : ByteArray) (a0_1 : Int) (A0_2 : Option Addr) (c0_2 : Nat) (l0_2 : List (S34)) (A0_3 : Option Addr) (c0_3 : Nat) (l0_3 : List (S34)) (a0_4 : ByteArray) (a0_5 : ByteArray) (a0_6 : ByteArray) (a0_7 : Int) (a0_8 : Int) (a0_9 : Int) (a0_10 : Bool) (a0_11 : Int) (a0_12 : ByteArray) (a0_13 : ByteArray) (r : Bool) (w : World) {gF1 gF2 gF3 : Bool} (hG : GL gF1 gF2 gF3 w) (hr0_2 : Kd.C k34 w A0_2 l0_2.length l0_2) (hc0_2 : l0_2.length ≤ c0_2) (hr0_3 : Kd.C k34 w A0_3 l0_3.length l0_3) (hc0_3 : l0_3.length ≤ c0_3) (h : impl_IsValidEntry.f k a0_0 a0_1 l0_2 l0_3 a0_4 a0_5 a0_6 a0_7 a0_8 a0_9 a0_10 a0_11 a0_12 a0_13 = some r) :
    Calls Tryd.prog 44 #[.agg #[.string a0_0, .int .i64 a0_1, .slice A0_2 l0_2.length c0_2, .slice A0_3 l0_3.length c0_3, .string a0_4, .string a0_5, .string a0_6, .int .i64 a0_7, .int .i64 a0_8, .int .i64 a0_9, .bool a0_10, .int .i64 a0_11, .string a0_12, .string a0_13]] w fun e w' => e = .returned (.bool r) ∧ Below w.heap.size w w' := by
  have HG := Aside0.mk hG
  clear hG
  have hu65 := Tryd.underlying65
  have hu63 := Tryd.underlying63
  have HR0_2 := Aside0.mk hr0_2
  have HC0_2 := Aside0.mk hc0_2
  clear hr0_2 hc0_2
  have HR0_3 := Aside0.mk hr0_3
  have HC0_3 := Aside0.mk hc0_3
  clear hr0_3 hc0_3
  have HB := Aside0.mk (Below.refl w.heap.size w)
  have H : ((impl_isKey.f k a0_0).bind fun t679 => (if t679 = true then ((impl_isKind.f a0_1).bind fun t680 => (if t680 = true then ((impl_areNames.f k l0_2).bind fun t681 => (if t681 = true then ((impl_areNames.f k l0_3).bind fun t682 => (if t682 = true then ((impl_IsValidDate.f k a0_7 a0_8 a0_9 a0_10).bind fun t683 => (if t683 = true then ((impl_inside.f a0_11 0 9999).bind fun t684 => (impl_IsValidEntry.j0 k (!t684) a0_0 a0_1 l0_2 l0_3 a0_4 a0_5 a0_6 a0_7 a0_8 a0_9 a0_10 a0_11 a0_12 a0_13)) else (impl_IsValidEntry.j0 k true a0_0 a0_1 l0_2 l0_3 a0_4 a0_5 a0_6 a0_7 a0_8 a0_9 a0_10 a0_11 a0_12 a0_13))) else (impl_IsValidEntry.j0 k true a0_0 a0_1 l0_2 l0_3 a0_4 a0_5 a0_6 a0_7 a0_8 a0_9 a0_10 a0_11 a0_12 a0_13))) else (impl_IsValidEntry.j0 k true a0_0 a0_1 l0_2 l0_3 a0_4 a0_5 a0_6 a0_7 a0_8 a0_9 a0_10 a0_11 a0_12 a0_13))) else (impl_IsValidEntry.j0 k true a0_0 a0_1 l0_2 l0_3 a0_4 a0_5 a0_6 a0_7 a0_8 a0_9 a0_10 a0_11 a0_12 a0_13))) else (impl_IsValidEntry.j0 k true a0_0 a0_1 l0_2 l0_3 a0_4 a0_5 a0_6 a0_7 a0_8 a0_9 a0_10 a0_11 a0_12 a0_13))) = some r := h
  clear h
  have HC2 := Aside0.mk H
  clear H
  go_enter Tryd.func44, Tryd.ntmps44
  go_upto_region 1 with (first | ((with_reducible refine gate_dst (N := 1) rfl ?_); refine box_event ?hg (N := 1) ?hd (cs := #[.string a0_0, .int .i64 a0_1, .slice A0_2 l0_2.length c0_2, .slice A0_3 l0_3.length c0_3, .string a0_4, .string a0_5, .string a0_6, .int .i64 a0_7, .int .i64 a0_8, .int .i64 a0_9, .bool a0_10, .int .i64 a0_11, .string a0_12, .string a0_13]) (t := 65) ?hr ?_; (case hd => rfl); (case hg => rfl); (case hr => first | (go_simp; done) | (go_simp; rfl)); intro gb678 hg w3 hbox hb; have n0_ := Aside0.mk (below_step au12 hb); have n1_ := Aside0.mk (hbox); have n2_ := Aside0.mk ((by rw [hg]; exact (below_size au12) : w.heap.size ≤ gb678)); have n3_ := Aside0.mk ((by rw [hg]; exact (below_size au12) : w.heap.size ≤ gb678)); clear HB; have HB := n0_; have BK678 := n1_; have GW678 := n2_; have GE678 := n3_; clear n0_ n1_ n2_ n3_; clear hb hbox hg))
  (try simp only [Act.put, List.setIfInBounds_toArray, List.set_cons_zero, List.set_cons_succ])
  go_cut [36] (fun v36 wc => ∃ (kq : Nat) (x36_1 : Bool), v36 = .bool x36_1 ∧ Aside0 (impl_IsValidEntry.j0 kq x36_1 a0_0 a0_1 l0_2 l0_3 a0_4 a0_5 a0_6 a0_7 a0_8 a0_9 a0_10 a0_11 a0_12 a0_13 = some r) ∧ Aside0 (kq ≤ k) ∧ Aside0 (wc.heap[gb678]? = some (.cells #[.string a0_0, .int .i64 a0_1, (.slice A0_2 l0_2.length c0_2), (.slice A0_3 l0_3.length c0_3), .string a0_4, .string a0_5, .string a0_6, .int .i64 a0_7, .int .i64 a0_8, .int .i64 a0_9, .bool a0_10, .int .i64 a0_11, .string a0_12, .string a0_13] 65 (0, 0))) ∧ Aside0 (Below w.heap.size w wc))
  case first =>
    have H := HC2.out
    clear HC2
    replace H := Option.bind_eq_some_iff.mp H
    obtain ⟨t679, A40, H⟩ := H
    try dsimp only at H
    have A4 := Aside0.mk A40
    clear A40
    by_cases c5 : t679 = true
    · subst c5
      replace H := (if_pos rfl).symm.trans H
      replace H := Option.bind_eq_some_iff.mp H
      obtain ⟨t680, A60, H⟩ := H
      try dsimp only at H
      have A6 := Aside0.mk A60
      clear A60
      by_cases c7 : t680 = true
      · subst c7
        replace H := (if_pos rfl).symm.trans H
        replace H := Option.bind_eq_some_iff.mp H
        obtain ⟨t681, A80, H⟩ := H
        try dsimp only at H
        have A8 := Aside0.mk A80
        clear A80
        by_cases c9 : t681 = true
        · subst c9
          replace H := (if_pos rfl).symm.trans H
          replace H := Option.bind_eq_some_iff.mp H
          obtain ⟨t682, A100, H⟩ := H
          try dsimp only at H
          have A10 := Aside0.mk A100
          clear A100
          by_cases c11 : t682 = true
          · subst c11
            replace H := (if_pos rfl).symm.trans H
            replace H := Option.bind_eq_some_iff.mp H
            obtain ⟨t683, A120, H⟩ := H
            try dsimp only at H
            have A12 := Aside0.mk A120
            clear A120
            by_cases c13 : t683 = true
            · subst c13
              replace H := (if_pos rfl).symm.trans H
              replace H := Option.bind_eq_some_iff.mp H
              obtain ⟨t684, A140, H⟩ := H
              try dsimp only at H
              have A14 := Aside0.mk A140
              clear A140
              have H' := Aside0.mk H
              clear H
              have hcz15_0 : w3.cell? ⟨gb678, 0, none⟩ = some (.string a0_0) := (blk_cell BK678.out 0).trans rfl
              have hcz15_1 : w3.cell? ⟨gb678, 1, none⟩ = some (.int .i64 a0_1) := (blk_cell BK678.out 1).trans rfl
              have hcz15_2 : w3.cell? ⟨gb678, 2, none⟩ = some (.slice A0_2 l0_2.length c0_2) := (blk_cell BK678.out 2).trans rfl
              have hcz15_3 : w3.cell? ⟨gb678, 3, none⟩ = some (.slice A0_3 l0_3.length c0_3) := (blk_cell BK678.out 3).trans rfl
              have hcz15_4 : w3.cell? ⟨gb678, 4, none⟩ = some (.string a0_4) := (blk_cell BK678.out 4).trans rfl
              have hcz15_5 : w3.cell? ⟨gb678, 5, none⟩ = some (.string a0_5) := (blk_cell BK678.out 5).trans rfl
              have hcz15_6 : w3.cell? ⟨gb678, 6, none⟩ = some (.string a0_6) := (blk_cell BK678.out 6).trans rfl
              have hcz15_7 : w3.cell? ⟨gb678, 7, none⟩ = some (.int .i64 a0_7) := (blk_cell BK678.out 7).trans rfl
              have hcz15_8 : w3.cell? ⟨gb678, 8, none⟩ = some (.int .i64 a0_8) := (blk_cell BK678.out 8).trans rfl
              have hcz15_9 : w3.cell? ⟨gb678, 9, none⟩ = some (.int .i64 a0_9) := (blk_cell BK678.out 9).trans rfl
              have hcz15_10 : w3.cell? ⟨gb678, 10, none⟩ = some (.bool a0_10) := (blk_cell BK678.out 10).trans rfl
              have hcz15_11 : w3.cell? ⟨gb678, 11, none⟩ = some (.int .i64 a0_11) := (blk_cell BK678.out 11).trans rfl
              have hcz15_12 : w3.cell? ⟨gb678, 12, none⟩ = some (.string a0_12) := (blk_cell BK678.out 12).trans rfl
              have hcz15_13 : w3.cell? ⟨gb678, 13, none⟩ = some (.string a0_13) := (blk_cell BK678.out 13).trans rfl
              have hfz15_0 := blk_frozen BK678.out 0
              have hfz15_1 := blk_frozen BK678.out 1
              have hfz15_2 := blk_frozen BK678.out 2
              have hfz15_3 := blk_frozen BK678.out 3
              have hfz15_4 := blk_frozen BK678.out 4
              have hfz15_5 := blk_frozen BK678.out 5
              have hfz15_6 := blk_frozen BK678.out 6
              have hfz15_7 := blk_frozen BK678.out 7
              have hfz15_8 := blk_frozen BK678.out 8
              have hfz15_9 := blk_frozen BK678.out 9
              have hfz15_10 := blk_frozen BK678.out 10
              have hfz15_11 := blk_frozen BK678.out 11
              have hfz15_12 := blk_frozen BK678.out 12
              have hfz15_13 := blk_frozen BK678.out 13
              go_wp2_with (first | ((with_reducible refine gate_callee (f := 103) rfl ?_); refine goesL_ (some 5) rfl rfl Tryd.func103 (by kernel_rfl) rfl #[.string a0_0] rfl au11 ?_; (with_reducible refine (impl_isKey.calls k a0_0 _ _ A4.out).mono ?_); rintro e w' ⟨rfl, ⟨nd, rfl⟩⟩; refine ⟨_, rfl, ?_⟩) | (go_at_call 104; (with_reducible refine (impl_isKind.calls a0_1 _ _ A6.out).mono ?_); rintro e w' ⟨rfl, ⟨nd, rfl⟩⟩) | (go_at_call 64; (with_reducible refine (impl_areNames.calls (hG := au2) k _ _ l0_2 _ _ ?side1 ?side2 A8.out).mono ?_); (case side1 => repeat (first | exact (Kd.C_below HR0_2.out au8) | (with_reducible refine Kd.C_alloc ?_ _) | (with_reducible refine Kd.C_drewN ?_ _) | (with_reducible refine Kd.C_drew ?_))); (case side2 => exact HC0_2.out); rintro e w16 ⟨rfl, hb⟩; have n0_ := Aside0.mk (blk_below (g := gb678) (o := .cells #[.string a0_0, .int .i64 a0_1, .slice A0_2 l0_2.length c0_2, .slice A0_3 l0_3.length c0_3, .string a0_4, .string a0_5, .string a0_6, .int .i64 a0_7, .int .i64 a0_8, .int .i64 a0_9, .bool a0_10, .int .i64 a0_11, .string a0_12, .string a0_13] 65 (0, 0)) au18 hb); have n1_ := Aside0.mk (below_step au8 hb); clear BK678; clear HB; have BK678 := n0_; have HB := n1_; clear n0_ n1_; (try clear hb); (try clear hb2); (try clear hk); (try clear hi); have hcz17_0 : w16.cell? ⟨gb678, 0, none⟩ = some (.string a0_0) := (blk_cell BK678.out 0).trans rfl; have hcz17_1 : w16.cell? ⟨gb678, 1, none⟩ = some (.int .i64 a0_1) := (blk_cell BK678.out 1).trans rfl; have hcz17_2 : w16.cell? ⟨gb678, 2, none⟩ = some (.slice A0_2 l0_2.length c0_2) := (blk_cell BK678.out 2).trans rfl; have hcz17_3 : w16.cell? ⟨gb678, 3, none⟩ = some (.slice A0_3 l0_3.length c0_3) := (blk_cell BK678.out 3).trans rfl; have hcz17_4 : w16.cell? ⟨gb678, 4, none⟩ = some (.string a0_4) := (blk_cell BK678.out 4).trans rfl; have hcz17_5 : w16.cell? ⟨gb678, 5, none⟩ = some (.string a0_5) := (blk_cell BK678.out 5).trans rfl; have hcz17_6 : w16.cell? ⟨gb678, 6, none⟩ = some (.string a0_6) := (blk_cell BK678.out 6).trans rfl; have hcz17_7 : w16.cell? ⟨gb678, 7, none⟩ = some (.int .i64 a0_7) := (blk_cell BK678.out 7).trans rfl; have hcz17_8 : w16.cell? ⟨gb678, 8, none⟩ = some (.int .i64 a0_8) := (blk_cell BK678.out 8).trans rfl; have hcz17_9 : w16.cell? ⟨gb678, 9, none⟩ = some (.int .i64 a0_9) := (blk_cell BK678.out 9).trans rfl; have hcz17_10 : w16.cell? ⟨gb678, 10, none⟩ = some (.bool a0_10) := (blk_cell BK678.out 10).trans rfl; have hcz17_11 : w16.cell? ⟨gb678, 11, none⟩ = some (.int .i64 a0_11) := (blk_cell BK678.out 11).trans rfl; have hcz17_12 : w16.cell? ⟨gb678, 12, none⟩ = some (.string a0_12) := (blk_cell BK678.out 12).trans rfl; have hcz17_13 : w16.cell? ⟨gb678, 13, none⟩ = some (.string a0_13) := (blk_cell BK678.out 13).trans rfl; have hfz17_0 := blk_frozen BK678.out 0; have hfz17_1 := blk_frozen BK678.out 1; have hfz17_2 := blk_frozen BK678.out 2; have hfz17_3 := blk_frozen BK678.out 3; have hfz17_4 := blk_frozen BK678.out 4; have hfz17_5 := blk_frozen BK678.out 5; have hfz17_6 := blk_frozen BK678.out 6; have hfz17_7 := blk_frozen BK678.out 7; have hfz17_8 := blk_frozen BK678.out 8; have hfz17_9 := blk_frozen BK678.out 9; have hfz17_10 := blk_frozen BK678.out 10; have hfz17_11 := blk_frozen BK678.out 11; have hfz17_12 := blk_frozen BK678.out 12; have hfz17_13 := blk_frozen BK678.out 13) | (go_at_call 64; (with_reducible refine (impl_areNames.calls (hG := au2) k _ _ l0_3 _ _ ?side1 ?side2 A10.out).mono ?_); (case side1 => repeat (first | exact (Kd.C_below HR0_3.out HB.out) | (with_reducible refine Kd.C_alloc ?_ _) | (with_reducible refine Kd.C_drewN ?_ _) | (with_reducible refine Kd.C_drew ?_))); (case side2 => exact HC0_3.out); rintro e w18 ⟨rfl, hb⟩; have n0_ := Aside0.mk (blk_below (g := gb678) (o := .cells #[.string a0_0, .int .i64 a0_1, .slice A0_2 l0_2.length c0_2, .slice A0_3 l0_3.length c0_3, .string a0_4, .string a0_5, .string a0_6, .int .i64 a0_7, .int .i64 a0_8, .int .i64 a0_9, .bool a0_10, .int .i64 a0_11, .string a0_12, .string a0_13] 65 (0, 0)) au18 hb); have n1_ := Aside0.mk (below_step au8 hb); clear BK678; clear HB; have BK678 := n0_; have HB := n1_; clear n0_ n1_; (try clear hb); (try clear hb2); (try clear hk); (try clear hi); have hcz19_0 : w18.cell? ⟨gb678, 0, none⟩ = some (.string a0_0) := (blk_cell BK678.out 0).trans rfl; have hcz19_1 : w18.cell? ⟨gb678, 1, none⟩ = some (.int .i64 a0_1) := (blk_cell BK678.out 1).trans rfl; have hcz19_2 : w18.cell? ⟨gb678, 2, none⟩ = some (.slice A0_2 l0_2.length c0_2) := (blk_cell BK678.out 2).trans rfl; have hcz19_3 : w18.cell? ⟨gb678, 3, none⟩ = some (.slice A0_3 l0_3.length c0_3) := (blk_cell BK678.out 3).trans rfl; have hcz19_4 : w18.cell? ⟨gb678, 4, none⟩ = some (.string a0_4) := (blk_cell BK678.out 4).trans rfl; have hcz19_5 : w18.cell? ⟨gb678, 5, none⟩ = some (.string a0_5) := (blk_cell BK678.out 5).trans rfl; have hcz19_6 : w18.cell? ⟨gb678, 6, none⟩ = some (.string a0_6) := (blk_cell BK678.out 6).trans rfl; have hcz19_7 : w18.cell? ⟨gb678, 7, none⟩ = some (.int .i64 a0_7) := (blk_cell BK678.out 7).trans rfl; have hcz19_8 : w18.cell? ⟨gb678, 8, none⟩ = some (.int .i64 a0_8) := (blk_cell BK678.out 8).trans rfl; have hcz19_9 : w18.cell? ⟨gb678, 9, none⟩ = some (.int .i64 a0_9) := (blk_cell BK678.out 9).trans rfl; have hcz19_10 : w18.cell? ⟨gb678, 10, none⟩ = some (.bool a0_10) := (blk_cell BK678.out 10).trans rfl; have hcz19_11 : w18.cell? ⟨gb678, 11, none⟩ = some (.int .i64 a0_11) := (blk_cell BK678.out 11).trans rfl; have hcz19_12 : w18.cell? ⟨gb678, 12, none⟩ = some (.string a0_12) := (blk_cell BK678.out 12).trans rfl; have hcz19_13 : w18.cell? ⟨gb678, 13, none⟩ = some (.string a0_13) := (blk_cell BK678.out 13).trans rfl; have hfz19_0 := blk_frozen BK678.out 0; have hfz19_1 := blk_frozen BK678.out 1; have hfz19_2 := blk_frozen BK678.out 2; have hfz19_3 := blk_frozen BK678.out 3; have hfz19_4 := blk_frozen BK678.out 4; have hfz19_5 := blk_frozen BK678.out 5; have hfz19_6 := blk_frozen BK678.out 6; have hfz19_7 := blk_frozen BK678.out 7; have hfz19_8 := blk_frozen BK678.out 8; have hfz19_9 := blk_frozen BK678.out 9; have hfz19_10 := blk_frozen BK678.out 10; have hfz19_11 := blk_frozen BK678.out 11; have hfz19_12 := blk_frozen BK678.out 12; have hfz19_13 := blk_frozen BK678.out 13) | (go_at_call 105; (with_reducible refine (impl_IsValidDate.calls k a0_7 a0_8 a0_9 a0_10 _ _ A12.out).mono ?_); rintro e w20 ⟨rfl, hb⟩; have n0_ := Aside0.mk (blk_below (g := gb678) (o := .cells #[.string a0_0, .int .i64 a0_1, .slice A0_2 l0_2.length c0_2, .slice A0_3 l0_3.length c0_3, .string a0_4, .string a0_5, .string a0_6, .int .i64 a0_7, .int .i64 a0_8, .int .i64 a0_9, .bool a0_10, .int .i64 a0_11, .string a0_12, .string a0_13] 65 (0, 0)) au18 hb); have n1_ := Aside0.mk (below_step au8 hb); clear BK678; clear HB; have BK678 := n0_; have HB := n1_; clear n0_ n1_; (try clear hb); (try clear hb2); (try clear hk); (try clear hi); have hcz21_0 : w20.cell? ⟨gb678, 0, none⟩ = some (.string a0_0) := (blk_cell BK678.out 0).trans rfl; have hcz21_1 : w20.cell? ⟨gb678, 1, none⟩ = some (.int .i64 a0_1) := (blk_cell BK678.out 1).trans rfl; have hcz21_2 : w20.cell? ⟨gb678, 2, none⟩ = some (.slice A0_2 l0_2.length c0_2) := (blk_cell BK678.out 2).trans rfl; have hcz21_3 : w20.cell? ⟨gb678, 3, none⟩ = some (.slice A0_3 l0_3.length c0_3) := (blk_cell BK678.out 3).trans rfl; have hcz21_4 : w20.cell? ⟨gb678, 4, none⟩ = some (.string a0_4) := (blk_cell BK678.out 4).trans rfl; have hcz21_5 : w20.cell? ⟨gb678, 5, none⟩ = some (.string a0_5) := (blk_cell BK678.out 5).trans rfl; have hcz21_6 : w20.cell? ⟨gb678, 6, none⟩ = some (.string a0_6) := (blk_cell BK678.out 6).trans rfl; have hcz21_7 : w20.cell? ⟨gb678, 7, none⟩ = some (.int .i64 a0_7) := (blk_cell BK678.out 7).trans rfl; have hcz21_8 : w20.cell? ⟨gb678, 8, none⟩ = some (.int .i64 a0_8) := (blk_cell BK678.out 8).trans rfl; have hcz21_9 : w20.cell? ⟨gb678, 9, none⟩ = some (.int .i64 a0_9) := (blk_cell BK678.out 9).trans rfl; have hcz21_10 : w20.cell? ⟨gb678, 10, none⟩ = some (.bool a0_10) := (blk_cell BK678.out 10).trans rfl; have hcz21_11 : w20.cell? ⟨gb678, 11, none⟩ = some (.int .i64 a0_11) := (blk_cell BK678.out 11).trans rfl; have hcz21_12 : w20.cell? ⟨gb678, 12, none⟩ = some (.string a0_12) := (blk_cell BK678.out 12).trans rfl; have hcz21_13 : w20.cell? ⟨gb678, 13, none⟩ = some (.string a0_13) := (blk_cell BK678.out 13).trans rfl; have hfz21_0 := blk_frozen BK678.out 0; have hfz21_1 := blk_frozen BK678.out 1; have hfz21_2 := blk_frozen BK678.out 2; have hfz21_3 := blk_frozen BK678.out 3; have hfz21_4 := blk_frozen BK678.out 4; have hfz21_5 := blk_frozen BK678.out 5; have hfz21_6 := blk_frozen BK678.out 6; have hfz21_7 := blk_frozen BK678.out 7; have hfz21_8 := blk_frozen BK678.out 8; have hfz21_9 := blk_frozen BK678.out 9; have hfz21_10 := blk_frozen BK678.out 10; have hfz21_11 := blk_frozen BK678.out 11; have hfz21_12 := blk_frozen BK678.out 12; have hfz21_13 := blk_frozen BK678.out 13) | (go_at_call 106; (with_reducible refine (impl_inside.calls a0_11 0 9999 t684 _ A14.out).mono ?_); rintro e w' ⟨rfl, ⟨nd, rfl⟩⟩))
              go_meet
              case rel => exact ⟨_, (!t684), au28, H', ⟨by first | omega | exact Nat.le_refl _⟩, ⟨by (with_reducible repeat (first | refine blk_drewN ?_ _ | refine blk_drew ?_ | refine blk_alloc ?_ _)); exact BK678.out⟩, ⟨by repeat (first | (with_reducible first | exact HB.out | apply below_alloc | apply pw_below_drewN | apply below_drew1 | refine below_set ?_ GE678.out) | exact HB.out)⟩⟩
            · replace c13 := Bool.eq_false_iff.mpr c13
              subst c13
              replace H := (if_neg (show ¬ (false = true) by decide)).symm.trans H
              have H' := Aside0.mk H
              clear H
              have hcz22_0 : w3.cell? ⟨gb678, 0, none⟩ = some (.string a0_0) := (blk_cell BK678.out 0).trans rfl
              have hcz22_1 : w3.cell? ⟨gb678, 1, none⟩ = some (.int .i64 a0_1) := (blk_cell BK678.out 1).trans rfl
              have hcz22_2 : w3.cell? ⟨gb678, 2, none⟩ = some (.slice A0_2 l0_2.length c0_2) := (blk_cell BK678.out 2).trans rfl
              have hcz22_3 : w3.cell? ⟨gb678, 3, none⟩ = some (.slice A0_3 l0_3.length c0_3) := (blk_cell BK678.out 3).trans rfl
              have hcz22_4 : w3.cell? ⟨gb678, 4, none⟩ = some (.string a0_4) := (blk_cell BK678.out 4).trans rfl
              have hcz22_5 : w3.cell? ⟨gb678, 5, none⟩ = some (.string a0_5) := (blk_cell BK678.out 5).trans rfl
              have hcz22_6 : w3.cell? ⟨gb678, 6, none⟩ = some (.string a0_6) := (blk_cell BK678.out 6).trans rfl
              have hcz22_7 : w3.cell? ⟨gb678, 7, none⟩ = some (.int .i64 a0_7) := (blk_cell BK678.out 7).trans rfl
              have hcz22_8 : w3.cell? ⟨gb678, 8, none⟩ = some (.int .i64 a0_8) := (blk_cell BK678.out 8).trans rfl
              have hcz22_9 : w3.cell? ⟨gb678, 9, none⟩ = some (.int .i64 a0_9) := (blk_cell BK678.out 9).trans rfl
              have hcz22_10 : w3.cell? ⟨gb678, 10, none⟩ = some (.bool a0_10) := (blk_cell BK678.out 10).trans rfl
              have hcz22_11 : w3.cell? ⟨gb678, 11, none⟩ = some (.int .i64 a0_11) := (blk_cell BK678.out 11).trans rfl
              have hcz22_12 : w3.cell? ⟨gb678, 12, none⟩ = some (.string a0_12) := (blk_cell BK678.out 12).trans rfl
              have hcz22_13 : w3.cell? ⟨gb678, 13, none⟩ = some (.string a0_13) := (blk_cell BK678.out 13).trans rfl
              have hfz22_0 := blk_frozen BK678.out 0
              have hfz22_1 := blk_frozen BK678.out 1
              have hfz22_2 := blk_frozen BK678.out 2
              have hfz22_3 := blk_frozen BK678.out 3
              have hfz22_4 := blk_frozen BK678.out 4
              have hfz22_5 := blk_frozen BK678.out 5
              have hfz22_6 := blk_frozen BK678.out 6
              have hfz22_7 := blk_frozen BK678.out 7
              have hfz22_8 := blk_frozen BK678.out 8
              have hfz22_9 := blk_frozen BK678.out 9
              have hfz22_10 := blk_frozen BK678.out 10
              have hfz22_11 := blk_frozen BK678.out 11
              have hfz22_12 := blk_frozen BK678.out 12
              have hfz22_13 := blk_frozen BK678.out 13
              go_wp2_with (first | ((with_reducible refine gate_callee (f := 103) rfl ?_); refine goesL_ (some 5) rfl rfl Tryd.func103 (by kernel_rfl) rfl #[.string a0_0] rfl au11 ?_; (with_reducible refine (impl_isKey.calls k a0_0 _ _ A4.out).mono ?_); rintro e w' ⟨rfl, ⟨nd, rfl⟩⟩; refine ⟨_, rfl, ?_⟩) | (go_at_call 104; (with_reducible refine (impl_isKind.calls a0_1 _ _ A6.out).mono ?_); rintro e w' ⟨rfl, ⟨nd, rfl⟩⟩) | (go_at_call 64; (with_reducible refine (impl_areNames.calls (hG := au2) k _ _ l0_2 _ _ ?side1 ?side2 A8.out).mono ?_); (case side1 => repeat (first | exact (Kd.C_below HR0_2.out au8) | (with_reducible refine Kd.C_alloc ?_ _) | (with_reducible refine Kd.C_drewN ?_ _) | (with_reducible refine Kd.C_drew ?_))); (case side2 => exact HC0_2.out); rintro e w23 ⟨rfl, hb⟩; have n0_ := Aside0.mk (blk_below (g := gb678) (o := .cells #[.string a0_0, .int .i64 a0_1, .slice A0_2 l0_2.length c0_2, .slice A0_3 l0_3.length c0_3, .string a0_4, .string a0_5, .string a0_6, .int .i64 a0_7, .int .i64 a0_8, .int .i64 a0_9, .bool a0_10, .int .i64 a0_11, .string a0_12, .string a0_13] 65 (0, 0)) au18 hb); have n1_ := Aside0.mk (below_step au8 hb); clear BK678; clear HB; have BK678 := n0_; have HB := n1_; clear n0_ n1_; (try clear hb); (try clear hb2); (try clear hk); (try clear hi); have hcz24_0 : w23.cell? ⟨gb678, 0, none⟩ = some (.string a0_0) := (blk_cell BK678.out 0).trans rfl; have hcz24_1 : w23.cell? ⟨gb678, 1, none⟩ = some (.int .i64 a0_1) := (blk_cell BK678.out 1).trans rfl; have hcz24_2 : w23.cell? ⟨gb678, 2, none⟩ = some (.slice A0_2 l0_2.length c0_2) := (blk_cell BK678.out 2).trans rfl; have hcz24_3 : w23.cell? ⟨gb678, 3, none⟩ = some (.slice A0_3 l0_3.length c0_3) := (blk_cell BK678.out 3).trans rfl; have hcz24_4 : w23.cell? ⟨gb678, 4, none⟩ = some (.string a0_4) := (blk_cell BK678.out 4).trans rfl; have hcz24_5 : w23.cell? ⟨gb678, 5, none⟩ = some (.string a0_5) := (blk_cell BK678.out 5).trans rfl; have hcz24_6 : w23.cell? ⟨gb678, 6, none⟩ = some (.string a0_6) := (blk_cell BK678.out 6).trans rfl; have hcz24_7 : w23.cell? ⟨gb678, 7, none⟩ = some (.int .i64 a0_7) := (blk_cell BK678.out 7).trans rfl; have hcz24_8 : w23.cell? ⟨gb678, 8, none⟩ = some (.int .i64 a0_8) := (blk_cell BK678.out 8).trans rfl; have hcz24_9 : w23.cell? ⟨gb678, 9, none⟩ = some (.int .i64 a0_9) := (blk_cell BK678.out 9).trans rfl; have hcz24_10 : w23.cell? ⟨gb678, 10, none⟩ = some (.bool a0_10) := (blk_cell BK678.out 10).trans rfl; have hcz24_11 : w23.cell? ⟨gb678, 11, none⟩ = some (.int .i64 a0_11) := (blk_cell BK678.out 11).trans rfl; have hcz24_12 : w23.cell? ⟨gb678, 12, none⟩ = some (.string a0_12) := (blk_cell BK678.out 12).trans rfl; have hcz24_13 : w23.cell? ⟨gb678, 13, none⟩ = some (.string a0_13) := (blk_cell BK678.out 13).trans rfl; have hfz24_0 := blk_frozen BK678.out 0; have hfz24_1 := blk_frozen BK678.out 1; have hfz24_2 := blk_frozen BK678.out 2; have hfz24_3 := blk_frozen BK678.out 3; have hfz24_4 := blk_frozen BK678.out 4; have hfz24_5 := blk_frozen BK678.out 5; have hfz24_6 := blk_frozen BK678.out 6; have hfz24_7 := blk_frozen BK678.out 7; have hfz24_8 := blk_frozen BK678.out 8; have hfz24_9 := blk_frozen BK678.out 9; have hfz24_10 := blk_frozen BK678.out 10; have hfz24_11 := blk_frozen BK678.out 11; have hfz24_12 := blk_frozen BK678.out 12; have hfz24_13 := blk_frozen BK678.out 13) | (go_at_call 64; (with_reducible refine (impl_areNames.calls (hG := au2) k _ _ l0_3 _ _ ?side1 ?side2 A10.out).mono ?_); (case side1 => repeat (first | exact (Kd.C_below HR0_3.out HB.out) | (with_reducible refine Kd.C_alloc ?_ _) | (with_reducible refine Kd.C_drewN ?_ _) | (with_reducible refine Kd.C_drew ?_))); (case side2 => exact HC0_3.out); rintro e w25 ⟨rfl, hb⟩; have n0_ := Aside0.mk (blk_below (g := gb678) (o := .cells #[.string a0_0, .int .i64 a0_1, .slice A0_2 l0_2.length c0_2, .slice A0_3 l0_3.length c0_3, .string a0_4, .string a0_5, .string a0_6, .int .i64 a0_7, .int .i64 a0_8, .int .i64 a0_9, .bool a0_10, .int .i64 a0_11, .string a0_12, .string a0_13] 65 (0, 0)) au18 hb); have n1_ := Aside0.mk (below_step au8 hb); clear BK678; clear HB; have BK678 := n0_; have HB := n1_; clear n0_ n1_; (try clear hb); (try clear hb2); (try clear hk); (try clear hi); have hcz26_0 : w25.cell? ⟨gb678, 0, none⟩ = some (.string a0_0) := (blk_cell BK678.out 0).trans rfl; have hcz26_1 : w25.cell? ⟨gb678, 1, none⟩ = some (.int .i64 a0_1) := (blk_cell BK678.out 1).trans rfl; have hcz26_2 : w25.cell? ⟨gb678, 2, none⟩ = some (.slice A0_2 l0_2.length c0_2) := (blk_cell BK678.out 2).trans rfl; have hcz26_3 : w25.cell? ⟨gb678, 3, none⟩ = some (.slice A0_3 l0_3.length c0_3) := (blk_cell BK678.out 3).trans rfl; have hcz26_4 : w25.cell? ⟨gb678, 4, none⟩ = some (.string a0_4) := (blk_cell BK678.out 4).trans rfl; have hcz26_5 : w25.cell? ⟨gb678, 5, none⟩ = some (.string a0_5) := (blk_cell BK678.out 5).trans rfl; have hcz26_6 : w25.cell? ⟨gb678, 6, none⟩ = some (.string a0_6) := (blk_cell BK678.out 6).trans rfl; have hcz26_7 : w25.cell? ⟨gb678, 7, none⟩ = some (.int .i64 a0_7) := (blk_cell BK678.out 7).trans rfl; have hcz26_8 : w25.cell? ⟨gb678, 8, none⟩ = some (.int .i64 a0_8) := (blk_cell BK678.out 8).trans rfl; have hcz26_9 : w25.cell? ⟨gb678, 9, none⟩ = some (.int .i64 a0_9) := (blk_cell BK678.out 9).trans rfl; have hcz26_10 : w25.cell? ⟨gb678, 10, none⟩ = some (.bool a0_10) := (blk_cell BK678.out 10).trans rfl; have hcz26_11 : w25.cell? ⟨gb678, 11, none⟩ = some (.int .i64 a0_11) := (blk_cell BK678.out 11).trans rfl; have hcz26_12 : w25.cell? ⟨gb678, 12, none⟩ = some (.string a0_12) := (blk_cell BK678.out 12).trans rfl; have hcz26_13 : w25.cell? ⟨gb678, 13, none⟩ = some (.string a0_13) := (blk_cell BK678.out 13).trans rfl; have hfz26_0 := blk_frozen BK678.out 0; have hfz26_1 := blk_frozen BK678.out 1; have hfz26_2 := blk_frozen BK678.out 2; have hfz26_3 := blk_frozen BK678.out 3; have hfz26_4 := blk_frozen BK678.out 4; have hfz26_5 := blk_frozen BK678.out 5; have hfz26_6 := blk_frozen BK678.out 6; have hfz26_7 := blk_frozen BK678.out 7; have hfz26_8 := blk_frozen BK678.out 8; have hfz26_9 := blk_frozen BK678.out 9; have hfz26_10 := blk_frozen BK678.out 10; have hfz26_11 := blk_frozen BK678.out 11; have hfz26_12 := blk_frozen BK678.out 12; have hfz26_13 := blk_frozen BK678.out 13) | (go_at_call 105; (with_reducible refine (impl_IsValidDate.calls k a0_7 a0_8 a0_9 a0_10 _ _ A12.out).mono ?_); rintro e w27 ⟨rfl, hb⟩; have n0_ := Aside0.mk (blk_below (g := gb678) (o := .cells #[.string a0_0, .int .i64 a0_1, .slice A0_2 l0_2.length c0_2, .slice A0_3 l0_3.length c0_3, .string a0_4, .string a0_5, .string a0_6, .int .i64 a0_7, .int .i64 a0_8, .int .i64 a0_9, .bool a0_10, .int .i64 a0_11, .string a0_12, .string a0_13] 65 (0, 0)) au18 hb); have n1_ := Aside0.mk (below_step au8 hb); clear BK678; clear HB; have BK678 := n0_; have HB := n1_; clear n0_ n1_; (try clear hb); (try clear hb2); (try clear hk); (try clear hi)))
              go_meet
              case rel => exact ⟨_, (true), au28, H', ⟨by first | omega | exact Nat.le_refl _⟩, ⟨by (with_reducible repeat (first | refine blk_drewN ?_ _ | refine blk_drew ?_ | refine blk_alloc ?_ _)); exact BK678.out⟩, ⟨by repeat (first | (with_reducible first | exact HB.out | apply below_alloc | apply pw_below_drewN | apply below_drew1 | refine below_set ?_ GE678.out) | exact HB.out)⟩⟩
          · replace c11 := Bool.eq_false_iff.mpr c11
            subst c11
            replace H := (if_neg (show ¬ (false = true) by decide)).symm.trans H
            have H' := Aside0.mk H
            clear H
            have hcz28_0 : w3.cell? ⟨gb678, 0, none⟩ = some (.string a0_0) := (blk_cell BK678.out 0).trans rfl
            have hcz28_1 : w3.cell? ⟨gb678, 1, none⟩ = some (.int .i64 a0_1) := (blk_cell BK678.out 1).trans rfl
            have hcz28_2 : w3.cell? ⟨gb678, 2, none⟩ = some (.slice A0_2 l0_2.length c0_2) := (blk_cell BK678.out 2).trans rfl
            have hcz28_3 : w3.cell? ⟨gb678, 3, none⟩ = some (.slice A0_3 l0_3.length c0_3) := (blk_cell BK678.out 3).trans rfl
            have hcz28_4 : w3.cell? ⟨gb678, 4, none⟩ = some (.string a0_4) := (blk_cell BK678.out 4).trans rfl
            have hcz28_5 : w3.cell? ⟨gb678, 5, none⟩ = some (.string a0_5) := (blk_cell BK678.out 5).trans rfl
            have hcz28_6 : w3.cell? ⟨gb678, 6, none⟩ = some (.string a0_6) := (blk_cell BK678.out 6).trans rfl
            have hcz28_7 : w3.cell? ⟨gb678, 7, none⟩ = some (.int .i64 a0_7) := (blk_cell BK678.out 7).trans rfl
            have hcz28_8 : w3.cell? ⟨gb678, 8, none⟩ = some (.int .i64 a0_8) := (blk_cell BK678.out 8).trans rfl
            have hcz28_9 : w3.cell? ⟨gb678, 9, none⟩ = some (.int .i64 a0_9) := (blk_cell BK678.out 9).trans rfl
            have hcz28_10 : w3.cell? ⟨gb678, 10, none⟩ = some (.bool a0_10) := (blk_cell BK678.out 10).trans rfl
            have hcz28_11 : w3.cell? ⟨gb678, 11, none⟩ = some (.int .i64 a0_11) := (blk_cell BK678.out 11).trans rfl
            have hcz28_12 : w3.cell? ⟨gb678, 12, none⟩ = some (.string a0_12) := (blk_cell BK678.out 12).trans rfl
            have hcz28_13 : w3.cell? ⟨gb678, 13, none⟩ = some (.string a0_13) := (blk_cell BK678.out 13).trans rfl
            have hfz28_0 := blk_frozen BK678.out 0
            have hfz28_1 := blk_frozen BK678.out 1
            have hfz28_2 := blk_frozen BK678.out 2
            have hfz28_3 := blk_frozen BK678.out 3
            have hfz28_4 := blk_frozen BK678.out 4
            have hfz28_5 := blk_frozen BK678.out 5
            have hfz28_6 := blk_frozen BK678.out 6
            have hfz28_7 := blk_frozen BK678.out 7
            have hfz28_8 := blk_frozen BK678.out 8
            have hfz28_9 := blk_frozen BK678.out 9
            have hfz28_10 := blk_frozen BK678.out 10
            have hfz28_11 := blk_frozen BK678.out 11
            have hfz28_12 := blk_frozen BK678.out 12
            have hfz28_13 := blk_frozen BK678.out 13
            go_wp2_with (first | ((with_reducible refine gate_callee (f := 103) rfl ?_); refine goesL_ (some 5) rfl rfl Tryd.func103 (by kernel_rfl) rfl #[.string a0_0] rfl au11 ?_; (with_reducible refine (impl_isKey.calls k a0_0 _ _ A4.out).mono ?_); rintro e w' ⟨rfl, ⟨nd, rfl⟩⟩; refine ⟨_, rfl, ?_⟩) | (go_at_call 104; (with_reducible refine (impl_isKind.calls a0_1 _ _ A6.out).mono ?_); rintro e w' ⟨rfl, ⟨nd, rfl⟩⟩) | (go_at_call 64; (with_reducible refine (impl_areNames.calls (hG := au2) k _ _ l0_2 _ _ ?side1 ?side2 A8.out).mono ?_); (case side1 => repeat (first | exact (Kd.C_below HR0_2.out au8) | (with_reducible refine Kd.C_alloc ?_ _) | (with_reducible refine Kd.C_drewN ?_ _) | (with_reducible refine Kd.C_drew ?_))); (case side2 => exact HC0_2.out); rintro e w29 ⟨rfl, hb⟩; have n0_ := Aside0.mk (blk_below (g := gb678) (o := .cells #[.string a0_0, .int .i64 a0_1, .slice A0_2 l0_2.length c0_2, .slice A0_3 l0_3.length c0_3, .string a0_4, .string a0_5, .string a0_6, .int .i64 a0_7, .int .i64 a0_8, .int .i64 a0_9, .bool a0_10, .int .i64 a0_11, .string a0_12, .string a0_13] 65 (0, 0)) au18 hb); have n1_ := Aside0.mk (below_step au8 hb); clear BK678; clear HB; have BK678 := n0_; have HB := n1_; clear n0_ n1_; (try clear hb); (try clear hb2); (try clear hk); (try clear hi); have hcz30_0 : w29.cell? ⟨gb678, 0, none⟩ = some (.string a0_0) := (blk_cell BK678.out 0).trans rfl; have hcz30_1 : w29.cell? ⟨gb678, 1, none⟩ = some (.int .i64 a0_1) := (blk_cell BK678.out 1).trans rfl; have hcz30_2 : w29.cell? ⟨gb678, 2, none⟩ = some (.slice A0_2 l0_2.length c0_2) := (blk_cell BK678.out 2).trans rfl; have hcz30_3 : w29.cell? ⟨gb678, 3, none⟩ = some (.slice A0_3 l0_3.length c0_3) := (blk_cell BK678.out 3).trans rfl; have hcz30_4 : w29.cell? ⟨gb678, 4, none⟩ = some (.string a0_4) := (blk_cell BK678.out 4).trans rfl; have hcz30_5 : w29.cell? ⟨gb678, 5, none⟩ = some (.string a0_5) := (blk_cell BK678.out 5).trans rfl; have hcz30_6 : w29.cell? ⟨gb678, 6, none⟩ = some (.string a0_6) := (blk_cell BK678.out 6).trans rfl; have hcz30_7 : w29.cell? ⟨gb678, 7, none⟩ = some (.int .i64 a0_7) := (blk_cell BK678.out 7).trans rfl; have hcz30_8 : w29.cell? ⟨gb678, 8, none⟩ = some (.int .i64 a0_8) := (blk_cell BK678.out 8).trans rfl; have hcz30_9 : w29.cell? ⟨gb678, 9, none⟩ = some (.int .i64 a0_9) := (blk_cell BK678.out 9).trans rfl; have hcz30_10 : w29.cell? ⟨gb678, 10, none⟩ = some (.bool a0_10) := (blk_cell BK678.out 10).trans rfl; have hcz30_11 : w29.cell? ⟨gb678, 11, none⟩ = some (.int .i64 a0_11) := (blk_cell BK678.out 11).trans rfl; have hcz30_12 : w29.cell? ⟨gb678, 12, none⟩ = some (.string a0_12) := (blk_cell BK678.out 12).trans rfl; have hcz30_13 : w29.cell? ⟨gb678, 13, none⟩ = some (.string a0_13) := (blk_cell BK678.out 13).trans rfl; have hfz30_0 := blk_frozen BK678.out 0; have hfz30_1 := blk_frozen BK678.out 1; have hfz30_2 := blk_frozen BK678.out 2; have hfz30_3 := blk_frozen BK678.out 3; have hfz30_4 := blk_frozen BK678.out 4; have hfz30_5 := blk_frozen BK678.out 5; have hfz30_6 := blk_frozen BK678.out 6; have hfz30_7 := blk_frozen BK678.out 7; have hfz30_8 := blk_frozen BK678.out 8; have hfz30_9 := blk_frozen BK678.out 9; have hfz30_10 := blk_frozen BK678.out 10; have hfz30_11 := blk_frozen BK678.out 11; have hfz30_12 := blk_frozen BK678.out 12; have hfz30_13 := blk_frozen BK678.out 13) | (go_at_call 64; (with_reducible refine (impl_areNames.calls (hG := au2) k _ _ l0_3 _ _ ?side1 ?side2 A10.out).mono ?_); (case side1 => repeat (first | exact (Kd.C_below HR0_3.out HB.out) | (with_reducible refine Kd.C_alloc ?_ _) | (with_reducible refine Kd.C_drewN ?_ _) | (with_reducible refine Kd.C_drew ?_))); (case side2 => exact HC0_3.out); rintro e w31 ⟨rfl, hb⟩; have n0_ := Aside0.mk (blk_below (g := gb678) (o := .cells #[.string a0_0, .int .i64 a0_1, .slice A0_2 l0_2.length c0_2, .slice A0_3 l0_3.length c0_3, .string a0_4, .string a0_5, .string a0_6, .int .i64 a0_7, .int .i64 a0_8, .int .i64 a0_9, .bool a0_10, .int .i64 a0_11, .string a0_12, .string a0_13] 65 (0, 0)) au18 hb); have n1_ := Aside0.mk (below_step au8 hb); clear BK678; clear HB; have BK678 := n0_; have HB := n1_; clear n0_ n1_; (try clear hb); (try clear hb2); (try clear hk); (try clear hi)))
            go_meet
            case rel => exact ⟨_, (true), au28, H', ⟨by first | omega | exact Nat.le_refl _⟩, ⟨by (with_reducible repeat (first | refine blk_drewN ?_ _ | refine blk_drew ?_ | refine blk_alloc ?_ _)); exact BK678.out⟩, ⟨by repeat (first | (with_reducible first | exact HB.out | apply below_alloc | apply pw_below_drewN | apply below_drew1 | refine below_set ?_ GE678.out) | exact HB.out)⟩⟩
        · replace c9 := Bool.eq_false_iff.mpr c9
          subst c9
          replace H := (if_neg (show ¬ (false = true) by decide)).symm.trans H
          have H' := Aside0.mk H
          clear H
          have hcz32_0 : w3.cell? ⟨gb678, 0, none⟩ = some (.string a0_0) := (blk_cell BK678.out 0).trans rfl
          have hcz32_1 : w3.cell? ⟨gb678, 1, none⟩ = some (.int .i64 a0_1) := (blk_cell BK678.out 1).trans rfl
          have hcz32_2 : w3.cell? ⟨gb678, 2, none⟩ = some (.slice A0_2 l0_2.length c0_2) := (blk_cell BK678.out 2).trans rfl
          have hcz32_3 : w3.cell? ⟨gb678, 3, none⟩ = some (.slice A0_3 l0_3.length c0_3) := (blk_cell BK678.out 3).trans rfl
          have hcz32_4 : w3.cell? ⟨gb678, 4, none⟩ = some (.string a0_4) := (blk_cell BK678.out 4).trans rfl
          have hcz32_5 : w3.cell? ⟨gb678, 5, none⟩ = some (.string a0_5) := (blk_cell BK678.out 5).trans rfl
          have hcz32_6 : w3.cell? ⟨gb678, 6, none⟩ = some (.string a0_6) := (blk_cell BK678.out 6).trans rfl
          have hcz32_7 : w3.cell? ⟨gb678, 7, none⟩ = some (.int .i64 a0_7) := (blk_cell BK678.out 7).trans rfl
          have hcz32_8 : w3.cell? ⟨gb678, 8, none⟩ = some (.int .i64 a0_8) := (blk_cell BK678.out 8).trans rfl
          have hcz32_9 : w3.cell? ⟨gb678, 9, none⟩ = some (.int .i64 a0_9) := (blk_cell BK678.out 9).trans rfl
          have hcz32_10 : w3.cell? ⟨gb678, 10, none⟩ = some (.bool a0_10) := (blk_cell BK678.out 10).trans rfl
          have hcz32_11 : w3.cell? ⟨gb678, 11, none⟩ = some (.int .i64 a0_11) := (blk_cell BK678.out 11).trans rfl
          have hcz32_12 : w3.cell? ⟨gb678, 12, none⟩ = some (.string a0_12) := (blk_cell BK678.out 12).trans rfl
          have hcz32_13 : w3.cell? ⟨gb678, 13, none⟩ = some (.string a0_13) := (blk_cell BK678.out 13).trans rfl
          have hfz32_0 := blk_frozen BK678.out 0
          have hfz32_1 := blk_frozen BK678.out 1
          have hfz32_2 := blk_frozen BK678.out 2
          have hfz32_3 := blk_frozen BK678.out 3
          have hfz32_4 := blk_frozen BK678.out 4
          have hfz32_5 := blk_frozen BK678.out 5
          have hfz32_6 := blk_frozen BK678.out 6
          have hfz32_7 := blk_frozen BK678.out 7
          have hfz32_8 := blk_frozen BK678.out 8
          have hfz32_9 := blk_frozen BK678.out 9
          have hfz32_10 := blk_frozen BK678.out 10
          have hfz32_11 := blk_frozen BK678.out 11
          have hfz32_12 := blk_frozen BK678.out 12
          have hfz32_13 := blk_frozen BK678.out 13
          go_wp2_with (first | ((with_reducible refine gate_callee (f := 103) rfl ?_); refine goesL_ (some 5) rfl rfl Tryd.func103 (by kernel_rfl) rfl #[.string a0_0] rfl au11 ?_; (with_reducible refine (impl_isKey.calls k a0_0 _ _ A4.out).mono ?_); rintro e w' ⟨rfl, ⟨nd, rfl⟩⟩; refine ⟨_, rfl, ?_⟩) | (go_at_call 104; (with_reducible refine (impl_isKind.calls a0_1 _ _ A6.out).mono ?_); rintro e w' ⟨rfl, ⟨nd, rfl⟩⟩) | (go_at_call 64; (with_reducible refine (impl_areNames.calls (hG := au2) k _ _ l0_2 _ _ ?side1 ?side2 A8.out).mono ?_); (case side1 => repeat (first | exact (Kd.C_below HR0_2.out au8) | (with_reducible refine Kd.C_alloc ?_ _) | (with_reducible refine Kd.C_drewN ?_ _) | (with_reducible refine Kd.C_drew ?_))); (case side2 => exact HC0_2.out); rintro e w33 ⟨rfl, hb⟩; have n0_ := Aside0.mk (blk_below (g := gb678) (o := .cells #[.string a0_0, .int .i64 a0_1, .slice A0_2 l0_2.length c0_2, .slice A0_3 l0_3.length c0_3, .string a0_4, .string a0_5, .string a0_6, .int .i64 a0_7, .int .i64 a0_8, .int .i64 a0_9, .bool a0_10, .int .i64 a0_11, .string a0_12, .string a0_13] 65 (0, 0)) au18 hb); have n1_ := Aside0.mk (below_step au8 hb); clear BK678; clear HB; have BK678 := n0_; have HB := n1_; clear n0_ n1_; (try clear hb); (try clear hb2); (try clear hk); (try clear hi)))
          go_meet
          case rel => exact ⟨_, (true), au28, H', ⟨by first | omega | exact Nat.le_refl _⟩, ⟨by (with_reducible repeat (first | refine blk_drewN ?_ _ | refine blk_drew ?_ | refine blk_alloc ?_ _)); exact BK678.out⟩, ⟨by repeat (first | (with_reducible first | exact HB.out | apply below_alloc | apply pw_below_drewN | apply below_drew1 | refine below_set ?_ GE678.out) | exact HB.out)⟩⟩
      · replace c7 := Bool.eq_false_iff.mpr c7
        subst c7
        replace H := (if_neg (show ¬ (false = true) by decide)).symm.trans H
        have H' := Aside0.mk H
        clear H
        exact impl_IsValidEntry.L1
    · replace c5 := Bool.eq_false_iff.mpr c5
      subst c5
      replace H := (if_neg (show ¬ (false = true) by decide)).symm.trans H
      have H' := Aside0.mk H
      clear H
      exact impl_IsValidEntry.L1
  case rest =>
    clear HC2
    try clear c1
    try clear p2
    try clear c4
    try clear c5
    try clear c7
    try clear c9
    try clear c10
    try clear c11
    try clear c13
    try clear hcz15_0
    try clear hcz15_1
    try clear hcz15_10
    try clear hcz15_11
    try clear hcz15_12
    try clear hcz15_13
    try clear hcz15_2
    try clear hcz15_3
    try clear hcz15_4
    try clear hcz15_5
    try clear hcz15_6
    try clear hcz15_7
    try clear hcz15_8
    try clear hcz15_9
    try clear hcz17_0
    try clear hcz17_1
    try clear hcz17_10
    try clear hcz17_11
    try clear hcz17_12
    try clear hcz17_13
    try clear hcz17_2
    try clear hcz17_3
    try clear hcz17_4
    try clear hcz17_5
    try clear hcz17_6
    try clear hcz17_7
    try clear hcz17_8
    try clear hcz17_9
    try clear hcz19_0
    try clear hcz19_1
    try clear hcz19_10
    try clear hcz19_11
    try clear hcz19_12
    try clear hcz19_13
    try clear hcz19_2
    try clear hcz19_3
    try clear hcz19_4
    try clear hcz19_5
    try clear hcz19_6
    try clear hcz19_7
    try clear hcz19_8
    try clear hcz19_9
    try clear hcz21_0
    try clear hcz21_1
    try clear hcz21_10
    try clear hcz21_11
    try clear hcz21_12
    try clear hcz21_13
    try clear hcz21_2
    try clear hcz21_3
    try clear hcz21_4
    try clear hcz21_5
    try clear hcz21_6
    try clear hcz21_7
    try clear hcz21_8
    try clear hcz21_9
    try clear hcz22_0
    try clear hcz22_1
    try clear hcz22_10
    try clear hcz22_11
    try clear hcz22_12
    try clear hcz22_13
    try clear hcz22_2
    try clear hcz22_3
    try clear hcz22_4
    try clear hcz22_5
    try clear hcz22_6
    try clear hcz22_7
    try clear hcz22_8
    try clear hcz22_9
    try clear hcz24_0
    try clear hcz24_1
    try clear hcz24_10
    try clear hcz24_11
    try clear hcz24_12
    try clear hcz24_13
    try clear hcz24_2
    try clear hcz24_3
    try clear hcz24_4
    try clear hcz24_5
    try clear hcz24_6
    try clear hcz24_7
    try clear hcz24_8
    try clear hcz24_9
    try clear hcz26_0
    try clear hcz26_1
    try clear hcz26_10
    try clear hcz26_11
    try clear hcz26_12
    try clear hcz26_13
    try clear hcz26_2
    try clear hcz26_3
    try clear hcz26_4
    try clear hcz26_5
    try clear hcz26_6
    try clear hcz26_7
    try clear hcz26_8
    try clear hcz26_9
    try clear hcz28_0
    try clear hcz28_1
    try clear hcz28_10
    try clear hcz28_11
    try clear hcz28_12
    try clear hcz28_13
    try clear hcz28_2
    try clear hcz28_3
    try clear hcz28_4
    try clear hcz28_5
    try clear hcz28_6
    try clear hcz28_7
    try clear hcz28_8
    try clear hcz28_9
    try clear hcz30_0
    try clear hcz30_1
    try clear hcz30_10
    try clear hcz30_11
    try clear hcz30_12
    try clear hcz30_13
    try clear hcz30_2
    try clear hcz30_3
    try clear hcz30_4
    try clear hcz30_5
    try clear hcz30_6
    try clear hcz30_7
    try clear hcz30_8
    try clear hcz30_9
    try clear hcz32_0
    try clear hcz32_1
    try clear hcz32_10
    try clear hcz32_11
    try clear hcz32_12
    try clear hcz32_13
    try clear hcz32_2
    try clear hcz32_3
    try clear hcz32_4
    try clear hcz32_5
    try clear hcz32_6
    try clear hcz32_7
    try clear hcz32_8
    try clear hcz32_9
    try clear hcz34_0
    try clear hcz34_1
    try clear hcz34_10
    try clear hcz34_11
    try clear hcz34_12
    try clear hcz34_13
    try clear hcz34_2
    try clear hcz34_3
    try clear hcz34_4
    try clear hcz34_5
    try clear hcz34_6
    try clear hcz34_7
    try clear hcz34_8
    try clear hcz34_9
    try clear hcz35_0
    try clear hcz35_1
    try clear hcz35_10
    try clear hcz35_11
    try clear hcz35_12
    try clear hcz35_13
    try clear hcz35_2
    try clear hcz35_3
    try clear hcz35_4
    try clear hcz35_5
    try clear hcz35_6
    try clear hcz35_7
    try clear hcz35_8
    try clear hcz35_9
    try clear hfz15_0
    try clear hfz15_1
    try clear hfz15_10
    try clear hfz15_11
    try clear hfz15_12
    try clear hfz15_13
    try clear hfz15_2
    try clear hfz15_3
    try clear hfz15_4
    try clear hfz15_5
    try clear hfz15_6
    try clear hfz15_7
    try clear hfz15_8
    try clear hfz15_9
    try clear hfz17_0
    try clear hfz17_1
    try clear hfz17_10
    try clear hfz17_11
    try clear hfz17_12
    try clear hfz17_13
    try clear hfz17_2
    try clear hfz17_3
    try clear hfz17_4
    try clear hfz17_5
    try clear hfz17_6
    try clear hfz17_7
    try clear hfz17_8
    try clear hfz17_9
    try clear hfz19_0
    try clear hfz19_1
    try clear hfz19_10
    try clear hfz19_11
    try clear hfz19_12
    try clear hfz19_13
    try clear hfz19_2
    try clear hfz19_3
    try clear hfz19_4
    try clear hfz19_5
    try clear hfz19_6
    try clear hfz19_7
    try clear hfz19_8
    try clear hfz19_9
    try clear hfz21_0
    try clear hfz21_1
    try clear hfz21_10
    try clear hfz21_11
    try clear hfz21_12
    try clear hfz21_13
    try clear hfz21_2
    try clear hfz21_3
    try clear hfz21_4
    try clear hfz21_5
    try clear hfz21_6
    try clear hfz21_7
    try clear hfz21_8
    try clear hfz21_9
    try clear hfz22_0
    try clear hfz22_1
    try clear hfz22_10
    try clear hfz22_11
    try clear hfz22_12
    try clear hfz22_13
    try clear hfz22_2
    try clear hfz22_3
    try clear hfz22_4
    try clear hfz22_5
    try clear hfz22_6
    try clear hfz22_7
    try clear hfz22_8
    try clear hfz22_9
    try clear hfz24_0
    try clear hfz24_1
    try clear hfz24_10
    try clear hfz24_11
    try clear hfz24_12
    try clear hfz24_13
    try clear hfz24_2
    try clear hfz24_3
    try clear hfz24_4
    try clear hfz24_5
    try clear hfz24_6
    try clear hfz24_7
    try clear hfz24_8
    try clear hfz24_9
    try clear hfz26_0
    try clear hfz26_1
    try clear hfz26_10
    try clear hfz26_11
    try clear hfz26_12
    try clear hfz26_13
    try clear hfz26_2
    try clear hfz26_3
    try clear hfz26_4
    try clear hfz26_5
    try clear hfz26_6
    try clear hfz26_7
    try clear hfz26_8
    try clear hfz26_9
    try clear hfz28_0
    try clear hfz28_1
    try clear hfz28_10
    try clear hfz28_11
    try clear hfz28_12
    try clear hfz28_13
    try clear hfz28_2
    try clear hfz28_3
    try clear hfz28_4
    try clear hfz28_5
    try clear hfz28_6
    try clear hfz28_7
    try clear hfz28_8
    try clear hfz28_9
    try clear hfz30_0
    try clear hfz30_1
    try clear hfz30_10
    try clear hfz30_11
    try clear hfz30_12
    try clear hfz30_13
    try clear hfz30_2
    try clear hfz30_3
    try clear hfz30_4
    try clear hfz30_5
    try clear hfz30_6
    try clear hfz30_7
    try clear hfz30_8
    try clear hfz30_9
    try clear hfz32_0
    try clear hfz32_1
    try clear hfz32_10
    try clear hfz32_11
    try clear hfz32_12
    try clear hfz32_13
    try clear hfz32_2
    try clear hfz32_3
    try clear hfz32_4
    try clear hfz32_5
    try clear hfz32_6
    try clear hfz32_7
    try clear hfz32_8
    try clear hfz32_9
    try clear hfz34_0
    try clear hfz34_1
    try clear hfz34_10
    try clear hfz34_11
    try clear hfz34_12
    try clear hfz34_13
    try clear hfz34_2
    try clear hfz34_3
    try clear hfz34_4
    try clear hfz34_5
    try clear hfz34_6
    try clear hfz34_7
    try clear hfz34_8
    try clear hfz34_9
    try clear hfz35_0
    try clear hfz35_1
    try clear hfz35_10
    try clear hfz35_11
    try clear hfz35_12
    try clear hfz35_13
    try clear hfz35_2
    try clear hfz35_3
    try clear hfz35_4
    try clear hfz35_5
    try clear hfz35_6
    try clear hfz35_7
    try clear hfz35_8
    try clear hfz35_9
    obtain ⟨kq, x36_1, rfl, HA, HJ1, BK678, HB⟩ := hcut
    cases kq with
    | zero => exact absurd HA.out (by simp [impl_IsValidEntry.j0])
    | succ kj1 =>
      have H := HA.out
      clear HA
      simp only [impl_IsValidEntry.j0] at H
      by_cases c36 : x36_1 = true
      · subst c36
        replace H := (if_pos rfl).symm.trans H
        obtain rfl := Option.some.inj H
        go_wp2
        go_ret
        exact ⟨by first | rfl | (simp [errW_none, errW_some] <;> rfl) | (simp [*, errW_none, errW_some] <;> rfl), by repeat (first | (with_reducible first | exact HB.out | apply below_alloc | apply pw_below_drewN | apply below_drew1 | refine below_set ?_ GE678.out) | exact HB.out)⟩
      · replace c36 := Bool.eq_false_iff.mpr c36
        subst c36
        replace H := (if_neg (show ¬ (false = true) by decide)).symm.trans H
        replace H := Option.bind_eq_some_iff.mp H
        obtain ⟨t685, A370, H⟩ := H
        try dsimp only at H
        have A37 := Aside0.mk A370
        clear A370
        by_cases c38 : t685 = true
        · subst c38
          replace H := (if_pos rfl).symm.trans H
          replace H := Option.bind_eq_some_iff.mp H
          obtain ⟨t686, A390, H⟩ := H
          try dsimp only at H
          have A39 := Aside0.mk A390
          clear A390
          by_cases c40 : t686 = true
          · subst c40
            replace H := (if_pos rfl).symm.trans H
            replace H := Option.bind_eq_some_iff.mp H
            obtain ⟨t687, A410, H⟩ := H
            try dsimp only at H
            have A41 := Aside0.mk A410
            clear A410
            by_cases c42 : t687 = true
            · subst c42
              replace H := (if_pos rfl).symm.trans H
              replace H := Option.bind_eq_some_iff.mp H
              obtain ⟨t688, A430, H⟩ := H
              try dsimp only at H
              have A43 := Aside0.mk A430
              clear A430
              by_cases c44 : t688 = true
              · subst c44
                replace H := (if_pos rfl).symm.trans H
                by_cases c45 : a0_13.toList = ([] : List UInt8)
                · rw [if_pos c45] at H
                  have c45b0 : (a0_13.toList == ([] : List UInt8)) = true := beq_iff_eq.mpr c45
                  have c45b1 : (a0_13.toList != ([] : List UInt8)) = false := bne_eq_false_iff_eq.mpr c45
                  clear c45
                  obtain rfl := Option.some.inj H
                  exact impl_IsValidEntry.L0
                · rw [if_neg c45] at H
                  have c45b0 : (a0_13.toList == ([] : List UInt8)) = false := beq_eq_false_iff_ne.mpr c45
                  have c45b1 : (a0_13.toList != ([] : List UInt8)) = true := bne_iff_ne.mpr c45
                  replace H := Option.bind_eq_some_iff.mp H
                  obtain ⟨t689, A550, H⟩ := H
                  try dsimp only at H
                  have A55 := Aside0.mk A550
                  clear A550
                  by_cases c56 : t689 = true
                  · subst c56
                    replace H := (if_pos rfl).symm.trans H
                    obtain rfl := Option.some.inj H
                    exact impl_IsValidEntry.L0
                  · replace c56 := Bool.eq_false_iff.mpr c56
                    subst c56
                    replace H := (if_neg (show ¬ (false = true) by decide)).symm.trans H
                    obtain rfl := Option.some.inj H
                    exact impl_IsValidEntry.L0
              · replace c44 := Bool.eq_false_iff.mpr c44
                subst c44
                replace H := (if_neg (show ¬ (false = true) by decide)).symm.trans H
                obtain rfl := Option.some.inj H
                have hcz75_0 : wc.cell? ⟨gb678, 0, none⟩ = some (.string a0_0) := (blk_cell BK678.out 0).trans rfl
                have hcz75_1 : wc.cell? ⟨gb678, 1, none⟩ = some (.int .i64 a0_1) := (blk_cell BK678.out 1).trans rfl
                have hcz75_2 : wc.cell? ⟨gb678, 2, none⟩ = some (.slice A0_2 l0_2.length c0_2) := (blk_cell BK678.out 2).trans rfl
                have hcz75_3 : wc.cell? ⟨gb678, 3, none⟩ = some (.slice A0_3 l0_3.length c0_3) := (blk_cell BK678.out 3).trans rfl
                have hcz75_4 : wc.cell? ⟨gb678, 4, none⟩ = some (.string a0_4) := (blk_cell BK678.out 4).trans rfl
                have hcz75_5 : wc.cell? ⟨gb678, 5, none⟩ = some (.string a0_5) := (blk_cell BK678.out 5).trans rfl
                have hcz75_6 : wc.cell? ⟨gb678, 6, none⟩ = some (.string a0_6) := (blk_cell BK678.out 6).trans rfl
                have hcz75_7 : wc.cell? ⟨gb678, 7, none⟩ = some (.int .i64 a0_7) := (blk_cell BK678.out 7).trans rfl
                have hcz75_8 : wc.cell? ⟨gb678, 8, none⟩ = some (.int .i64 a0_8) := (blk_cell BK678.out 8).trans rfl
                have hcz75_9 : wc.cell? ⟨gb678, 9, none⟩ = some (.int .i64 a0_9) := (blk_cell BK678.out 9).trans rfl
                have hcz75_10 : wc.cell? ⟨gb678, 10, none⟩ = some (.bool a0_10) := (blk_cell BK678.out 10).trans rfl
                have hcz75_11 : wc.cell? ⟨gb678, 11, none⟩ = some (.int .i64 a0_11) := (blk_cell BK678.out 11).trans rfl
                have hcz75_12 : wc.cell? ⟨gb678, 12, none⟩ = some (.string a0_12) := (blk_cell BK678.out 12).trans rfl
                have hcz75_13 : wc.cell? ⟨gb678, 13, none⟩ = some (.string a0_13) := (blk_cell BK678.out 13).trans rfl
                have hfz75_0 := blk_frozen BK678.out 0
                have hfz75_1 := blk_frozen BK678.out 1
                have hfz75_2 := blk_frozen BK678.out 2
                have hfz75_3 := blk_frozen BK678.out 3
                have hfz75_4 := blk_frozen BK678.out 4
                have hfz75_5 := blk_frozen BK678.out 5
                have hfz75_6 := blk_frozen BK678.out 6
                have hfz75_7 := blk_frozen BK678.out 7
                have hfz75_8 := blk_frozen BK678.out 8
                have hfz75_9 := blk_frozen BK678.out 9
                have hfz75_10 := blk_frozen BK678.out 10
                have hfz75_11 := blk_frozen BK678.out 11
                have hfz75_12 := blk_frozen BK678.out 12
                have hfz75_13 := blk_frozen BK678.out 13
                go_wp2_with (first | ((with_reducible refine gate_callee (f := 107) rfl ?_); refine goesL_ (some 39) rfl rfl Tryd.func107 (by kernel_rfl) rfl #[.string a0_4] rfl au11 ?_; (with_reducible refine (impl_isText.calls kj1 a0_4 _ _ A37.out).mono ?_); rintro e w76 ⟨rfl, hb⟩; refine ⟨_, rfl, ?_⟩; have n0_ := Aside0.mk (blk_below (g := gb678) (o := .cells #[.string a0_0, .int .i64 a0_1, .slice A0_2 l0_2.length c0_2, .slice A0_3 l0_3.length c0_3, .string a0_4, .string a0_5, .string a0_6, .int .i64 a0_7, .int .i64 a0_8, .int .i64 a0_9, .bool a0_10, .int .i64 a0_11, .string a0_12, .string a0_13] 65 (0, 0)) au18 hb); have n1_ := Aside0.mk (below_step au8 hb); clear BK678; clear HB; have BK678 := n0_; have HB := n1_; clear n0_ n1_; (try clear hb); (try clear hb2); (try clear hk); (try clear hi); have hcz77_0 : w76.cell? ⟨gb678, 0, none⟩ = some (.string a0_0) := (blk_cell BK678.out 0).trans rfl; have hcz77_1 : w76.cell? ⟨gb678, 1, none⟩ = some (.int .i64 a0_1) := (blk_cell BK678.out 1).trans rfl; have hcz77_2 : w76.cell? ⟨gb678, 2, none⟩ = some (.slice A0_2 l0_2.length c0_2) := (blk_cell BK678.out 2).trans rfl; have hcz77_3 : w76.cell? ⟨gb678, 3, none⟩ = some (.slice A0_3 l0_3.length c0_3) := (blk_cell BK678.out 3).trans rfl; have hcz77_4 : w76.cell? ⟨gb678, 4, none⟩ = some (.string a0_4) := (blk_cell BK678.out 4).trans rfl; have hcz77_5 : w76.cell? ⟨gb678, 5, none⟩ = some (.string a0_5) := (blk_cell BK678.out 5).trans rfl; have hcz77_6 : w76.cell? ⟨gb678, 6, none⟩ = some (.string a0_6) := (blk_cell BK678.out 6).trans rfl; have hcz77_7 : w76.cell? ⟨gb678, 7, none⟩ = some (.int .i64 a0_7) := (blk_cell BK678.out 7).trans rfl; have hcz77_8 : w76.cell? ⟨gb678, 8, none⟩ = some (.int .i64 a0_8) := (blk_cell BK678.out 8).trans rfl; have hcz77_9 : w76.cell? ⟨gb678, 9, none⟩ = some (.int .i64 a0_9) := (blk_cell BK678.out 9).trans rfl; have hcz77_10 : w76.cell? ⟨gb678, 10, none⟩ = some (.bool a0_10) := (blk_cell BK678.out 10).trans rfl; have hcz77_11 : w76.cell? ⟨gb678, 11, none⟩ = some (.int .i64 a0_11) := (blk_cell BK678.out 11).trans rfl; have hcz77_12 : w76.cell? ⟨gb678, 12, none⟩ = some (.string a0_12) := (blk_cell BK678.out 12).trans rfl; have hcz77_13 : w76.cell? ⟨gb678, 13, none⟩ = some (.string a0_13) := (blk_cell BK678.out 13).trans rfl; have hfz77_0 := blk_frozen BK678.out 0; have hfz77_1 := blk_frozen BK678.out 1; have hfz77_2 := blk_frozen BK678.out 2; have hfz77_3 := blk_frozen BK678.out 3; have hfz77_4 := blk_frozen BK678.out 4; have hfz77_5 := blk_frozen BK678.out 5; have hfz77_6 := blk_frozen BK678.out 6; have hfz77_7 := blk_frozen BK678.out 7; have hfz77_8 := blk_frozen BK678.out 8; have hfz77_9 := blk_frozen BK678.out 9; have hfz77_10 := blk_frozen BK678.out 10; have hfz77_11 := blk_frozen BK678.out 11; have hfz77_12 := blk_frozen BK678.out 12; have hfz77_13 := blk_frozen BK678.out 13) | (go_at_call 107; (with_reducible refine (impl_isText.calls kj1 a0_5 _ _ A39.out).mono ?_); rintro e w78 ⟨rfl, hb⟩; have n0_ := Aside0.mk (blk_below (g := gb678) (o := .cells #[.string a0_0, .int .i64 a0_1, .slice A0_2 l0_2.length c0_2, .slice A0_3 l0_3.length c0_3, .string a0_4, .string a0_5, .string a0_6, .int .i64 a0_7, .int .i64 a0_8, .int .i64 a0_9, .bool a0_10, .int .i64 a0_11, .string a0_12, .string a0_13] 65 (0, 0)) au18 hb); have n1_ := Aside0.mk (below_step au8 hb); clear BK678; clear HB; have BK678 := n0_; have HB := n1_; clear n0_ n1_; (try clear hb); (try clear hb2); (try clear hk); (try clear hi); have hcz79_0 : w78.cell? ⟨gb678, 0, none⟩ = some (.string a0_0) := (blk_cell BK678.out 0).trans rfl; have hcz79_1 : w78.cell? ⟨gb678, 1, none⟩ = some (.int .i64 a0_1) := (blk_cell BK678.out 1).trans rfl; have hcz79_2 : w78.cell? ⟨gb678, 2, none⟩ = some (.slice A0_2 l0_2.length c0_2) := (blk_cell BK678.out 2).trans rfl; have hcz79_3 : w78.cell? ⟨gb678, 3, none⟩ = some (.slice A0_3 l0_3.length c0_3) := (blk_cell BK678.out 3).trans rfl; have hcz79_4 : w78.cell? ⟨gb678, 4, none⟩ = some (.string a0_4) := (blk_cell BK678.out 4).trans rfl; have hcz79_5 : w78.cell? ⟨gb678, 5, none⟩ = some (.string a0_5) := (blk_cell BK678.out 5).trans rfl; have hcz79_6 : w78.cell? ⟨gb678, 6, none⟩ = some (.string a0_6) := (blk_cell BK678.out 6).trans rfl; have hcz79_7 : w78.cell? ⟨gb678, 7, none⟩ = some (.int .i64 a0_7) := (blk_cell BK678.out 7).trans rfl; have hcz79_8 : w78.cell? ⟨gb678, 8, none⟩ = some (.int .i64 a0_8) := (blk_cell BK678.out 8).trans rfl; have hcz79_9 : w78.cell? ⟨gb678, 9, none⟩ = some (.int .i64 a0_9) := (blk_cell BK678.out 9).trans rfl; have hcz79_10 : w78.cell? ⟨gb678, 10, none⟩ = some (.bool a0_10) := (blk_cell BK678.out 10).trans rfl; have hcz79_11 : w78.cell? ⟨gb678, 11, none⟩ = some (.int .i64 a0_11) := (blk_cell BK678.out 11).trans rfl; have hcz79_12 : w78.cell? ⟨gb678, 12, none⟩ = some (.string a0_12) := (blk_cell BK678.out 12).trans rfl; have hcz79_13 : w78.cell? ⟨gb678, 13, none⟩ = some (.string a0_13) := (blk_cell BK678.out 13).trans rfl; have hfz79_0 := blk_frozen BK678.out 0; have hfz79_1 := blk_frozen BK678.out 1; have hfz79_2 := blk_frozen BK678.out 2; have hfz79_3 := blk_frozen BK678.out 3; have hfz79_4 := blk_frozen BK678.out 4; have hfz79_5 := blk_frozen BK678.out 5; have hfz79_6 := blk_frozen BK678.out 6; have hfz79_7 := blk_frozen BK678.out 7; have hfz79_8 := blk_frozen BK678.out 8; have hfz79_9 := blk_frozen BK678.out 9; have hfz79_10 := blk_frozen BK678.out 10; have hfz79_11 := blk_frozen BK678.out 11; have hfz79_12 := blk_frozen BK678.out 12; have hfz79_13 := blk_frozen BK678.out 13) | (go_at_call 107; (with_reducible refine (impl_isText.calls kj1 a0_6 _ _ A41.out).mono ?_); rintro e w80 ⟨rfl, hb⟩; have n0_ := Aside0.mk (blk_below (g := gb678) (o := .cells #[.string a0_0, .int .i64 a0_1, .slice A0_2 l0_2.length c0_2, .slice A0_3 l0_3.length c0_3, .string a0_4, .string a0_5, .string a0_6, .int .i64 a0_7, .int .i64 a0_8, .int .i64 a0_9, .bool a0_10, .int .i64 a0_11, .string a0_12, .string a0_13] 65 (0, 0)) au18 hb); have n1_ := Aside0.mk (below_step au8 hb); clear BK678; clear HB; have BK678 := n0_; have HB := n1_; clear n0_ n1_; (try clear hb); (try clear hb2); (try clear hk); (try clear hi); have hcz81_0 : w80.cell? ⟨gb678, 0, none⟩ = some (.string a0_0) := (blk_cell BK678.out 0).trans rfl; have hcz81_1 : w80.cell? ⟨gb678, 1, none⟩ = some (.int .i64 a0_1) := (blk_cell BK678.out 1).trans rfl; have hcz81_2 : w80.cell? ⟨gb678, 2, none⟩ = some (.slice A0_2 l0_2.length c0_2) := (blk_cell BK678.out 2).trans rfl; have hcz81_3 : w80.cell? ⟨gb678, 3, none⟩ = some (.slice A0_3 l0_3.length c0_3) := (blk_cell BK678.out 3).trans rfl; have hcz81_4 : w80.cell? ⟨gb678, 4, none⟩ = some (.string a0_4) := (blk_cell BK678.out 4).trans rfl; have hcz81_5 : w80.cell? ⟨gb678, 5, none⟩ = some (.string a0_5) := (blk_cell BK678.out 5).trans rfl; have hcz81_6 : w80.cell? ⟨gb678, 6, none⟩ = some (.string a0_6) := (blk_cell BK678.out 6).trans rfl; have hcz81_7 : w80.cell? ⟨gb678, 7, none⟩ = some (.int .i64 a0_7) := (blk_cell BK678.out 7).trans rfl; have hcz81_8 : w80.cell? ⟨gb678, 8, none⟩ = some (.int .i64 a0_8) := (blk_cell BK678.out 8).trans rfl; have hcz81_9 : w80.cell? ⟨gb678, 9, none⟩ = some (.int .i64 a0_9) := (blk_cell BK678.out 9).trans rfl; have hcz81_10 : w80.cell? ⟨gb678, 10, none⟩ = some (.bool a0_10) := (blk_cell BK678.out 10).trans rfl; have hcz81_11 : w80.cell? ⟨gb678, 11, none⟩ = some (.int .i64 a0_11) := (blk_cell BK678.out 11).trans rfl; have hcz81_12 : w80.cell? ⟨gb678, 12, none⟩ = some (.string a0_12) := (blk_cell BK678.out 12).trans rfl; have hcz81_13 : w80.cell? ⟨gb678, 13, none⟩ = some (.string a0_13) := (blk_cell BK678.out 13).trans rfl; have hfz81_0 := blk_frozen BK678.out 0; have hfz81_1 := blk_frozen BK678.out 1; have hfz81_2 := blk_frozen BK678.out 2; have hfz81_3 := blk_frozen BK678.out 3; have hfz81_4 := blk_frozen BK678.out 4; have hfz81_5 := blk_frozen BK678.out 5; have hfz81_6 := blk_frozen BK678.out 6; have hfz81_7 := blk_frozen BK678.out 7; have hfz81_8 := blk_frozen BK678.out 8; have hfz81_9 := blk_frozen BK678.out 9; have hfz81_10 := blk_frozen BK678.out 10; have hfz81_11 := blk_frozen BK678.out 11; have hfz81_12 := blk_frozen BK678.out 12; have hfz81_13 := blk_frozen BK678.out 13) | (go_at_call 107; (with_reducible refine (impl_isText.calls kj1 a0_12 _ _ A43.out).mono ?_); rintro e w82 ⟨rfl, hb⟩; have n0_ := Aside0.mk (blk_below (g := gb678) (o := .cells #[.string a0_0, .int .i64 a0_1, .slice A0_2 l0_2.length c0_2, .slice A0_3 l0_3.length c0_3, .string a0_4, .string a0_5, .string a0_6, .int .i64 a0_7, .int .i64 a0_8, .int .i64 a0_9, .bool a0_10, .int .i64 a0_11, .string a0_12, .string a0_13] 65 (0, 0)) au18 hb); have n1_ := Aside0.mk (below_step au8 hb); clear BK678; clear HB; have BK678 := n0_; have HB := n1_; clear n0_ n1_; (try clear hb); (try clear hb2); (try clear hk); (try clear hi)))
                go_ret
                exact ⟨by first | rfl | (simp [errW_none, errW_some] <;> rfl) | (simp [*, errW_none, errW_some] <;> rfl), by repeat (first | (with_reducible first | exact HB.out | apply below_alloc | apply pw_below_drewN | apply below_drew1 | refine below_set ?_ GE678.out) | exact HB.out)⟩
            · replace c42 := Bool.eq_false_iff.mpr c42
              subst c42
              replace H := (if_neg (show ¬ (false = true) by decide)).symm.trans H
              obtain rfl := Option.some.inj H
              have hcz83_0 : wc.cell? ⟨gb678, 0, none⟩ = some (.string a0_0) := (blk_cell BK678.out 0).trans rfl
              have hcz83_1 : wc.cell? ⟨gb678, 1, none⟩ = some (.int .i64 a0_1) := (blk_cell BK678.out 1).trans rfl
              have hcz83_2 : wc.cell? ⟨gb678, 2, none⟩ = some (.slice A0_2 l0_2.length c0_2) := (blk_cell BK678.out 2).trans rfl
              have hcz83_3 : wc.cell? ⟨gb678, 3, none⟩ = some (.slice A0_3 l0_3.length c0_3) := (blk_cell BK678.out 3).trans rfl
              have hcz83_4 : wc.cell? ⟨gb678, 4, none⟩ = some (.string a0_4) := (blk_cell BK678.out 4).trans rfl
              have hcz83_5 : wc.cell? ⟨gb678, 5, none⟩ = some (.string a0_5) := (blk_cell BK678.out 5).trans rfl
              have hcz83_6 : wc.cell? ⟨gb678, 6, none⟩ = some (.string a0_6) := (blk_cell BK678.out 6).trans rfl
              have hcz83_7 : wc.cell? ⟨gb678, 7, none⟩ = some (.int .i64 a0_7) := (blk_cell BK678.out 7).trans rfl
              have hcz83_8 : wc.cell? ⟨gb678, 8, none⟩ = some (.int .i64 a0_8) := (blk_cell BK678.out 8).trans rfl
              have hcz83_9 : wc.cell? ⟨gb678, 9, none⟩ = some (.int .i64 a0_9) := (blk_cell BK678.out 9).trans rfl
              have hcz83_10 : wc.cell? ⟨gb678, 10, none⟩ = some (.bool a0_10) := (blk_cell BK678.out 10).trans rfl
              have hcz83_11 : wc.cell? ⟨gb678, 11, none⟩ = some (.int .i64 a0_11) := (blk_cell BK678.out 11).trans rfl
              have hcz83_12 : wc.cell? ⟨gb678, 12, none⟩ = some (.string a0_12) := (blk_cell BK678.out 12).trans rfl
              have hcz83_13 : wc.cell? ⟨gb678, 13, none⟩ = some (.string a0_13) := (blk_cell BK678.out 13).trans rfl
              have hfz83_0 := blk_frozen BK678.out 0
              have hfz83_1 := blk_frozen BK678.out 1
              have hfz83_2 := blk_frozen BK678.out 2
              have hfz83_3 := blk_frozen BK678.out 3
              have hfz83_4 := blk_frozen BK678.out 4
              have hfz83_5 := blk_frozen BK678.out 5
              have hfz83_6 := blk_frozen BK678.out 6
              have hfz83_7 := blk_frozen BK678.out 7
              have hfz83_8 := blk_frozen BK678.out 8
              have hfz83_9 := blk_frozen BK678.out 9
              have hfz83_10 := blk_frozen BK678.out 10
              have hfz83_11 := blk_frozen BK678.out 11
              have hfz83_12 := blk_frozen BK678.out 12
              have hfz83_13 := blk_frozen BK678.out 13
              go_wp2_with (first | ((with_reducible refine gate_callee (f := 107) rfl ?_); refine goesL_ (some 39) rfl rfl Tryd.func107 (by kernel_rfl) rfl #[.string a0_4] rfl au11 ?_; (with_reducible refine (impl_isText.calls kj1 a0_4 _ _ A37.out).mono ?_); rintro e w84 ⟨rfl, hb⟩; refine ⟨_, rfl, ?_⟩; have n0_ := Aside0.mk (blk_below (g := gb678) (o := .cells #[.string a0_0, .int .i64 a0_1, .slice A0_2 l0_2.length c0_2, .slice A0_3 l0_3.length c0_3, .string a0_4, .string a0_5, .string a0_6, .int .i64 a0_7, .int .i64 a0_8, .int .i64 a0_9, .bool a0_10, .int .i64 a0_11, .string a0_12, .string a0_13] 65 (0, 0)) au18 hb); have n1_ := Aside0.mk (below_step au8 hb); clear BK678; clear HB; have BK678 := n0_; have HB := n1_; clear n0_ n1_; (try clear hb); (try clear hb2); (try clear hk); (try clear hi); have hcz85_0 : w84.cell? ⟨gb678, 0, none⟩ = some (.string a0_0) := (blk_cell BK678.out 0).trans rfl; have hcz85_1 : w84.cell? ⟨gb678, 1, none⟩ = some (.int .i64 a0_1) := (blk_cell BK678.out 1).trans rfl; have hcz85_2 : w84.cell? ⟨gb678, 2, none⟩ = some (.slice A0_2 l0_2.length c0_2) := (blk_cell BK678.out 2).trans rfl; have hcz85_3 : w84.cell? ⟨gb678, 3, none⟩ = some (.slice A0_3 l0_3.length c0_3) := (blk_cell BK678.out 3).trans rfl; have hcz85_4 : w84.cell? ⟨gb678, 4, none⟩ = some (.string a0_4) := (blk_cell BK678.out 4).trans rfl; have hcz85_5 : w84.cell? ⟨gb678, 5, none⟩ = some (.string a0_5) := (blk_cell BK678.out 5).trans rfl; have hcz85_6 : w84.cell? ⟨gb678, 6, none⟩ = some (.string a0_6) := (blk_cell BK678.out 6).trans rfl; have hcz85_7 : w84.cell? ⟨gb678, 7, none⟩ = some (.int .i64 a0_7) := (blk_cell BK678.out 7).trans rfl; have hcz85_8 : w84.cell? ⟨gb678, 8, none⟩ = some (.int .i64 a0_8) := (blk_cell BK678.out 8).trans rfl; have hcz85_9 : w84.cell? ⟨gb678, 9, none⟩ = some (.int .i64 a0_9) := (blk_cell BK678.out 9).trans rfl; have hcz85_10 : w84.cell? ⟨gb678, 10, none⟩ = some (.bool a0_10) := (blk_cell BK678.out 10).trans rfl; have hcz85_11 : w84.cell? ⟨gb678, 11, none⟩ = some (.int .i64 a0_11) := (blk_cell BK678.out 11).trans rfl; have hcz85_12 : w84.cell? ⟨gb678, 12, none⟩ = some (.string a0_12) := (blk_cell BK678.out 12).trans rfl; have hcz85_13 : w84.cell? ⟨gb678, 13, none⟩ = some (.string a0_13) := (blk_cell BK678.out 13).trans rfl; have hfz85_0 := blk_frozen BK678.out 0; have hfz85_1 := blk_frozen BK678.out 1; have hfz85_2 := blk_frozen BK678.out 2; have hfz85_3 := blk_frozen BK678.out 3; have hfz85_4 := blk_frozen BK678.out 4; have hfz85_5 := blk_frozen BK678.out 5; have hfz85_6 := blk_frozen BK678.out 6; have hfz85_7 := blk_frozen BK678.out 7; have hfz85_8 := blk_frozen BK678.out 8; have hfz85_9 := blk_frozen BK678.out 9; have hfz85_10 := blk_frozen BK678.out 10; have hfz85_11 := blk_frozen BK678.out 11; have hfz85_12 := blk_frozen BK678.out 12; have hfz85_13 := blk_frozen BK678.out 13) | (go_at_call 107; (with_reducible refine (impl_isText.calls kj1 a0_5 _ _ A39.out).mono ?_); rintro e w86 ⟨rfl, hb⟩; have n0_ := Aside0.mk (blk_below (g := gb678) (o := .cells #[.string a0_0, .int .i64 a0_1, .slice A0_2 l0_2.length c0_2, .slice A0_3 l0_3.length c0_3, .string a0_4, .string a0_5, .string a0_6, .int .i64 a0_7, .int .i64 a0_8, .int .i64 a0_9, .bool a0_10, .int .i64 a0_11, .string a0_12, .string a0_13] 65 (0, 0)) au18 hb); have n1_ := Aside0.mk (below_step au8 hb); clear BK678; clear HB; have BK678 := n0_; have HB := n1_; clear n0_ n1_; (try clear hb); (try clear hb2); (try clear hk); (try clear hi); have hcz87_0 : w86.cell? ⟨gb678, 0, none⟩ = some (.string a0_0) := (blk_cell BK678.out 0).trans rfl; have hcz87_1 : w86.cell? ⟨gb678, 1, none⟩ = some (.int .i64 a0_1) := (blk_cell BK678.out 1).trans rfl; have hcz87_2 : w86.cell? ⟨gb678, 2, none⟩ = some (.slice A0_2 l0_2.length c0_2) := (blk_cell BK678.out 2).trans rfl; have hcz87_3 : w86.cell? ⟨gb678, 3, none⟩ = some (.slice A0_3 l0_3.length c0_3) := (blk_cell BK678.out 3).trans rfl; have hcz87_4 : w86.cell? ⟨gb678, 4, none⟩ = some (.string a0_4) := (blk_cell BK678.out 4).trans rfl; have hcz87_5 : w86.cell? ⟨gb678, 5, none⟩ = some (.string a0_5) := (blk_cell BK678.out 5).trans rfl; have hcz87_6 : w86.cell? ⟨gb678, 6, none⟩ = some (.string a0_6) := (blk_cell BK678.out 6).trans rfl; have hcz87_7 : w86.cell? ⟨gb678, 7, none⟩ = some (.int .i64 a0_7) := (blk_cell BK678.out 7).trans rfl; have hcz87_8 : w86.cell? ⟨gb678, 8, none⟩ = some (.int .i64 a0_8) := (blk_cell BK678.out 8).trans rfl; have hcz87_9 : w86.cell? ⟨gb678, 9, none⟩ = some (.int .i64 a0_9) := (blk_cell BK678.out 9).trans rfl; have hcz87_10 : w86.cell? ⟨gb678, 10, none⟩ = some (.bool a0_10) := (blk_cell BK678.out 10).trans rfl; have hcz87_11 : w86.cell? ⟨gb678, 11, none⟩ = some (.int .i64 a0_11) := (blk_cell BK678.out 11).trans rfl; have hcz87_12 : w86.cell? ⟨gb678, 12, none⟩ = some (.string a0_12) := (blk_cell BK678.out 12).trans rfl; have hcz87_13 : w86.cell? ⟨gb678, 13, none⟩ = some (.string a0_13) := (blk_cell BK678.out 13).trans rfl; have hfz87_0 := blk_frozen BK678.out 0; have hfz87_1 := blk_frozen BK678.out 1; have hfz87_2 := blk_frozen BK678.out 2; have hfz87_3 := blk_frozen BK678.out 3; have hfz87_4 := blk_frozen BK678.out 4; have hfz87_5 := blk_frozen BK678.out 5; have hfz87_6 := blk_frozen BK678.out 6; have hfz87_7 := blk_frozen BK678.out 7; have hfz87_8 := blk_frozen BK678.out 8; have hfz87_9 := blk_frozen BK678.out 9; have hfz87_10 := blk_frozen BK678.out 10; have hfz87_11 := blk_frozen BK678.out 11; have hfz87_12 := blk_frozen BK678.out 12; have hfz87_13 := blk_frozen BK678.out 13) | (go_at_call 107; (with_reducible refine (impl_isText.calls kj1 a0_6 _ _ A41.out).mono ?_); rintro e w88 ⟨rfl, hb⟩; have n0_ := Aside0.mk (blk_below (g := gb678) (o := .cells #[.string a0_0, .int .i64 a0_1, .slice A0_2 l0_2.length c0_2, .slice A0_3 l0_3.length c0_3, .string a0_4, .string a0_5, .string a0_6, .int .i64 a0_7, .int .i64 a0_8, .int .i64 a0_9, .bool a0_10, .int .i64 a0_11, .string a0_12, .string a0_13] 65 (0, 0)) au18 hb); have n1_ := Aside0.mk (below_step au8 hb); clear BK678; clear HB; have BK678 := n0_; have HB := n1_; clear n0_ n1_; (try clear hb); (try clear hb2); (try clear hk); (try clear hi)))
              go_ret
              exact ⟨by first | rfl | (simp [errW_none, errW_some] <;> rfl) | (simp [*, errW_none, errW_some] <;> rfl), by repeat (first | (with_reducible first | exact HB.out | apply below_alloc | apply pw_below_drewN | apply below_drew1 | refine below_set ?_ GE678.out) | exact HB.out)⟩
          · replace c40 := Bool.eq_false_iff.mpr c40
            subst c40
            replace H := (if_neg (show ¬ (false = true) by decide)).symm.trans H
            obtain rfl := Option.some.inj H
            have hcz89_0 : wc.cell? ⟨gb678, 0, none⟩ = some (.string a0_0) := (blk_cell BK678.out 0).trans rfl
            have hcz89_1 : wc.cell? ⟨gb678, 1, none⟩ = some (.int .i64 a0_1) := (blk_cell BK678.out 1).trans rfl
            have hcz89_2 : wc.cell? ⟨gb678, 2, none⟩ = some (.slice A0_2 l0_2.length c0_2) := (blk_cell BK678.out 2).trans rfl
            have hcz89_3 : wc.cell? ⟨gb678, 3, none⟩ = some (.slice A0_3 l0_3.length c0_3) := (blk_cell BK678.out 3).trans rfl
            have hcz89_4 : wc.cell? ⟨gb678, 4, none⟩ = some (.string a0_4) := (blk_cell BK678.out 4).trans rfl
            have hcz89_5 : wc.cell? ⟨gb678, 5, none⟩ = some (.string a0_5) := (blk_cell BK678.out 5).trans rfl
            have hcz89_6 : wc.cell? ⟨gb678, 6, none⟩ = some (.string a0_6) := (blk_cell BK678.out 6).trans rfl
            have hcz89_7 : wc.cell? ⟨gb678, 7, none⟩ = some (.int .i64 a0_7) := (blk_cell BK678.out 7).trans rfl
            have hcz89_8 : wc.cell? ⟨gb678, 8, none⟩ = some (.int .i64 a0_8) := (blk_cell BK678.out 8).trans rfl
            have hcz89_9 : wc.cell? ⟨gb678, 9, none⟩ = some (.int .i64 a0_9) := (blk_cell BK678.out 9).trans rfl
            have hcz89_10 : wc.cell? ⟨gb678, 10, none⟩ = some (.bool a0_10) := (blk_cell BK678.out 10).trans rfl
            have hcz89_11 : wc.cell? ⟨gb678, 11, none⟩ = some (.int .i64 a0_11) := (blk_cell BK678.out 11).trans rfl
            have hcz89_12 : wc.cell? ⟨gb678, 12, none⟩ = some (.string a0_12) := (blk_cell BK678.out 12).trans rfl
            have hcz89_13 : wc.cell? ⟨gb678, 13, none⟩ = some (.string a0_13) := (blk_cell BK678.out 13).trans rfl
            have hfz89_0 := blk_frozen BK678.out 0
            have hfz89_1 := blk_frozen BK678.out 1
            have hfz89_2 := blk_frozen BK678.out 2
            have hfz89_3 := blk_frozen BK678.out 3
            have hfz89_4 := blk_frozen BK678.out 4
            have hfz89_5 := blk_frozen BK678.out 5
            have hfz89_6 := blk_frozen BK678.out 6
            have hfz89_7 := blk_frozen BK678.out 7
            have hfz89_8 := blk_frozen BK678.out 8
            have hfz89_9 := blk_frozen BK678.out 9
            have hfz89_10 := blk_frozen BK678.out 10
            have hfz89_11 := blk_frozen BK678.out 11
            have hfz89_12 := blk_frozen BK678.out 12
            have hfz89_13 := blk_frozen BK678.out 13
            go_wp2_with (first | ((with_reducible refine gate_callee (f := 107) rfl ?_); refine goesL_ (some 39) rfl rfl Tryd.func107 (by kernel_rfl) rfl #[.string a0_4] rfl au11 ?_; (with_reducible refine (impl_isText.calls kj1 a0_4 _ _ A37.out).mono ?_); rintro e w90 ⟨rfl, hb⟩; refine ⟨_, rfl, ?_⟩; have n0_ := Aside0.mk (blk_below (g := gb678) (o := .cells #[.string a0_0, .int .i64 a0_1, .slice A0_2 l0_2.length c0_2, .slice A0_3 l0_3.length c0_3, .string a0_4, .string a0_5, .string a0_6, .int .i64 a0_7, .int .i64 a0_8, .int .i64 a0_9, .bool a0_10, .int .i64 a0_11, .string a0_12, .string a0_13] 65 (0, 0)) au18 hb); have n1_ := Aside0.mk (below_step au8 hb); clear BK678; clear HB; have BK678 := n0_; have HB := n1_; clear n0_ n1_; (try clear hb); (try clear hb2); (try clear hk); (try clear hi); have hcz91_0 : w90.cell? ⟨gb678, 0, none⟩ = some (.string a0_0) := (blk_cell BK678.out 0).trans rfl; have hcz91_1 : w90.cell? ⟨gb678, 1, none⟩ = some (.int .i64 a0_1) := (blk_cell BK678.out 1).trans rfl; have hcz91_2 : w90.cell? ⟨gb678, 2, none⟩ = some (.slice A0_2 l0_2.length c0_2) := (blk_cell BK678.out 2).trans rfl; have hcz91_3 : w90.cell? ⟨gb678, 3, none⟩ = some (.slice A0_3 l0_3.length c0_3) := (blk_cell BK678.out 3).trans rfl; have hcz91_4 : w90.cell? ⟨gb678, 4, none⟩ = some (.string a0_4) := (blk_cell BK678.out 4).trans rfl; have hcz91_5 : w90.cell? ⟨gb678, 5, none⟩ = some (.string a0_5) := (blk_cell BK678.out 5).trans rfl; have hcz91_6 : w90.cell? ⟨gb678, 6, none⟩ = some (.string a0_6) := (blk_cell BK678.out 6).trans rfl; have hcz91_7 : w90.cell? ⟨gb678, 7, none⟩ = some (.int .i64 a0_7) := (blk_cell BK678.out 7).trans rfl; have hcz91_8 : w90.cell? ⟨gb678, 8, none⟩ = some (.int .i64 a0_8) := (blk_cell BK678.out 8).trans rfl; have hcz91_9 : w90.cell? ⟨gb678, 9, none⟩ = some (.int .i64 a0_9) := (blk_cell BK678.out 9).trans rfl; have hcz91_10 : w90.cell? ⟨gb678, 10, none⟩ = some (.bool a0_10) := (blk_cell BK678.out 10).trans rfl; have hcz91_11 : w90.cell? ⟨gb678, 11, none⟩ = some (.int .i64 a0_11) := (blk_cell BK678.out 11).trans rfl; have hcz91_12 : w90.cell? ⟨gb678, 12, none⟩ = some (.string a0_12) := (blk_cell BK678.out 12).trans rfl; have hcz91_13 : w90.cell? ⟨gb678, 13, none⟩ = some (.string a0_13) := (blk_cell BK678.out 13).trans rfl; have hfz91_0 := blk_frozen BK678.out 0; have hfz91_1 := blk_frozen BK678.out 1; have hfz91_2 := blk_frozen BK678.out 2; have hfz91_3 := blk_frozen BK678.out 3; have hfz91_4 := blk_frozen BK678.out 4; have hfz91_5 := blk_frozen BK678.out 5; have hfz91_6 := blk_frozen BK678.out 6; have hfz91_7 := blk_frozen BK678.out 7; have hfz91_8 := blk_frozen BK678.out 8; have hfz91_9 := blk_frozen BK678.out 9; have hfz91_10 := blk_frozen BK678.out 10; have hfz91_11 := blk_frozen BK678.out 11; have hfz91_12 := blk_frozen BK678.out 12; have hfz91_13 := blk_frozen BK678.out 13) | (go_at_call 107; (with_reducible refine (impl_isText.calls kj1 a0_5 _ _ A39.out).mono ?_); rintro e w92 ⟨rfl, hb⟩; have n0_ := Aside0.mk (blk_below (g := gb678) (o := .cells #[.string a0_0, .int .i64 a0_1, .slice A0_2 l0_2.length c0_2, .slice A0_3 l0_3.length c0_3, .string a0_4, .string a0_5, .string a0_6, .int .i64 a0_7, .int .i64 a0_8, .int .i64 a0_9, .bool a0_10, .int .i64 a0_11, .string a0_12, .string a0_13] 65 (0, 0)) au18 hb); have n1_ := Aside0.mk (below_step au8 hb); clear BK678; clear HB; have BK678 := n0_; have HB := n1_; clear n0_ n1_; (try clear hb); (try clear hb2); (try clear hk); (try clear hi)))
            go_ret
            exact ⟨by first | rfl | (simp [errW_none, errW_some] <;> rfl) | (simp [*, errW_none, errW_some] <;> rfl), by repeat (first | (with_reducible first | exact HB.out | apply below_alloc | apply pw_below_drewN | apply below_drew1 | refine below_set ?_ GE678.out) | exact HB.out)⟩
        · replace c38 := Bool.eq_false_iff.mpr c38
          subst c38
          replace H := (if_neg (show ¬ (false = true) by decide)).symm.trans H
          obtain rfl := Option.some.inj H
          have hcz93_0 : wc.cell? ⟨gb678, 0, none⟩ = some (.string a0_0) := (blk_cell BK678.out 0).trans rfl
          have hcz93_1 : wc.cell? ⟨gb678, 1, none⟩ = some (.int .i64 a0_1) := (blk_cell BK678.out 1).trans rfl
          have hcz93_2 : wc.cell? ⟨gb678, 2, none⟩ = some (.slice A0_2 l0_2.length c0_2) := (blk_cell BK678.out 2).trans rfl
          have hcz93_3 : wc.cell? ⟨gb678, 3, none⟩ = some (.slice A0_3 l0_3.length c0_3) := (blk_cell BK678.out 3).trans rfl
          have hcz93_4 : wc.cell? ⟨gb678, 4, none⟩ = some (.string a0_4) := (blk_cell BK678.out 4).trans rfl
          have hcz93_5 : wc.cell? ⟨gb678, 5, none⟩ = some (.string a0_5) := (blk_cell BK678.out 5).trans rfl
          have hcz93_6 : wc.cell? ⟨gb678, 6, none⟩ = some (.string a0_6) := (blk_cell BK678.out 6).trans rfl
          have hcz93_7 : wc.cell? ⟨gb678, 7, none⟩ = some (.int .i64 a0_7) := (blk_cell BK678.out 7).trans rfl
          have hcz93_8 : wc.cell? ⟨gb678, 8, none⟩ = some (.int .i64 a0_8) := (blk_cell BK678.out 8).trans rfl
          have hcz93_9 : wc.cell? ⟨gb678, 9, none⟩ = some (.int .i64 a0_9) := (blk_cell BK678.out 9).trans rfl
          have hcz93_10 : wc.cell? ⟨gb678, 10, none⟩ = some (.bool a0_10) := (blk_cell BK678.out 10).trans rfl
          have hcz93_11 : wc.cell? ⟨gb678, 11, none⟩ = some (.int .i64 a0_11) := (blk_cell BK678.out 11).trans rfl
          have hcz93_12 : wc.cell? ⟨gb678, 12, none⟩ = some (.string a0_12) := (blk_cell BK678.out 12).trans rfl
          have hcz93_13 : wc.cell? ⟨gb678, 13, none⟩ = some (.string a0_13) := (blk_cell BK678.out 13).trans rfl
          have hfz93_0 := blk_frozen BK678.out 0
          have hfz93_1 := blk_frozen BK678.out 1
          have hfz93_2 := blk_frozen BK678.out 2
          have hfz93_3 := blk_frozen BK678.out 3
          have hfz93_4 := blk_frozen BK678.out 4
          have hfz93_5 := blk_frozen BK678.out 5
          have hfz93_6 := blk_frozen BK678.out 6
          have hfz93_7 := blk_frozen BK678.out 7
          have hfz93_8 := blk_frozen BK678.out 8
          have hfz93_9 := blk_frozen BK678.out 9
          have hfz93_10 := blk_frozen BK678.out 10
          have hfz93_11 := blk_frozen BK678.out 11
          have hfz93_12 := blk_frozen BK678.out 12
          have hfz93_13 := blk_frozen BK678.out 13
          go_wp2_with (first | ((with_reducible refine gate_callee (f := 107) rfl ?_); refine goesL_ (some 39) rfl rfl Tryd.func107 (by kernel_rfl) rfl #[.string a0_4] rfl au11 ?_; (with_reducible refine (impl_isText.calls kj1 a0_4 _ _ A37.out).mono ?_); rintro e w94 ⟨rfl, hb⟩; refine ⟨_, rfl, ?_⟩; have n0_ := Aside0.mk (blk_below (g := gb678) (o := .cells #[.string a0_0, .int .i64 a0_1, .slice A0_2 l0_2.length c0_2, .slice A0_3 l0_3.length c0_3, .string a0_4, .string a0_5, .string a0_6, .int .i64 a0_7, .int .i64 a0_8, .int .i64 a0_9, .bool a0_10, .int .i64 a0_11, .string a0_12, .string a0_13] 65 (0, 0)) au18 hb); have n1_ := Aside0.mk (below_step au8 hb); clear BK678; clear HB; have BK678 := n0_; have HB := n1_; clear n0_ n1_; (try clear hb); (try clear hb2); (try clear hk); (try clear hi)))
          go_ret
          exact ⟨by first | rfl | (simp [errW_none, errW_some] <;> rfl) | (simp [*, errW_none, errW_some] <;> rfl), by repeat (first | (with_reducible first | exact HB.out | apply below_alloc | apply pw_below_drewN | apply below_drew1 | refine below_set ?_ GE678.out) | exact HB.out)⟩


/-! ### laws_eqDate: function 108 -/
def laws_eqDate.f (a0_0 : Int) (a0_1 : Int) (a0_2 : Int) (a0_3 : Bool) (a1_0 : Int) (a1_1 : Int) (a1_2 : Int) (a1_3 : Bool) : Option (Bool) := if a0_0 = a1_0 then (if a0_1 = a1_1 then (if a0_2 = a1_2 then (if (a0_3 != a1_3) = true then (some false) else (some true)) else (some false)) else (some false)) else (some false)
set_option maxRecDepth 100000 in
theorem laws_eqDate.L0 {P : Prop} (h : P := by
    go_enter Tryd.func108, Tryd.ntmps108
    go_wp2_with (first | ((with_reducible refine gate_dst (N := 2) rfl ?_); refine box_event ?hg (N := 2) ?hd (cs := #[.int .i64 a0_0, .int .i64 a0_1, .int .i64 a0_2, .bool a0_3]) (t := 63) ?hr ?_; (case hd => rfl); (case hg => rfl); (case hr => first | (go_simp; done) | (go_simp; rfl)); intro gb690 hg w12 hbox hb; have n0_ := Aside0.mk (below_step au12 hb); have n1_ := Aside0.mk (hbox); have n2_ := Aside0.mk ((by rw [hg]; exact (below_size au12) : w.heap.size ≤ gb690)); have n3_ := Aside0.mk ((by rw [hg]; exact (below_size au12) : w.heap.size ≤ gb690)); clear HB; have HB := n0_; have BK690 := n1_; have GW690 := n2_; have GE690 := n3_; clear n0_ n1_ n2_ n3_; clear hb hbox hg) | ((with_reducible refine gate_dst (N := 3) rfl ?_); refine box_event ?hg (N := 3) ?hd (cs := #[.int .i64 a1_0, .int .i64 a1_1, .int .i64 a1_2, .bool a1_3]) (t := 63) ?hr ?_; (case hd => rfl); (case hg => rfl); (case hr => first | (go_simp; done) | (go_simp; rfl)); intro gb691 hg w13 hbox hb; have n0_ := Aside0.mk (blk_below (g := gb690) (o := .cells #[.int .i64 a0_0, .int .i64 a0_1, .int .i64 a0_2, .bool a0_3] 63 (0, 0)) (by (with_reducible repeat (first | refine blk_drewN ?_ _ | refine blk_drew ?_ | refine blk_alloc ?_ _)); exact BK690.out) hb); have n1_ := Aside0.mk (below_step (by repeat (first | (with_reducible first | exact HB.out | apply below_alloc | apply pw_below_drewN | apply below_drew1 | refine below_set ?_ GE690.out) | exact HB.out)) hb); have n2_ := Aside0.mk (hbox); have n3_ := Aside0.mk ((by rw [hg]; exact (below_size (by repeat (first | (with_reducible first | exact HB.out | apply below_alloc | apply pw_below_drewN | apply below_drew1 | refine below_set ?_ GE690.out) | exact HB.out))) : w.heap.size ≤ gb691)); have n4_ := Aside0.mk ((by rw [hg]; exact (below_size (by repeat (first | (with_reducible first | exact HB.out | apply below_alloc | apply pw_below_drewN | apply below_drew1 | refine below_set ?_ GE690.out) | exact HB.out))) : w.heap.size ≤ gb691)); have n5_ := Aside0.mk ((by rw [hg]; exact Nat.ne_of_lt (blk_lt (g := gb690) (o := .cells #[.int .i64 a0_0, .int .i64 a0_1, .int .i64 a0_2, .bool a0_3] 63 (0, 0)) (by (with_reducible repeat (first | refine blk_drewN ?_ _ | refine blk_drew ?_ | refine blk_alloc ?_ _)); exact BK690.out)) : gb690 ≠ gb691)); have n6_ := Aside0.mk ((by rw [hg]; exact Nat.ne_of_gt (blk_lt (g := gb690) (o := .cells #[.int .i64 a0_0, .int .i64 a0_1, .int .i64 a0_2, .bool a0_3] 63 (0, 0)) (by (with_reducible repeat (first | refine blk_drewN ?_ _ | refine blk_drew ?_ | refine blk_alloc ?_ _)); exact BK690.out)) : gb691 ≠ gb690)); clear BK690; clear HB; have BK690 := n0_; have HB := n1_; have BK691 := n2_; have GW691 := n3_; have GE691 := n4_; have NB690_691 := n5_; have NB691_690 := n6_; clear n0_ n1_ n2_ n3_ n4_ n5_ n6_; clear hb hbox hg; have hnb14 := NB690_691.out; have hnc14 := NB691_690.out; have hcz15_0 : w13.cell? ⟨gb690, 0, none⟩ = some (.int .i64 a0_0) := (blk_cell BK690.out 0).trans rfl; have hcz15_1 : w13.cell? ⟨gb690, 1, none⟩ = some (.int .i64 a0_1) := (blk_cell BK690.out 1).trans rfl; have hcz15_2 : w13.cell? ⟨gb690, 2, none⟩ = some (.int .i64 a0_2) := (blk_cell BK690.out 2).trans rfl; have hcz15_3 : w13.cell? ⟨gb690, 3, none⟩ = some (.bool a0_3) := (blk_cell BK690.out 3).trans rfl; have hfz15_0 := blk_frozen BK690.out 0; have hfz15_1 := blk_frozen BK690.out 1; have hfz15_2 := blk_frozen BK690.out 2; have hfz15_3 := blk_frozen BK690.out 3; have hcz16_0 : w13.cell? ⟨gb691, 0, none⟩ = some (.int .i64 a1_0) := (blk_cell BK691.out 0).trans rfl; have hcz16_1 : w13.cell? ⟨gb691, 1, none⟩ = some (.int .i64 a1_1) := (blk_cell BK691.out 1).trans rfl; have hcz16_2 : w13.cell? ⟨gb691, 2, none⟩ = some (.int .i64 a1_2) := (blk_cell BK691.out 2).trans rfl; have hcz16_3 : w13.cell? ⟨gb691, 3, none⟩ = some (.bool a1_3) := (blk_cell BK691.out 3).trans rfl; have hfz16_0 := blk_frozen BK691.out 0; have hfz16_1 := blk_frozen BK691.out 1; have hfz16_2 := blk_frozen BK691.out 2; have hfz16_3 := blk_frozen BK691.out 3))
    go_ret
    exact ⟨by first | rfl | (simp [errW_none, errW_some] <;> rfl) | (simp [*, errW_none, errW_some] <;> rfl), by repeat (first | (with_reducible first | exact HB.out | apply below_alloc | apply pw_below_drewN | apply below_drew1 | refine below_set ?_ GE690.out | refine below_set ?_ GE691.out) | exact HB.out)⟩) : P := h
set_option maxHeartbeats 8000000 in
set_option maxRecDepth 100000 in
theorem laws_eqDate.calls (a0_0 : Int) (a0_1 : Int) (a0_2 : Int) (a0_3 : Bool) (a1_0 : Int) (a1_1 : Int) (a1_2 : Int) (a1_3 : Bool) (r : Bool) (w : World) (h : laws_eqDate.f a0_0 a0_1 a0_2 a0_3 a1_0 a1_1 a1_2 a1_3 = some r) :
    Calls Tryd.prog 108 #[.agg #[.int .i64 a0_0, .int .i64 a0_1, .int .i64 a0_2, .bool a0_3], .agg #[.int .i64 a1_0, .int .i64 a1_1, .int .i64 a1_2, .bool a1_3]] w fun e w' => e = .returned (.bool r) ∧ Below w.heap.size w w' := by
  have hu63 := Tryd.underlying63
  have HB := Aside0.mk (Below.refl w.heap.size w)
  have H : (if a0_0 = a1_0 then (if a0_1 = a1_1 then (if a0_2 = a1_2 then (if (a0_3 != a1_3) = true then (some false) else (some true)) else (some false)) else (some false)) else (some false)) = some r := h
  clear h
  by_cases c3 : a0_0 = a1_0
  · rw [if_pos c3] at H
    have c3b0 : (a0_0 == a1_0) = true := beq_iff_eq.mpr c3
    have c3b1 : (a0_0 != a1_0) = false := bne_eq_false_iff_eq.mpr c3
    clear c3
    by_cases c4 : a0_1 = a1_1
    · rw [if_pos c4] at H
      have c4b0 : (a0_1 == a1_1) = true := beq_iff_eq.mpr c4
      have c4b1 : (a0_1 != a1_1) = false := bne_eq_false_iff_eq.mpr c4
      clear c4
      by_cases c5 : a0_2 = a1_2
      · rw [if_pos c5] at H
        have c5b0 : (a0_2 == a1_2) = true := beq_iff_eq.mpr c5
        have c5b1 : (a0_2 != a1_2) = false := bne_eq_false_iff_eq.mpr c5
        clear c5
        by_cases c6 : (a0_3 != a1_3) = true
        · rw [if_pos c6] at H
          have c6b0 : (a0_3 != a1_3) = true := c6
          (try (have c6b1 : decide (a0_3 = a1_3) = false := by simpa using c6))
          (try (have c6b2 : (a0_3 == a1_3) = false := by simpa using c6))
          (try (have c6b3 : ¬ (a0_3 = a1_3) := by simpa using c6))
          clear c6
          obtain rfl := Option.some.inj H
          exact laws_eqDate.L0
        · rw [if_neg c6] at H
          have c6b0 : (a0_3 != a1_3) = false := by simpa using c6
          (try (have c6b1 : decide (a0_3 = a1_3) = true := by simpa using c6))
          (try (have c6b2 : (a0_3 == a1_3) = true := by simpa using c6))
          clear c6
          obtain rfl := Option.some.inj H
          exact laws_eqDate.L0
      · rw [if_neg c5] at H
        have c5b0 : (a0_2 == a1_2) = false := beq_eq_false_iff_ne.mpr c5
        have c5b1 : (a0_2 != a1_2) = true := bne_iff_ne.mpr c5
        obtain rfl := Option.some.inj H
        exact laws_eqDate.L0
    · rw [if_neg c4] at H
      have c4b0 : (a0_1 == a1_1) = false := beq_eq_false_iff_ne.mpr c4
      have c4b1 : (a0_1 != a1_1) = true := bne_iff_ne.mpr c4
      obtain rfl := Option.some.inj H
      exact laws_eqDate.L0
  · rw [if_neg c3] at H
    have c3b0 : (a0_0 == a1_0) = false := beq_eq_false_iff_ne.mpr c3
    have c3b1 : (a0_0 != a1_0) = true := bne_iff_ne.mpr c3
    obtain rfl := Option.some.inj H
    exact laws_eqDate.L0


/-! ### laws_eqStringS: function 55 -/
def laws_eqStringS.l0 : Nat → List ByteArray → List ByteArray → Int → Option (Bool)
  | 0, _, _, _ => none
  | k + 1, x0, x1, x5 => if x5 < (x0.length : Int) then (if 0 ≤ x5 then (if x5 < (x1.length : Int) then (if (rdOf ByteArray.empty x0 x5).toList = (rdOf ByteArray.empty x1 x5).toList then (laws_eqStringS.l0 k x0 x1 (wrap64 (x5 + 1))) else (some false)) else (none)) else (none)) else (some true)
def laws_eqStringS.f (k : Nat) (l0 : List ByteArray) (l1 : List ByteArray) : Option (Bool) := if (l0.length : Int) = (l1.length : Int) then (laws_eqStringS.l0 k l0 l1 0) else (some false)
theorem laws_eqStringS.mono_l : ∀ k, (∀ y0 y1 y2, LeO (laws_eqStringS.l0 k y0 y1 y2) (laws_eqStringS.l0 (k + 1) y0 y1 y2))
  | 0 => fun _ _ _ r h => by simp [laws_eqStringS.l0] at h
  | k + 1 => by
    have ih0 := laws_eqStringS.mono_l k
    · intro y0 y1 y2
      unfold laws_eqStringS.l0
      repeat' first
      | (with_reducible exact ih0 _ _ _)
      | (with_reducible exact LeO.refl _)
      | (with_reducible exact LeO.none _)
      | (with_reducible refine LeO.ite ?_ ?_)
      | (with_reducible refine LeO.bind ?_ (fun _ => ?_))
      | exact ih0 _ _ _
      | exact LeO.none _
      | refine LeO.ite ?_ ?_
      | refine LeO.bind ?_ (fun _ => ?_)
theorem laws_eqStringS.mono : ∀ a0 a1 k, LeO (laws_eqStringS.f k a0 a1) (laws_eqStringS.f (k + 1) a0 a1) := by
  intro a0 a1 k
  have ih0 := laws_eqStringS.mono_l k
  unfold laws_eqStringS.f
  repeat' first
      | (with_reducible exact ih0 _ _ _)
      | (with_reducible exact LeO.refl _)
      | (with_reducible exact LeO.none _)
      | (with_reducible refine LeO.ite ?_ ?_)
      | (with_reducible refine LeO.bind ?_ (fun _ => ?_))
      | exact ih0 _ _ _
      | exact LeO.none _
      | refine LeO.ite ?_ ?_
      | refine LeO.bind ?_ (fun _ => ?_)
set_option maxHeartbeats 8000000 in
set_option maxRecDepth 100000 in
theorem laws_eqStringS.calls (k : Nat) (A0 : Option Addr) (c0 : Nat) (l0 : List ByteArray) (A1 : Option Addr) (c1 : Nat) (l1 : List ByteArray) (r : Bool) (w : World) (hr0 : Kd.C Kd.string w A0 l0.length l0) (hc0 : l0.length ≤ c0) (hr1 : Kd.C Kd.string w A1 l1.length l1) (hc1 : l1.length ≤ c1) (h : laws_eqStringS.f k l0 l1 = some r) :
    Calls Tryd.prog 55 #[.slice A0 l0.length c0, .slice A1 l1.length c1] w fun e w' => e = .returned (.bool r) ∧ Drawn0 w w' := by
  have HR0 := Aside0.mk hr0
  have HC0 := Aside0.mk hc0
  clear hr0 hc0
  have HR1 := Aside0.mk hr1
  have HC1 := Aside0.mk hc1
  clear hr1 hc1
  have H : (if (l0.length : Int) = (l1.length : Int) then (laws_eqStringS.l0 k l0 l1 0) else (some false)) = some r := h
  clear h
  by_cases c3 : (l0.length : Int) = (l1.length : Int)
  · rw [if_pos c3] at H
    have c3b0 : ((l0.length : Int) == (l1.length : Int)) = true := beq_iff_eq.mpr c3
    have c3b1 : ((l0.length : Int) != (l1.length : Int)) = false := bne_eq_false_iff_eq.mpr c3
    have c3b2 : (l0.length == l1.length) = true := by first | simpa using c3 | (simp at c3 ⊢; omega)
    clear c3
    have H' := Aside0.mk H
    clear H
    go_enter Tryd.func55, Tryd.ntmps55
    go_wp2
    repeat (go_quiet (fail); try go_wp2)
    go_loopg [5] k (fun kq v5 w' => ∃ (x5_1 : Int), v5 = .int .i64 x5_1 ∧ Aside0 (laws_eqStringS.l0 kq l0 l1 x5_1 = some r) ∧ Aside0 (kq ≤ k) ∧ Drawn0 w w')
    case atStart => exact ⟨(0), au28, H', ⟨Nat.le_refl _⟩, by repeat (first | exact Drawn0.refl _ | apply Drawn0.step)⟩
    case round =>
      clear H'
      try clear c1
      try clear p2
      try clear c3
      try clear c3b0
      try clear c3b1
      try clear c3b2
      obtain ⟨x5_1, rfl, HA, HK1, ⟨m1, rfl⟩⟩ := hrel
      cases gk with
      | zero => exact absurd HA.out (by simp [laws_eqStringS.l0])
      | succ k1 =>
        have H := HA.out
        clear HA
        simp only [laws_eqStringS.l0] at H
        by_cases c4 : x5_1 < (l0.length : Int)
        · rw [if_pos c4] at H
          have c4b0 : decide (x5_1 < (l0.length : Int)) = true := decide_eq_true c4
          clear c4
          by_cases c5 : 0 ≤ x5_1
          · rw [if_pos c5] at H
            have c5b0 : decide (0 ≤ x5_1) = true := decide_eq_true c5
            clear c5
            by_cases c6 : x5_1 < (l1.length : Int)
            · rw [if_pos c6] at H
              have c6b0 : decide (x5_1 < (l1.length : Int)) = true := decide_eq_true c6
              clear c6
              by_cases c7 : (rdOf ByteArray.empty l0 x5_1).toList = (rdOf ByteArray.empty l1 x5_1).toList
              · rw [if_pos c7] at H
                have c7b0 : ((rdOf ByteArray.empty l0 x5_1).toList == (rdOf ByteArray.empty l1 x5_1).toList) = true := beq_iff_eq.mpr c7
                have c7b1 : ((rdOf ByteArray.empty l0 x5_1).toList != (rdOf ByteArray.empty l1 x5_1).toList) = false := bne_eq_false_iff_eq.mpr c7
                clear c7
                have H' := Aside0.mk H
                clear H
                have p241 : 0 ≤ (x5_1 : Int) := of_decide_eq_true au27
                have q241 : x5_1 < (l0.length : Int) := of_decide_eq_true au27
                obtain ⟨ad241, e241, hx241_0⟩ := Kd.at_string HR0.out x5_1 p241 q241
                cases e241
                replace p241 := eq_true p241
                replace q241 := eq_true q241
                have p242 : 0 ≤ (x5_1 : Int) := of_decide_eq_true au27
                have q242 : x5_1 < (l1.length : Int) := of_decide_eq_true au27
                obtain ⟨ad242, e242, hx242_0⟩ := Kd.at_string HR1.out x5_1 p242 q242
                cases e242
                replace p242 := eq_true p242
                replace q242 := eq_true q242
                go_wp2
                repeat (go_quiet (fail); try go_wp2)
                go_roundg k1
                case measure => have := HK1.out; omega
                case rel => exact ⟨(wrap64 (x5_1 + 1)), au28, H', ⟨by have := HK1.out; omega⟩, by repeat (first | exact Drawn0.refl _ | apply Drawn0.step)⟩
              · rw [if_neg c7] at H
                have c7b0 : ((rdOf ByteArray.empty l0 x5_1).toList == (rdOf ByteArray.empty l1 x5_1).toList) = false := beq_eq_false_iff_ne.mpr c7
                have c7b1 : ((rdOf ByteArray.empty l0 x5_1).toList != (rdOf ByteArray.empty l1 x5_1).toList) = true := bne_iff_ne.mpr c7
                obtain rfl := Option.some.inj H
                have p241 : 0 ≤ (x5_1 : Int) := of_decide_eq_true au27
                have q241 : x5_1 < (l0.length : Int) := of_decide_eq_true au27
                obtain ⟨ad241, e241, hx241_0⟩ := Kd.at_string HR0.out x5_1 p241 q241
                cases e241
                replace p241 := eq_true p241
                replace q241 := eq_true q241
                have p242 : 0 ≤ (x5_1 : Int) := of_decide_eq_true au27
                have q242 : x5_1 < (l1.length : Int) := of_decide_eq_true au27
                obtain ⟨ad242, e242, hx242_0⟩ := Kd.at_string HR1.out x5_1 p242 q242
                cases e242
                replace p242 := eq_true p242
                replace q242 := eq_true q242
                go_wp2
                repeat (go_quiet (fail); try go_wp2)
                go_ret
                exact ⟨by first | rfl | (simp; done) | (simp [*]; done), by repeat (first | exact Drawn0.refl _ | apply Drawn0.step)⟩
            · rw [if_neg c6] at H
              exact absurd H (by simp)
          · rw [if_neg c5] at H
            exact absurd H (by simp)
        · rw [if_neg c4] at H
          have c4b0 : decide (x5_1 < (l0.length : Int)) = false := decide_eq_false c4
          clear c4
          obtain rfl := Option.some.inj H
          go_wp2
          repeat (go_quiet (fail); try go_wp2)
          go_ret
          exact ⟨by first | rfl | (simp; done) | (simp [*]; done), by repeat (first | exact Drawn0.refl _ | apply Drawn0.step)⟩
  · rw [if_neg c3] at H
    have c3b0 : ((l0.length : Int) == (l1.length : Int)) = false := beq_eq_false_iff_ne.mpr c3
    have c3b1 : ((l0.length : Int) != (l1.length : Int)) = true := bne_iff_ne.mpr c3
    have c3b2 : (l0.length == l1.length) = false := by first | simpa using c3 | (simp at c3 ⊢; omega)
    obtain rfl := Option.some.inj H
    go_enter Tryd.func55, Tryd.ntmps55
    go_wp2
    repeat (go_quiet (fail); try go_wp2)
    go_ret
    exact ⟨by first | rfl | (simp; done) | (simp [*]; done), by repeat (first | exact Drawn0.refl _ | apply Drawn0.step)⟩


/-! ### laws_eqName: function 67 -/
def laws_eqName.f (k : Nat) (l0_0 : List ByteArray) (a0_1 : ByteArray) (a0_2 : ByteArray) (a0_3 : ByteArray) (l1_0 : List ByteArray) (a1_1 : ByteArray) (a1_2 : ByteArray) (a1_3 : ByteArray) : Option (Bool) := (laws_eqStringS.f k l0_0 l1_0).bind fun t245 => (if t245 = true then (if a0_1.toList = a1_1.toList then (if a0_2.toList = a1_2.toList then (if a0_3.toList = a1_3.toList then (some true) else (some false)) else (some false)) else (some false)) else (some false))
theorem laws_eqName.mono : ∀ a0 a1 a2 a3 a4 a5 a6 a7 k, LeO (laws_eqName.f k a0 a1 a2 a3 a4 a5 a6 a7) (laws_eqName.f (k + 1) a0 a1 a2 a3 a4 a5 a6 a7) := by
  intro a0 a1 a2 a3 a4 a5 a6 a7 k
  unfold laws_eqName.f
  repeat' first
      | (with_reducible exact laws_eqStringS.mono _ _ _)
      | (with_reducible exact LeO.refl _)
      | (with_reducible exact LeO.none _)
      | (with_reducible refine LeO.ite ?_ ?_)
      | (with_reducible refine LeO.bind ?_ (fun _ => ?_))
      | exact laws_eqStringS.mono _ _ _
      | exact LeO.none _
      | refine LeO.ite ?_ ?_
      | refine LeO.bind ?_ (fun _ => ?_)
set_option maxRecDepth 100000 in
theorem laws_eqName.L0 {P : Prop} (h : P := by
    go_enter Tryd.func67, Tryd.ntmps67
    go_wp2_with (first | ((with_reducible refine gate_dst (N := 2) rfl ?_); refine box_event ?hg (N := 2) ?hd (cs := #[.slice A0_0 l0_0.length c0_0, .string a0_1, .string a0_2, .string a0_3]) (t := 34) ?hr ?_; (case hd => rfl); (case hg => rfl); (case hr => first | (go_simp; done) | (go_simp; rfl)); intro gb243 hg w13 hbox hb; have n0_ := Aside0.mk (below_step au12 hb); have n1_ := Aside0.mk (hbox); have n2_ := Aside0.mk ((by rw [hg]; exact (below_size au12) : w.heap.size ≤ gb243)); have n3_ := Aside0.mk ((by rw [hg]; exact (below_size au12) : w.heap.size ≤ gb243)); clear HB; have HB := n0_; have BK243 := n1_; have GW243 := n2_; have GE243 := n3_; clear n0_ n1_ n2_ n3_; clear hb hbox hg) | ((with_reducible refine gate_dst (N := 3) rfl ?_); refine box_event ?hg (N := 3) ?hd (cs := #[.slice A1_0 l1_0.length c1_0, .string a1_1, .string a1_2, .string a1_3]) (t := 34) ?hr ?_; (case hd => rfl); (case hg => rfl); (case hr => first | (go_simp; done) | (go_simp; rfl)); intro gb244 hg w14 hbox hb; have n0_ := Aside0.mk (blk_below (g := gb243) (o := .cells #[.slice A0_0 l0_0.length c0_0, .string a0_1, .string a0_2, .string a0_3] 34 (0, 0)) (by (with_reducible repeat (first | refine blk_drewN ?_ _ | refine blk_drew ?_ | refine blk_alloc ?_ _)); exact BK243.out) hb); have n1_ := Aside0.mk (below_step (by repeat (first | (with_reducible first | exact HB.out | apply below_alloc | apply pw_below_drewN | apply below_drew1 | refine below_set ?_ GE243.out) | exact HB.out)) hb); have n2_ := Aside0.mk (hbox); have n3_ := Aside0.mk ((by rw [hg]; exact (below_size (by repeat (first | (with_reducible first | exact HB.out | apply below_alloc | apply pw_below_drewN | apply below_drew1 | refine below_set ?_ GE243.out) | exact HB.out))) : w.heap.size ≤ gb244)); have n4_ := Aside0.mk ((by rw [hg]; exact (below_size (by repeat (first | (with_reducible first | exact HB.out | apply below_alloc | apply pw_below_drewN | apply below_drew1 | refine below_set ?_ GE243.out) | exact HB.out))) : w.heap.size ≤ gb244)); have n5_ := Aside0.mk ((by rw [hg]; exact Nat.ne_of_lt (blk_lt (g := gb243) (o := .cells #[.slice A0_0 l0_0.length c0_0, .string a0_1, .string a0_2, .string a0_3] 34 (0, 0)) (by (with_reducible repeat (first | refine blk_drewN ?_ _ | refine blk_drew ?_ | refine blk_alloc ?_ _)); exact BK243.out)) : gb243 ≠ gb244)); have n6_ := Aside0.mk ((by rw [hg]; exact Nat.ne_of_gt (blk_lt (g := gb243) (o := .cells #[.slice A0_0 l0_0.length c0_0, .string a0_1, .string a0_2, .string a0_3] 34 (0, 0)) (by (with_reducible repeat (first | refine blk_drewN ?_ _ | refine blk_drew ?_ | refine blk_alloc ?_ _)); exact BK243.out)) : gb244 ≠ gb243)); clear BK243; clear HB; have BK243 := n0_; have HB := n1_; have BK244 := n2_; have GW244 := n3_; have GE244 := n4_; have NB243_244 := n5_; have NB244_243 := n6_; clear n0_ n1_ n2_ n3_ n4_ n5_ n6_; clear hb hbox hg; have hnb15 := NB243_244.out; have hnc15 := NB244_243.out; have hcz16_0 : w14.cell? ⟨gb243, 0, none⟩ = some (.slice A0_0 l0_0.length c0_0) := (blk_cell BK243.out 0).trans rfl; have hcz16_1 : w14.cell? ⟨gb243, 1, none⟩ = some (.string a0_1) := (blk_cell BK243.out 1).trans rfl; have hcz16_2 : w14.cell? ⟨gb243, 2, none⟩ = some (.string a0_2) := (blk_cell BK243.out 2).trans rfl; have hcz16_3 : w14.cell? ⟨gb243, 3, none⟩ = some (.string a0_3) := (blk_cell BK243.out 3).trans rfl; have hfz16_0 := blk_frozen BK243.out 0; have hfz16_1 := blk_frozen BK243.out 1; have hfz16_2 := blk_frozen BK243.out 2; have hfz16_3 := blk_frozen BK243.out 3; have hcz17_0 : w14.cell? ⟨gb244, 0, none⟩ = some (.slice A1_0 l1_0.length c1_0) := (blk_cell BK244.out 0).trans rfl; have hcz17_1 : w14.cell? ⟨gb244, 1, none⟩ = some (.string a1_1) := (blk_cell BK244.out 1).trans rfl; have hcz17_2 : w14.cell? ⟨gb244, 2, none⟩ = some (.string a1_2) := (blk_cell BK244.out 2).trans rfl; have hcz17_3 : w14.cell? ⟨gb244, 3, none⟩ = some (.string a1_3) := (blk_cell BK244.out 3).trans rfl; have hfz17_0 := blk_frozen BK244.out 0; have hfz17_1 := blk_frozen BK244.out 1; have hfz17_2 := blk_frozen BK244.out 2; have hfz17_3 := blk_frozen BK244.out 3) | ((with_reducible refine gate_callee (f := 55) rfl ?_); refine goesL_ (some 9) rfl rfl Tryd.func55 (by kernel_rfl) rfl #[.slice A0_0 l0_0.length c0_0, .slice A1_0 l1_0.length c1_0] rfl au11 ?_; (with_reducible refine (laws_eqStringS.calls k _ _ l0_0 _ _ l1_0 _ _ ?side1 ?side2 ?side3 ?side4 A3.out).mono ?_); (case side1 => repeat (first | exact (Kd.C_below HR0_0.out HB.out) | (with_reducible refine Kd.C_alloc ?_ _) | (with_reducible refine Kd.C_drewN ?_ _) | (with_reducible refine Kd.C_drew ?_))); (case side2 => exact HC0_0.out); (case side3 => repeat (first | exact (Kd.C_below HR1_0.out HB.out) | (with_reducible refine Kd.C_alloc ?_ _) | (with_reducible refine Kd.C_drewN ?_ _) | (with_reducible refine Kd.C_drew ?_))); (case side4 => exact HC1_0.out); rintro e w' ⟨rfl, ⟨nd, rfl⟩⟩; refine ⟨_, rfl, ?_⟩))
    go_ret
    exact ⟨by first | rfl | (simp [errW_none, errW_some] <;> rfl) | (simp [*, errW_none, errW_some] <;> rfl), by repeat (first | (with_reducible first | exact HB.out | apply below_alloc | apply pw_below_drewN | apply below_drew1 | refine below_set ?_ GE243.out | refine below_set ?_ GE244.out) | exact HB.out)⟩) : P := h
set_option maxHeartbeats 8000000 in
set_option maxRecDepth 100000 in
theorem laws_eqName.calls (k : Nat) (A0_0 : Option Addr) (c0_0 : Nat) (l0_0 : List ByteArray) (a0_1 : ByteArray) (a0_2 : ByteArray) (a0_3 : ByteArray) (A1_0 : Option Addr) (c1_0 : Nat) (l1_0 : List ByteArray) (a1_1 : ByteArray) (a1_2 : ByteArray) (a1_3 : ByteArray) (r : Bool) (w : World) (hr0_0 : Kd.C Kd.string w A0_0 l0_0.length l0_0) (hc0_0 : l0_0.length ≤ c0_0) (hr1_0 : Kd.C Kd.string w A1_0 l1_0.length l1_0) (hc1_0 : l1_0.length ≤ c1_0) (h : laws_eqName.f k l0_0 a0_1 a0_2 a0_3 l1_0 a1_1 a1_2 a1_3 = some r) :
    Calls Tryd.prog 67 #[.agg #[.slice A0_0 l0_0.length c0_0, .string a0_1, .string a0_2, .string a0_3], .agg #[.slice A1_0 l1_0.length c1_0, .string a1_1, .string a1_2, .string a1_3]] w fun e w' => e = .returned (.bool r) ∧ Below w.heap.size w w' := by
  have hu34 := Tryd.underlying34
  have HR0_0 := Aside0.mk hr0_0
  have HC0_0 := Aside0.mk hc0_0
  clear hr0_0 hc0_0
  have HR1_0 := Aside0.mk hr1_0
  have HC1_0 := Aside0.mk hc1_0
  clear hr1_0 hc1_0
  have HB := Aside0.mk (Below.refl w.heap.size w)
  have H : ((laws_eqStringS.f k l0_0 l1_0).bind fun t245 => (if t245 = true then (if a0_1.toList = a1_1.toList then (if a0_2.toList = a1_2.toList then (if a0_3.toList = a1_3.toList then (some true) else (some false)) else (some false)) else (some false)) else (some false))) = some r := h
  clear h
  replace H := Option.bind_eq_some_iff.mp H
  obtain ⟨t245, A30, H⟩ := H
  try dsimp only at H
  have A3 := Aside0.mk A30
  clear A30
  by_cases c4 : t245 = true
  · subst c4
    replace H := (if_pos rfl).symm.trans H
    by_cases c5 : a0_1.toList = a1_1.toList
    · rw [if_pos c5] at H
      have c5b0 : (a0_1.toList == a1_1.toList) = true := beq_iff_eq.mpr c5
      have c5b1 : (a0_1.toList != a1_1.toList) = false := bne_eq_false_iff_eq.mpr c5
      clear c5
      by_cases c6 : a0_2.toList = a1_2.toList
      · rw [if_pos c6] at H
        have c6b0 : (a0_2.toList == a1_2.toList) = true := beq_iff_eq.mpr c6
        have c6b1 : (a0_2.toList != a1_2.toList) = false := bne_eq_false_iff_eq.mpr c6
        clear c6
        by_cases c7 : a0_3.toList = a1_3.toList
        · rw [if_pos c7] at H
          have c7b0 : (a0_3.toList == a1_3.toList) = true := beq_iff_eq.mpr c7
          have c7b1 : (a0_3.toList != a1_3.toList) = false := bne_eq_false_iff_eq.mpr c7
          clear c7
          obtain rfl := Option.some.inj H
          exact laws_eqName.L0
        · rw [if_neg c7] at H
          have c7b0 : (a0_3.toList == a1_3.toList) = false := beq_eq_false_iff_ne.mpr c7
          have c7b1 : (a0_3.toList != a1_3.toList) = true := bne_iff_ne.mpr c7
          obtain rfl := Option.some.inj H
          exact laws_eqName.L0
      · rw [if_neg c6] at H
        have c6b0 : (a0_2.toList == a1_2.toList) = false := beq_eq_false_iff_ne.mpr c6
        have c6b1 : (a0_2.toList != a1_2.toList) = true := bne_iff_ne.mpr c6
        obtain rfl := Option.some.inj H
        exact laws_eqName.L0
    · rw [if_neg c5] at H
      have c5b0 : (a0_1.toList == a1_1.toList) = false := beq_eq_false_iff_ne.mpr c5
      have c5b1 : (a0_1.toList != a1_1.toList) = true := bne_iff_ne.mpr c5
      obtain rfl := Option.some.inj H
      exact laws_eqName.L0
  · replace c4 := Bool.eq_false_iff.mpr c4
    subst c4
    replace H := (if_neg (show ¬ (false = true) by decide)).symm.trans H
    obtain rfl := Option.some.inj H
    exact laws_eqName.L0


/-! ### laws_eqNameS: function 16 -/
def laws_eqNameS.l0 : Nat → List (S34) → List (S34) → Int → Option (Bool)
  | 0, _, _, _ => none
  | k + 1, x0, x1, x5 => if x5 < (x0.length : Int) then (if 0 ≤ x5 then (if x5 < (x1.length : Int) then ((laws_eqName.f k ((rd_T34 x0 x5).f0) ((rd_T34 x0 x5).f1) ((rd_T34 x0 x5).f2) ((rd_T34 x0 x5).f3) ((rd_T34 x1 x5).f0) ((rd_T34 x1 x5).f1) ((rd_T34 x1 x5).f2) ((rd_T34 x1 x5).f3)).bind fun t248 => (if t248 = true then (laws_eqNameS.l0 k x0 x1 (wrap64 (x5 + 1))) else (some false))) else (none)) else (none)) else (some true)
def laws_eqNameS.f (k : Nat) (l0 : List (S34)) (l1 : List (S34)) : Option (Bool) := if (l0.length : Int) = (l1.length : Int) then (laws_eqNameS.l0 k l0 l1 0) else (some false)
theorem laws_eqNameS.mono_l : ∀ k, (∀ y0 y1 y2, LeO (laws_eqNameS.l0 k y0 y1 y2) (laws_eqNameS.l0 (k + 1) y0 y1 y2))
  | 0 => fun _ _ _ r h => by simp [laws_eqNameS.l0] at h
  | k + 1 => by
    have ih0 := laws_eqNameS.mono_l k
    · intro y0 y1 y2
      unfold laws_eqNameS.l0
      repeat' first
      | (with_reducible exact ih0 _ _ _)
      | (with_reducible exact laws_eqName.mono _ _ _ _ _ _ _ _ _)
      | (with_reducible exact LeO.refl _)
      | (with_reducible exact LeO.none _)
      | (with_reducible refine LeO.ite ?_ ?_)
      | (with_reducible refine LeO.bind ?_ (fun _ => ?_))
      | exact ih0 _ _ _
      | exact laws_eqName.mono _ _ _ _ _ _ _ _ _
      | exact LeO.none _
      | refine LeO.ite ?_ ?_
      | refine LeO.bind ?_ (fun _ => ?_)
theorem laws_eqNameS.mono : ∀ a0 a1 k, LeO (laws_eqNameS.f k a0 a1) (laws_eqNameS.f (k + 1) a0 a1) := by
  intro a0 a1 k
  have ih0 := laws_eqNameS.mono_l k
  unfold laws_eqNameS.f
  repeat' first
      | (with_reducible exact ih0 _ _ _)
      | (with_reducible exact laws_eqName.mono _ _ _ _ _ _ _ _ _)
      | (with_reducible exact LeO.refl _)
      | (with_reducible exact LeO.none _)
      | (with_reducible refine LeO.ite ?_ ?_)
      | (with_reducible refine LeO.bind ?_ (fun _ => ?_))
      | exact ih0 _ _ _
      | exact laws_eqName.mono _ _ _ _ _ _ _ _ _
      | exact LeO.none _
      | refine LeO.ite ?_ ?_
      | refine LeO.bind ?_ (fun _ => ?_)
def laws_eqNameS.T6 : Bool × List (List Nat × List Nat) := (true, [([], []), ([], []), ([0, 1], [0, 1]), ([2], [2]), ([], []), ([], []), ([4, 5], [4, 5]), ([6], [6]), ([3, 7], [3, 7]), ([8], [8])])
def laws_eqNameS.B6 : List Nat := [0, 0, 3, 7, 0, 0, 48, 112, 255, 511]
theorem laws_eqNameS.tab6 : rtab .any (opsOf Tryd.f16 6) = laws_eqNameS.T6 := by kernel_rfl
theorem laws_eqNameS.bits6 : waitsOk laws_eqNameS.T6.2 laws_eqNameS.B6 = true := by kernel_rfl
set_option maxHeartbeats 8000000 in
set_option maxRecDepth 100000 in
theorem laws_eqNameS.calls (k : Nat) (A0 : Option Addr) (c0 : Nat) (l0 : List (S34)) (A1 : Option Addr) (c1 : Nat) (l1 : List (S34)) (r : Bool) (w : World) (hr0 : Kd.C k34 w A0 l0.length l0) (hc0 : l0.length ≤ c0) (hr1 : Kd.C k34 w A1 l1.length l1) (hc1 : l1.length ≤ c1) (h : laws_eqNameS.f k l0 l1 = some r) :
    Calls Tryd.prog 16 #[.slice A0 l0.length c0, .slice A1 l1.length c1] w fun e w' => e = .returned (.bool r) ∧ Below w.heap.size w w' := by
  have hu34 := Tryd.underlying34
  have HR0 := Aside0.mk hr0
  have HC0 := Aside0.mk hc0
  clear hr0 hc0
  have HR1 := Aside0.mk hr1
  have HC1 := Aside0.mk hc1
  clear hr1 hc1
  have HB := Aside0.mk (Below.refl w.heap.size w)
  have H : (if (l0.length : Int) = (l1.length : Int) then (laws_eqNameS.l0 k l0 l1 0) else (some false)) = some r := h
  clear h
  by_cases c3 : (l0.length : Int) = (l1.length : Int)
  · rw [if_pos c3] at H
    have c3b0 : ((l0.length : Int) == (l1.length : Int)) = true := beq_iff_eq.mpr c3
    have c3b1 : ((l0.length : Int) != (l1.length : Int)) = false := bne_eq_false_iff_eq.mpr c3
    have c3b2 : (l0.length == l1.length) = true := by first | simpa using c3 | (simp at c3 ⊢; omega)
    clear c3
    have H' := Aside0.mk H
    clear H
    go_enter Tryd.func16, Tryd.ntmps16
    go_wp2
    go_loopg [5] k (fun kq v5 w' => ∃ (x5_1 : Int), v5 = .int .i64 x5_1 ∧ Aside0 (laws_eqNameS.l0 kq l0 l1 x5_1 = some r) ∧ Aside0 (kq ≤ k) ∧ Aside0 (Below w.heap.size w w'))
    case atStart => exact ⟨(0), au28, H', ⟨Nat.le_refl _⟩, ⟨by repeat (first | (with_reducible first | exact HB.out | apply below_alloc | apply pw_below_drewN | apply below_drew1) | exact HB.out)⟩⟩
    case round =>
      clear H'
      try clear c1
      try clear p2
      try clear c3
      try clear c3b0
      try clear c3b1
      try clear c3b2
      obtain ⟨x5_1, rfl, HA, HK1, HB⟩ := hrel
      cases gk with
      | zero => exact absurd HA.out (by simp [laws_eqNameS.l0])
      | succ k1 =>
        have H := HA.out
        clear HA
        simp only [laws_eqNameS.l0] at H
        by_cases c4 : x5_1 < (l0.length : Int)
        · rw [if_pos c4] at H
          have c4b0 : decide (x5_1 < (l0.length : Int)) = true := decide_eq_true c4
          clear c4
          by_cases c5 : 0 ≤ x5_1
          · rw [if_pos c5] at H
            have c5b0 : decide (0 ≤ x5_1) = true := decide_eq_true c5
            clear c5
            by_cases c6 : x5_1 < (l1.length : Int)
            · rw [if_pos c6] at H
              have c6b0 : decide (x5_1 < (l1.length : Int)) = true := decide_eq_true c6
              clear c6
              replace H := Option.bind_eq_some_iff.mp H
              obtain ⟨t248, A70, H⟩ := H
              try dsimp only at H
              have A7 := Aside0.mk A70
              clear A70
              by_cases c8 : t248 = true
              · subst c8
                replace H := (if_pos rfl).symm.trans H
                have H' := Aside0.mk H
                clear H
                try go_wp2
                have n0_ := Aside0.mk (below_drew1 HB.out)
                clear HB
                have HB := n0_
                clear n0_
                have p246 : 0 ≤ (x5_1 : Int) := of_decide_eq_true au27
                have q246 : x5_1 < (l0.length : Int) := of_decide_eq_true au27
                obtain ⟨ad246, A246_0, c246_0, e246, hx246_0, hx246_1, hx246_2, hx246_3, hl246_0, hi246_0⟩ := at_T34 HR0.out x5_1 p246 q246
                have hw246_3 := hx246_3
                have hw246_2 := hx246_2
                have hw246_1 := hx246_1
                have hw246_0 := hx246_0
                cases e246
                replace hx246_0 := (HB.out.cell (World.block_lt_of_cell? w _ hx246_0)).trans hx246_0
                replace hx246_1 := (HB.out.cell (World.block_lt_of_cell? w _ hx246_1)).trans hx246_1
                replace hx246_2 := (HB.out.cell (World.block_lt_of_cell? w _ hx246_2)).trans hx246_2
                replace hx246_3 := (HB.out.cell (World.block_lt_of_cell? w _ hx246_3)).trans hx246_3
                have HR246_0 := Aside0.mk hi246_0
                have HC246_0 := Aside0.mk hl246_0
                clear hi246_0 hl246_0
                replace p246 := eq_true p246
                replace q246 := eq_true q246
                have p247 : 0 ≤ (x5_1 : Int) := of_decide_eq_true au27
                have q247 : x5_1 < (l1.length : Int) := of_decide_eq_true au27
                obtain ⟨ad247, A247_0, c247_0, e247, hx247_0, hx247_1, hx247_2, hx247_3, hl247_0, hi247_0⟩ := at_T34 HR1.out x5_1 p247 q247
                have hw247_3 := hx247_3
                have hw247_2 := hx247_2
                have hw247_1 := hx247_1
                have hw247_0 := hx247_0
                cases e247
                replace hx247_0 := (HB.out.cell (World.block_lt_of_cell? w _ hx247_0)).trans hx247_0
                replace hx247_1 := (HB.out.cell (World.block_lt_of_cell? w _ hx247_1)).trans hx247_1
                replace hx247_2 := (HB.out.cell (World.block_lt_of_cell? w _ hx247_2)).trans hx247_2
                replace hx247_3 := (HB.out.cell (World.block_lt_of_cell? w _ hx247_3)).trans hx247_3
                have HR247_0 := Aside0.mk hi247_0
                have HC247_0 := Aside0.mk hl247_0
                clear hi247_0 hl247_0
                replace p247 := eq_true p247
                replace q247 := eq_true q247
                refine start_ (n := 10) (S := fun w' => w'.cell? (ad246.add ((x5_1).toNat * 4)) = some (.slice A246_0 ((rd_T34 l0 x5_1).f0).length c246_0) ∧ w'.cell? ⟨(ad246.add ((x5_1).toNat * 4)).block, (ad246.add ((x5_1).toNat * 4)).off + 1, none⟩ = some (.string ((rd_T34 l0 x5_1).f1)) ∧ w'.cell? ⟨(ad246.add ((x5_1).toNat * 4)).block, (ad246.add ((x5_1).toNat * 4)).off + 2, none⟩ = some (.string ((rd_T34 l0 x5_1).f2)) ∧ w'.cell? ⟨(ad246.add ((x5_1).toNat * 4)).block, (ad246.add ((x5_1).toNat * 4)).off + 3, none⟩ = some (.string ((rd_T34 l0 x5_1).f3)) ∧ w'.cell? (ad247.add ((x5_1).toNat * 4)) = some (.slice A247_0 ((rd_T34 l1 x5_1).f0).length c247_0) ∧ w'.cell? ⟨(ad247.add ((x5_1).toNat * 4)).block, (ad247.add ((x5_1).toNat * 4)).off + 1, none⟩ = some (.string ((rd_T34 l1 x5_1).f1)) ∧ w'.cell? ⟨(ad247.add ((x5_1).toNat * 4)).block, (ad247.add ((x5_1).toNat * 4)).off + 2, none⟩ = some (.string ((rd_T34 l1 x5_1).f2)) ∧ w'.cell? ⟨(ad247.add ((x5_1).toNat * 4)).block, (ad247.add ((x5_1).toNat * 4)).off + 3, none⟩ = some (.string ((rd_T34 l1 x5_1).f3))) (ds := []) #[false, false, false, false, false, false, false, false, false, false] (by kernel_rfl) rfl rfl ⟨((HB.out.cell (World.block_lt_of_cell? w _ hw246_0)).trans hw246_0), ((HB.out.cell (World.block_lt_of_cell? w _ hw246_1)).trans hw246_1), ((HB.out.cell (World.block_lt_of_cell? w _ hw246_2)).trans hw246_2), ((HB.out.cell (World.block_lt_of_cell? w _ hw246_3)).trans hw246_3), ((HB.out.cell (World.block_lt_of_cell? w _ hw247_0)).trans hw247_0), ((HB.out.cell (World.block_lt_of_cell? w _ hw247_1)).trans hw247_1), ((HB.out.cell (World.block_lt_of_cell? w _ hw247_2)).trans hw247_2), ((HB.out.cell (World.block_lt_of_cell? w _ hw247_3)).trans hw247_3)⟩ (fun hHeld => ?_); refine with_tabW laws_eqNameS.tab6 laws_eqNameS.bits6 (fun HT_ HW_ => ?_)
                generalize wr.drew = w9 at HB HR246_0 HR247_0 hx246_0 hx246_1 hx246_2 hx246_3 hx247_0 hx247_1 hx247_2 hx247_3 hHeld ⊢
                refine pure_ (i := 0) (N := some 17) (v := ?_) (a' := ?_) #[true, false, false, false, false, false, false, false, false, false] rfl rfl (any_of HT_.out (by kernel_rfl)) (fun _ _ _ h => h) (Or.inl ⟨by rfl, ?_⟩) ?_ ?_
                rotate_left
                · intro w'
                  go_simp
                  with_reducible rfl
                rotate_left
                · simp only [Act.put, List.setIfInBounds_toArray, List.set_cons_zero, List.set_cons_succ, i64_w, i32_w]
                  rfl
                refine pure_ (i := 1) (N := some 18) (v := ?_) (a' := ?_) #[true, true, false, false, false, false, false, false, false, false] rfl rfl (any_of HT_.out (by kernel_rfl)) (fun _ _ _ h => h) (Or.inl ⟨by rfl, ?_⟩) ?_ ?_
                rotate_left
                · intro w'
                  go_simp
                  with_reducible rfl
                rotate_left
                · simp only [Act.put, List.setIfInBounds_toArray, List.set_cons_zero, List.set_cons_succ, i64_w, i32_w]
                  rfl
                refine pure_ (i := 2) (N := some 19) (v := ?_) (a' := ?_) #[true, true, true, false, false, false, false, false, false, false] rfl rfl (any_of HT_.out (by kernel_rfl)) (fun _ _ _ h => h) (Or.inl ⟨by rfl, ?_⟩) ?_ ?_
                rotate_left
                · intro w'
                  go_simp
                  with_reducible rfl
                rotate_left
                · simp only [Act.put, List.setIfInBounds_toArray, List.set_cons_zero, List.set_cons_succ, i64_w, i32_w]
                  rfl
                refine pure_ (i := 4) (N := some 21) (v := ?_) (a' := ?_) #[true, true, true, false, true, false, false, false, false, false] rfl rfl (any_of HT_.out (by kernel_rfl)) (fun _ _ _ h => h) (Or.inl ⟨by rfl, ?_⟩) ?_ ?_
                rotate_left
                · intro w'
                  go_simp
                  with_reducible rfl
                rotate_left
                · simp only [Act.put, List.setIfInBounds_toArray, List.set_cons_zero, List.set_cons_succ, i64_w, i32_w]
                  rfl
                refine pure_ (i := 5) (N := some 22) (v := ?_) (a' := ?_) #[true, true, true, false, true, true, false, false, false, false] rfl rfl (any_of HT_.out (by kernel_rfl)) (fun _ _ _ h => h) (Or.inl ⟨by rfl, ?_⟩) ?_ ?_
                rotate_left
                · intro w'
                  go_simp
                  with_reducible rfl
                rotate_left
                · simp only [Act.put, List.setIfInBounds_toArray, List.set_cons_zero, List.set_cons_succ, i64_w, i32_w]
                  rfl
                refine pure_ (i := 6) (N := some 23) (v := ?_) (a' := ?_) #[true, true, true, false, true, true, true, false, false, false] rfl rfl (any_of HT_.out (by kernel_rfl)) (fun _ _ _ h => h) (Or.inl ⟨by rfl, ?_⟩) ?_ ?_
                rotate_left
                · intro w'
                  go_simp
                  with_reducible rfl
                rotate_left
                · simp only [Act.put, List.setIfInBounds_toArray, List.set_cons_zero, List.set_cons_succ, i64_w, i32_w]
                  rfl
                refine take_ (i := 3) (N := some 20) (v := ?_) (a' := ?_) #[true, true, true, true, true, true, true, false, false, false] rfl rfl (take_ofW HT_.out HW_.out (by kernel_rfl)) (fun _ _ _ h => h) (Or.inl ⟨by rfl, ?_⟩) hHeld ?_ ?_
                rotate_left
                · rintro w' ⟨s0, s1, s2, s3, s4, s5, s6, s7⟩
                  go_simp
                  with_reducible rfl
                rotate_left
                · simp only [Act.put, List.setIfInBounds_toArray, List.set_cons_zero, List.set_cons_succ, i64_w, i32_w]
                  rfl
                refine take_ (i := 7) (N := some 24) (v := ?_) (a' := ?_) #[true, true, true, true, true, true, true, true, false, false] rfl rfl (take_ofW HT_.out HW_.out (by kernel_rfl)) (fun _ _ _ h => h) (Or.inl ⟨by rfl, ?_⟩) hHeld ?_ ?_
                rotate_left
                · rintro w' ⟨s0, s1, s2, s3, s4, s5, s6, s7⟩
                  go_simp
                  with_reducible rfl
                rotate_left
                · simp only [Act.put, List.setIfInBounds_toArray, List.set_cons_zero, List.set_cons_succ, i64_w, i32_w]
                  rfl
                refine one_ (i := 8) (N := some 25) #[true, true, true, true, true, true, true, true, true, false] rfl rfl (one_of HT_.out (by kernel_rfl)) (by decide) (fun K hK => ?_)
                refine goes_ Tryd.func67 (by kernel_rfl) rfl #[.agg #[.slice A246_0 ((rd_T34 l0 x5_1).f0).length c246_0, .string ((rd_T34 l0 x5_1).f1), .string ((rd_T34 l0 x5_1).f2), .string ((rd_T34 l0 x5_1).f3)], .agg #[.slice A247_0 ((rd_T34 l1 x5_1).f0).length c247_0, .string ((rd_T34 l1 x5_1).f1), .string ((rd_T34 l1 x5_1).f2), .string ((rd_T34 l1 x5_1).f3)]] (by rfl) rfl rfl au11 ?_
                with_reducible refine (laws_eqName.calls k1 _ _ ((rd_T34 l0 x5_1).f0) ((rd_T34 l0 x5_1).f1) ((rd_T34 l0 x5_1).f2) ((rd_T34 l0 x5_1).f3) _ _ ((rd_T34 l1 x5_1).f0) ((rd_T34 l1 x5_1).f1) ((rd_T34 l1 x5_1).f2) ((rd_T34 l1 x5_1).f3) true _ ?side1 ?side2 ?side3 ?side4 A7.out).mono ?_
                (case side1 => repeat (first | exact (Kd.C_below HR246_0.out HB.out) | (with_reducible refine Kd.C_alloc ?_ _) | (with_reducible refine Kd.C_drewN ?_ _) | (with_reducible refine Kd.C_drew ?_)))
                (case side2 => exact HC246_0.out)
                (case side3 => repeat (first | exact (Kd.C_below HR247_0.out HB.out) | (with_reducible refine Kd.C_alloc ?_ _) | (with_reducible refine Kd.C_drewN ?_ _) | (with_reducible refine Kd.C_drew ?_)))
                (case side4 => exact HC247_0.out)
                rintro e w10 ⟨rfl, hb⟩
                refine ⟨_, rfl, ?_⟩
                have n0_ := Aside0.mk (below_step au12 hb)
                clear HB
                have HB := n0_
                clear n0_
                (try clear hb)
                (try clear hb2)
                (try clear hk)
                (try clear hi)
                refine hK.out _ _ ⟨((HB.out.cell (World.block_lt_of_cell? w _ hw246_0)).trans hw246_0), ((HB.out.cell (World.block_lt_of_cell? w _ hw246_1)).trans hw246_1), ((HB.out.cell (World.block_lt_of_cell? w _ hw246_2)).trans hw246_2), ((HB.out.cell (World.block_lt_of_cell? w _ hw246_3)).trans hw246_3), ((HB.out.cell (World.block_lt_of_cell? w _ hw247_0)).trans hw247_0), ((HB.out.cell (World.block_lt_of_cell? w _ hw247_1)).trans hw247_1), ((HB.out.cell (World.block_lt_of_cell? w _ hw247_2)).trans hw247_2), ((HB.out.cell (World.block_lt_of_cell? w _ hw247_3)).trans hw247_3)⟩ (fun hHeld => ?_)
                clear hK K
                refine norm_ (a' := ?_) ?_ ?_
                rotate_left
                · show Act.put _ (some 25) _ = _
                  simp only [Act.put, List.setIfInBounds_toArray, List.set_cons_zero, List.set_cons_succ, i64_w, i32_w]
                  rfl
                refine pure_ (i := 9) (N := some 26) (v := ?_) (a' := ?_) #[true, true, true, true, true, true, true, true, true, true] rfl rfl (any_of HT_.out (by kernel_rfl)) (fun _ _ _ h => h) (Or.inl ⟨by rfl, ?_⟩) ?_ ?_
                rotate_left
                · intro w'
                  go_simp
                  with_reducible rfl
                rotate_left
                · simp only [Act.put, List.setIfInBounds_toArray, List.set_cons_zero, List.set_cons_succ, i64_w, i32_w]
                  rfl
                refine done_ (done_of HT_.out (by kernel_rfl)) ?_
                try go_wp2
                go_roundg k1
                case measure => have := HK1.out; omega
                case rel => exact ⟨(wrap64 (x5_1 + 1)), au28, H', ⟨by have := HK1.out; omega⟩, ⟨by repeat (first | (with_reducible first | exact HB.out | apply below_alloc | apply pw_below_drewN | apply below_drew1) | exact HB.out)⟩⟩
              · replace c8 := Bool.eq_false_iff.mpr c8
                subst c8
                replace H := (if_neg (show ¬ (false = true) by decide)).symm.trans H
                obtain rfl := Option.some.inj H
                try go_wp2
                have n0_ := Aside0.mk (below_drew1 HB.out)
                clear HB
                have HB := n0_
                clear n0_
                have p246 : 0 ≤ (x5_1 : Int) := of_decide_eq_true au27
                have q246 : x5_1 < (l0.length : Int) := of_decide_eq_true au27
                obtain ⟨ad246, A246_0, c246_0, e246, hx246_0, hx246_1, hx246_2, hx246_3, hl246_0, hi246_0⟩ := at_T34 HR0.out x5_1 p246 q246
                have hw246_3 := hx246_3
                have hw246_2 := hx246_2
                have hw246_1 := hx246_1
                have hw246_0 := hx246_0
                cases e246
                replace hx246_0 := (HB.out.cell (World.block_lt_of_cell? w _ hx246_0)).trans hx246_0
                replace hx246_1 := (HB.out.cell (World.block_lt_of_cell? w _ hx246_1)).trans hx246_1
                replace hx246_2 := (HB.out.cell (World.block_lt_of_cell? w _ hx246_2)).trans hx246_2
                replace hx246_3 := (HB.out.cell (World.block_lt_of_cell? w _ hx246_3)).trans hx246_3
                have HR246_0 := Aside0.mk hi246_0
                have HC246_0 := Aside0.mk hl246_0
                clear hi246_0 hl246_0
                replace p246 := eq_true p246
                replace q246 := eq_true q246
                have p247 : 0 ≤ (x5_1 : Int) := of_decide_eq_true au27
                have q247 : x5_1 < (l1.length : Int) := of_decide_eq_true au27
                obtain ⟨ad247, A247_0, c247_0, e247, hx247_0, hx247_1, hx247_2, hx247_3, hl247_0, hi247_0⟩ := at_T34 HR1.out x5_1 p247 q247
                have hw247_3 := hx247_3
                have hw247_2 := hx247_2
                have hw247_1 := hx247_1
                have hw247_0 := hx247_0
                cases e247
                replace hx247_0 := (HB.out.cell (World.block_lt_of_cell? w _ hx247_0)).trans hx247_0
                replace hx247_1 := (HB.out.cell (World.block_lt_of_cell? w _ hx247_1)).trans hx247_1
                replace hx247_2 := (HB.out.cell (World.block_lt_of_cell? w _ hx247_2)).trans hx247_2
                replace hx247_3 := (HB.out.cell (World.block_lt_of_cell? w _ hx247_3)).trans hx247_3
                have HR247_0 := Aside0.mk hi247_0
                have HC247_0 := Aside0.mk hl247_0
                clear hi247_0 hl247_0
                replace p247 := eq_true p247
                replace q247 := eq_true q247
                refine start_ (n := 10) (S := fun w' => w'.cell? (ad246.add ((x5_1).toNat * 4)) = some (.slice A246_0 ((rd_T34 l0 x5_1).f0).length c246_0) ∧ w'.cell? ⟨(ad246.add ((x5_1).toNat * 4)).block, (ad246.add ((x5_1).toNat * 4)).off + 1, none⟩ = some (.string ((rd_T34 l0 x5_1).f1)) ∧ w'.cell? ⟨(ad246.add ((x5_1).toNat * 4)).block, (ad246.add ((x5_1).toNat * 4)).off + 2, none⟩ = some (.string ((rd_T34 l0 x5_1).f2)) ∧ w'.cell? ⟨(ad246.add ((x5_1).toNat * 4)).block, (ad246.add ((x5_1).toNat * 4)).off + 3, none⟩ = some (.string ((rd_T34 l0 x5_1).f3)) ∧ w'.cell? (ad247.add ((x5_1).toNat * 4)) = some (.slice A247_0 ((rd_T34 l1 x5_1).f0).length c247_0) ∧ w'.cell? ⟨(ad247.add ((x5_1).toNat * 4)).block, (ad247.add ((x5_1).toNat * 4)).off + 1, none⟩ = some (.string ((rd_T34 l1 x5_1).f1)) ∧ w'.cell? ⟨(ad247.add ((x5_1).toNat * 4)).block, (ad247.add ((x5_1).toNat * 4)).off + 2, none⟩ = some (.string ((rd_T34 l1 x5_1).f2)) ∧ w'.cell? ⟨(ad247.add ((x5_1).toNat * 4)).block, (ad247.add ((x5_1).toNat * 4)).off + 3, none⟩ = some (.string ((rd_T34 l1 x5_1).f3))) (ds := []) #[false, false, false, false, false, false, false, false, false, false] (by kernel_rfl) rfl rfl ⟨((HB.out.cell (World.block_lt_of_cell? w _ hw246_0)).trans hw246_0), ((HB.out.cell (World.block_lt_of_cell? w _ hw246_1)).trans hw246_1), ((HB.out.cell (World.block_lt_of_cell? w _ hw246_2)).trans hw246_2), ((HB.out.cell (World.block_lt_of_cell? w _ hw246_3)).trans hw246_3), ((HB.out.cell (World.block_lt_of_cell? w _ hw247_0)).trans hw247_0), ((HB.out.cell (World.block_lt_of_cell? w _ hw247_1)).trans hw247_1), ((HB.out.cell (World.block_lt_of_cell? w _ hw247_2)).trans hw247_2), ((HB.out.cell (World.block_lt_of_cell? w _ hw247_3)).trans hw247_3)⟩ (fun hHeld => ?_); refine with_tabW laws_eqNameS.tab6 laws_eqNameS.bits6 (fun HT_ HW_ => ?_)
                generalize wr.drew = w11 at HB HR246_0 HR247_0 hx246_0 hx246_1 hx246_2 hx246_3 hx247_0 hx247_1 hx247_2 hx247_3 hHeld ⊢
                refine pure_ (i := 0) (N := some 17) (v := ?_) (a' := ?_) #[true, false, false, false, false, false, false, false, false, false] rfl rfl (any_of HT_.out (by kernel_rfl)) (fun _ _ _ h => h) (Or.inl ⟨by rfl, ?_⟩) ?_ ?_
                rotate_left
                · intro w'
                  go_simp
                  with_reducible rfl
                rotate_left
                · simp only [Act.put, List.setIfInBounds_toArray, List.set_cons_zero, List.set_cons_succ, i64_w, i32_w]
                  rfl
                refine pure_ (i := 1) (N := some 18) (v := ?_) (a' := ?_) #[true, true, false, false, false, false, false, false, false, false] rfl rfl (any_of HT_.out (by kernel_rfl)) (fun _ _ _ h => h) (Or.inl ⟨by rfl, ?_⟩) ?_ ?_
                rotate_left
                · intro w'
                  go_simp
                  with_reducible rfl
                rotate_left
                · simp only [Act.put, List.setIfInBounds_toArray, List.set_cons_zero, List.set_cons_succ, i64_w, i32_w]
                  rfl
                refine pure_ (i := 2) (N := some 19) (v := ?_) (a' := ?_) #[true, true, true, false, false, false, false, false, false, false] rfl rfl (any_of HT_.out (by kernel_rfl)) (fun _ _ _ h => h) (Or.inl ⟨by rfl, ?_⟩) ?_ ?_
                rotate_left
                · intro w'
                  go_simp
                  with_reducible rfl
                rotate_left
                · simp only [Act.put, List.setIfInBounds_toArray, List.set_cons_zero, List.set_cons_succ, i64_w, i32_w]
                  rfl
                refine pure_ (i := 4) (N := some 21) (v := ?_) (a' := ?_) #[true, true, true, false, true, false, false, false, false, false] rfl rfl (any_of HT_.out (by kernel_rfl)) (fun _ _ _ h => h) (Or.inl ⟨by rfl, ?_⟩) ?_ ?_
                rotate_left
                · intro w'
                  go_simp
                  with_reducible rfl
                rotate_left
                · simp only [Act.put, List.setIfInBounds_toArray, List.set_cons_zero, List.set_cons_succ, i64_w, i32_w]
                  rfl
                refine pure_ (i := 5) (N := some 22) (v := ?_) (a' := ?_) #[true, true, true, false, true, true, false, false, false, false] rfl rfl (any_of HT_.out (by kernel_rfl)) (fun _ _ _ h => h) (Or.inl ⟨by rfl, ?_⟩) ?_ ?_
                rotate_left
                · intro w'
                  go_simp
                  with_reducible rfl
                rotate_left
                · simp only [Act.put, List.setIfInBounds_toArray, List.set_cons_zero, List.set_cons_succ, i64_w, i32_w]
                  rfl
                refine pure_ (i := 6) (N := some 23) (v := ?_) (a' := ?_) #[true, true, true, false, true, true, true, false, false, false] rfl rfl (any_of HT_.out (by kernel_rfl)) (fun _ _ _ h => h) (Or.inl ⟨by rfl, ?_⟩) ?_ ?_
                rotate_left
                · intro w'
                  go_simp
                  with_reducible rfl
                rotate_left
                · simp only [Act.put, List.setIfInBounds_toArray, List.set_cons_zero, List.set_cons_succ, i64_w, i32_w]
                  rfl
                refine take_ (i := 3) (N := some 20) (v := ?_) (a' := ?_) #[true, true, true, true, true, true, true, false, false, false] rfl rfl (take_ofW HT_.out HW_.out (by kernel_rfl)) (fun _ _ _ h => h) (Or.inl ⟨by rfl, ?_⟩) hHeld ?_ ?_
                rotate_left
                · rintro w' ⟨s0, s1, s2, s3, s4, s5, s6, s7⟩
                  go_simp
                  with_reducible rfl
                rotate_left
                · simp only [Act.put, List.setIfInBounds_toArray, List.set_cons_zero, List.set_cons_succ, i64_w, i32_w]
                  rfl
                refine take_ (i := 7) (N := some 24) (v := ?_) (a' := ?_) #[true, true, true, true, true, true, true, true, false, false] rfl rfl (take_ofW HT_.out HW_.out (by kernel_rfl)) (fun _ _ _ h => h) (Or.inl ⟨by rfl, ?_⟩) hHeld ?_ ?_
                rotate_left
                · rintro w' ⟨s0, s1, s2, s3, s4, s5, s6, s7⟩
                  go_simp
                  with_reducible rfl
                rotate_left
                · simp only [Act.put, List.setIfInBounds_toArray, List.set_cons_zero, List.set_cons_succ, i64_w, i32_w]
                  rfl
                refine one_ (i := 8) (N := some 25) #[true, true, true, true, true, true, true, true, true, false] rfl rfl (one_of HT_.out (by kernel_rfl)) (by decide) (fun K hK => ?_)
                refine goes_ Tryd.func67 (by kernel_rfl) rfl #[.agg #[.slice A246_0 ((rd_T34 l0 x5_1).f0).length c246_0, .string ((rd_T34 l0 x5_1).f1), .string ((rd_T34 l0 x5_1).f2), .string ((rd_T34 l0 x5_1).f3)], .agg #[.slice A247_0 ((rd_T34 l1 x5_1).f0).length c247_0, .string ((rd_T34 l1 x5_1).f1), .string ((rd_T34 l1 x5_1).f2), .string ((rd_T34 l1 x5_1).f3)]] (by rfl) rfl rfl au11 ?_
                with_reducible refine (laws_eqName.calls k1 _ _ ((rd_T34 l0 x5_1).f0) ((rd_T34 l0 x5_1).f1) ((rd_T34 l0 x5_1).f2) ((rd_T34 l0 x5_1).f3) _ _ ((rd_T34 l1 x5_1).f0) ((rd_T34 l1 x5_1).f1) ((rd_T34 l1 x5_1).f2) ((rd_T34 l1 x5_1).f3) false _ ?side1 ?side2 ?side3 ?side4 A7.out).mono ?_
                (case side1 => repeat (first | exact (Kd.C_below HR246_0.out HB.out) | (with_reducible refine Kd.C_alloc ?_ _) | (with_reducible refine Kd.C_drewN ?_ _) | (with_reducible refine Kd.C_drew ?_)))
                (case side2 => exact HC246_0.out)
                (case side3 => repeat (first | exact (Kd.C_below HR247_0.out HB.out) | (with_reducible refine Kd.C_alloc ?_ _) | (with_reducible refine Kd.C_drewN ?_ _) | (with_reducible refine Kd.C_drew ?_)))
                (case side4 => exact HC247_0.out)
                rintro e w12 ⟨rfl, hb⟩
                refine ⟨_, rfl, ?_⟩
                have n0_ := Aside0.mk (below_step au12 hb)
                clear HB
                have HB := n0_
                clear n0_
                (try clear hb)
                (try clear hb2)
                (try clear hk)
                (try clear hi)
                refine hK.out _ _ ⟨((HB.out.cell (World.block_lt_of_cell? w _ hw246_0)).trans hw246_0), ((HB.out.cell (World.block_lt_of_cell? w _ hw246_1)).trans hw246_1), ((HB.out.cell (World.block_lt_of_cell? w _ hw246_2)).trans hw246_2), ((HB.out.cell (World.block_lt_of_cell? w _ hw246_3)).trans hw246_3), ((HB.out.cell (World.block_lt_of_cell? w _ hw247_0)).trans hw247_0), ((HB.out.cell (World.block_lt_of_cell? w _ hw247_1)).trans hw247_1), ((HB.out.cell (World.block_lt_of_cell? w _ hw247_2)).trans hw247_2), ((HB.out.cell (World.block_lt_of_cell? w _ hw247_3)).trans hw247_3)⟩ (fun hHeld => ?_)
                clear hK K
                refine norm_ (a' := ?_) ?_ ?_
                rotate_left
                · show Act.put _ (some 25) _ = _
                  simp only [Act.put, List.setIfInBounds_toArray, List.set_cons_zero, List.set_cons_succ, i64_w, i32_w]
                  rfl
                refine pure_ (i := 9) (N := some 26) (v := ?_) (a' := ?_) #[true, true, true, true, true, true, true, true, true, true] rfl rfl (any_of HT_.out (by kernel_rfl)) (fun _ _ _ h => h) (Or.inl ⟨by rfl, ?_⟩) ?_ ?_
                rotate_left
                · intro w'
                  go_simp
                  with_reducible rfl
                rotate_left
                · simp only [Act.put, List.setIfInBounds_toArray, List.set_cons_zero, List.set_cons_succ, i64_w, i32_w]
                  rfl
                refine done_ (done_of HT_.out (by kernel_rfl)) ?_
                try go_wp2
                go_ret
                exact ⟨by first | rfl | (simp [errW_none, errW_some] <;> rfl) | (simp [*, errW_none, errW_some] <;> rfl), by repeat (first | (with_reducible first | exact HB.out | apply below_alloc | apply pw_below_drewN | apply below_drew1) | exact HB.out)⟩
            · rw [if_neg c6] at H
              exact absurd H (by simp)
          · rw [if_neg c5] at H
            exact absurd H (by simp)
        · rw [if_neg c4] at H
          have c4b0 : decide (x5_1 < (l0.length : Int)) = false := decide_eq_false c4
          clear c4
          obtain rfl := Option.some.inj H
          go_wp2
          go_ret
          exact ⟨by first | rfl | (simp [errW_none, errW_some] <;> rfl) | (simp [*, errW_none, errW_some] <;> rfl), by repeat (first | (with_reducible first | exact HB.out | apply below_alloc | apply pw_below_drewN | apply below_drew1) | exact HB.out)⟩
  · rw [if_neg c3] at H
    have c3b0 : ((l0.length : Int) == (l1.length : Int)) = false := beq_eq_false_iff_ne.mpr c3
    have c3b1 : ((l0.length : Int) != (l1.length : Int)) = true := bne_iff_ne.mpr c3
    have c3b2 : (l0.length == l1.length) = false := by first | simpa using c3 | (simp at c3 ⊢; omega)
    obtain rfl := Option.some.inj H
    go_enter Tryd.func16, Tryd.ntmps16
    go_wp2
    go_ret
    exact ⟨by first | rfl | (simp [errW_none, errW_some] <;> rfl) | (simp [*, errW_none, errW_some] <;> rfl), by repeat (first | (with_reducible first | exact HB.out | apply below_alloc | apply pw_below_drewN | apply below_drew1) | exact HB.out)⟩

end Go.Proofs.YtcckamdpncbkoabDoor.G
