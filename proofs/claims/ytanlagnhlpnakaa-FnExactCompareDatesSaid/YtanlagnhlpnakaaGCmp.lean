/- Plain laws of comparing dates: program and reference compare valid dates alike; no condition but that both are valid. -/
import Derived.Test.YtanlagnhlpnakaaGDates
import Derived.Test.YtanlagnhlpnakaaGF60
import Derived.Test.YtanlagnhlpnakaaGF61
namespace Go.Proofs.Ytanlagnhlpnakaa.G
open Go.RowKit Go.Proofs.YtanlagnhlpnakaaW.PrintWords Go.Proofs.YtanlagnhlpnakaaW.PrintLast
set_option linter.unusedVariables false
set_option linter.unusedSimpArgs false
theorem w64 {x : Int} (h : -9223372036854775808 ≤ x) (h' : x ≤ 9223372036854775807) : wrap64 x = x := by unfold wrap64; omega
def cmpI (a b : Int) : Int := if a < b then -1 else if a > b then 1 else 0
theorem cmp_int (a b : Int) : cmp_Compare_int.f a b = some (cmpI a b) := by
  unfold cmp_Compare_int.f cmp_isNaN_int.f cmpI
  simp only [Option.bind_some, bne_self_eq_false, Bool.false_eq_true, if_false]
  by_cases h : a < b <;> by_cases h' : a > b <;> simp [h, h']
def or4 (a b c d : Int) : Int := if a ≠ 0 then a else if b ≠ 0 then b else if c ≠ 0 then c else d
theorem cmp_or4 (k : Nat) (a b c d : Int) : cmp_Or_int.f (k + 5) [a, b, c, d] = some (or4 a b c d) := by
  unfold cmp_Or_int.f or4
  have w1 : wrap64 1 = 1 := w64 (by omega) (by omega)
  have w2 : wrap64 2 = 2 := w64 (by omega) (by omega)
  have w3 : wrap64 3 = 3 := w64 (by omega) (by omega)
  have w4 : wrap64 4 = 4 := w64 (by omega) (by omega)
  by_cases ha : a = 0 <;> by_cases hb : b = 0 <;> by_cases hc : c = 0 <;> by_cases hd : d = 0 <;> simp [cmp_Or_int.l0, rd, w1, w2, w3, w4, ha, hb, hc, hd]
def cmpD (y m d : Int) (c : Bool) (y' m' d' : Int) (c' : Bool) : Int :=
  or4 (cmpI y y') (cmpI m m') (cmpI d d') (cmpI (if c then 1 else 0) (if c' then 1 else 0))
theorem impl_cmp (k : Nat) (y m d : Int) (c : Bool) (y' m' d' : Int) (c' : Bool) : impl_compareDates.f (k + 5) y m d c y' m' d' c' = some (cmpD y m d c y' m' d' c') := by
  unfold impl_compareDates.f impl_circaNumber.f cmpD
  cases c <;> cases c' <;> simp [cmp_int, cmp_or4]
theorem days_bd (y m : Int) : 28 ≤ daysD y m ∧ daysD y m ≤ 31 := by
  unfold daysD
  by_cases a : m = 2 ∧ True
  · simp only [if_pos a.1]; split <;> omega
  · rw [if_neg (by simpa using a)]; split <;> omega
theorem good_bd {y m d : Int} {c : Bool} (h : goodD y m d c = true) : 0 ≤ y ∧ y ≤ 2999 ∧ 0 ≤ m ∧ m ≤ 12 ∧ 0 ≤ d ∧ d ≤ 31 ∧ (c = true → m = 0 ∧ d = 0) := by
  unfold goodD at h
  by_cases z : y = 0 ∧ m = 0 ∧ d = 0 ∧ c = false
  · obtain ⟨rfl, rfl, rfl, rfl⟩ := z; simp
  · rw [if_neg z] at h
    by_cases a : 1 ≤ y ∧ y ≤ 2999 ∧ 0 ≤ m ∧ m ≤ 12
    · rw [if_neg (by simpa using a)] at h
      have := days_bd y m
      by_cases e : m = 0
      · rw [if_pos e] at h
        have hd : d = 0 := of_decide_eq_true h
        omega
      · rw [if_neg e] at h
        cases c with
        | true => simp at h
        | false => simp at h; simp; omega
    · rw [if_pos a] at h; simp at h
theorem spec_cmp (k : Nat) {y m d : Int} {c : Bool} {y' m' d' : Int} {c' : Bool} (h : goodD y m d c = true) (h' : goodD y' m' d' c' = true) : spec_l3Compare.f (k + 1) y m d c y' m' d' c' = some (cmpD y m d c y' m' d' c') := by
  obtain ⟨a0, a1, a2, a3, a4, a5, a6⟩ := good_bd h
  obtain ⟨b0, b1, b2, b3, b4, b5, b6⟩ := good_bd h'
  unfold spec_l3Compare.f
  rw [w64 (x := y * 13) (by omega) (by omega), w64 (x := y * 13 + m) (by omega) (by omega), w64 (x := (y * 13 + m) * 32) (by omega) (by omega), w64 (x := (y * 13 + m) * 32 + d) (by omega) (by omega),
    w64 (x := y' * 13) (by omega) (by omega), w64 (x := y' * 13 + m') (by omega) (by omega), w64 (x := (y' * 13 + m') * 32) (by omega) (by omega),
    w64 (x := (y * 13 + m) * 32 + d - (y' * 13 + m') * 32) (by omega) (by omega), w64 (x := (y * 13 + m) * 32 + d - (y' * 13 + m') * 32 - d') (by omega) (by omega)]
  have key : cmpD y m d c y' m' d' c' = if (y * 13 + m) * 32 + d - (y' * 13 + m') * 32 - d' < 0 then -1 else if (y * 13 + m) * 32 + d - (y' * 13 + m') * 32 - d' > 0 then 1 else (if c then (if c' then 0 else 1) else (if c' then -1 else 0)) := by
    unfold cmpD or4
    by_cases e1 : y < y'
    · rw [if_pos (by simp [cmpI, e1]), if_pos (by omega)]; simp [cmpI, e1]
    · by_cases e2 : y > y'
      · rw [if_pos (by simp [cmpI, e1, e2]), if_neg (by omega), if_pos (by omega)]; simp [cmpI, e1, e2]
      · have e : y = y' := by omega
        subst e
        rw [if_neg (by simp [cmpI])]
        by_cases f1 : m < m'
        · rw [if_pos (by simp [cmpI, f1]), if_pos (by omega)]; simp [cmpI, f1]
        · by_cases f2 : m > m'
          · rw [if_pos (by simp [cmpI, f1, f2]), if_neg (by omega), if_pos (by omega)]; simp [cmpI, f1, f2]
          · have f : m = m' := by omega
            subst f
            rw [if_neg (by simp [cmpI])]
            by_cases g1 : d < d'
            · rw [if_pos (by simp [cmpI, g1]), if_pos (by omega)]; simp [cmpI, g1]
            · by_cases g2 : d > d'
              · rw [if_pos (by simp [cmpI, g1, g2]), if_neg (by omega), if_pos (by omega)]; simp [cmpI, g1, g2]
              · have g : d = d' := by omega
                subst g
                have z : (y * 13 + m) * 32 + d - (y * 13 + m) * 32 - d = 0 := by omega
                rw [if_neg (by simp [cmpI]), z]
                cases c <;> cases c' <;> simp [cmpI]
  rw [key]
  generalize hx : (y * 13 + m) * 32 + d - (y' * 13 + m') * 32 - d' = x
  by_cases p : x < 0
  · simp [p, spec_l3Compare.j0]
  · by_cases q : x = 0
    · subst q
      cases c <;> cases c' <;> simp [spec_l3Compare.j0]
    · have r : x > 0 := by omega
      simp [p, q, r, spec_l3Compare.j0]
end Go.Proofs.Ytanlagnhlpnakaa.G
