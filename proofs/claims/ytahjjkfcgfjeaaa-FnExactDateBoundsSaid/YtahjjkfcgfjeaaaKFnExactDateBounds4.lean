/- Texts of this session for the law FnExactDateBounds, put together by a program (merge.py): each ends with its namespace; conditions stand with each theorem. -/
import Derived.Test.YtahjjkfcgfjeaaaKFnExactDateBounds2
import Derived.Test.YtahjjkfcgfjeaaaKFnExactDateBounds3
namespace Go.Proofs.Ytahjjkfcgfjeaaa.G
open Go.RowKit Go.Proofs.YtahjjkfcgfjeaaaW.PrintWords Go.Proofs.YtahjjkfcgfjeaaaW.PrintLast
set_option linter.unusedVariables false
set_option linter.unusedSimpArgs false
def daysD (y m : Int) : Int :=
  if m = 2 then (if Int.tmod y 4 = 0 ∧ (Int.tmod y 100 ≠ 0 ∨ Int.tmod y 400 = 0) then 29 else 28) else if m = 4 ∨ m = 6 ∨ m = 9 ∨ m = 11 then 30 else 31
def goodD (y m d : Int) (c : Bool) : Bool :=
  if y = 0 ∧ m = 0 ∧ d = 0 ∧ c = false then true
  else if ¬ (1 ≤ y ∧ y ≤ 2999 ∧ 0 ≤ m ∧ m ≤ 12) then false
  else if m = 0 then decide (d = 0)
  else if c then false else decide (0 ≤ d ∧ d ≤ daysD y m)
theorem tmod_400_4 (y : Int) (h : Int.tmod y 400 = 0) : Int.tmod y 4 = 0 := by
  have h1 : (400 : Int) ∣ y := Int.dvd_of_tmod_eq_zero h
  exact Int.tmod_eq_zero_of_dvd (Int.dvd_trans (by decide) h1)
theorem spec_days (k : Nat) (y m : Int) : spec_l3Days.f (k + 1) y m = some (daysD y m) := by
  unfold spec_l3Days.f daysD
  by_cases h2 : m = 2
  · subst h2
    simp only [if_true, spec_l3Days.j0]
    by_cases a : Int.tmod y 4 = 0 <;> by_cases b : Int.tmod y 100 = 0 <;> by_cases c : Int.tmod y 400 = 0 <;> simp [a, b, c]
    · exact a (tmod_400_4 y c)
    · exact a (tmod_400_4 y c)
  · by_cases a : m = 4 <;> by_cases b : m = 6 <;> by_cases c : m = 9 <;> by_cases d : m = 11 <;> simp [h2, a, b, c, d]
theorem impl_days (y m : Int) : impl_daysInMonth.f y m = some (daysD y m) := by
  unfold impl_daysInMonth.f daysD
  by_cases h2 : m = 2
  · subst h2
    by_cases a : Int.tmod y 4 = 0 <;> by_cases b : Int.tmod y 100 = 0 <;> by_cases c : Int.tmod y 400 = 0 <;> simp [a, b, c]
  · by_cases a : m = 4 <;> by_cases b : m = 6 <;> by_cases c : m = 9 <;> by_cases d : m = 11 <;> simp [h2, a, b, c, d]
theorem spec_good (k : Nat) (y m d : Int) (c : Bool) : spec_l3Good.f (k + 2) y m d c = some (goodD y m d c) := by
  unfold spec_l3Good.f goodD
  by_cases z : y = 0 ∧ m = 0 ∧ d = 0 ∧ c = false
  · obtain ⟨rfl, rfl, rfl, rfl⟩ := z; simp
  · rw [if_neg (by simpa using z), if_neg z]
    simp only [spec_l1In.f]
    by_cases a : 1 ≤ y <;> by_cases b : y ≤ 2999 <;> by_cases e : 0 ≤ m <;> by_cases f : m ≤ 12 <;> simp [a, b, e, f, spec_l3Good.j0]
    rw [spec_days]
    by_cases g : m = 0 <;> by_cases h : d = 0 <;> by_cases i : 0 ≤ d <;> cases c <;> simp [g, h, i, spec_l1In.f, impl_inside.f]
theorem impl_good (k : Nat) (y m d : Int) (c : Bool) : impl_IsValidDate.f (k + 2) y m d c = some (goodD y m d c) := by
  unfold impl_IsValidDate.f goodD
  by_cases z : y = 0 ∧ m = 0 ∧ d = 0 ∧ c = false
  · obtain ⟨rfl, rfl, rfl, rfl⟩ := z; simp
  · rw [if_neg (by simpa using z), if_neg z]
    simp only [impl_inside.f]
    by_cases a : 1 ≤ y <;> by_cases b : y ≤ 2999 <;> by_cases e : 0 ≤ m <;> by_cases f : m ≤ 12 <;> simp [a, b, e, f, impl_IsValidDate.j0]
    rw [impl_days]
    by_cases g : m = 0 <;> by_cases h : d = 0 <;> by_cases i : 0 ≤ d <;> cases c <;> simp [g, h, i, spec_l1In.f, impl_inside.f]
end Go.Proofs.Ytahjjkfcgfjeaaa.G

namespace Go.Proofs.Ytahjjkfcgfjeaaa.Pure
open Go.RowKit Go.Proofs.Ytahjjkfcgfjeaaa.G Go.Proofs.YtahjjkfcgfjeaaaW.PrintWords Go.Proofs.YtahjjkfcgfjeaaaW.PrintLast
set_option linter.unusedVariables false
set_option linter.unusedSimpArgs false
def noB : Int × Int × Int × Bool × Int × Int × Int × Bool × Bool := (0, 0, 0, false, 0, 0, 0, false, false)
def bdD (y m d : Int) (c : Bool) : Int × Int × Int × Bool × Int × Int × Int × Bool × Bool :=
  if m = 0 then (if d = 0 then (y, 1, 1, c, y, 12, daysD y 12, c, true) else (y, 1, d, c, y, 12, d, c, true))
  else (if d = 0 then (y, m, 1, c, y, m, daysD y m, c, true) else (y, m, d, c, y, m, d, c, true))
def bndD (y m d : Int) (c : Bool) : Int × Int × Int × Bool × Int × Int × Int × Bool × Bool :=
  if goodD y m d c = true then (if y = 0 then noB else if c = true then noB else bdD y m d c) else noB
theorem spec_bj (k : Nat) (b : Bool) (y m d : Int) (c : Bool) : spec_DateBounds.j0 (k + 2) b y m d c = some (if b = true then noB else bdD y m d c) := by
  simp only [spec_DateBounds.j0, spec_days, Option.bind_some]
  unfold bdD noB
  cases b <;> by_cases h1 : m = 0 <;> by_cases h2 : d = 0 <;> simp [h1, h2]
theorem impl_bj (k : Nat) (b : Bool) (y m d : Int) (c : Bool) : impl_DateBounds.j0 (k + 2) b y m d c = some (if b = true then noB else bdD y m d c) := by
  simp only [impl_DateBounds.j0, impl_days, Option.bind_some]
  unfold bdD noB
  cases b <;> by_cases h1 : m = 0 <;> by_cases h2 : d = 0 <;> simp [h1, h2]
theorem spec_bnd (k : Nat) (y m d : Int) (c : Bool) : spec_DateBounds.f (k + 2) y m d c = some (bndD y m d c) := by
  unfold spec_DateBounds.f bndD
  simp only [spec_good, spec_bj, Option.bind_some]
  cases goodD y m d c <;> by_cases h : y = 0 <;> simp [h]
theorem impl_bnd (k : Nat) (y m d : Int) (c : Bool) : impl_DateBounds.f (k + 2) y m d c = some (bndD y m d c) := by
  unfold impl_DateBounds.f bndD
  simp only [impl_good, impl_bj, Option.bind_some]
  cases goodD y m d c <;> by_cases h : y = 0 <;> simp [h]
theorem FnExactDateBounds : laws_FnExactDateBounds.Pur := by
  intro y m d c _ _ _
  refine ⟨2, ?_⟩
  unfold laws_FnExactDateBounds.f laws_toDate.f
  simp only [Option.bind_some, spec_bnd 0, impl_bnd 0, laws_eqDate.f]
  generalize bndD y m d c = r
  obtain ⟨a, b, e, f, g, h, i, j, l⟩ := r
  simp
end Go.Proofs.Ytahjjkfcgfjeaaa.Pure
