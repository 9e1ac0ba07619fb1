-- Written by a program of this session (gen.py), over the kit's print of one function. Lean checks it.
import Derived.Test.YtanlagnhlpnakaaG0
import Derived.Test.YtanlagnhlpnakaaExt
import Derived.Test.YtanlagnhlpnakaaGS
namespace Go.Proofs.Ytanlagnhlpnakaa.G
open Go.RowKit Go.Proofs.YtanlagnhlpnakaaW.PrintWords Go.Proofs.YtanlagnhlpnakaaW.PrintLast Go.Proofs.YtanlagnhlpnakaaW.PrintMore
attribute [local go_sem] max2_int min2_int max_two min_two max_three min_three max_four min_four   -- for this text's walks alone
set_option linter.unusedVariables false
set_option linter.unusedSimpArgs false

/-! ### strings_Join: function 64 -/
def strings_Join.f (l0 : List ByteArray) (a1 : ByteArray) : Option ByteArray :=
  if l0.length ≤ 140737488355328 ∧ (Lib.join (l0.map (·.data.toList)) a1.data.toList).length ≤ 140737488355328 then some ⟨(Lib.join (l0.map (·.data.toList)) a1.data.toList).toArray⟩ else none
theorem strings_Join.calls (A0 : Option Addr) (c0 : Nat) (l0 : List ByteArray) (a1 : ByteArray) (r : ByteArray) (w : World) (hr0 : Kd.C Kd.string w A0 l0.length l0) (hc0 : l0.length ≤ c0) (h : strings_Join.f l0 a1 = some r) :
    Calls Try.prog 64 #[.slice A0 l0.length c0, .string a1] w fun e w' => e = .returned (.string r) ∧ Below w.heap.size w w' := by
  unfold strings_Join.f at h
  by_cases hg : l0.length ≤ 140737488355328 ∧ (Lib.join (l0.map (·.data.toList)) a1.data.toList).length ≤ 140737488355328
  · rw [if_pos hg] at h
    obtain rfl := Option.some.inj h
    cases l0 with
    | nil =>
      refine (Try.strings_Join_none A0 c0 a1 w).mono ?_
      rintro e w' ⟨rfl, rfl⟩
      exact ⟨rfl, Below.refl _ _⟩
    | cons x xs =>
      obtain ⟨b, o, rfl, hb, hcell⟩ := Go.Proofs.Ytanlagnhlpnakaa.Ext.strs_read hr0 (by simp)
      refine (Try.strings_Join b o c0 (x :: xs) a1 w hcell hb hg.1 hc0 hg.2).mono ?_
      rintro e w' ⟨rfl, hb⟩
      exact ⟨rfl, hb⟩
  · rw [if_neg hg] at h; cases h

end Go.Proofs.Ytanlagnhlpnakaa.G
