-- Written by a program of this session (gen.py), over the kit's print of one function. Lean checks it.
import Derived.Test.YtanlagnhlpnakaaGF8
import Derived.Test.YtanlagnhlpnakaaGO
namespace Go.Proofs.Ytanlagnhlpnakaa.G
open Go.Proofs.Ytanlagnhlpnakaa.Opn
open Go.RowKit Go.Proofs.YtanlagnhlpnakaaW.PrintWords Go.Proofs.YtanlagnhlpnakaaW.PrintLast Go.Proofs.YtanlagnhlpnakaaW.PrintMore
attribute [local go_sem] max2_int min2_int max_two min_two max_three min_three max_four min_four   -- for this text's walks alone
set_option linter.unusedVariables false
set_option linter.unusedSimpArgs false

def laws_FnExactSplitString.Pur : Prop := ∀ (a0 : ByteArray) (a1 : ByteArray), okStr a0 → okStr a1 → ∃ k, laws_FnExactSplitString.f k a0 a1 = some true
theorem laws_FnExactSplitString.wlk (P : laws_FnExactSplitString.Pur) (a0 : ByteArray) (a1 : ByteArray) (w : World)  (ba0 : okStr a0) (ba1 : okStr a1) :
    Calls Try.prog 8 #[.string a0, .string a1] w fun e w' => e = .returned (.bool true) ∧ Below w.heap.size w w' := by
  obtain ⟨k, h⟩ := P a0 a1 ba0 ba1
  refine (laws_FnExactSplitString.calls k a0 a1 true w  h).mono ?_
  rintro e w' ⟨rfl, hd⟩
  exact ⟨rfl, hd⟩

end Go.Proofs.Ytanlagnhlpnakaa.G
