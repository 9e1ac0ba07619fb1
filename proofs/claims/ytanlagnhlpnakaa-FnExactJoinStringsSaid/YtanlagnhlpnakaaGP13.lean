-- Written by a program of this session (gen.py), over the kit's print of one function. Lean checks it.
import Derived.Test.YtanlagnhlpnakaaGF13
import Derived.Test.YtanlagnhlpnakaaGO
namespace Go.Proofs.Ytanlagnhlpnakaa.G
open Go.Proofs.Ytanlagnhlpnakaa.Opn
open Go.RowKit Go.Proofs.YtanlagnhlpnakaaW.PrintWords Go.Proofs.YtanlagnhlpnakaaW.PrintLast Go.Proofs.YtanlagnhlpnakaaW.PrintMore
attribute [local go_sem] max2_int min2_int max_two min_two max_three min_three max_four min_four   -- for this text's walks alone
set_option linter.unusedVariables false
set_option linter.unusedSimpArgs false

def laws_FnExactJoinStrings.Pur : Prop := ∀ (l0 : List ByteArray) (a1 : ByteArray), okList (okStr) l0 → okStr a1 → ∃ k, laws_FnExactJoinStrings.f k l0 a1 = some true
theorem laws_FnExactJoinStrings.wlk (P : laws_FnExactJoinStrings.Pur) (A0 : Option Addr) (c0 : Nat) (l0 : List ByteArray) (a1 : ByteArray) (w : World) (hr0 : Kd.C Kd.string w A0 l0.length l0) (hc0 : l0.length ≤ c0) (bl0 : okList (okStr) l0) (ba1 : okStr a1) :
    Calls Try.prog 13 #[.slice A0 l0.length c0, .string a1] w fun e w' => e = .returned (.bool true) ∧ Below w.heap.size w w' := by
  obtain ⟨k, h⟩ := P l0 a1 bl0 ba1
  refine (laws_FnExactJoinStrings.calls k A0 c0 l0 a1 true w hr0 hc0 h).mono ?_
  rintro e w' ⟨rfl, hd⟩
  exact ⟨rfl, hd⟩

end Go.Proofs.Ytanlagnhlpnakaa.G
