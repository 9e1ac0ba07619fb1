/-
  NARROWER THAN 'FOR EVERY INPUT', by the rows' own cells (each row's printed sentence says how): FnExactIsValidName: laid · FnExactMayBeSame: laid · FnExactSamePeople: laid · FnExactFullForm: laid · FnExactInitialsOf: laid · FnExactInverseForm: laid · FnExactParseInverse: laid · FnExactShortForm: laid · FnExactCompareNames: laid.
  DERIVED. THE GIVEN ROWS OF THIS SEAT. 9 by the template 'for every input the law returns true; each argument reads behind the call as it read before'; 0 by the template 'total and deterministic' (their statements: YtcckamdpncbkoaaDoorTotals.lean).
  GIVEN WITH THE SEED: the statements are not yours to turn. If you find one false, say at which input.
  Laid BY PROGRAM, IN A SANDBOX (cutbox-rows.mjs): the forced cells as the released guide's own fill.sh prints them over the translation c634490f21a7890c… (all of the seat's roots in one cut). By AI agents, Wed Nov 11 2026. No macro, syntax, notation, axiom, sorry.
-/
import Derived.Test.YtcckamdpncbkoaaDoorChecked
import GoSem.PinnedTables
import GoSem.Claim
import GoSem.ClaimJoined
import GoSem.ClaimMapViews
import Derived.JoinedTies
import Derived.KernelRfl
namespace Go.Proofs.YtcckamdpncbkoaaDoor
/- THE CELL 'sum', in the pinned program and in every row, IS THE sha256 OF THE DUMP (.gsa) THAT YtcckamdpncbkoaaDoorProg.lean LOADS. Nothing in Lean hashes anything: it is a label: what it is worth is what the hold of that sum in a sandbox is worth. -/
noncomputable def Tryd.pinned : Pinned := { name := "ytcckamdpncbkoaadoor", sum := "c634490f21a7890c6c81737766f259c1e9c926aba3148e39b6728740e4d8035e", checked := Tryd.checked }
namespace Rows
def none {H : Type} : Left H := { results := [], args := [] }

/- WHAT THE LISTED PACKAGE-LEVEL VARIABLES READ AS WHEN THE CALL BEGINS. Each datum BY PROGRAM (the guide's laid-datum.mjs) off the statement by which the dump's own 'gosem.cut.vars' lays the variable. In a bare row this is a premise. The card (YtcckamdpncbkoaaDoorCards.lean) ties it to the program's text. -/
def laid_unicode_utf8_acceptRanges {H : Type} : DataW H := .agg [.agg [.lit (.int .u8 128), .lit (.int .u8 191)], .agg [.lit (.int .u8 160), .lit (.int .u8 191)], .agg [.lit (.int .u8 128), .lit (.int .u8 159)], .agg [.lit (.int .u8 144), .lit (.int .u8 191)], .agg [.lit (.int .u8 128), .lit (.int .u8 143)], .agg [.lit (.int .u8 0), .lit (.int .u8 0)], .agg [.lit (.int .u8 0), .lit (.int .u8 0)], .agg [.lit (.int .u8 0), .lit (.int .u8 0)], .agg [.lit (.int .u8 0), .lit (.int .u8 0)], .agg [.lit (.int .u8 0), .lit (.int .u8 0)], .agg [.lit (.int .u8 0), .lit (.int .u8 0)], .agg [.lit (.int .u8 0), .lit (.int .u8 0)], .agg [.lit (.int .u8 0), .lit (.int .u8 0)], .agg [.lit (.int .u8 0), .lit (.int .u8 0)], .agg [.lit (.int .u8 0), .lit (.int .u8 0)], .agg [.lit (.int .u8 0), .lit (.int .u8 0)]]
/-- One of Go's own tables, pinned by name: the form's constant. -/
def laid_unicode_utf8_first : DataW Unit := Go.Pinned.utf8First

/-- 'laws.FnExactIsValidName': WHATEVER THE INPUT: true; the input reads as it did. -/
def fnExactIsValidNameSpec : ChangeSpec := { name := "fnExactIsValidName", fn := fun _ => fun
  | [d] => { results := [.lit (.bool true)], args := [d] }
  | _ => none }
def fnExactIsValidNameRow : OpenClaim := { program := "ytcckamdpncbkoaadoor", sum := "c634490f21a7890c6c81737766f259c1e9c926aba3148e39b6728740e4d8035e", func := "loop.example/g00896/laws.FnExactIsValidName", spec := "fnExactIsValidName", inPlace := ["internal/bytealg.CountString", "internal/bytealg.IndexByteString", "internal/bytealg.IndexString"], unfollowed := true, recurses := true, named := ["unicode/utf8.first", "unicode/utf8.acceptRanges", "internal/bytealg.MaxLen"], apart := false, laid := [("unicode/utf8.acceptRanges", laid_unicode_utf8_acceptRanges), ("unicode/utf8.first", laid_unicode_utf8_first)] }
def FnExactIsValidNameSaid : Prop := fnExactIsValidNameRow.holds Tryd.pinned (OpenSpec.ofChange fnExactIsValidNameSpec)

/-- ITS FALSE NEIGHBOUR: 'it returns false'. Refute it at one input. -/
def fnExactIsValidNameWrong : ChangeSpec := { name := "fnExactIsValidName", fn := fun _ => fun
  | [d] => { results := [.lit (.bool false)], args := [d] }
  | _ => none }
def FnExactIsValidNameWrongFalsely : Prop := fnExactIsValidNameRow.holds Tryd.pinned (OpenSpec.ofChange fnExactIsValidNameWrong)

/-- 'laws.FnExactMayBeSame': WHATEVER THE INPUT: true; the input reads as it did. -/
def fnExactMayBeSameSpec : ChangeSpec := { name := "fnExactMayBeSame", fn := fun _ => fun
  | [d1, d2] => { results := [.lit (.bool true)], args := [d1, d2] }
  | _ => none }
def fnExactMayBeSameRow : OpenClaim := { program := "ytcckamdpncbkoaadoor", sum := "c634490f21a7890c6c81737766f259c1e9c926aba3148e39b6728740e4d8035e", func := "loop.example/g00896/laws.FnExactMayBeSame", spec := "fnExactMayBeSame", inPlace := ["internal/bytealg.CountString", "internal/bytealg.IndexByteString", "internal/bytealg.IndexString"], unfollowed := true, recurses := true, named := ["unicode/utf8.first", "unicode/utf8.acceptRanges", "internal/bytealg.MaxLen"], apart := false, laid := [("unicode/utf8.acceptRanges", laid_unicode_utf8_acceptRanges), ("unicode/utf8.first", laid_unicode_utf8_first)] }
def FnExactMayBeSameSaid : Prop := fnExactMayBeSameRow.holds Tryd.pinned (OpenSpec.ofChange fnExactMayBeSameSpec)

/-- ITS FALSE NEIGHBOUR: 'it returns false'. Refute it at one input. -/
def fnExactMayBeSameWrong : ChangeSpec := { name := "fnExactMayBeSame", fn := fun _ => fun
  | [d1, d2] => { results := [.lit (.bool false)], args := [d1, d2] }
  | _ => none }
def FnExactMayBeSameWrongFalsely : Prop := fnExactMayBeSameRow.holds Tryd.pinned (OpenSpec.ofChange fnExactMayBeSameWrong)

/-- 'laws.FnExactSamePeople': WHATEVER THE INPUT: true; the input reads as it did. -/
def fnExactSamePeopleSpec : ChangeSpec := { name := "fnExactSamePeople", fn := fun _ => fun
  | [d1, d2] => { results := [.lit (.bool true)], args := [d1, d2] }
  | _ => none }
def fnExactSamePeopleRow : OpenClaim := { program := "ytcckamdpncbkoaadoor", sum := "c634490f21a7890c6c81737766f259c1e9c926aba3148e39b6728740e4d8035e", func := "loop.example/g00896/laws.FnExactSamePeople", spec := "fnExactSamePeople", inPlace := ["internal/bytealg.CountString", "internal/bytealg.IndexByteString", "internal/bytealg.IndexString"], unfollowed := true, recurses := true, named := ["unicode/utf8.first", "unicode/utf8.acceptRanges", "internal/bytealg.MaxLen"], apart := false, laid := [("unicode/utf8.acceptRanges", laid_unicode_utf8_acceptRanges), ("unicode/utf8.first", laid_unicode_utf8_first)] }
def FnExactSamePeopleSaid : Prop := fnExactSamePeopleRow.holds Tryd.pinned (OpenSpec.ofChange fnExactSamePeopleSpec)

/-- ITS FALSE NEIGHBOUR: 'it returns false'. Refute it at one input. -/
def fnExactSamePeopleWrong : ChangeSpec := { name := "fnExactSamePeople", fn := fun _ => fun
  | [d1, d2] => { results := [.lit (.bool false)], args := [d1, d2] }
  | _ => none }
def FnExactSamePeopleWrongFalsely : Prop := fnExactSamePeopleRow.holds Tryd.pinned (OpenSpec.ofChange fnExactSamePeopleWrong)

/-- 'laws.FnExactFullForm': WHATEVER THE INPUT: true; the input reads as it did. -/
def fnExactFullFormSpec : ChangeSpec := { name := "fnExactFullForm", fn := fun _ => fun
  | [d] => { results := [.lit (.bool true)], args := [d] }
  | _ => none }
def fnExactFullFormRow : OpenClaim := { program := "ytcckamdpncbkoaadoor", sum := "c634490f21a7890c6c81737766f259c1e9c926aba3148e39b6728740e4d8035e", func := "loop.example/g00896/laws.FnExactFullForm", spec := "fnExactFullForm", inPlace := ["internal/bytealg.CountString", "internal/bytealg.IndexByteString", "internal/bytealg.IndexString", "internal/abi.NoEscape", "internal/bytealg.MakeNoZero"], unfollowed := true, recurses := true, named := ["unicode/utf8.first", "unicode/utf8.acceptRanges", "internal/bytealg.MaxLen"], apart := false, laid := [("unicode/utf8.acceptRanges", laid_unicode_utf8_acceptRanges), ("unicode/utf8.first", laid_unicode_utf8_first)] }
def FnExactFullFormSaid : Prop := fnExactFullFormRow.holds Tryd.pinned (OpenSpec.ofChange fnExactFullFormSpec)

/-- ITS FALSE NEIGHBOUR: 'it returns false'. Refute it at one input. -/
def fnExactFullFormWrong : ChangeSpec := { name := "fnExactFullForm", fn := fun _ => fun
  | [d] => { results := [.lit (.bool false)], args := [d] }
  | _ => none }
def FnExactFullFormWrongFalsely : Prop := fnExactFullFormRow.holds Tryd.pinned (OpenSpec.ofChange fnExactFullFormWrong)

/-- 'laws.FnExactInitialsOf': WHATEVER THE INPUT: true; the input reads as it did. -/
def fnExactInitialsOfSpec : ChangeSpec := { name := "fnExactInitialsOf", fn := fun _ => fun
  | [d] => { results := [.lit (.bool true)], args := [d] }
  | _ => none }
def fnExactInitialsOfRow : OpenClaim := { program := "ytcckamdpncbkoaadoor", sum := "c634490f21a7890c6c81737766f259c1e9c926aba3148e39b6728740e4d8035e", func := "loop.example/g00896/laws.FnExactInitialsOf", spec := "fnExactInitialsOf", inPlace := ["internal/bytealg.CountString", "internal/bytealg.IndexByteString", "internal/bytealg.IndexString", "internal/abi.NoEscape", "internal/bytealg.MakeNoZero"], unfollowed := true, recurses := true, named := ["unicode/utf8.first", "unicode/utf8.acceptRanges", "internal/bytealg.MaxLen"], apart := false, laid := [("unicode/utf8.acceptRanges", laid_unicode_utf8_acceptRanges), ("unicode/utf8.first", laid_unicode_utf8_first)] }
def FnExactInitialsOfSaid : Prop := fnExactInitialsOfRow.holds Tryd.pinned (OpenSpec.ofChange fnExactInitialsOfSpec)

/-- ITS FALSE NEIGHBOUR: 'it returns false'. Refute it at one input. -/
def fnExactInitialsOfWrong : ChangeSpec := { name := "fnExactInitialsOf", fn := fun _ => fun
  | [d] => { results := [.lit (.bool false)], args := [d] }
  | _ => none }
def FnExactInitialsOfWrongFalsely : Prop := fnExactInitialsOfRow.holds Tryd.pinned (OpenSpec.ofChange fnExactInitialsOfWrong)

/-- 'laws.FnExactInverseForm': WHATEVER THE INPUT: true; the input reads as it did. -/
def fnExactInverseFormSpec : ChangeSpec := { name := "fnExactInverseForm", fn := fun _ => fun
  | [d] => { results := [.lit (.bool true)], args := [d] }
  | _ => none }
def fnExactInverseFormRow : OpenClaim := { program := "ytcckamdpncbkoaadoor", sum := "c634490f21a7890c6c81737766f259c1e9c926aba3148e39b6728740e4d8035e", func := "loop.example/g00896/laws.FnExactInverseForm", spec := "fnExactInverseForm", inPlace := ["internal/bytealg.CountString", "internal/bytealg.IndexByteString", "internal/bytealg.IndexString", "internal/abi.NoEscape", "internal/bytealg.MakeNoZero"], unfollowed := true, recurses := true, named := ["unicode/utf8.first", "unicode/utf8.acceptRanges", "internal/bytealg.MaxLen"], apart := false, laid := [("unicode/utf8.acceptRanges", laid_unicode_utf8_acceptRanges), ("unicode/utf8.first", laid_unicode_utf8_first)] }
def FnExactInverseFormSaid : Prop := fnExactInverseFormRow.holds Tryd.pinned (OpenSpec.ofChange fnExactInverseFormSpec)

/-- ITS FALSE NEIGHBOUR: 'it returns false'. Refute it at one input. -/
def fnExactInverseFormWrong : ChangeSpec := { name := "fnExactInverseForm", fn := fun _ => fun
  | [d] => { results := [.lit (.bool false)], args := [d] }
  | _ => none }
def FnExactInverseFormWrongFalsely : Prop := fnExactInverseFormRow.holds Tryd.pinned (OpenSpec.ofChange fnExactInverseFormWrong)

/-- 'laws.FnExactParseInverse': WHATEVER THE INPUT: true; the input reads as it did. -/
def fnExactParseInverseSpec : ChangeSpec := { name := "fnExactParseInverse", fn := fun _ => fun
  | [d] => { results := [.lit (.bool true)], args := [d] }
  | _ => none }
def fnExactParseInverseRow : OpenClaim := { program := "ytcckamdpncbkoaadoor", sum := "c634490f21a7890c6c81737766f259c1e9c926aba3148e39b6728740e4d8035e", func := "loop.example/g00896/laws.FnExactParseInverse", spec := "fnExactParseInverse", inPlace := ["internal/bytealg.CountString", "internal/bytealg.IndexByteString", "internal/bytealg.IndexString", "internal/abi.NoEscape", "internal/bytealg.MakeNoZero"], unfollowed := true, recurses := true, named := ["unicode/utf8.first", "unicode/utf8.acceptRanges", "internal/bytealg.MaxLen"], apart := false, laid := [("unicode/utf8.acceptRanges", laid_unicode_utf8_acceptRanges), ("unicode/utf8.first", laid_unicode_utf8_first)] }
def FnExactParseInverseSaid : Prop := fnExactParseInverseRow.holds Tryd.pinned (OpenSpec.ofChange fnExactParseInverseSpec)

/-- ITS FALSE NEIGHBOUR: 'it returns false'. Refute it at one input. -/
def fnExactParseInverseWrong : ChangeSpec := { name := "fnExactParseInverse", fn := fun _ => fun
  | [d] => { results := [.lit (.bool false)], args := [d] }
  | _ => none }
def FnExactParseInverseWrongFalsely : Prop := fnExactParseInverseRow.holds Tryd.pinned (OpenSpec.ofChange fnExactParseInverseWrong)

/-- 'laws.FnExactShortForm': WHATEVER THE INPUT: true; the input reads as it did. -/
def fnExactShortFormSpec : ChangeSpec := { name := "fnExactShortForm", fn := fun _ => fun
  | [d] => { results := [.lit (.bool true)], args := [d] }
  | _ => none }
def fnExactShortFormRow : OpenClaim := { program := "ytcckamdpncbkoaadoor", sum := "c634490f21a7890c6c81737766f259c1e9c926aba3148e39b6728740e4d8035e", func := "loop.example/g00896/laws.FnExactShortForm", spec := "fnExactShortForm", inPlace := ["internal/bytealg.CountString", "internal/bytealg.IndexByteString", "internal/bytealg.IndexString", "internal/abi.NoEscape", "internal/bytealg.MakeNoZero"], unfollowed := true, recurses := true, named := ["unicode/utf8.first", "unicode/utf8.acceptRanges", "internal/bytealg.MaxLen"], apart := false, laid := [("unicode/utf8.acceptRanges", laid_unicode_utf8_acceptRanges), ("unicode/utf8.first", laid_unicode_utf8_first)] }
def FnExactShortFormSaid : Prop := fnExactShortFormRow.holds Tryd.pinned (OpenSpec.ofChange fnExactShortFormSpec)

/-- ITS FALSE NEIGHBOUR: 'it returns false'. Refute it at one input. -/
def fnExactShortFormWrong : ChangeSpec := { name := "fnExactShortForm", fn := fun _ => fun
  | [d] => { results := [.lit (.bool false)], args := [d] }
  | _ => none }
def FnExactShortFormWrongFalsely : Prop := fnExactShortFormRow.holds Tryd.pinned (OpenSpec.ofChange fnExactShortFormWrong)

/-- 'laws.FnExactCompareNames': WHATEVER THE INPUT: true; the input reads as it did. -/
def fnExactCompareNamesSpec : ChangeSpec := { name := "fnExactCompareNames", fn := fun _ => fun
  | [d1, d2] => { results := [.lit (.bool true)], args := [d1, d2] }
  | _ => none }
def fnExactCompareNamesRow : OpenClaim := { program := "ytcckamdpncbkoaadoor", sum := "c634490f21a7890c6c81737766f259c1e9c926aba3148e39b6728740e4d8035e", func := "loop.example/g00896/laws.FnExactCompareNames", spec := "fnExactCompareNames", inPlace := ["internal/bytealg.CountString", "internal/bytealg.IndexByteString", "internal/bytealg.IndexString", "internal/bytealg.abigen_runtime_cmpstring", "internal/abi.NoEscape", "internal/bytealg.MakeNoZero"], unfollowed := true, recurses := true, named := ["unicode/utf8.first", "unicode/utf8.acceptRanges", "internal/bytealg.MaxLen"], apart := false, laid := [("unicode/utf8.acceptRanges", laid_unicode_utf8_acceptRanges), ("unicode/utf8.first", laid_unicode_utf8_first)] }
def FnExactCompareNamesSaid : Prop := fnExactCompareNamesRow.holds Tryd.pinned (OpenSpec.ofChange fnExactCompareNamesSpec)

/-- ITS FALSE NEIGHBOUR: 'it returns false'. Refute it at one input. -/
def fnExactCompareNamesWrong : ChangeSpec := { name := "fnExactCompareNames", fn := fun _ => fun
  | [d1, d2] => { results := [.lit (.bool false)], args := [d1, d2] }
  | _ => none }
def FnExactCompareNamesWrongFalsely : Prop := fnExactCompareNamesRow.holds Tryd.pinned (OpenSpec.ofChange fnExactCompareNamesWrong)

/- THE SECOND FORM. 'bulk': how many values and letters a reading holds, each counted each time it is reached (what is shared counts as often as it is met; a slice's spare places count too). A statement '..UptoSaid' is the law's where the arguments, and the package variables that the reading takes, are together of bulk at most 1048576: NARROWER than '..Said'. Prove '..Said' where nothing that the law and all that it calls make is longer than what came in: it says more and counts as full. Else prove '..UptoSaid'. A law counts once. -/
mutual
def uptoBulk {H : Type} : DataW H → Nat
  | .lit (.string bytes) => bytes.length + 1
  | .lit _ => 1
  | .nil => 1
  | .ptr d => uptoBulk d + 1
  | .slice elems spare => uptoBulkAll elems + uptoBulkAll spare + 1
  | .agg parts => uptoBulkAll parts + 1
  | .iface _ d => uptoBulk d + 1
  | .map entries => uptoBulkEntries entries + 1
  | .held _ => 1
def uptoBulkAll {H : Type} : List (DataW H) → Nat
  | [] => 0
  | d :: r => uptoBulk d + uptoBulkAll r
def uptoBulkEntries {H : Type} : List (Lit × DataW H) → Nat
  | [] => 0
  | x :: r => uptoBulkEntry x + uptoBulkEntries r
def uptoBulkEntry {H : Type} : Lit × DataW H → Nat
  | (.string bytes, d) => bytes.length + uptoBulk d + 1
  | (_, d) => uptoBulk d + 1
 end
def uptoSmall : (H : Type) → List (DataW H) → Bool := fun _ ds => decide (uptoBulkAll ds ≤ 1048576)
def OpenSpec.upto (s : _root_.Go.ChangeSpec) : _root_.Go.OpenSpec := { _root_.Go.OpenSpec.ofChange s with cond := some uptoSmall }

/-- 'laws.FnExactIsValidName', WHERE WHAT IT READS IS OF BULK AT MOST 1048576: true; the input reads as it did. -/
def fnExactIsValidNameUptoRow : OpenClaim := { program := "ytcckamdpncbkoaadoor", sum := "c634490f21a7890c6c81737766f259c1e9c926aba3148e39b6728740e4d8035e", func := "loop.example/g00896/laws.FnExactIsValidName", spec := "fnExactIsValidName", inPlace := ["internal/bytealg.CountString", "internal/bytealg.IndexByteString", "internal/bytealg.IndexString"], unfollowed := true, recurses := true, named := ["unicode/utf8.first", "unicode/utf8.acceptRanges", "internal/bytealg.MaxLen"], apart := false, laid := [("unicode/utf8.acceptRanges", laid_unicode_utf8_acceptRanges), ("unicode/utf8.first", laid_unicode_utf8_first)], narrowed := true }
def FnExactIsValidNameUptoSaid : Prop := fnExactIsValidNameUptoRow.holds Tryd.pinned (OpenSpec.upto fnExactIsValidNameSpec)

/-- 'laws.FnExactMayBeSame', WHERE WHAT IT READS IS OF BULK AT MOST 1048576: true; the input reads as it did. -/
def fnExactMayBeSameUptoRow : OpenClaim := { program := "ytcckamdpncbkoaadoor", sum := "c634490f21a7890c6c81737766f259c1e9c926aba3148e39b6728740e4d8035e", func := "loop.example/g00896/laws.FnExactMayBeSame", spec := "fnExactMayBeSame", inPlace := ["internal/bytealg.CountString", "internal/bytealg.IndexByteString", "internal/bytealg.IndexString"], unfollowed := true, recurses := true, named := ["unicode/utf8.first", "unicode/utf8.acceptRanges", "internal/bytealg.MaxLen"], apart := false, laid := [("unicode/utf8.acceptRanges", laid_unicode_utf8_acceptRanges), ("unicode/utf8.first", laid_unicode_utf8_first)], narrowed := true }
def FnExactMayBeSameUptoSaid : Prop := fnExactMayBeSameUptoRow.holds Tryd.pinned (OpenSpec.upto fnExactMayBeSameSpec)

/-- 'laws.FnExactSamePeople', WHERE WHAT IT READS IS OF BULK AT MOST 1048576: true; the input reads as it did. -/
def fnExactSamePeopleUptoRow : OpenClaim := { program := "ytcckamdpncbkoaadoor", sum := "c634490f21a7890c6c81737766f259c1e9c926aba3148e39b6728740e4d8035e", func := "loop.example/g00896/laws.FnExactSamePeople", spec := "fnExactSamePeople", inPlace := ["internal/bytealg.CountString", "internal/bytealg.IndexByteString", "internal/bytealg.IndexString"], unfollowed := true, recurses := true, named := ["unicode/utf8.first", "unicode/utf8.acceptRanges", "internal/bytealg.MaxLen"], apart := false, laid := [("unicode/utf8.acceptRanges", laid_unicode_utf8_acceptRanges), ("unicode/utf8.first", laid_unicode_utf8_first)], narrowed := true }
def FnExactSamePeopleUptoSaid : Prop := fnExactSamePeopleUptoRow.holds Tryd.pinned (OpenSpec.upto fnExactSamePeopleSpec)

/-- 'laws.FnExactFullForm', WHERE WHAT IT READS IS OF BULK AT MOST 1048576: true; the input reads as it did. -/
def fnExactFullFormUptoRow : OpenClaim := { program := "ytcckamdpncbkoaadoor", sum := "c634490f21a7890c6c81737766f259c1e9c926aba3148e39b6728740e4d8035e", func := "loop.example/g00896/laws.FnExactFullForm", spec := "fnExactFullForm", inPlace := ["internal/bytealg.CountString", "internal/bytealg.IndexByteString", "internal/bytealg.IndexString", "internal/abi.NoEscape", "internal/bytealg.MakeNoZero"], unfollowed := true, recurses := true, named := ["unicode/utf8.first", "unicode/utf8.acceptRanges", "internal/bytealg.MaxLen"], apart := false, laid := [("unicode/utf8.acceptRanges", laid_unicode_utf8_acceptRanges), ("unicode/utf8.first", laid_unicode_utf8_first)], narrowed := true }
def FnExactFullFormUptoSaid : Prop := fnExactFullFormUptoRow.holds Tryd.pinned (OpenSpec.upto fnExactFullFormSpec)

/-- 'laws.FnExactInitialsOf', WHERE WHAT IT READS IS OF BULK AT MOST 1048576: true; the input reads as it did. -/
def fnExactInitialsOfUptoRow : OpenClaim := { program := "ytcckamdpncbkoaadoor", sum := "c634490f21a7890c6c81737766f259c1e9c926aba3148e39b6728740e4d8035e", func := "loop.example/g00896/laws.FnExactInitialsOf", spec := "fnExactInitialsOf", inPlace := ["internal/bytealg.CountString", "internal/bytealg.IndexByteString", "internal/bytealg.IndexString", "internal/abi.NoEscape", "internal/bytealg.MakeNoZero"], unfollowed := true, recurses := true, named := ["unicode/utf8.first", "unicode/utf8.acceptRanges", "internal/bytealg.MaxLen"], apart := false, laid := [("unicode/utf8.acceptRanges", laid_unicode_utf8_acceptRanges), ("unicode/utf8.first", laid_unicode_utf8_first)], narrowed := true }
def FnExactInitialsOfUptoSaid : Prop := fnExactInitialsOfUptoRow.holds Tryd.pinned (OpenSpec.upto fnExactInitialsOfSpec)

/-- 'laws.FnExactInverseForm', WHERE WHAT IT READS IS OF BULK AT MOST 1048576: true; the input reads as it did. -/
def fnExactInverseFormUptoRow : OpenClaim := { program := "ytcckamdpncbkoaadoor", sum := "c634490f21a7890c6c81737766f259c1e9c926aba3148e39b6728740e4d8035e", func := "loop.example/g00896/laws.FnExactInverseForm", spec := "fnExactInverseForm", inPlace := ["internal/bytealg.CountString", "internal/bytealg.IndexByteString", "internal/bytealg.IndexString", "internal/abi.NoEscape", "internal/bytealg.MakeNoZero"], unfollowed := true, recurses := true, named := ["unicode/utf8.first", "unicode/utf8.acceptRanges", "internal/bytealg.MaxLen"], apart := false, laid := [("unicode/utf8.acceptRanges", laid_unicode_utf8_acceptRanges), ("unicode/utf8.first", laid_unicode_utf8_first)], narrowed := true }
def FnExactInverseFormUptoSaid : Prop := fnExactInverseFormUptoRow.holds Tryd.pinned (OpenSpec.upto fnExactInverseFormSpec)

/-- 'laws.FnExactParseInverse', WHERE WHAT IT READS IS OF BULK AT MOST 1048576: true; the input reads as it did. -/
def fnExactParseInverseUptoRow : OpenClaim := { program := "ytcckamdpncbkoaadoor", sum := "c634490f21a7890c6c81737766f259c1e9c926aba3148e39b6728740e4d8035e", func := "loop.example/g00896/laws.FnExactParseInverse", spec := "fnExactParseInverse", inPlace := ["internal/bytealg.CountString", "internal/bytealg.IndexByteString", "internal/bytealg.IndexString", "internal/abi.NoEscape", "internal/bytealg.MakeNoZero"], unfollowed := true, recurses := true, named := ["unicode/utf8.first", "unicode/utf8.acceptRanges", "internal/bytealg.MaxLen"], apart := false, laid := [("unicode/utf8.acceptRanges", laid_unicode_utf8_acceptRanges), ("unicode/utf8.first", laid_unicode_utf8_first)], narrowed := true }
def FnExactParseInverseUptoSaid : Prop := fnExactParseInverseUptoRow.holds Tryd.pinned (OpenSpec.upto fnExactParseInverseSpec)

/-- 'laws.FnExactShortForm', WHERE WHAT IT READS IS OF BULK AT MOST 1048576: true; the input reads as it did. -/
def fnExactShortFormUptoRow : OpenClaim := { program := "ytcckamdpncbkoaadoor", sum := "c634490f21a7890c6c81737766f259c1e9c926aba3148e39b6728740e4d8035e", func := "loop.example/g00896/laws.FnExactShortForm", spec := "fnExactShortForm", inPlace := ["internal/bytealg.CountString", "internal/bytealg.IndexByteString", "internal/bytealg.IndexString", "internal/abi.NoEscape", "internal/bytealg.MakeNoZero"], unfollowed := true, recurses := true, named := ["unicode/utf8.first", "unicode/utf8.acceptRanges", "internal/bytealg.MaxLen"], apart := false, laid := [("unicode/utf8.acceptRanges", laid_unicode_utf8_acceptRanges), ("unicode/utf8.first", laid_unicode_utf8_first)], narrowed := true }
def FnExactShortFormUptoSaid : Prop := fnExactShortFormUptoRow.holds Tryd.pinned (OpenSpec.upto fnExactShortFormSpec)

/-- 'laws.FnExactCompareNames', WHERE WHAT IT READS IS OF BULK AT MOST 1048576: true; the input reads as it did. -/
def fnExactCompareNamesUptoRow : OpenClaim := { program := "ytcckamdpncbkoaadoor", sum := "c634490f21a7890c6c81737766f259c1e9c926aba3148e39b6728740e4d8035e", func := "loop.example/g00896/laws.FnExactCompareNames", spec := "fnExactCompareNames", inPlace := ["internal/bytealg.CountString", "internal/bytealg.IndexByteString", "internal/bytealg.IndexString", "internal/bytealg.abigen_runtime_cmpstring", "internal/abi.NoEscape", "internal/bytealg.MakeNoZero"], unfollowed := true, recurses := true, named := ["unicode/utf8.first", "unicode/utf8.acceptRanges", "internal/bytealg.MaxLen"], apart := false, laid := [("unicode/utf8.acceptRanges", laid_unicode_utf8_acceptRanges), ("unicode/utf8.first", laid_unicode_utf8_first)], narrowed := true }
def FnExactCompareNamesUptoSaid : Prop := fnExactCompareNamesUptoRow.holds Tryd.pinned (OpenSpec.upto fnExactCompareNamesSpec)

end Rows
end Go.Proofs.YtcckamdpncbkoaaDoor
