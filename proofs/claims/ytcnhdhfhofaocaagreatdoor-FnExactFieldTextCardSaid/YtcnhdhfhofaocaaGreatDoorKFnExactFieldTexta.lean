/- Of the law FnExactFieldText: the walk under the row's condition, the row, or its card; no condition. -/
import Derived.Test.YtcnhdhfhofaocaaGreatDoorTie
import Derived.Test.YtcnhdhfhofaocaaGreatDoorCards
import Derived.Test.YtcnhdhfhofaocaaGreatDoorKFnExactFieldText2
import Derived.Test.YtcnhdhfhofaocaaGreatDoorKFnExactFieldText5
import Derived.Test.YtcnhdhfhofaocaaGreatDoorKFnExactFieldText6
import Derived.WalkKit
import Derived.ProofKit
import Derived.OpenShut
import Derived.ShutString
import Derived.ChangeOld
import Derived.Below
import Derived.SizedLaws
import Derived.Lib.SmallJoins
import Derived.Lay
import Derived.LaidMore
import Derived.Stop.Joined
import Derived.Stop.LaidErr
import Derived.SevenTiedAt
import Derived.OpenVars
import Derived.ChangeVars
namespace Go.Proofs.YtcnhdhfhofaocaaGreatDoor.fnExactFieldText
open Go.ChangeShapes Go.WideShapes Go.ChangeAt Go.RowKit Go.Joins
open Go.ChangeMaps (open_string shut_string)
open Go.Proofs.YtcnhdhfhofaocaaGreatDoor.G Go.Proofs.YtcnhdhfhofaocaaGreatDoor.Opn
set_option linter.unusedVariables false
set_option linter.unusedSimpArgs false
theorem own : ownKnob Tryz.prog.godebug = none := by kernel_rfl
theorem laidOut : laidOutB Tryz.prog = true := by kernel_rfl
set_option maxRecDepth 100000 in
theorem lifted (os : Os) (started : os.Started) (H : Type) (enc : TypeId × Value → H) :
    ReturnsInHanded {} Tryz.checked os 3 .any (fun w args => (Rows.fnExactFieldTextSpec.pre enc Tryz.prog Tryz.f3 Rows.fnExactFieldTextRow.domain false w args ∧ laidMetH Tryz.prog Rows.fnExactFieldTextRow.laid w) ∧ sizedMet enc Tryz.prog Tryz.f3 (OpenSpec.ofChange Rows.fnExactFieldTextSpec) false w args) (Rows.fnExactFieldTextSpec.post enc Tryz.prog Tryz.f3 false true false false) := by
  refine Go.Proofs.YtcnhdhfhofaocaaGreatDoor.Crd.wrap_and_shaped (C := Tryz.checked) (X := fun w _ => laidMetH Tryz.prog Rows.fnExactFieldTextRow.laid w) (fun _ _ _ hh h => h.of_heap hh) own started (by kernel_rfl) Tryz.func3
    (ChangeSpec.witness_shaped (enc := enc) (C := Tryz.checked) (os := os) (X := fun w _ => laidMetH Tryz.prog Rows.fnExactFieldTextRow.laid w) false (World.laidAll Tryz.prog os Rows.fnExactFieldTextRow.laid) #[.agg #[.string ByteArray.empty, .int .i64 0, .slice none 0 0, .slice none 0 0, .string ByteArray.empty, .string ByteArray.empty, .string ByteArray.empty, .int .i64 0, .int .i64 0, .int .i64 0, .bool false, .int .i64 0, .string ByteArray.empty, .string ByteArray.empty], .string ByteArray.empty] 8 (World.laidAll_os _ _ _) (World.shaped_of_ZipB (by kernel_rfl) (by kernel_rfl)) (by kernel_rfl) (by kernel_rfl) (by kernel_rfl)
      (by rw [MakeChecks.laidMetH_plain _ _ _ (by kernel_rfl)]; exact laidMet_laidAll _ (by kernel_rfl) (by kernel_rfl))) ?_
  intro W base args ds gs before hval0 hW hcnd hsz0 hL hsh
  have hP : laidMet Tryz.prog [("math/bits.deBruijn32tab", Rows.laid_math_bits_deBruijn32tab), ("math/bits.deBruijn64tab", Rows.laid_math_bits_deBruijn64tab), ("internal/strconv.uint64pow10", Rows.laid_internal_strconv_uint64pow10), ("unicode/utf8.acceptRanges", Rows.laid_unicode_utf8_acceptRanges), ("loop.example/g00896/impl.fieldWords", Rows.laid_loop_example_g00896_impl_fieldWords), ("unicode/utf8.first", Rows.laid_unicode_utf8_first)] W := by have h := hL; rw [MakeChecks.laidMetH_plain _ _ _ (by kernel_rfl)] at h; exact h
  have hG : Go.Proofs.YtcnhdhfhofaocaaGreatDoor.Gl.GL true false true W := ⟨Go.Proofs.cell_of_shapedOpen_int (P := Tryz.prog) (g := 2) (t := 3) (zero := #[.int .i64 0]) hsh (of_decide_eq_true (by kernel_rfl)) (by kernel_rfl) rfl (by kernel_rfl) (by kernel_rfl) Tryz.underlying3, (fun _ => Lib.tabIs_of_head (g := 1) (t := 142) (by kernel_rfl) (by kernel_rfl) Tryz.underlying142 Tryz.underlying64 (by kernel_rfl) (by kernel_rfl) (show laidMet Tryz.prog (("internal/strconv.uint64pow10", Lib.tabData .u64 Lib.pow10Tab) :: [("unicode/utf8.acceptRanges", Rows.laid_unicode_utf8_acceptRanges), ("loop.example/g00896/impl.fieldWords", Rows.laid_loop_example_g00896_impl_fieldWords), ("unicode/utf8.first", Rows.laid_unicode_utf8_first)]) W from (laidMet.tail (laidMet.tail hP)))), (fun _ i s hi => Go.Proofs.YtcnhdhfhofaocaaGreatDoor.LTab.text_of_head (g := 0) (t := 83) (by kernel_rfl) (by kernel_rfl) Tryz.underlying83 Tryz.underlying9 (by kernel_rfl) (by kernel_rfl) (show laidMet Tryz.prog (("loop.example/g00896/impl.fieldWords", Go.Proofs.YtcnhdhfhofaocaaGreatDoor.LTab.textData Go.Proofs.YtcnhdhfhofaocaaGreatDoor.Gl.fieldsL) :: [("unicode/utf8.first", Rows.laid_unicode_utf8_first)]) W from (laidMet.tail (laidMet.tail (laidMet.tail (laidMet.tail hP))))) i s hi)⟩
  have hval : ∀ (j : Nat) t v, Tryz.f3.params[j]? = some t → args[j]? = some v → Value.okWide Tryz.prog W .any base t v := hval0
  have hW' := hW
  obtain ⟨p, q, hA0, hV, rfl, hfz, hnd⟩ := hW
  have hA : DataW.TrodAll enc Tryz.prog W 0 (fun _ => true) true Tryz.f3.params.toList args.toList ds p := hA0
  rw [Tryz.params3] at hA hval
  obtain ⟨v0, vs0, d0, ds0, p0, q0, hargs, rfl, rfl, h0, r0⟩ := trodAll_cons hA
  obtain ⟨v1, vs1, d1, ds1, p1, q1, rfl, rfl, rfl, h1, r1⟩ := trodAll_cons r0
  obtain ⟨rfl, rfl, rfl⟩ := trodAll_nil r1
  obtain rfl : args = #[v0, v1] := by cases args; simp_all
  obtain ⟨gv_, rfl⟩ : ∃ gv, gs = [gv] := by obtain ⟨_, _, _, _, d, _, e, _⟩ := trodVars_one hV; exact ⟨d, e⟩
  have t0 := h0
  have lt0 : ∀ x ∈ p0, x.block < W.heap.size := by obtain ⟨m, hm⟩ := t0; exact DataW.trod_lt m _ _ _ hm
  obtain ⟨cs0, rfl, hz0⟩ := okWide_struct Tryz.underlying26 (hval 0 26 v0 rfl rfl)
  obtain ⟨fu0, hf0⟩ := h0
  obtain ⟨y0, K0, o0⟩ := of_T26 hf0
  obtain ⟨cs0⟩ := cs0
  obtain ⟨A0_2, c0_2, A0_3, c0_3, e0, l0_2, g0_2, l0_3, g0_3⟩ := k26_open K0
  obtain rfl : cs0 = [.string y0.f0, .int .i64 y0.f1, .slice A0_2 y0.f2.length c0_2, .slice A0_3 y0.f3.length c0_3, .string y0.f4, .string y0.f5, .string y0.f6, .int .i64 y0.f7.f0, .int .i64 y0.f7.f1, .int .i64 y0.f7.f2, .bool y0.f7.f3, .int .i64 y0.f8, .string y0.f9, .string y0.f10] := e0
  have t1 := h1
  have lt1 : ∀ x ∈ p1, x.block < W.heap.size := by obtain ⟨m, hm⟩ := t1; exact DataW.trod_lt m _ _ _ hm
  obtain ⟨a1, rfl, rfl, rfl, y1⟩ := open_string Tryz.underlying9 (hval 1 9 v1 rfl rfl) h1
  clear hA0 hval0 hsz0
  refine (laws_FnExactFieldText.wlk Pure.FnExactFieldText y0.f0 y0.f1 A0_2 c0_2 y0.f2 A0_3 c0_3 y0.f3 y0.f4 y0.f5 y0.f6 y0.f7.f0 y0.f7.f1 y0.f7.f2 y0.f7.f3 y0.f8 y0.f9 y0.f10 a1 W g0_2 l0_2 g0_3 l0_3 hG o0.1 o0.2.1 o0.2.2.1 o0.2.2.2.1 o0.2.2.2.2.1 o0.2.2.2.2.2.1 o0.2.2.2.2.2.2.1 o0.2.2.2.2.2.2.2.1.1 o0.2.2.2.2.2.2.2.1.2.1 o0.2.2.2.2.2.2.2.1.2.2.1 o0.2.2.2.2.2.2.2.2.1 o0.2.2.2.2.2.2.2.2.2.1 o0.2.2.2.2.2.2.2.2.2.2 (by have := y1; unfold maxLen at this; exact this)).mono fun e W' ⟨he, bel⟩ => ?_
  subst he
  exact ⟨_, rfl, _, _, _, [], _, q, hW', trodAll_mk1 (shut_bool Tryz.underlying4 _), (trodAll_cons_mk (Below.trod laidOut (by kernel_rfl) (of_decide_eq_true (by kernel_rfl)) t0 bel lt0) (trodAll_cons_mk (shut_string Tryz.underlying9 y1) trodAll_mk0)), (Below.trodVars laidOut bel (by kernel_rfl) hV), bel.frame _, fun h => by cases h⟩
end Go.Proofs.YtcnhdhfhofaocaaGreatDoor.fnExactFieldText
