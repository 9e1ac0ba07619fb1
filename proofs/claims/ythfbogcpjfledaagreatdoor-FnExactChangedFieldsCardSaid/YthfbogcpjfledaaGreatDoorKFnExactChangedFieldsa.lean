/- Of the law FnExactChangedFields: the walk under the row's condition, the row, or its card; no condition. -/
import Derived.Test.YthfbogcpjfledaaGreatDoorTie
import Derived.Test.YthfbogcpjfledaaGreatDoorCards
import Derived.Test.YthfbogcpjfledaaGreatDoorKFnExactChangedFields2
import Derived.Test.YthfbogcpjfledaaGreatDoorKFnExactChangedFields7
import Derived.Test.YthfbogcpjfledaaGreatDoorKFnExactChangedFields8
import Derived.WalkKit
import Derived.ProofKit
import Derived.OpenShut
import Derived.ShutString
import Derived.ChangeOld
import Derived.Below
import Derived.SizedLaws
import Derived.Lib.SmallJoins
import Derived.Lay
import Derived.LaidMore
import Derived.Stop.Joined
import Derived.Stop.LaidErr
import Derived.SevenTiedAt
import Derived.OpenVars
import Derived.ChangeVars
namespace Go.Proofs.YthfbogcpjfledaaGreatDoor.fnExactChangedFields
open Go.ChangeShapes Go.WideShapes Go.ChangeAt Go.RowKit Go.Joins
open Go.ChangeMaps (open_string shut_string)
open Go.Proofs.YthfbogcpjfledaaGreatDoor.G Go.Proofs.YthfbogcpjfledaaGreatDoor.Opn
set_option linter.unusedVariables false
set_option linter.unusedSimpArgs false
theorem own : ownKnob Tryz.prog.godebug = none := by kernel_rfl
theorem laidOut : laidOutB Tryz.prog = true := by kernel_rfl
set_option maxRecDepth 100000 in
theorem lifted (os : Os) (started : os.Started) (H : Type) (enc : TypeId × Value → H) :
    ReturnsInHanded {} Tryz.checked os 3 .any (fun w args => (Rows.fnExactChangedFieldsSpec.pre enc Tryz.prog Tryz.f3 Rows.fnExactChangedFieldsRow.domain false w args ∧ laidMetH Tryz.prog Rows.fnExactChangedFieldsRow.laid w) ∧ sizedMet enc Tryz.prog Tryz.f3 (OpenSpec.ofChange Rows.fnExactChangedFieldsSpec) false w args) (Rows.fnExactChangedFieldsSpec.post enc Tryz.prog Tryz.f3 false true false false) := by
  refine Go.Proofs.YthfbogcpjfledaaGreatDoor.Crd.wrap_and_shaped (C := Tryz.checked) (X := fun w _ => laidMetH Tryz.prog Rows.fnExactChangedFieldsRow.laid w) (fun _ _ _ hh h => h.of_heap hh) own started (by kernel_rfl) Tryz.func3
    (ChangeSpec.witness_shaped (enc := enc) (C := Tryz.checked) (os := os) (X := fun w _ => laidMetH Tryz.prog Rows.fnExactChangedFieldsRow.laid w) false (World.laidAll Tryz.prog os Rows.fnExactChangedFieldsRow.laid) #[.agg #[.string ByteArray.empty, .int .i64 0, .slice none 0 0, .slice none 0 0, .string ByteArray.empty, .string ByteArray.empty, .string ByteArray.empty, .int .i64 0, .int .i64 0, .int .i64 0, .bool false, .int .i64 0, .string ByteArray.empty, .string ByteArray.empty], .agg #[.string ByteArray.empty, .int .i64 0, .slice none 0 0, .slice none 0 0, .string ByteArray.empty, .string ByteArray.empty, .string ByteArray.empty, .int .i64 0, .int .i64 0, .int .i64 0, .bool false, .int .i64 0, .string ByteArray.empty, .string ByteArray.empty]] 8 (World.laidAll_os _ _ _) (World.shaped_of_ZipB (by kernel_rfl) (by kernel_rfl)) (by kernel_rfl) (by kernel_rfl) (by kernel_rfl)
      (by rw [MakeChecks.laidMetH_plain _ _ _ (by kernel_rfl)]; exact laidMet_laidAll _ (by kernel_rfl) (by kernel_rfl))) ?_
  intro W base args ds gs before hval0 hW hcnd hsz0 hL hsh
  have hP : laidMet Tryz.prog [("math/bits.deBruijn32tab", Rows.laid_math_bits_deBruijn32tab), ("math/bits.deBruijn64tab", Rows.laid_math_bits_deBruijn64tab), ("internal/strconv.uint64pow10", Rows.laid_internal_strconv_uint64pow10), ("unicode/utf8.acceptRanges", Rows.laid_unicode_utf8_acceptRanges), ("loop.example/g00896/impl.fieldWords", Rows.laid_loop_example_g00896_impl_fieldWords), ("unicode/utf8.first", Rows.laid_unicode_utf8_first)] W := by have h := hL; rw [MakeChecks.laidMetH_plain _ _ _ (by kernel_rfl)] at h; exact h
  have hG : Go.Proofs.YthfbogcpjfledaaGreatDoor.Gl.GL true false true W := ⟨Go.Proofs.cell_of_shapedOpen_int (P := Tryz.prog) (g := 4) (t := 3) (zero := #[.int .i64 0]) hsh (of_decide_eq_true (by kernel_rfl)) (by kernel_rfl) rfl (by kernel_rfl) (by kernel_rfl) Tryz.underlying3, (fun _ => Lib.tabIs_of_head (g := 1) (t := 122) (by kernel_rfl) (by kernel_rfl) Tryz.underlying122 Tryz.underlying109 (by kernel_rfl) (by kernel_rfl) (show laidMet Tryz.prog (("internal/strconv.uint64pow10", Lib.tabData .u64 Lib.pow10Tab) :: [("unicode/utf8.acceptRanges", Rows.laid_unicode_utf8_acceptRanges), ("loop.example/g00896/impl.fieldWords", Rows.laid_loop_example_g00896_impl_fieldWords), ("unicode/utf8.first", Rows.laid_unicode_utf8_first)]) W from (laidMet.tail (laidMet.tail hP)))), (fun _ i s hi => Go.Proofs.YthfbogcpjfledaaGreatDoor.LTab.text_of_head (g := 0) (t := 65) (by kernel_rfl) (by kernel_rfl) Tryz.underlying65 Tryz.underlying9 (by kernel_rfl) (by kernel_rfl) (show laidMet Tryz.prog (("loop.example/g00896/impl.fieldWords", Go.Proofs.YthfbogcpjfledaaGreatDoor.LTab.textData Go.Proofs.YthfbogcpjfledaaGreatDoor.Gl.fieldsL) :: [("unicode/utf8.first", Rows.laid_unicode_utf8_first)]) W from (laidMet.tail (laidMet.tail (laidMet.tail (laidMet.tail hP))))) i s hi)⟩
  have hval : ∀ (j : Nat) t v, Tryz.f3.params[j]? = some t → args[j]? = some v → Value.okWide Tryz.prog W .any base t v := hval0
  have hW' := hW
  obtain ⟨p, q, hA0, hV, rfl, hfz, hnd⟩ := hW
  have hA : DataW.TrodAll enc Tryz.prog W 0 (fun _ => true) true Tryz.f3.params.toList args.toList ds p := hA0
  rw [Tryz.params3] at hA hval
  obtain ⟨v0, vs0, d0, ds0, p0, q0, hargs, rfl, rfl, h0, r0⟩ := trodAll_cons hA
  obtain ⟨v1, vs1, d1, ds1, p1, q1, rfl, rfl, rfl, h1, r1⟩ := trodAll_cons r0
  obtain ⟨rfl, rfl, rfl⟩ := trodAll_nil r1
  obtain rfl : args = #[v0, v1] := by cases args; simp_all
  obtain ⟨gv_, rfl⟩ : ∃ gv, gs = [gv] := by obtain ⟨_, _, _, _, d, _, e, _⟩ := trodVars_one hV; exact ⟨d, e⟩
  have t0 := h0
  have lt0 : ∀ x ∈ p0, x.block < W.heap.size := by obtain ⟨m, hm⟩ := t0; exact DataW.trod_lt m _ _ _ hm
  obtain ⟨cs0, rfl, hz0⟩ := okWide_struct Tryz.underlying26 (hval 0 26 v0 rfl rfl)
  obtain ⟨fu0, hf0⟩ := h0
  obtain ⟨y0, K0, o0⟩ := of_T26 hf0
  obtain ⟨cs0⟩ := cs0
  obtain ⟨A0_2, c0_2, A0_3, c0_3, e0, l0_2, g0_2, l0_3, g0_3⟩ := k26_open K0
  obtain rfl : cs0 = [.string y0.f0, .int .i64 y0.f1, .slice A0_2 y0.f2.length c0_2, .slice A0_3 y0.f3.length c0_3, .string y0.f4, .string y0.f5, .string y0.f6, .int .i64 y0.f7.f0, .int .i64 y0.f7.f1, .int .i64 y0.f7.f2, .bool y0.f7.f3, .int .i64 y0.f8, .string y0.f9, .string y0.f10] := e0
  have t1 := h1
  have lt1 : ∀ x ∈ p1, x.block < W.heap.size := by obtain ⟨m, hm⟩ := t1; exact DataW.trod_lt m _ _ _ hm
  obtain ⟨cs1, rfl, hz1⟩ := okWide_struct Tryz.underlying26 (hval 1 26 v1 rfl rfl)
  obtain ⟨fu1, hf1⟩ := h1
  obtain ⟨y1, K1, o1⟩ := of_T26 hf1
  obtain ⟨cs1⟩ := cs1
  obtain ⟨A1_2, c1_2, A1_3, c1_3, e1, l1_2, g1_2, l1_3, g1_3⟩ := k26_open K1
  obtain rfl : cs1 = [.string y1.f0, .int .i64 y1.f1, .slice A1_2 y1.f2.length c1_2, .slice A1_3 y1.f3.length c1_3, .string y1.f4, .string y1.f5, .string y1.f6, .int .i64 y1.f7.f0, .int .i64 y1.f7.f1, .int .i64 y1.f7.f2, .bool y1.f7.f3, .int .i64 y1.f8, .string y1.f9, .string y1.f10] := e1
  clear hA0 hval0 hsz0
  refine (laws_FnExactChangedFields.wlk Pure.FnExactChangedFields y0.f0 y0.f1 A0_2 c0_2 y0.f2 A0_3 c0_3 y0.f3 y0.f4 y0.f5 y0.f6 y0.f7.f0 y0.f7.f1 y0.f7.f2 y0.f7.f3 y0.f8 y0.f9 y0.f10 y1.f0 y1.f1 A1_2 c1_2 y1.f2 A1_3 c1_3 y1.f3 y1.f4 y1.f5 y1.f6 y1.f7.f0 y1.f7.f1 y1.f7.f2 y1.f7.f3 y1.f8 y1.f9 y1.f10 W g0_2 l0_2 g0_3 l0_3 g1_2 l1_2 g1_3 l1_3 hG o0.1 o0.2.1 o0.2.2.1 o0.2.2.2.1 o0.2.2.2.2.1 o0.2.2.2.2.2.1 o0.2.2.2.2.2.2.1 o0.2.2.2.2.2.2.2.1.1 o0.2.2.2.2.2.2.2.1.2.1 o0.2.2.2.2.2.2.2.1.2.2.1 o0.2.2.2.2.2.2.2.2.1 o0.2.2.2.2.2.2.2.2.2.1 o0.2.2.2.2.2.2.2.2.2.2 o1.1 o1.2.1 o1.2.2.1 o1.2.2.2.1 o1.2.2.2.2.1 o1.2.2.2.2.2.1 o1.2.2.2.2.2.2.1 o1.2.2.2.2.2.2.2.1.1 o1.2.2.2.2.2.2.2.1.2.1 o1.2.2.2.2.2.2.2.1.2.2.1 o1.2.2.2.2.2.2.2.2.1 o1.2.2.2.2.2.2.2.2.2.1 o1.2.2.2.2.2.2.2.2.2.2).mono fun e W' ⟨he, bel⟩ => ?_
  subst he
  exact ⟨_, rfl, _, _, _, [], _, q, hW', trodAll_mk1 (shut_bool Tryz.underlying4 _), (trodAll_cons_mk (Below.trod laidOut (by kernel_rfl) (of_decide_eq_true (by kernel_rfl)) t0 bel lt0) (trodAll_cons_mk (Below.trod laidOut (by kernel_rfl) (of_decide_eq_true (by kernel_rfl)) t1 bel lt1) trodAll_mk0)), (Below.trodVars laidOut bel (by kernel_rfl) hV), bel.frame _, fun h => by cases h⟩
end Go.Proofs.YthfbogcpjfledaaGreatDoor.fnExactChangedFields
