/- Of the law FnExactLongDate: the walk under the row's condition, the row, or its card; no condition. -/
import Derived.Test.YtflocbogafgkoaaDoorTie
import Derived.Test.YtflocbogafgkoaaDoorCards
import Derived.Test.YtflocbogafgkoaaDoorKFnExactLongDate2
import Derived.WalkKit
import Derived.ProofKit
import Derived.OpenShut
import Derived.ShutString
import Derived.ChangeOld
import Derived.Below
import Derived.SizedLaws
import Derived.Lib.SmallJoins
import Derived.Lay
import Derived.LaidMore
import Derived.Stop.Joined
import Derived.Stop.LaidErr
import Derived.SevenTiedAt
import Derived.OpenVars
import Derived.ChangeVars
namespace Go.Proofs.YtflocbogafgkoaaDoor.fnExactLongDate
open Go.ChangeShapes Go.WideShapes Go.ChangeAt Go.RowKit Go.Joins
open Go.ChangeMaps (open_string shut_string)
open Go.Proofs.YtflocbogafgkoaaDoor.G Go.Proofs.YtflocbogafgkoaaDoor.Opn
set_option linter.unusedVariables false
set_option linter.unusedSimpArgs false
theorem own : ownKnob Tryd.prog.godebug = none := by kernel_rfl
theorem laidOut : laidOutB Tryd.prog = true := by kernel_rfl
set_option maxRecDepth 100000 in
theorem lifted (os : Os) (started : os.Started) (H : Type) (enc : TypeId × Value → H) :
    ReturnsInHanded {} Tryd.checked os 3 .any (fun w args => (Rows.fnExactLongDateSpec.pre enc Tryd.prog Tryd.f3 Rows.fnExactLongDateRow.domain false w args ∧ laidMetH Tryd.prog Rows.fnExactLongDateRow.laid w) ∧ sizedMet enc Tryd.prog Tryd.f3 (OpenSpec.ofChange Rows.fnExactLongDateSpec) false w args) (Rows.fnExactLongDateSpec.post enc Tryd.prog Tryd.f3 false true false false) := by
  refine Go.Proofs.YtflocbogafgkoaaDoor.Crd.wrap_and_shaped (C := Tryd.checked) (X := fun w _ => laidMetH Tryd.prog Rows.fnExactLongDateRow.laid w) (fun _ _ _ hh h => h.of_heap hh) own started (by kernel_rfl) Tryd.func3
    (ChangeSpec.witness_shaped (enc := enc) (C := Tryd.checked) (os := os) (X := fun w _ => laidMetH Tryd.prog Rows.fnExactLongDateRow.laid w) false (World.laidAll Tryd.prog os Rows.fnExactLongDateRow.laid) #[.agg #[.int .i64 0, .int .i64 0, .int .i64 0, .bool false]] 8 (World.laidAll_os _ _ _) (World.shaped_of_ZipB (by kernel_rfl) (by kernel_rfl)) (by kernel_rfl) (by kernel_rfl) (by kernel_rfl)
      (by rw [MakeChecks.laidMetH_plain _ _ _ (by kernel_rfl)]; exact laidMet_laidAll _ (by kernel_rfl) (by kernel_rfl))) ?_
  intro W base args ds gs before hval0 hW hcnd hsz0 hL hsh
  have hP : laidMet Tryd.prog [("math/bits.deBruijn32tab", Rows.laid_math_bits_deBruijn32tab), ("math/bits.deBruijn64tab", Rows.laid_math_bits_deBruijn64tab), ("internal/strconv.uint64pow10", Rows.laid_internal_strconv_uint64pow10), ("loop.example/g00896/impl.monthNames", Rows.laid_loop_example_g00896_impl_monthNames)] W := by have h := hL; rw [MakeChecks.laidMetH_plain _ _ _ (by kernel_rfl)] at h; exact h
  have hG : Go.Proofs.YtflocbogafgkoaaDoor.Gl.GL true false true W := ⟨Go.Proofs.cell_of_shapedOpen_int (P := Tryd.prog) (g := 2) (t := 3) (zero := #[.int .i64 0]) hsh (of_decide_eq_true (by kernel_rfl)) (by kernel_rfl) rfl (by kernel_rfl) (by kernel_rfl) Tryd.underlying3, (fun _ => Lib.tabIs_of_head (g := 1) (t := 62) (by kernel_rfl) (by kernel_rfl) Tryd.underlying62 Tryd.underlying54 (by kernel_rfl) (by kernel_rfl) (show laidMet Tryd.prog (("internal/strconv.uint64pow10", Lib.tabData .u64 Lib.pow10Tab) :: [("loop.example/g00896/impl.monthNames", Rows.laid_loop_example_g00896_impl_monthNames)]) W from (laidMet.tail (laidMet.tail hP)))), (fun _ i s hi => Go.Proofs.YtflocbogafgkoaaDoor.LTab.text_of_head (g := 0) (t := 37) (by kernel_rfl) (by kernel_rfl) Tryd.underlying37 Tryd.underlying9 (by kernel_rfl) (by kernel_rfl) (show laidMet Tryd.prog (("loop.example/g00896/impl.monthNames", Go.Proofs.YtflocbogafgkoaaDoor.LTab.textData Go.Proofs.YtflocbogafgkoaaDoor.Gl.monthsL) :: []) W from (laidMet.tail (laidMet.tail (laidMet.tail hP)))) i s hi)⟩
  have hval : ∀ (j : Nat) t v, Tryd.f3.params[j]? = some t → args[j]? = some v → Value.okWide Tryd.prog W .any base t v := hval0
  have hW' := hW
  obtain ⟨p, q, hA0, hV, rfl, hfz, hnd⟩ := hW
  have hA : DataW.TrodAll enc Tryd.prog W 0 (fun _ => true) true Tryd.f3.params.toList args.toList ds p := hA0
  rw [Tryd.params3] at hA hval
  obtain ⟨v0, vs0, d0, ds0, p0, q0, hargs, rfl, rfl, h0, r0⟩ := trodAll_cons hA
  obtain ⟨rfl, rfl, rfl⟩ := trodAll_nil r0
  obtain rfl : args = #[v0] := by cases args; simp_all
  obtain ⟨gv_, rfl⟩ : ∃ gv, gs = [gv] := by obtain ⟨_, _, _, _, d, _, e, _⟩ := trodVars_one hV; exact ⟨d, e⟩
  have t0 := h0
  have lt0 : ∀ x ∈ p0, x.block < W.heap.size := by obtain ⟨m, hm⟩ := t0; exact DataW.trod_lt m _ _ _ hm
  obtain ⟨cs0, rfl, hz0⟩ := okWide_struct Tryd.underlying23 (hval 0 23 v0 rfl rfl)
  obtain ⟨fu0, hf0⟩ := h0
  obtain ⟨y0, K0, o0⟩ := of_T23 hf0
  obtain ⟨cs0⟩ := cs0
  obtain e0 := k23_open K0
  obtain rfl : cs0 = [.int .i64 y0.f0, .int .i64 y0.f1, .int .i64 y0.f2, .bool y0.f3] := e0
  clear hA0 hval0 hsz0
  refine (laws_FnExactLongDate.wlk Pure.FnExactLongDate y0.f0 y0.f1 y0.f2 y0.f3 W  hG o0.1 o0.2.1 o0.2.2.1).mono fun e W' ⟨he, bel⟩ => ?_
  subst he
  exact ⟨_, rfl, _, _, _, [], _, q, hW', trodAll_mk1 (shut_bool Tryd.underlying4 _), (trodAll_cons_mk (Below.trod laidOut (by kernel_rfl) (of_decide_eq_true (by kernel_rfl)) t0 bel lt0) trodAll_mk0), (Below.trodVars laidOut bel (by kernel_rfl) hV), bel.frame _, fun h => by cases h⟩
end Go.Proofs.YtflocbogafgkoaaDoor.fnExactLongDate
