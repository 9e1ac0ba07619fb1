/- Of the law FnExactIsValidEntry: the walk under the row's condition, the row, or its card; no condition. -/
import Derived.Test.YtcckamdpncbkoabDoorTie
import Derived.Test.YtcckamdpncbkoabDoorCards
import Derived.Test.YtcckamdpncbkoabDoorKFnExactIsValidEntry2
import Derived.Test.YtcckamdpncbkoabDoorKFnExactIsValidEntry5
import Derived.WalkKit
import Derived.ProofKit
import Derived.OpenShut
import Derived.ShutString
import Derived.ChangeOld
import Derived.Below
import Derived.SizedLaws
import Derived.Lib.SmallJoins
import Derived.Lay
import Derived.LaidMore
import Derived.Stop.Joined
import Derived.Stop.LaidErr
import Derived.SevenTiedAt
namespace Go.Proofs.YtcckamdpncbkoabDoor.fnExactIsValidEntry
open Go.ChangeShapes Go.WideShapes Go.ChangeAt Go.RowKit Go.Joins
open Go.ChangeMaps (open_string shut_string)
open Go.Proofs.YtcckamdpncbkoabDoor.G Go.Proofs.YtcckamdpncbkoabDoor.Opn
set_option linter.unusedVariables false
set_option linter.unusedSimpArgs false
theorem own : ownKnob Tryd.prog.godebug = none := by kernel_rfl
theorem laidOut : laidOutB Tryd.prog = true := by kernel_rfl
set_option maxRecDepth 100000 in
theorem lifted (os : Os) (started : os.Started) (H : Type) (enc : TypeId × Value → H) :
    ReturnsInHanded {} Tryd.checked os 8 .any (fun w args => (Rows.fnExactIsValidEntrySpec.pre enc Tryd.prog Tryd.f8 Rows.fnExactIsValidEntryRow.domain false w args ∧ laidMetH Tryd.prog Rows.fnExactIsValidEntryRow.laid w) ∧ sizedMet enc Tryd.prog Tryd.f8 (OpenSpec.ofChange Rows.fnExactIsValidEntrySpec) false w args) (Rows.fnExactIsValidEntrySpec.post enc Tryd.prog Tryd.f8 false true false false) := by
  refine Go.Proofs.YtcckamdpncbkoabDoor.Crd.wrap_and_shaped (C := Tryd.checked) (X := fun w _ => laidMetH Tryd.prog Rows.fnExactIsValidEntryRow.laid w) (fun _ _ _ hh h => h.of_heap hh) own started (by kernel_rfl) Tryd.func8
    (ChangeSpec.witness_shaped (enc := enc) (C := Tryd.checked) (os := os) (X := fun w _ => laidMetH Tryd.prog Rows.fnExactIsValidEntryRow.laid w) false (World.laidAll Tryd.prog os Rows.fnExactIsValidEntryRow.laid) #[.agg #[.string ByteArray.empty, .int .i64 0, .slice none 0 0, .slice none 0 0, .string ByteArray.empty, .string ByteArray.empty, .string ByteArray.empty, .int .i64 0, .int .i64 0, .int .i64 0, .bool false, .int .i64 0, .string ByteArray.empty, .string ByteArray.empty]] 8 (World.laidAll_os _ _ _) (World.shaped_of_ZipB (by kernel_rfl) (by kernel_rfl)) (by kernel_rfl) (by kernel_rfl) (by kernel_rfl)
      (by rw [MakeChecks.laidMetH_plain _ _ _ (by kernel_rfl)]; exact laidMet_laidAll _ (by kernel_rfl) (by kernel_rfl))) ?_
  intro W base args ds gs before hval0 hW hcnd hsz0 hL hsh
  have hP : laidMet Tryd.prog [("unicode/utf8.acceptRanges", Rows.laid_unicode_utf8_acceptRanges), ("unicode/utf8.first", Rows.laid_unicode_utf8_first)] W := by have h := hL; rw [MakeChecks.laidMetH_plain _ _ _ (by kernel_rfl)] at h; exact h
  have hG : Go.Proofs.YtcckamdpncbkoabDoor.Gl.GL false false false W := ⟨Go.Proofs.cell_of_shapedOpen_int (P := Tryd.prog) (g := 0) (t := 3) (zero := #[.int .i64 0]) hsh (of_decide_eq_true (by kernel_rfl)) (by kernel_rfl) rfl (by kernel_rfl) (by kernel_rfl) Tryd.underlying3⟩
  have hval : ∀ (j : Nat) t v, Tryd.f8.params[j]? = some t → args[j]? = some v → Value.okWide Tryd.prog W .any base t v := hval0
  have hW' := hW
  obtain ⟨p, q, hA0, hV, rfl, hfz, hnd⟩ := hW
  have hA : DataW.TrodAll enc Tryd.prog W 0 (fun _ => true) true Tryd.f8.params.toList args.toList ds p := hA0
  rw [Tryd.params8] at hA hval
  obtain ⟨v0, vs0, d0, ds0, p0, q0, hargs, rfl, rfl, h0, r0⟩ := trodAll_cons hA
  obtain ⟨rfl, rfl, rfl⟩ := trodAll_nil r0
  obtain rfl : args = #[v0] := by cases args; simp_all
  obtain ⟨rfl, rfl⟩ := trodVars_none hV
  have t0 := h0
  have lt0 : ∀ x ∈ p0, x.block < W.heap.size := by obtain ⟨m, hm⟩ := t0; exact DataW.trod_lt m _ _ _ hm
  obtain ⟨cs0, rfl, hz0⟩ := okWide_struct Tryd.underlying60 (hval 0 60 v0 rfl rfl)
  obtain ⟨fu0, hf0⟩ := h0
  obtain ⟨y0, K0, o0⟩ := of_T60 hf0
  obtain ⟨cs0⟩ := cs0
  obtain ⟨A0_2, c0_2, A0_3, c0_3, e0, l0_2, g0_2, l0_3, g0_3⟩ := k60_open K0
  obtain rfl : cs0 = [.string y0.f0, .int .i64 y0.f1, .slice A0_2 y0.f2.length c0_2, .slice A0_3 y0.f3.length c0_3, .string y0.f4, .string y0.f5, .string y0.f6, .int .i64 y0.f7.f0, .int .i64 y0.f7.f1, .int .i64 y0.f7.f2, .bool y0.f7.f3, .int .i64 y0.f8, .string y0.f9, .string y0.f10] := e0
  clear hA0 hval0 hsz0
  refine (laws_FnExactIsValidEntry.wlk Pure.FnExactIsValidEntry y0.f0 y0.f1 A0_2 c0_2 y0.f2 A0_3 c0_3 y0.f3 y0.f4 y0.f5 y0.f6 y0.f7.f0 y0.f7.f1 y0.f7.f2 y0.f7.f3 y0.f8 y0.f9 y0.f10 W g0_2 l0_2 g0_3 l0_3 hG o0.1 o0.2.1 o0.2.2.1 o0.2.2.2.1 o0.2.2.2.2.1 o0.2.2.2.2.2.1 o0.2.2.2.2.2.2.1 o0.2.2.2.2.2.2.2.1.1 o0.2.2.2.2.2.2.2.1.2.1 o0.2.2.2.2.2.2.2.1.2.2.1 o0.2.2.2.2.2.2.2.2.1 o0.2.2.2.2.2.2.2.2.2.1 o0.2.2.2.2.2.2.2.2.2.2).mono fun e W' ⟨he, bel⟩ => ?_
  subst he
  exact ⟨_, rfl, _, _, _, [], _, [], hW', trodAll_mk1 (shut_bool Tryd.underlying4 _), (trodAll_cons_mk (Below.trod laidOut (by kernel_rfl) (of_decide_eq_true (by kernel_rfl)) t0 bel lt0) trodAll_mk0), rfl, bel.frame _, fun h => by cases h⟩
end Go.Proofs.YtcckamdpncbkoabDoor.fnExactIsValidEntry
