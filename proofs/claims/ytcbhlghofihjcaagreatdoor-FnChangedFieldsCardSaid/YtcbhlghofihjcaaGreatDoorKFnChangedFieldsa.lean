/- Of the law FnChangedFields: the walk under the row's condition, the row, or its card; no condition. -/
import Derived.Test.YtcbhlghofihjcaaGreatDoorTie
import Derived.Test.YtcbhlghofihjcaaGreatDoorCards
import Derived.Test.YtcbhlghofihjcaaGreatDoorKFnChangedFields2
import Derived.Test.YtcbhlghofihjcaaGreatDoorKFnChangedFields8
import Derived.WalkKit
import Derived.ProofKit
import Derived.OpenShut
import Derived.ShutString
import Derived.ChangeOld
import Derived.Below
import Derived.SizedLaws
import Derived.Lib.SmallJoins
import Derived.Lay
import Derived.LaidMore
import Derived.Stop.Joined
import Derived.Stop.LaidErr
import Derived.SevenTiedAt
import Derived.OpenVars
import Derived.ChangeVars
namespace Go.Proofs.YtcbhlghofihjcaaGreatDoor.fnChangedFields
open Go.ChangeShapes Go.WideShapes Go.ChangeAt Go.RowKit Go.Joins
open Go.ChangeMaps (open_string shut_string)
open Go.Proofs.YtcbhlghofihjcaaGreatDoor.G Go.Proofs.YtcbhlghofihjcaaGreatDoor.Opn
set_option linter.unusedVariables false
set_option linter.unusedSimpArgs false
theorem own:ownKnob Tryz.prog.godebug=none:=by kernel_rfl
theorem laidOut:laidOutB Tryz.prog=true:=by kernel_rfl
set_option maxRecDepth 100000 in
theorem lifted (os:Os) (started:os.Started) (H:Type) (enc:TypeId × Value→H) :
    ReturnsInHanded {} Tryz.checked os 3 .any (fun w args=>(Rows.fnChangedFieldsSpec.pre enc Tryz.prog Tryz.f3 Rows.fnChangedFieldsRow.domain false w args∧laidMetH Tryz.prog Rows.fnChangedFieldsRow.laid w)∧sizedMet enc Tryz.prog Tryz.f3 (OpenSpec.ofChange Rows.fnChangedFieldsSpec) false w args) (Rows.fnChangedFieldsSpec.post enc Tryz.prog Tryz.f3 false true false false):=by
  refine Go.Proofs.YtcbhlghofihjcaaGreatDoor.Crd.wrap_and_shaped (C:=Tryz.checked) (X:=fun w _=>laidMetH Tryz.prog Rows.fnChangedFieldsRow.laid w) (fun _ _ _ hh h=>h.of_heap hh) own started (by kernel_rfl) Tryz.func3
    (ChangeSpec.witness_shaped (enc:=enc) (C:=Tryz.checked) (os:=os) (X:=fun w _=>laidMetH Tryz.prog Rows.fnChangedFieldsRow.laid w) false (World.laidAll Tryz.prog os Rows.fnChangedFieldsRow.laid) #[.slice none 0 0] 8 (World.laidAll_os _ _ _) (World.shaped_of_ZipB (by kernel_rfl) (by kernel_rfl)) (by kernel_rfl) (by kernel_rfl) (by kernel_rfl)
      (by rw [MakeChecks.laidMetH_plain _ _ _ (by kernel_rfl)];exact laidMet_laidAll _ (by kernel_rfl) (by kernel_rfl))) ?_
  intro W base args ds gs before hval0 hW hcnd hsz0 hL hsh
  have hP:laidMet Tryz.prog [("math/bits.deBruijn32tab",Rows.laid_math_bits_deBruijn32tab),("math/bits.deBruijn64tab",Rows.laid_math_bits_deBruijn64tab),("internal/strconv.uint64pow10",Rows.laid_internal_strconv_uint64pow10),("unicode/utf8.acceptRanges",Rows.laid_unicode_utf8_acceptRanges),("loop.example/g00896/impl.fieldWords",Rows.laid_loop_example_g00896_impl_fieldWords),("unicode/utf8.first",Rows.laid_unicode_utf8_first)] W:=by have h:=hL;rw [MakeChecks.laidMetH_plain _ _ _ (by kernel_rfl)] at h;exact h
  have hG:Go.Proofs.YtcbhlghofihjcaaGreatDoor.Gl.GL true false true W:=⟨Go.Proofs.cell_of_shapedOpen_int (P:=Tryz.prog) (g:=4) (t:=3) (zero:=#[.int .i64 0]) hsh (of_decide_eq_true (by kernel_rfl)) (by kernel_rfl) rfl (by kernel_rfl) (by kernel_rfl) Tryz.underlying3,(fun _=>Lib.tabIs_of_head (g:=1) (t:=120) (by kernel_rfl) (by kernel_rfl) Tryz.underlying120 Tryz.underlying37 (by kernel_rfl) (by kernel_rfl) (show laidMet Tryz.prog (("internal/strconv.uint64pow10",Lib.tabData .u64 Lib.pow10Tab) :: [("unicode/utf8.acceptRanges",Rows.laid_unicode_utf8_acceptRanges),("loop.example/g00896/impl.fieldWords",Rows.laid_loop_example_g00896_impl_fieldWords),("unicode/utf8.first",Rows.laid_unicode_utf8_first)]) W from (laidMet.tail (laidMet.tail hP)))),(fun _ i s hi=>Go.Proofs.YtcbhlghofihjcaaGreatDoor.LTab.text_of_head (g:=0) (t:=61) (by kernel_rfl) (by kernel_rfl) Tryz.underlying61 Tryz.underlying9 (by kernel_rfl) (by kernel_rfl) (show laidMet Tryz.prog (("loop.example/g00896/impl.fieldWords",Go.Proofs.YtcbhlghofihjcaaGreatDoor.LTab.textData Go.Proofs.YtcbhlghofihjcaaGreatDoor.Gl.fieldsL) :: [("unicode/utf8.first",Rows.laid_unicode_utf8_first)]) W from (laidMet.tail (laidMet.tail (laidMet.tail (laidMet.tail hP))))) i s hi)⟩
  have hval:∀ (j:Nat) t v,Tryz.f3.params[j]?=some t→args[j]?=some v→Value.okWide Tryz.prog W .any base t v:=hval0
  have hW':=hW
  obtain ⟨p,q,hA0,hV,rfl,hfz,hnd⟩:=hW
  have hA:DataW.TrodAll enc Tryz.prog W 0 (fun _=>true) true Tryz.f3.params.toList args.toList ds p:=hA0
  rw [Tryz.params3] at hA hval
  obtain ⟨v0,vs0,d0,ds0,p0,q0,hargs,rfl,rfl,h0,r0⟩:=trodAll_cons hA
  obtain ⟨rfl,rfl,rfl⟩:=trodAll_nil r0
  obtain rfl:args=#[v0]:=by cases args;simp_all
  obtain ⟨gv_,rfl⟩:∃ gv,gs=[gv]:=by obtain ⟨_,_,_,_,d,_,e,_⟩:=trodVars_one hV;exact ⟨d,e⟩
  have t0:=h0
  have lt0:∀ x∈p0,x.block<W.heap.size:=by obtain ⟨m,hm⟩:=t0;exact DataW.trod_lt m _ _ _ hm
  obtain ⟨B0,len0,cap0,rfl⟩:=okWide_slice Tryz.underlying22 (hval 0 22 v0 rfl rfl)
  obtain ⟨fu0,hf0⟩:=h0
  obtain ⟨y0,⟨A0,c0,e0,l0,g0⟩,o0⟩:=of_slice (ok:=okInt .u8) Tryz.underlying22 cells5 (fun _ _ _ h_=>of_int Tryz.underlying5 h_) hf0
  simp only [Value.cells,List.cons.injEq,and_true,Value.slice.injEq] at e0
  obtain ⟨rfl,rfl,rfl⟩:=e0
  clear hA0 hval0 hsz0
  refine (laws_FnChangedFields.wlk Pure.FnChangedFields _ _ y0 W g0 l0 hG o0).mono fun e W' ⟨he,bel⟩=>?_
  subst he
  exact ⟨_,rfl,_,_,_,[],_,q,hW',trodAll_mk1 (shut_bool Tryz.underlying4 _),(trodAll_cons_mk (Below.trod laidOut (by kernel_rfl) (of_decide_eq_true (by kernel_rfl)) t0 bel lt0) trodAll_mk0),(Below.trodVars laidOut bel (by kernel_rfl) hV),bel.frame _,fun h=>by cases h⟩
end Go.Proofs.YtcbhlghofihjcaaGreatDoor.fnChangedFields
