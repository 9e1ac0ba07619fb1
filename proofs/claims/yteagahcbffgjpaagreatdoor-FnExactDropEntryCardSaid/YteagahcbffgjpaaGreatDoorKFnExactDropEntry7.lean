/- Texts of this session for the law FnExactDropEntry, put together by a program (merge.py): each ends with its namespace; conditions stand with each theorem. -/
import Derived.Test.YteagahcbffgjpaaGreatDoorKFnExactDropEntry2
import Derived.Test.YteagahcbffgjpaaGreatDoorKFnExactDropEntry3
import Derived.Test.YteagahcbffgjpaaGreatDoorKFnExactDropEntry6
import Derived.Test.YteagahcbffgjpaaGreatDoorKFnExactDropEntry4
import Derived.Test.YteagahcbffgjpaaGreatDoorKFnExactDropEntry5
import Derived.Test.YteagahcbffgjpaaGreatDoorKFnExactDropEntry1
import Derived.Deep.Slices
import Derived.Lib.SplitLaws
import Derived.Lib.IndexBytes
import Derived.Lib.IndexLaws
namespace Go.Proofs.YteagahcbffgjpaaGreatDoor.G
open Go.RowKit Go.Proofs.YteagahcbffgjpaaGreatDoorW.PrintWords Go.Proofs.YteagahcbffgjpaaGreatDoorW.PrintLast Go.Proofs.YteagahcbffgjpaaGreatDoorW.PrintMore
open Go.Proofs.YteagahcbffgjpaaGreatDoor.Gl Go.Proofs.YteagahcbffgjpaaGreatDoor.Ext
attribute [local go_sem] max2_int min2_int max_two min_two max_three min_three max_four min_four   -- for this text's walks alone
set_option linter.unusedVariables false
set_option linter.unusedSimpArgs false
attribute [local go_sem high] gtr_s geq_s leq_s
def spec_l4Good.l0:Nat→Int→List (S42)→Option (Bool)
 | 0,_,_=>none
 | k+1,x3,eB=>if x3<(eB.length:Int) then (if 0≤x3 then ((spec_l4Entry.f k ((rd_T42 eB x3).f0) ((rd_T42 eB x3).f1) ((rd_T42 eB x3).f2) ((rd_T42 eB x3).f3) ((rd_T42 eB x3).f4) ((rd_T42 eB x3).f5) ((rd_T42 eB x3).f6) ((rd_T42 eB x3).f7.f0) ((rd_T42 eB x3).f7.f1) ((rd_T42 eB x3).f7.f2) ((rd_T42 eB x3).f7.f3) ((rd_T42 eB x3).f8) ((rd_T42 eB x3).f9) ((rd_T42 eB x3).f10)).bind fun adN=>(if adN=true then (if x3>0 then (if 0≤(wrap64 (x3-1)) then (if (wrap64 (x3-1))<(eB.length:Int) then (if ((Op.bytesLess (((rd_T42 eB (wrap64 (x3-1))).f0).toList) (((rd_T42 eB x3).f0).toList))=true) then (spec_l4Good.l0 k (wrap64 (x3+1)) eB) else (some false)) else (none)) else (none)) else (spec_l4Good.l0 k (wrap64 (x3+1)) eB)) else (some false))) else (none)) else (some true)
def spec_l4Good.f (k:Nat) (aA:List (S42)):Option (Bool):=if (aA.length:Int)>8 then (some false) else (spec_l4Good.l0 k 0 aA)
theorem spec_l4Good.mono_l:∀ k,(∀ y0 y1,LeO (spec_l4Good.l0 k y0 y1) (spec_l4Good.l0 (k+1) y0 y1))
 | 0=>fun _ _ r h=>by simp [spec_l4Good.l0] at h
 | k+1=>by
  have ih0:=spec_l4Good.mono_l k
  ·
   intro y0 y1;unfold spec_l4Good.l0
   repeat' first
   | (with_reducible exact ih0 _ _)
   | (with_reducible exact spec_l4Entry.mono _ _ _ _ _ _ _ _ _ _ _ _ _ _ _)
   | (with_reducible exact LeO.refl _)
   | (with_reducible exact LeO.none _)
   | (with_reducible refine LeO.ite ?_ ?_)
   | (with_reducible refine LeO.bind ?_ (fun _=>?_))
   | exact ih0 _ _
   | exact spec_l4Entry.mono _ _ _ _ _ _ _ _ _ _ _ _ _ _ _
   | exact LeO.none _
   | refine LeO.ite ?_ ?_
   | refine LeO.bind ?_ (fun _=>?_)
theorem spec_l4Good.mono:∀ a0 k,LeO (spec_l4Good.f k a0) (spec_l4Good.f (k+1) a0):=by
 intro a0 k;have ih0:=spec_l4Good.mono_l k;unfold spec_l4Good.f
 repeat' first
   | (with_reducible exact ih0 _ _)
   | (with_reducible exact spec_l4Entry.mono _ _ _ _ _ _ _ _ _ _ _ _ _ _ _)
   | (with_reducible exact LeO.refl _)
   | (with_reducible exact LeO.none _)
   | (with_reducible refine LeO.ite ?_ ?_)
   | (with_reducible refine LeO.bind ?_ (fun _=>?_))
   | exact ih0 _ _
   | exact spec_l4Entry.mono _ _ _ _ _ _ _ _ _ _ _ _ _ _ _
   | exact LeO.none _
   | refine LeO.ite ?_ ?_
   | refine LeO.bind ?_ (fun _=>?_)
def spec_l4Good.T6:Bool × List (List Nat × List Nat):=(true,[([],[]),([0],[0]),([],[]),([1,2],[1,2]),([3],[3]),([4],[4]),([5],[5]),([6,5],[6]),([7],[7]),([8,7],[7,8]),([9,7,7],[7,9]),([10],[10]),([11,10],[10,11]),([10],[10]),([13,10],[10,13]),([12,14,10],[10,12,14]),([15,10],[10,15]),([16,10],[10,16]),([10],[10]),([18,10],[10,18]),([10],[10]),([19,20,10],[10,19,20]),([21,10],[10,21]),([22,10],[10,22]),([17,23,10],[10,17,23]),([10,24,7],[7,10,24]),([7,25],[7,25])])
def spec_l4Good.B6:List Nat:=[0,1,0,7,15,31,63,127,255,511,1023,2047,4095,2047,10239,32767,65535,131071,2047,264191,2047,1837055,3934207,8128511,16777215,33554431,67108863]
theorem spec_l4Good.tab6:rtab .any (opsOf Tryz.f12 6)=spec_l4Good.T6:=by kernel_rfl
theorem spec_l4Good.bits6:waitsOk spec_l4Good.T6.2 spec_l4Good.B6=true:=by kernel_rfl
set_option maxRecDepth 100000 in
theorem spec_l4Good.L0 {P:Prop} (h:P:=by
  have nU:wr.cell? ⟨oZ,0,none⟩=some (.slice bH aA.length bA):=(blk_cell eF.out 0).trans rfl;have nV:=blk_frozen eF.out 0
  try go_wp2
  replace eF:=am (blk_drew eF.out);replace HB:=am (below_drew1 HB.out);have JQ:0≤(aE:Int):=od au87;have JR:aE<(aA.length:Int):=od au87;obtain ⟨aZ,Eg,Eh,Ei,Ej,adO,mC,mD,mE,mF,mG,mH,mI,mJ,mK,mL,kH,kI,kJ,kK,Al,Am,An,Ao⟩:=at_T42 cM.out aE JQ JR;have vS:=kK;have vT:=kJ;have vU:=kI;have vV:=kH;have Ap:=mL;have Aq:=mK;have Ar:=mJ;have Au:=mI;have Av:=mH;have AA:=mG;have AB:=mF;have AC:=mE;have AD:=mD;have AE:=mC
  cases adO
  replace mC:=bcl HB.out mC;replace mD:=bcl HB.out mD;replace mE:=bcl HB.out mE;replace mF:=bcl HB.out mF;replace mG:=bcl HB.out mG;replace mH:=bcl HB.out mH;replace mI:=bcl HB.out mI;replace mJ:=bcl HB.out mJ;replace mK:=bcl HB.out mK;replace mL:=bcl HB.out mL;replace kH:=bcl HB.out kH;replace kI:=bcl HB.out kI;replace kJ:=bcl HB.out kJ;replace kK:=bcl HB.out kK;have AF:=am Am;have Mh:=am Al;clear Am Al;have AG:=am Ao;have Mi:=am An;clear Ao An;replace JQ:=eq_true JQ;replace JR:=eq_true JR;have adP:0≤((cU):Int):=od au87;have adQ:(cU)<(aA.length:Int):=od au87;obtain ⟨aEF,azX,azY,azZ,aA0,aJi,I1,I2,I3,I4,I5,I6,I7,I8,I9,Ia,D9,Da,Db,Dc,ZU,ZV,ZW,ZX⟩:=at_T42 cM.out (cU) adP adQ;have Sa:=Dc;have Sb:=Db;have Sc:=Da;have Sd:=D9;have ZY:=Ia;have ZZ:=I9;have a0A:=I8;have a0B:=I7;have a0C:=I6;have a0D:=I5;have a0E:=I4;have a0F:=I3;have a0G:=I2;have a0H:=I1
  obtain rfl:aZ=aEF:=(by injection aJi)
  replace I1:=bcl HB.out I1;replace I2:=bcl HB.out I2;replace I3:=bcl HB.out I3;replace I4:=bcl HB.out I4;replace I5:=bcl HB.out I5;replace I6:=bcl HB.out I6;replace I7:=bcl HB.out I7;replace I8:=bcl HB.out I8;replace I9:=bcl HB.out I9;replace Ia:=bcl HB.out Ia;replace D9:=bcl HB.out D9;replace Da:=bcl HB.out Da;replace Db:=bcl HB.out Db;replace Dc:=bcl HB.out Dc;have anR:=am ZV;have aSs:=am ZU;clear ZV ZU;have anS:=am ZX;have aSt:=am ZW;clear ZX ZW;replace adP:=eq_true adP;replace adQ:=eq_true adQ;have adR:0≤(aE:Int):=od au87;have adS:aE<(aA.length:Int):=od au87;obtain ⟨aEG,aA1,aA2,aA3,aA4,aJj,Ib,Ic,Ie,Ig,Ih,Ii,Ij,Ik,Il,Im,Dd,De,Df,Dg,a0I,a0J,a0K,a0L⟩:=at_T42 cM.out aE adR adS;have Se:=Dg;have Sf:=Df;have Sg:=De;have Si:=Dd;have a0M:=Im;have a0N:=Il;have a0O:=Ik;have a0P:=Ij;have a0Q:=Ii;have a0R:=Ih;have a0S:=Ig;have a0T:=Ie;have a0U:=Ic;have a0V:=Ib
  obtain rfl:aZ=aEG:=(by injection aJj)
  replace Ib:=bcl HB.out Ib;replace Ic:=bcl HB.out Ic;replace Ie:=bcl HB.out Ie;replace Ig:=bcl HB.out Ig;replace Ih:=bcl HB.out Ih;replace Ii:=bcl HB.out Ii;replace Ij:=bcl HB.out Ij;replace Ik:=bcl HB.out Ik;replace Il:=bcl HB.out Il;replace Im:=bcl HB.out Im;replace Dd:=bcl HB.out Dd;replace De:=bcl HB.out De;replace Df:=bcl HB.out Df;replace Dg:=bcl HB.out Dg;have anT:=am a0J;have aSu:=am a0I;clear a0J a0I;have anU:=am a0L;have aSv:=am a0K;clear a0L a0K;replace adR:=eq_true adR;replace adS:=eq_true adS;refine start_ (n:=27) (S:=fun w'=>w'.cell? ⟨oZ,0,none⟩=some (.slice (some aZ) aA.length bA)∧w'.cell? (aZ.add ((aE).toNat*14))=some (.string ((rd_T42 aA aE).f0))∧w'.cell? ⟨(aZ.add ((aE).toNat*14)).block,(aZ.add ((aE).toNat*14)).off+1,none⟩=some (.int .i64 ((rd_T42 aA aE).f1))∧w'.cell? ⟨(aZ.add ((aE).toNat*14)).block,(aZ.add ((aE).toNat*14)).off+2,none⟩=some (.slice Eg ((rd_T42 aA aE).f2).length Eh)∧w'.cell? ⟨(aZ.add ((aE).toNat*14)).block,(aZ.add ((aE).toNat*14)).off+3,none⟩=some (.slice Ei ((rd_T42 aA aE).f3).length Ej)∧w'.cell? ⟨(aZ.add ((aE).toNat*14)).block,(aZ.add ((aE).toNat*14)).off+4,none⟩=some (.string ((rd_T42 aA aE).f4))∧w'.cell? ⟨(aZ.add ((aE).toNat*14)).block,(aZ.add ((aE).toNat*14)).off+5,none⟩=some (.string ((rd_T42 aA aE).f5))∧w'.cell? ⟨(aZ.add ((aE).toNat*14)).block,(aZ.add ((aE).toNat*14)).off+6,none⟩=some (.string ((rd_T42 aA aE).f6))∧w'.cell? ⟨(aZ.add ((aE).toNat*14)).block,(aZ.add ((aE).toNat*14)).off+7,none⟩=some (.int .i64 ((rd_T42 aA aE).f7.f0))∧w'.cell? ⟨(aZ.add ((aE).toNat*14)).block,(aZ.add ((aE).toNat*14)).off+8,none⟩=some (.int .i64 ((rd_T42 aA aE).f7.f1))∧w'.cell? ⟨(aZ.add ((aE).toNat*14)).block,(aZ.add ((aE).toNat*14)).off+9,none⟩=some (.int .i64 ((rd_T42 aA aE).f7.f2))∧w'.cell? ⟨(aZ.add ((aE).toNat*14)).block,(aZ.add ((aE).toNat*14)).off+10,none⟩=some (.bool ((rd_T42 aA aE).f7.f3))∧w'.cell? ⟨(aZ.add ((aE).toNat*14)).block,(aZ.add ((aE).toNat*14)).off+11,none⟩=some (.int .i64 ((rd_T42 aA aE).f8))∧w'.cell? ⟨(aZ.add ((aE).toNat*14)).block,(aZ.add ((aE).toNat*14)).off+12,none⟩=some (.string ((rd_T42 aA aE).f9))∧w'.cell? ⟨(aZ.add ((aE).toNat*14)).block,(aZ.add ((aE).toNat*14)).off+13,none⟩=some (.string ((rd_T42 aA aE).f10))∧w'.cell? (aZ.add (((cU)).toNat*14))=some (.string ((rd_T42 aA (cU)).f0))∧w'.cell? ⟨(aZ.add (((cU)).toNat*14)).block,(aZ.add (((cU)).toNat*14)).off+1,none⟩=some (.int .i64 ((rd_T42 aA (cU)).f1))∧w'.cell? ⟨(aZ.add (((cU)).toNat*14)).block,(aZ.add (((cU)).toNat*14)).off+2,none⟩=some (.slice azX ((rd_T42 aA (cU)).f2).length azY)∧w'.cell? ⟨(aZ.add (((cU)).toNat*14)).block,(aZ.add (((cU)).toNat*14)).off+3,none⟩=some (.slice azZ ((rd_T42 aA (cU)).f3).length aA0)∧w'.cell? ⟨(aZ.add (((cU)).toNat*14)).block,(aZ.add (((cU)).toNat*14)).off+4,none⟩=some (.string ((rd_T42 aA (cU)).f4))∧w'.cell? ⟨(aZ.add (((cU)).toNat*14)).block,(aZ.add (((cU)).toNat*14)).off+5,none⟩=some (.string ((rd_T42 aA (cU)).f5))∧w'.cell? ⟨(aZ.add (((cU)).toNat*14)).block,(aZ.add (((cU)).toNat*14)).off+6,none⟩=some (.string ((rd_T42 aA (cU)).f6))∧w'.cell? ⟨(aZ.add (((cU)).toNat*14)).block,(aZ.add (((cU)).toNat*14)).off+7,none⟩=some (.int .i64 ((rd_T42 aA (cU)).f7.f0))∧w'.cell? ⟨(aZ.add (((cU)).toNat*14)).block,(aZ.add (((cU)).toNat*14)).off+8,none⟩=some (.int .i64 ((rd_T42 aA (cU)).f7.f1))∧w'.cell? ⟨(aZ.add (((cU)).toNat*14)).block,(aZ.add (((cU)).toNat*14)).off+9,none⟩=some (.int .i64 ((rd_T42 aA (cU)).f7.f2))∧w'.cell? ⟨(aZ.add (((cU)).toNat*14)).block,(aZ.add (((cU)).toNat*14)).off+10,none⟩=some (.bool ((rd_T42 aA (cU)).f7.f3))∧w'.cell? ⟨(aZ.add (((cU)).toNat*14)).block,(aZ.add (((cU)).toNat*14)).off+11,none⟩=some (.int .i64 ((rd_T42 aA (cU)).f8))∧w'.cell? ⟨(aZ.add (((cU)).toNat*14)).block,(aZ.add (((cU)).toNat*14)).off+12,none⟩=some (.string ((rd_T42 aA (cU)).f9))∧w'.cell? ⟨(aZ.add (((cU)).toNat*14)).block,(aZ.add (((cU)).toNat*14)).off+13,none⟩=some (.string ((rd_T42 aA (cU)).f10))∧w'.cell? (aZ.add ((aE).toNat*14))=some (.string ((rd_T42 aA aE).f0))∧w'.cell? ⟨(aZ.add ((aE).toNat*14)).block,(aZ.add ((aE).toNat*14)).off+1,none⟩=some (.int .i64 ((rd_T42 aA aE).f1))∧w'.cell? ⟨(aZ.add ((aE).toNat*14)).block,(aZ.add ((aE).toNat*14)).off+2,none⟩=some (.slice aA1 ((rd_T42 aA aE).f2).length aA2)∧w'.cell? ⟨(aZ.add ((aE).toNat*14)).block,(aZ.add ((aE).toNat*14)).off+3,none⟩=some (.slice aA3 ((rd_T42 aA aE).f3).length aA4)∧w'.cell? ⟨(aZ.add ((aE).toNat*14)).block,(aZ.add ((aE).toNat*14)).off+4,none⟩=some (.string ((rd_T42 aA aE).f4))∧w'.cell? ⟨(aZ.add ((aE).toNat*14)).block,(aZ.add ((aE).toNat*14)).off+5,none⟩=some (.string ((rd_T42 aA aE).f5))∧w'.cell? ⟨(aZ.add ((aE).toNat*14)).block,(aZ.add ((aE).toNat*14)).off+6,none⟩=some (.string ((rd_T42 aA aE).f6))∧w'.cell? ⟨(aZ.add ((aE).toNat*14)).block,(aZ.add ((aE).toNat*14)).off+7,none⟩=some (.int .i64 ((rd_T42 aA aE).f7.f0))∧w'.cell? ⟨(aZ.add ((aE).toNat*14)).block,(aZ.add ((aE).toNat*14)).off+8,none⟩=some (.int .i64 ((rd_T42 aA aE).f7.f1))∧w'.cell? ⟨(aZ.add ((aE).toNat*14)).block,(aZ.add ((aE).toNat*14)).off+9,none⟩=some (.int .i64 ((rd_T42 aA aE).f7.f2))∧w'.cell? ⟨(aZ.add ((aE).toNat*14)).block,(aZ.add ((aE).toNat*14)).off+10,none⟩=some (.bool ((rd_T42 aA aE).f7.f3))∧w'.cell? ⟨(aZ.add ((aE).toNat*14)).block,(aZ.add ((aE).toNat*14)).off+11,none⟩=some (.int .i64 ((rd_T42 aA aE).f8))∧w'.cell? ⟨(aZ.add ((aE).toNat*14)).block,(aZ.add ((aE).toNat*14)).off+12,none⟩=some (.string ((rd_T42 aA aE).f9))∧w'.cell? ⟨(aZ.add ((aE).toNat*14)).block,(aZ.add ((aE).toNat*14)).off+13,none⟩=some (.string ((rd_T42 aA aE).f10))) (ds:=[]) #[false,false,false,false,false,false,false,false,false,false,false,false,false,false,false,false,false,false,false,false,false,false,false,false,false,false,false] (by kernel_rfl) rfl rfl ⟨(blk_cell eF.out 0).trans rfl,(bcl HB.out AE),(bcl HB.out AD),(bcl HB.out AC),(bcl HB.out AB),(bcl HB.out AA),(bcl HB.out Av),(bcl HB.out Au),(bcl HB.out Ar),(bcl HB.out Aq),(bcl HB.out Ap),(bcl HB.out vV),(bcl HB.out vU),(bcl HB.out vT),(bcl HB.out vS),(bcl HB.out a0H),(bcl HB.out a0G),(bcl HB.out a0F),(bcl HB.out a0E),(bcl HB.out a0D),(bcl HB.out a0C),(bcl HB.out a0B),(bcl HB.out a0A),(bcl HB.out ZZ),(bcl HB.out ZY),(bcl HB.out Sd),(bcl HB.out Sc),(bcl HB.out Sb),(bcl HB.out Sa),(bcl HB.out a0V),(bcl HB.out a0U),(bcl HB.out a0T),(bcl HB.out a0S),(bcl HB.out a0R),(bcl HB.out a0Q),(bcl HB.out a0P),(bcl HB.out a0O),(bcl HB.out a0N),(bcl HB.out a0M),(bcl HB.out Si),(bcl HB.out Sg),(bcl HB.out Sf),(bcl HB.out Se)⟩ (fun hHeld=>?_);refine with_tabW spec_l4Good.tab6 spec_l4Good.bits6 (fun HT_ HW_=>?_);generalize wr.drew=oP at eF HB AF AG anR anS anT anU mC mD kH kI kJ kK mE mF mG mH mI mJ mK mL I1 I2 D9 Da Db Dc I3 I4 I5 I6 I7 I8 I9 Ia Ib Ic Dd De Df Dg Ie Ig Ih Ii Ij Ik Il Im hHeld ⊢;refine pu_ 0 (some 15) #[true,false,false,false,false,false,false,false,false,false,false,false,false,false,false,false,false,false,false,false,false,false,false,false,false,false,false] HT_.out ?_;refine pu_ 2 (some 17) #[true,false,true,false,false,false,false,false,false,false,false,false,false,false,false,false,false,false,false,false,false,false,false,false,false,false,false] HT_.out ?_;refine ta6_ 1 (some 16) #[true,true,true,false,false,false,false,false,false,false,false,false,false,false,false,false,false,false,false,false,false,false,false,false,false,false,false] HT_.out HW_.out hHeld ?_;refine pu_ 3 (some 18) #[true,true,true,true,false,false,false,false,false,false,false,false,false,false,false,false,false,false,false,false,false,false,false,false,false,false,false] HT_.out ?_;refine ta6_ 4 (some 19) #[true,true,true,true,true,false,false,false,false,false,false,false,false,false,false,false,false,false,false,false,false,false,false,false,false,false,false] HT_.out HW_.out hHeld ?_;refine on_ 5 (some 20) #[true,true,true,true,true,true,false,false,false,false,false,false,false,false,false,false,false,false,false,false,false,false,false,false,false,false,false] HT_.out (fun K hK=>?_);refine gs_ Tryz.func23 #[.agg #[.string ((rd_T42 aA aE).f0),.int .i64 ((rd_T42 aA aE).f1),.slice Eg ((rd_T42 aA aE).f2).length Eh,.slice Ei ((rd_T42 aA aE).f3).length Ej,.string ((rd_T42 aA aE).f4),.string ((rd_T42 aA aE).f5),.string ((rd_T42 aA aE).f6),.int .i64 ((rd_T42 aA aE).f7.f0),.int .i64 ((rd_T42 aA aE).f7.f1),.int .i64 ((rd_T42 aA aE).f7.f2),.bool ((rd_T42 aA aE).f7.f3),.int .i64 ((rd_T42 aA aE).f8),.string ((rd_T42 aA aE).f9),.string ((rd_T42 aA aE).f10)]] ?_
  with_reducible refine (spec_l4Entry.calls k1 ((rd_T42 aA aE).f0) ((rd_T42 aA aE).f1) _ _ ((rd_T42 aA aE).f2) _ _ ((rd_T42 aA aE).f3) ((rd_T42 aA aE).f4) ((rd_T42 aA aE).f5) ((rd_T42 aA aE).f6) ((rd_T42 aA aE).f7.f0) ((rd_T42 aA aE).f7.f1) ((rd_T42 aA aE).f7.f2) ((rd_T42 aA aE).f7.f3) ((rd_T42 aA aE).f8) ((rd_T42 aA aE).f9) ((rd_T42 aA aE).f10) _ _ ?aU ?aV ?dY ?dZ A9.out).mono ?_
  (case aU=>repeat (first|exact (Kd.C_below AF.out HB.out)|(with_reducible refine Kd.C_alloc ?_ _)|(with_reducible refine Kd.C_drewN ?_ _)|(with_reducible refine Kd.C_drew ?_)))
  (case aV=>exact Mh.out)
  (case dY=>repeat (first|exact (Kd.C_below AG.out HB.out)|(with_reducible refine Kd.C_alloc ?_ _)|(with_reducible refine Kd.C_drewN ?_ _)|(with_reducible refine Kd.C_drew ?_)))
  (case dZ=>exact Mi.out)
  rintro e nW ⟨rfl,hb⟩;refine ⟨_,rfl,?_⟩;replace eF:=am (blk_below (g:=oZ) au76 hb);replace HB:=am (below_step au39 hb)
  (try clear hb)
  refine hK.out _ _ ⟨(blk_cell eF.out 0).trans rfl,(bcl HB.out AE),(bcl HB.out AD),(bcl HB.out AC),(bcl HB.out AB),(bcl HB.out AA),(bcl HB.out Av),(bcl HB.out Au),(bcl HB.out Ar),(bcl HB.out Aq),(bcl HB.out Ap),(bcl HB.out vV),(bcl HB.out vU),(bcl HB.out vT),(bcl HB.out vS),(bcl HB.out a0H),(bcl HB.out a0G),(bcl HB.out a0F),(bcl HB.out a0E),(bcl HB.out a0D),(bcl HB.out a0C),(bcl HB.out a0B),(bcl HB.out a0A),(bcl HB.out ZZ),(bcl HB.out ZY),(bcl HB.out Sd),(bcl HB.out Sc),(bcl HB.out Sb),(bcl HB.out Sa),(bcl HB.out a0V),(bcl HB.out a0U),(bcl HB.out a0T),(bcl HB.out a0S),(bcl HB.out a0R),(bcl HB.out a0Q),(bcl HB.out a0P),(bcl HB.out a0O),(bcl HB.out a0N),(bcl HB.out a0M),(bcl HB.out Si),(bcl HB.out Sg),(bcl HB.out Sf),(bcl HB.out Se)⟩ (fun hHeld=>?_);clear hK K;refine no_ (some 20) ?_;refine pu_ 6 (some 21) #[true,true,true,true,true,true,true,false,false,false,false,false,false,false,false,false,false,false,false,false,false,false,false,false,false,false,false] HT_.out ?_;refine pu_ 7 (some 22) #[true,true,true,true,true,true,true,true,false,false,false,false,false,false,false,false,false,false,false,false,false,false,false,false,false,false,false] HT_.out ?_;refine pu_ 8 (some 23) #[true,true,true,true,true,true,true,true,true,false,false,false,false,false,false,false,false,false,false,false,false,false,false,false,false,false,false] HT_.out ?_;refine pu_ 9 (some 24) #[true,true,true,true,true,true,true,true,true,true,false,false,false,false,false,false,false,false,false,false,false,false,false,false,false,false,false] HT_.out ?_;refine pu_ 10 (some 25) #[true,true,true,true,true,true,true,true,true,true,true,false,false,false,false,false,false,false,false,false,false,false,false,false,false,false,false] HT_.out ?_;refine pu_ 11 (some 26) #[true,true,true,true,true,true,true,true,true,true,true,true,false,false,false,false,false,false,false,false,false,false,false,false,false,false,false] HT_.out ?_;refine pu_ 13 (some 28) #[true,true,true,true,true,true,true,true,true,true,true,true,false,true,false,false,false,false,false,false,false,false,false,false,false,false,false] HT_.out ?_;refine pu_ 14 (some 29) #[true,true,true,true,true,true,true,true,true,true,true,true,false,true,true,false,false,false,false,false,false,false,false,false,false,false,false] HT_.out ?_;refine pu_ 18 (some 33) #[true,true,true,true,true,true,true,true,true,true,true,true,false,true,true,false,false,false,true,false,false,false,false,false,false,false,false] HT_.out ?_;refine pu_ 20 (some 35) #[true,true,true,true,true,true,true,true,true,true,true,true,false,true,true,false,false,false,true,false,true,false,false,false,false,false,false] HT_.out ?_;refine ta6_ 12 (some 27) #[true,true,true,true,true,true,true,true,true,true,true,true,true,true,true,false,false,false,true,false,true,false,false,false,false,false,false] HT_.out HW_.out hHeld ?_;refine pu_ 15 (some 30) #[true,true,true,true,true,true,true,true,true,true,true,true,true,true,true,true,false,false,true,false,true,false,false,false,false,false,false] HT_.out ?_;refine pu_ 16 (some 31) #[true,true,true,true,true,true,true,true,true,true,true,true,true,true,true,true,true,false,true,false,true,false,false,false,false,false,false] HT_.out ?_;refine ta6_ 17 (some 32) #[true,true,true,true,true,true,true,true,true,true,true,true,true,true,true,true,true,true,true,false,true,false,false,false,false,false,false] HT_.out HW_.out hHeld ?_;refine ta6_ 19 (some 34) #[true,true,true,true,true,true,true,true,true,true,true,true,true,true,true,true,true,true,true,true,true,false,false,false,false,false,false] HT_.out HW_.out hHeld ?_;refine pu_ 21 (some 36) #[true,true,true,true,true,true,true,true,true,true,true,true,true,true,true,true,true,true,true,true,true,true,false,false,false,false,false] HT_.out ?_;refine pu_ 22 (some 37) #[true,true,true,true,true,true,true,true,true,true,true,true,true,true,true,true,true,true,true,true,true,true,true,false,false,false,false] HT_.out ?_;refine ta6_ 23 (some 38) #[true,true,true,true,true,true,true,true,true,true,true,true,true,true,true,true,true,true,true,true,true,true,true,true,false,false,false] HT_.out HW_.out hHeld ?_;refine pu_ 24 (some 39) #[true,true,true,true,true,true,true,true,true,true,true,true,true,true,true,true,true,true,true,true,true,true,true,true,true,false,false] HT_.out ?_;refine pu_ 25 (some 40) #[true,true,true,true,true,true,true,true,true,true,true,true,true,true,true,true,true,true,true,true,true,true,true,true,true,true,false] HT_.out ?_;refine pu_ 26 (some 41) #[true,true,true,true,true,true,true,true,true,true,true,true,true,true,true,true,true,true,true,true,true,true,true,true,true,true,true] HT_.out ?_;refine done_ (done_of HT_.out (by kernel_rfl)) ?_
  try go_wp2
  first
  |
   have g_:(Op.bytesLess (((rd_T42 aA (cU)).f0).toList) (((rd_T42 aA aE).f0).toList))=true:=c15b0;clear g_
   go_roundg k1
   case measure=>have:=HK1.out;omega
   case rel=>exact ⟨(wrap64 (aE+1)),au88,H',⟨by have:=HK1.out;omega⟩,⟨by (with_reducible repeat (first|refine blk_drewN ?_ _|refine blk_drew ?_|refine blk_alloc ?_ _));exact eF.out⟩,⟨by repeat (first|(with_reducible first|exact HB.out|apply below_alloc|apply pw_below_drewN|apply below_drew1|refine below_set ?_ Bu.out)|exact HB.out)⟩⟩
  |
   have g_:(Op.bytesLess (((rd_T42 aA (cU)).f0).toList) (((rd_T42 aA aE).f0).toList))=false:=c15b0;clear g_;go_ret
   exact ⟨by first|rfl|(simp [errW_none,errW_some] <;> rfl)|(simp only [← KF];first|rfl|(simp [errW_none,errW_some] <;> rfl))|(simp [*,errW_none,errW_some] <;> rfl),by repeat (first|(with_reducible first|exact HB.out|apply below_alloc|apply pw_below_drewN|apply below_drew1|refine below_set ?_ Bu.out)|exact HB.out)⟩):P:=h
set_option maxRecDepth 100000 in
theorem spec_l4Good.L1 {P:Prop} (h:P:=by
  have aSw:wr.cell? ⟨oZ,0,none⟩=some (.slice bH aA.length bA):=(blk_cell eF.out 0).trans rfl;have aSx:=blk_frozen eF.out 0
  try go_wp2
  replace eF:=am (blk_drew eF.out);replace HB:=am (below_drew1 HB.out);have JQ:0≤(aE:Int):=od au87;have JR:aE<(aA.length:Int):=od au87;obtain ⟨aZ,Eg,Eh,Ei,Ej,adO,mC,mD,mE,mF,mG,mH,mI,mJ,mK,mL,kH,kI,kJ,kK,Al,Am,An,Ao⟩:=at_T42 cM.out aE JQ JR;have vS:=kK;have vT:=kJ;have vU:=kI;have vV:=kH;have Ap:=mL;have Aq:=mK;have Ar:=mJ;have Au:=mI;have Av:=mH;have AA:=mG;have AB:=mF;have AC:=mE;have AD:=mD;have AE:=mC
  cases adO
  replace mC:=bcl HB.out mC;replace mD:=bcl HB.out mD;replace mE:=bcl HB.out mE;replace mF:=bcl HB.out mF;replace mG:=bcl HB.out mG;replace mH:=bcl HB.out mH;replace mI:=bcl HB.out mI;replace mJ:=bcl HB.out mJ;replace mK:=bcl HB.out mK;replace mL:=bcl HB.out mL;replace kH:=bcl HB.out kH;replace kI:=bcl HB.out kI;replace kJ:=bcl HB.out kJ;replace kK:=bcl HB.out kK;have AF:=am Am;have Mh:=am Al;clear Am Al;have AG:=am Ao;have Mi:=am An;clear Ao An;replace JQ:=eq_true JQ;replace JR:=eq_true JR;refine start_ (n:=27) (S:=fun w'=>w'.cell? ⟨oZ,0,none⟩=some (.slice (some aZ) aA.length bA)∧w'.cell? (aZ.add ((aE).toNat*14))=some (.string ((rd_T42 aA aE).f0))∧w'.cell? ⟨(aZ.add ((aE).toNat*14)).block,(aZ.add ((aE).toNat*14)).off+1,none⟩=some (.int .i64 ((rd_T42 aA aE).f1))∧w'.cell? ⟨(aZ.add ((aE).toNat*14)).block,(aZ.add ((aE).toNat*14)).off+2,none⟩=some (.slice Eg ((rd_T42 aA aE).f2).length Eh)∧w'.cell? ⟨(aZ.add ((aE).toNat*14)).block,(aZ.add ((aE).toNat*14)).off+3,none⟩=some (.slice Ei ((rd_T42 aA aE).f3).length Ej)∧w'.cell? ⟨(aZ.add ((aE).toNat*14)).block,(aZ.add ((aE).toNat*14)).off+4,none⟩=some (.string ((rd_T42 aA aE).f4))∧w'.cell? ⟨(aZ.add ((aE).toNat*14)).block,(aZ.add ((aE).toNat*14)).off+5,none⟩=some (.string ((rd_T42 aA aE).f5))∧w'.cell? ⟨(aZ.add ((aE).toNat*14)).block,(aZ.add ((aE).toNat*14)).off+6,none⟩=some (.string ((rd_T42 aA aE).f6))∧w'.cell? ⟨(aZ.add ((aE).toNat*14)).block,(aZ.add ((aE).toNat*14)).off+7,none⟩=some (.int .i64 ((rd_T42 aA aE).f7.f0))∧w'.cell? ⟨(aZ.add ((aE).toNat*14)).block,(aZ.add ((aE).toNat*14)).off+8,none⟩=some (.int .i64 ((rd_T42 aA aE).f7.f1))∧w'.cell? ⟨(aZ.add ((aE).toNat*14)).block,(aZ.add ((aE).toNat*14)).off+9,none⟩=some (.int .i64 ((rd_T42 aA aE).f7.f2))∧w'.cell? ⟨(aZ.add ((aE).toNat*14)).block,(aZ.add ((aE).toNat*14)).off+10,none⟩=some (.bool ((rd_T42 aA aE).f7.f3))∧w'.cell? ⟨(aZ.add ((aE).toNat*14)).block,(aZ.add ((aE).toNat*14)).off+11,none⟩=some (.int .i64 ((rd_T42 aA aE).f8))∧w'.cell? ⟨(aZ.add ((aE).toNat*14)).block,(aZ.add ((aE).toNat*14)).off+12,none⟩=some (.string ((rd_T42 aA aE).f9))∧w'.cell? ⟨(aZ.add ((aE).toNat*14)).block,(aZ.add ((aE).toNat*14)).off+13,none⟩=some (.string ((rd_T42 aA aE).f10))) (ds:=[]) #[false,false,false,false,false,false,false,false,false,false,false,false,false,false,false,false,false,false,false,false,false,false,false,false,false,false,false] (by kernel_rfl) rfl rfl ⟨(blk_cell eF.out 0).trans rfl,(bcl HB.out AE),(bcl HB.out AD),(bcl HB.out AC),(bcl HB.out AB),(bcl HB.out AA),(bcl HB.out Av),(bcl HB.out Au),(bcl HB.out Ar),(bcl HB.out Aq),(bcl HB.out Ap),(bcl HB.out vV),(bcl HB.out vU),(bcl HB.out vT),(bcl HB.out vS)⟩ (fun hHeld=>?_);refine with_tabW spec_l4Good.tab6 spec_l4Good.bits6 (fun HT_ HW_=>?_);generalize wr.drew=w26 at eF HB AF AG mC mD kH kI kJ kK mE mF mG mH mI mJ mK mL hHeld ⊢;refine pu_ 0 (some 15) #[true,false,false,false,false,false,false,false,false,false,false,false,false,false,false,false,false,false,false,false,false,false,false,false,false,false,false] HT_.out ?_;refine pu_ 2 (some 17) #[true,false,true,false,false,false,false,false,false,false,false,false,false,false,false,false,false,false,false,false,false,false,false,false,false,false,false] HT_.out ?_;refine ta1_ 1 (some 16) #[true,true,true,false,false,false,false,false,false,false,false,false,false,false,false,false,false,false,false,false,false,false,false,false,false,false,false] HT_.out HW_.out hHeld ?_;refine pu_ 3 (some 18) #[true,true,true,true,false,false,false,false,false,false,false,false,false,false,false,false,false,false,false,false,false,false,false,false,false,false,false] HT_.out ?_;refine ta1_ 4 (some 19) #[true,true,true,true,true,false,false,false,false,false,false,false,false,false,false,false,false,false,false,false,false,false,false,false,false,false,false] HT_.out HW_.out hHeld ?_;refine on_ 5 (some 20) #[true,true,true,true,true,true,false,false,false,false,false,false,false,false,false,false,false,false,false,false,false,false,false,false,false,false,false] HT_.out (fun K hK=>?_);refine gs_ Tryz.func23 #[.agg #[.string ((rd_T42 aA aE).f0),.int .i64 ((rd_T42 aA aE).f1),.slice Eg ((rd_T42 aA aE).f2).length Eh,.slice Ei ((rd_T42 aA aE).f3).length Ej,.string ((rd_T42 aA aE).f4),.string ((rd_T42 aA aE).f5),.string ((rd_T42 aA aE).f6),.int .i64 ((rd_T42 aA aE).f7.f0),.int .i64 ((rd_T42 aA aE).f7.f1),.int .i64 ((rd_T42 aA aE).f7.f2),.bool ((rd_T42 aA aE).f7.f3),.int .i64 ((rd_T42 aA aE).f8),.string ((rd_T42 aA aE).f9),.string ((rd_T42 aA aE).f10)]] ?_
  with_reducible refine (spec_l4Entry.calls k1 ((rd_T42 aA aE).f0) ((rd_T42 aA aE).f1) _ _ ((rd_T42 aA aE).f2) _ _ ((rd_T42 aA aE).f3) ((rd_T42 aA aE).f4) ((rd_T42 aA aE).f5) ((rd_T42 aA aE).f6) ((rd_T42 aA aE).f7.f0) ((rd_T42 aA aE).f7.f1) ((rd_T42 aA aE).f7.f2) ((rd_T42 aA aE).f7.f3) ((rd_T42 aA aE).f8) ((rd_T42 aA aE).f9) ((rd_T42 aA aE).f10) _ _ ?aU ?aV ?dY ?dZ A9.out).mono ?_
  (case aU=>repeat (first|exact (Kd.C_below AF.out HB.out)|(with_reducible refine Kd.C_alloc ?_ _)|(with_reducible refine Kd.C_drewN ?_ _)|(with_reducible refine Kd.C_drew ?_)))
  (case aV=>exact Mh.out)
  (case dY=>repeat (first|exact (Kd.C_below AG.out HB.out)|(with_reducible refine Kd.C_alloc ?_ _)|(with_reducible refine Kd.C_drewN ?_ _)|(with_reducible refine Kd.C_drew ?_)))
  (case dZ=>exact Mi.out)
  rintro e w27 ⟨rfl,hb⟩;refine ⟨_,rfl,?_⟩;replace eF:=am (blk_below (g:=oZ) au76 hb);replace HB:=am (below_step au39 hb)
  (try clear hb)
  refine hK.out _ _ ⟨(blk_cell eF.out 0).trans rfl,(bcl HB.out AE),(bcl HB.out AD),(bcl HB.out AC),(bcl HB.out AB),(bcl HB.out AA),(bcl HB.out Av),(bcl HB.out Au),(bcl HB.out Ar),(bcl HB.out Aq),(bcl HB.out Ap),(bcl HB.out vV),(bcl HB.out vU),(bcl HB.out vT),(bcl HB.out vS)⟩ (fun hHeld=>?_);clear hK K;refine no_ (some 20) ?_;refine pu_ 6 (some 21) #[true,true,true,true,true,true,true,false,false,false,false,false,false,false,false,false,false,false,false,false,false,false,false,false,false,false,false] HT_.out ?_;refine pu_ 7 (some 22) #[true,true,true,true,true,true,true,true,false,false,false,false,false,false,false,false,false,false,false,false,false,false,false,false,false,false,false] HT_.out ?_
  first
  |
   refine pure_ (i:=8) (N:=some 23) (v:=undef) (a':=?_) #[true,true,true,true,true,true,true,true,true,false,false,false,false,false,false,false,false,false,false,false,false,false,false,false,false,false,false] rfl rfl (any_of HT_.out (by kernel_rfl)) (fun _ _ _ h=>h) (Or.inr ⟨by rfl,rfl⟩) ?_ ?_
   rotate_left
   · simp only [Act.put,List.setIfInBounds_toArray,List.set_cons_zero,List.set_cons_succ,i64_w,i32_w];rfl
   refine pure_ (i:=9) (N:=some 24) (v:=undef) (a':=?_) #[true,true,true,true,true,true,true,true,true,true,false,false,false,false,false,false,false,false,false,false,false,false,false,false,false,false,false] rfl rfl (any_of HT_.out (by kernel_rfl)) (fun _ _ _ h=>h) (Or.inr ⟨by rfl,rfl⟩) ?_ ?_
   rotate_left
   · simp only [Act.put,List.setIfInBounds_toArray,List.set_cons_zero,List.set_cons_succ,i64_w,i32_w];rfl
   refine pure_ (i:=10) (N:=some 25) (v:=undef) (a':=?_) #[true,true,true,true,true,true,true,true,true,true,true,false,false,false,false,false,false,false,false,false,false,false,false,false,false,false,false] rfl rfl (any_of HT_.out (by kernel_rfl)) (fun _ _ _ h=>h) (Or.inr ⟨by rfl,rfl⟩) ?_ ?_
   rotate_left
   · simp only [Act.put,List.setIfInBounds_toArray,List.set_cons_zero,List.set_cons_succ,i64_w,i32_w];rfl
   refine pure_ (i:=11) (N:=some 26) (v:=undef) (a':=?_) #[true,true,true,true,true,true,true,true,true,true,true,true,false,false,false,false,false,false,false,false,false,false,false,false,false,false,false] rfl rfl (any_of HT_.out (by kernel_rfl)) (fun _ _ _ h=>h) (Or.inr ⟨by rfl,rfl⟩) ?_ ?_
   rotate_left
   · simp only [Act.put,List.setIfInBounds_toArray,List.set_cons_zero,List.set_cons_succ,i64_w,i32_w];rfl
   refine pure_ (i:=12) (N:=some 27) (v:=undef) (a':=?_) #[true,true,true,true,true,true,true,true,true,true,true,true,true,false,false,false,false,false,false,false,false,false,false,false,false,false,false] rfl rfl (any_of HT_.out (by kernel_rfl)) (fun _ _ _ h=>h) (Or.inr ⟨by rfl,rfl⟩) ?_ ?_
   rotate_left
   · simp only [Act.put,List.setIfInBounds_toArray,List.set_cons_zero,List.set_cons_succ,i64_w,i32_w];rfl
   refine pure_ (i:=13) (N:=some 28) (v:=undef) (a':=?_) #[true,true,true,true,true,true,true,true,true,true,true,true,true,true,false,false,false,false,false,false,false,false,false,false,false,false,false] rfl rfl (any_of HT_.out (by kernel_rfl)) (fun _ _ _ h=>h) (Or.inr ⟨by rfl,rfl⟩) ?_ ?_
   rotate_left
   · simp only [Act.put,List.setIfInBounds_toArray,List.set_cons_zero,List.set_cons_succ,i64_w,i32_w];rfl
   refine pure_ (i:=14) (N:=some 29) (v:=undef) (a':=?_) #[true,true,true,true,true,true,true,true,true,true,true,true,true,true,true,false,false,false,false,false,false,false,false,false,false,false,false] rfl rfl (any_of HT_.out (by kernel_rfl)) (fun _ _ _ h=>h) (Or.inr ⟨by rfl,rfl⟩) ?_ ?_
   rotate_left
   · simp only [Act.put,List.setIfInBounds_toArray,List.set_cons_zero,List.set_cons_succ,i64_w,i32_w];rfl
   refine pure_ (i:=15) (N:=some 30) (v:=undef) (a':=?_) #[true,true,true,true,true,true,true,true,true,true,true,true,true,true,true,true,false,false,false,false,false,false,false,false,false,false,false] rfl rfl (any_of HT_.out (by kernel_rfl)) (fun _ _ _ h=>h) (Or.inr ⟨by rfl,rfl⟩) ?_ ?_
   rotate_left
   · simp only [Act.put,List.setIfInBounds_toArray,List.set_cons_zero,List.set_cons_succ,i64_w,i32_w];rfl
   refine pure_ (i:=16) (N:=some 31) (v:=undef) (a':=?_) #[true,true,true,true,true,true,true,true,true,true,true,true,true,true,true,true,true,false,false,false,false,false,false,false,false,false,false] rfl rfl (any_of HT_.out (by kernel_rfl)) (fun _ _ _ h=>h) (Or.inr ⟨by rfl,rfl⟩) ?_ ?_
   rotate_left
   · simp only [Act.put,List.setIfInBounds_toArray,List.set_cons_zero,List.set_cons_succ,i64_w,i32_w];rfl
   refine pure_ (i:=17) (N:=some 32) (v:=undef) (a':=?_) #[true,true,true,true,true,true,true,true,true,true,true,true,true,true,true,true,true,true,false,false,false,false,false,false,false,false,false] rfl rfl (any_of HT_.out (by kernel_rfl)) (fun _ _ _ h=>h) (Or.inr ⟨by rfl,rfl⟩) ?_ ?_
   rotate_left
   · simp only [Act.put,List.setIfInBounds_toArray,List.set_cons_zero,List.set_cons_succ,i64_w,i32_w];rfl
   refine pure_ (i:=18) (N:=some 33) (v:=undef) (a':=?_) #[true,true,true,true,true,true,true,true,true,true,true,true,true,true,true,true,true,true,true,false,false,false,false,false,false,false,false] rfl rfl (any_of HT_.out (by kernel_rfl)) (fun _ _ _ h=>h) (Or.inr ⟨by rfl,rfl⟩) ?_ ?_
   rotate_left
   · simp only [Act.put,List.setIfInBounds_toArray,List.set_cons_zero,List.set_cons_succ,i64_w,i32_w];rfl
   refine pure_ (i:=19) (N:=some 34) (v:=undef) (a':=?_) #[true,true,true,true,true,true,true,true,true,true,true,true,true,true,true,true,true,true,true,true,false,false,false,false,false,false,false] rfl rfl (any_of HT_.out (by kernel_rfl)) (fun _ _ _ h=>h) (Or.inr ⟨by rfl,rfl⟩) ?_ ?_
   rotate_left
   · simp only [Act.put,List.setIfInBounds_toArray,List.set_cons_zero,List.set_cons_succ,i64_w,i32_w];rfl
   refine pure_ (i:=20) (N:=some 35) (v:=undef) (a':=?_) #[true,true,true,true,true,true,true,true,true,true,true,true,true,true,true,true,true,true,true,true,true,false,false,false,false,false,false] rfl rfl (any_of HT_.out (by kernel_rfl)) (fun _ _ _ h=>h) (Or.inr ⟨by rfl,rfl⟩) ?_ ?_
   rotate_left
   · simp only [Act.put,List.setIfInBounds_toArray,List.set_cons_zero,List.set_cons_succ,i64_w,i32_w];rfl
   refine pure_ (i:=21) (N:=some 36) (v:=undef) (a':=?_) #[true,true,true,true,true,true,true,true,true,true,true,true,true,true,true,true,true,true,true,true,true,true,false,false,false,false,false] rfl rfl (any_of HT_.out (by kernel_rfl)) (fun _ _ _ h=>h) (Or.inr ⟨by rfl,rfl⟩) ?_ ?_
   rotate_left
   · simp only [Act.put,List.setIfInBounds_toArray,List.set_cons_zero,List.set_cons_succ,i64_w,i32_w];rfl
   refine pure_ (i:=22) (N:=some 37) (v:=undef) (a':=?_) #[true,true,true,true,true,true,true,true,true,true,true,true,true,true,true,true,true,true,true,true,true,true,true,false,false,false,false] rfl rfl (any_of HT_.out (by kernel_rfl)) (fun _ _ _ h=>h) (Or.inr ⟨by rfl,rfl⟩) ?_ ?_
   rotate_left
   · simp only [Act.put,List.setIfInBounds_toArray,List.set_cons_zero,List.set_cons_succ,i64_w,i32_w];rfl
   refine pure_ (i:=23) (N:=some 38) (v:=undef) (a':=?_) #[true,true,true,true,true,true,true,true,true,true,true,true,true,true,true,true,true,true,true,true,true,true,true,true,false,false,false] rfl rfl (any_of HT_.out (by kernel_rfl)) (fun _ _ _ h=>h) (Or.inr ⟨by rfl,rfl⟩) ?_ ?_
   rotate_left
   · simp only [Act.put,List.setIfInBounds_toArray,List.set_cons_zero,List.set_cons_succ,i64_w,i32_w];rfl
   refine pure_ (i:=24) (N:=some 39) (v:=undef) (a':=?_) #[true,true,true,true,true,true,true,true,true,true,true,true,true,true,true,true,true,true,true,true,true,true,true,true,true,false,false] rfl rfl (any_of HT_.out (by kernel_rfl)) (fun _ _ _ h=>h) (Or.inr ⟨by rfl,rfl⟩) ?_ ?_
   rotate_left
   · simp only [Act.put,List.setIfInBounds_toArray,List.set_cons_zero,List.set_cons_succ,i64_w,i32_w];rfl
   refine pure_ (i:=25) (N:=some 40) (v:=undef) (a':=?_) #[true,true,true,true,true,true,true,true,true,true,true,true,true,true,true,true,true,true,true,true,true,true,true,true,true,true,false] rfl rfl (any_of HT_.out (by kernel_rfl)) (fun _ _ _ h=>h) (Or.inr ⟨by rfl,rfl⟩) ?_ ?_
   rotate_left
   · simp only [Act.put,List.setIfInBounds_toArray,List.set_cons_zero,List.set_cons_succ,i64_w,i32_w];rfl
   refine pu_ 26 (some 41) #[true,true,true,true,true,true,true,true,true,true,true,true,true,true,true,true,true,true,true,true,true,true,true,true,true,true,true] HT_.out ?_;refine done_ (done_of HT_.out (by kernel_rfl)) ?_
   try go_wp2
   go_ret;exact ax9
  |
   have g_:decide (0<aE)=false:=c11b0;clear g_;refine pu_ 8 (some 23) #[true,true,true,true,true,true,true,true,true,false,false,false,false,false,false,false,false,false,false,false,false,false,false,false,false,false,false] HT_.out ?_;refine pu_ 9 (some 24) #[true,true,true,true,true,true,true,true,true,true,false,false,false,false,false,false,false,false,false,false,false,false,false,false,false,false,false] HT_.out ?_;refine pu_ 10 (some 25) #[true,true,true,true,true,true,true,true,true,true,true,false,false,false,false,false,false,false,false,false,false,false,false,false,false,false,false] HT_.out ?_;refine pure_ (i:=11) (N:=some 26) (v:=undef) (a':=?_) #[true,true,true,true,true,true,true,true,true,true,true,true,false,false,false,false,false,false,false,false,false,false,false,false,false,false,false] rfl rfl (any_of HT_.out (by kernel_rfl)) (fun _ _ _ h=>h) (Or.inr ⟨by rfl,rfl⟩) ?_ ?_
   rotate_left
   · simp only [Act.put,List.setIfInBounds_toArray,List.set_cons_zero,List.set_cons_succ,i64_w,i32_w];rfl
   refine pure_ (i:=12) (N:=some 27) (v:=undef) (a':=?_) #[true,true,true,true,true,true,true,true,true,true,true,true,true,false,false,false,false,false,false,false,false,false,false,false,false,false,false] rfl rfl (any_of HT_.out (by kernel_rfl)) (fun _ _ _ h=>h) (Or.inr ⟨by rfl,rfl⟩) ?_ ?_
   rotate_left
   · simp only [Act.put,List.setIfInBounds_toArray,List.set_cons_zero,List.set_cons_succ,i64_w,i32_w];rfl
   refine pure_ (i:=13) (N:=some 28) (v:=undef) (a':=?_) #[true,true,true,true,true,true,true,true,true,true,true,true,true,true,false,false,false,false,false,false,false,false,false,false,false,false,false] rfl rfl (any_of HT_.out (by kernel_rfl)) (fun _ _ _ h=>h) (Or.inr ⟨by rfl,rfl⟩) ?_ ?_
   rotate_left
   · simp only [Act.put,List.setIfInBounds_toArray,List.set_cons_zero,List.set_cons_succ,i64_w,i32_w];rfl
   refine pure_ (i:=14) (N:=some 29) (v:=undef) (a':=?_) #[true,true,true,true,true,true,true,true,true,true,true,true,true,true,true,false,false,false,false,false,false,false,false,false,false,false,false] rfl rfl (any_of HT_.out (by kernel_rfl)) (fun _ _ _ h=>h) (Or.inr ⟨by rfl,rfl⟩) ?_ ?_
   rotate_left
   · simp only [Act.put,List.setIfInBounds_toArray,List.set_cons_zero,List.set_cons_succ,i64_w,i32_w];rfl
   refine pure_ (i:=15) (N:=some 30) (v:=undef) (a':=?_) #[true,true,true,true,true,true,true,true,true,true,true,true,true,true,true,true,false,false,false,false,false,false,false,false,false,false,false] rfl rfl (any_of HT_.out (by kernel_rfl)) (fun _ _ _ h=>h) (Or.inr ⟨by rfl,rfl⟩) ?_ ?_
   rotate_left
   · simp only [Act.put,List.setIfInBounds_toArray,List.set_cons_zero,List.set_cons_succ,i64_w,i32_w];rfl
   refine pure_ (i:=16) (N:=some 31) (v:=undef) (a':=?_) #[true,true,true,true,true,true,true,true,true,true,true,true,true,true,true,true,true,false,false,false,false,false,false,false,false,false,false] rfl rfl (any_of HT_.out (by kernel_rfl)) (fun _ _ _ h=>h) (Or.inr ⟨by rfl,rfl⟩) ?_ ?_
   rotate_left
   · simp only [Act.put,List.setIfInBounds_toArray,List.set_cons_zero,List.set_cons_succ,i64_w,i32_w];rfl
   refine pure_ (i:=17) (N:=some 32) (v:=undef) (a':=?_) #[true,true,true,true,true,true,true,true,true,true,true,true,true,true,true,true,true,true,false,false,false,false,false,false,false,false,false] rfl rfl (any_of HT_.out (by kernel_rfl)) (fun _ _ _ h=>h) (Or.inr ⟨by rfl,rfl⟩) ?_ ?_
   rotate_left
   · simp only [Act.put,List.setIfInBounds_toArray,List.set_cons_zero,List.set_cons_succ,i64_w,i32_w];rfl
   refine pure_ (i:=18) (N:=some 33) (v:=undef) (a':=?_) #[true,true,true,true,true,true,true,true,true,true,true,true,true,true,true,true,true,true,true,false,false,false,false,false,false,false,false] rfl rfl (any_of HT_.out (by kernel_rfl)) (fun _ _ _ h=>h) (Or.inr ⟨by rfl,rfl⟩) ?_ ?_
   rotate_left
   · simp only [Act.put,List.setIfInBounds_toArray,List.set_cons_zero,List.set_cons_succ,i64_w,i32_w];rfl
   refine pure_ (i:=19) (N:=some 34) (v:=undef) (a':=?_) #[true,true,true,true,true,true,true,true,true,true,true,true,true,true,true,true,true,true,true,true,false,false,false,false,false,false,false] rfl rfl (any_of HT_.out (by kernel_rfl)) (fun _ _ _ h=>h) (Or.inr ⟨by rfl,rfl⟩) ?_ ?_
   rotate_left
   · simp only [Act.put,List.setIfInBounds_toArray,List.set_cons_zero,List.set_cons_succ,i64_w,i32_w];rfl
   refine pure_ (i:=20) (N:=some 35) (v:=undef) (a':=?_) #[true,true,true,true,true,true,true,true,true,true,true,true,true,true,true,true,true,true,true,true,true,false,false,false,false,false,false] rfl rfl (any_of HT_.out (by kernel_rfl)) (fun _ _ _ h=>h) (Or.inr ⟨by rfl,rfl⟩) ?_ ?_
   rotate_left
   · simp only [Act.put,List.setIfInBounds_toArray,List.set_cons_zero,List.set_cons_succ,i64_w,i32_w];rfl
   refine pure_ (i:=21) (N:=some 36) (v:=undef) (a':=?_) #[true,true,true,true,true,true,true,true,true,true,true,true,true,true,true,true,true,true,true,true,true,true,false,false,false,false,false] rfl rfl (any_of HT_.out (by kernel_rfl)) (fun _ _ _ h=>h) (Or.inr ⟨by rfl,rfl⟩) ?_ ?_
   rotate_left
   · simp only [Act.put,List.setIfInBounds_toArray,List.set_cons_zero,List.set_cons_succ,i64_w,i32_w];rfl
   refine pure_ (i:=22) (N:=some 37) (v:=undef) (a':=?_) #[true,true,true,true,true,true,true,true,true,true,true,true,true,true,true,true,true,true,true,true,true,true,true,false,false,false,false] rfl rfl (any_of HT_.out (by kernel_rfl)) (fun _ _ _ h=>h) (Or.inr ⟨by rfl,rfl⟩) ?_ ?_
   rotate_left
   · simp only [Act.put,List.setIfInBounds_toArray,List.set_cons_zero,List.set_cons_succ,i64_w,i32_w];rfl
   refine pure_ (i:=23) (N:=some 38) (v:=undef) (a':=?_) #[true,true,true,true,true,true,true,true,true,true,true,true,true,true,true,true,true,true,true,true,true,true,true,true,false,false,false] rfl rfl (any_of HT_.out (by kernel_rfl)) (fun _ _ _ h=>h) (Or.inr ⟨by rfl,rfl⟩) ?_ ?_
   rotate_left
   · simp only [Act.put,List.setIfInBounds_toArray,List.set_cons_zero,List.set_cons_succ,i64_w,i32_w];rfl
   refine pure_ (i:=24) (N:=some 39) (v:=undef) (a':=?_) #[true,true,true,true,true,true,true,true,true,true,true,true,true,true,true,true,true,true,true,true,true,true,true,true,true,false,false] rfl rfl (any_of HT_.out (by kernel_rfl)) (fun _ _ _ h=>h) (Or.inr ⟨by rfl,rfl⟩) ?_ ?_
   rotate_left
   · simp only [Act.put,List.setIfInBounds_toArray,List.set_cons_zero,List.set_cons_succ,i64_w,i32_w];rfl
   refine pu_ 25 (some 40) #[true,true,true,true,true,true,true,true,true,true,true,true,true,true,true,true,true,true,true,true,true,true,true,true,true,true,false] HT_.out ?_;refine pu_ 26 (some 41) #[true,true,true,true,true,true,true,true,true,true,true,true,true,true,true,true,true,true,true,true,true,true,true,true,true,true,true] HT_.out ?_;refine done_ (done_of HT_.out (by kernel_rfl)) ?_
   try go_wp2
   go_roundg k1
   case measure=>have:=HK1.out;omega
   case rel=>exact ⟨(wrap64 (aE+1)),au88,H',⟨by have:=HK1.out;omega⟩,⟨by (with_reducible repeat (first|refine blk_drewN ?_ _|refine blk_drew ?_|refine blk_alloc ?_ _));exact eF.out⟩,⟨by repeat (first|(with_reducible first|exact HB.out|apply below_alloc|apply pw_below_drewN|apply below_drew1|refine below_set ?_ Bu.out)|exact HB.out)⟩⟩):P:=h
set_option maxHeartbeats 8000000 in
set_option maxRecDepth 100000 in
theorem spec_l4Good.calls (k:Nat) (bH:Option Addr) (bA:Nat) (aA:List (S42)) (r:Bool) (w:World) (cE:Kd.C k42 w bH aA.length aA) (cA:aA.length≤bA) (h:spec_l4Good.f k aA=some r) :
  Calls Tryz.prog 12 #[.agg #[.slice bH aA.length bA]] w fun e w'=>e=.returned (.bool r)∧Below w.heap.size w w':=by
 have hu28:=Tryz.underlying28;have hu42:=Tryz.underlying42;have cM:=am cE;have eO:=am cA;clear cE cA;have HB:=am (Below.refl w.heap.size w);have H:(if (aA.length:Int)>8 then (some false) else (spec_l4Good.l0 k 0 aA))=some r:=h;clear h;by_cases c2:(aA.length:Int)>8
 · rw [if_pos c2] at H;have c2b0:=dt c2;have c2b1:decide (8<aA.length)=true:=dt (by omega);clear c2;obtain rfl:=ojz H;go_enter Tryz.func12,Tryz.ntmps12;go_wp2_with (first|((with_reducible refine gate_dst (N:=1) rfl ?_);refine box_event ?hg (N:=1) ?hd (cs:=#[.slice bH aA.length bA]) (t:=28) ?hr ?_;(case hd=>rfl);(case hg=>rfl);(case hr=>first|(go_simp;done)|(go_simp;rfl));intro oZ hg w3 hbox hb;have eF:=am (hbox);have aEH:=am (bsz hg au46);have Bu:=am (bsz hg au46);replace HB:=am (below_step au46 hb);clear hb hbox hg;have mX:w3.cell? ⟨oZ,0,none⟩=some (.slice bH aA.length bA):=(blk_cell eF.out 0).trans rfl;have mY:=blk_frozen eF.out 0));go_ret;exact ax9
 ·
  rw [if_neg c2] at H;have c2b0:=df c2;have c2b1:decide (8<aA.length)=false:=df (by omega);clear c2;have H':=am H;clear H;go_enter Tryz.func12,Tryz.ntmps12;go_wp2_with (first|((with_reducible refine gate_dst (N:=1) rfl ?_);refine box_event ?hg (N:=1) ?hd (cs:=#[.slice bH aA.length bA]) (t:=28) ?hr ?_;(case hd=>rfl);(case hg=>rfl);(case hr=>first|(go_simp;done)|(go_simp;rfl));intro oZ hg w5 hbox hb;have eF:=am (hbox);have aEH:=am (bsz hg au46);have Bu:=am (bsz hg au46);replace HB:=am (below_step au46 hb);clear hb hbox hg;have a5V:w5.cell? ⟨oZ,0,none⟩=some (.slice bH aA.length bA):=(blk_cell eF.out 0).trans rfl;have a5W:=blk_frozen eF.out 0))
  go_loopg [3] k (fun kq v3 w'=>∃ (aE:Int),v3=.int .i64 aE∧Aside0 (spec_l4Good.l0 kq aE aA=some r)∧Aside0 (kq≤k)∧Aside0 (w'.heap[oZ]?=some (.cells #[(.slice bH aA.length bA)] 28 (0,0)))∧Aside0 (Below w.heap.size w w'))
  case atStart=>exact ⟨(0),au88,H',⟨Nat.le_refl _⟩,⟨by (with_reducible repeat (first|refine blk_drewN ?_ _|refine blk_drew ?_|refine blk_alloc ?_ _));exact eF.out⟩,⟨by repeat (first|(with_reducible first|exact HB.out|apply below_alloc|apply pw_below_drewN|apply below_drew1|refine below_set ?_ Bu.out)|exact HB.out)⟩⟩
  case round =>
   clear H'
   try clear c1
   try clear c2
   try clear c2b0
   try clear c2b1
   try clear p2
   try clear mX mY
   try clear a5V a5W
   obtain ⟨aE,rfl,HA,HK1,eF,HB⟩:=hrel
   cases gk with
   | zero=>exact absurd HA.out (by simp [spec_l4Good.l0])
   | succ k1 =>
    have H:=HA.out;clear HA;simp only [spec_l4Good.l0] at H;by_cases c7:aE<(aA.length:Int)
    ·
     rw [if_pos c7] at H;have c7b0:=dt c7;clear c7;by_cases c8:0≤aE
     ·
      rw [if_pos c8] at H;have c8b0:=dt c8;clear c8;replace H:=ob H;obtain ⟨adN,wW,H⟩:=H
      try dsimp only at H
      have A9:=am wW;clear wW;by_cases c10:adN=true
      ·
       subst c10;replace H:=(if_pos rfl).symm.trans H;by_cases cI:aE>0
       ·
        rw [if_pos cI] at H;have c11b0:=dt cI;clear cI
        obtain ⟨cU,KF⟩:∃ j_:Int,(wrap64 (aE-1))=j_:=⟨_,rfl⟩
        replace H:(if 0≤(cU) then (if (cU)<(aA.length:Int) then (if ((Op.bytesLess (((rd_T42 aA (cU)).f0).toList) (((rd_T42 aA aE).f0).toList))=true) then (spec_l4Good.l0 k1 (wrap64 (aE+1)) aA) else (some false)) else (none)) else (none))=some r:=by first|(rw [KF] at H;exact H)|(simp only [KF] at H ⊢;exact H)
        (try rw [KF] at A9)
        have hji12w:(IntKind.i64.wrap (aE-1))=cU:=(i64_w _).trans KF;by_cases cV:0≤(cU)
        ·
         rw [if_pos cV] at H;have c13b0:=dt cV;clear cV;by_cases dB:(cU)<(aA.length:Int)
         ·
          rw [if_pos dB] at H;have c14b0:=dt dB;clear dB;by_cases cX:((Op.bytesLess (((rd_T42 aA (cU)).f0).toList) (((rd_T42 aA aE).f0).toList))=true)
          · rw [if_pos cX] at H;have c15b0:(Op.bytesLess (((rd_T42 aA (cU)).f0).toList) (((rd_T42 aA aE).f0).toList))=true:=cX;clear cX;have H':=am H;clear H;exact spec_l4Good.L0
          ·
           rw [if_neg cX] at H
           have c15b0:(Op.bytesLess (((rd_T42 aA (cU)).f0).toList) (((rd_T42 aA aE).f0).toList))=false:=by simpa using cX
           clear cX;obtain rfl:=ojz H;exact spec_l4Good.L0
         · rw [if_neg dB] at H;exact absurd H (by simp)
        · rw [if_neg cV] at H;exact absurd H (by simp)
       · rw [if_neg cI] at H;have c11b0:=df cI;clear cI;have H':=am H;clear H;exact spec_l4Good.L1
      · replace c10:=Bool.eq_false_iff.mpr c10;subst c10;replace H:=(if_neg (show ¬ (false=true) by decide)).symm.trans H;obtain rfl:=ojz H;exact spec_l4Good.L1
     · rw [if_neg c8] at H;exact absurd H (by simp)
    · rw [if_neg c7] at H;have c7b0:=df c7;clear c7;obtain rfl:=ojz H;have xV:wr.cell? ⟨oZ,0,none⟩=some (.slice bH aA.length bA):=(blk_cell eF.out 0).trans rfl;have xW:=blk_frozen eF.out 0;go_wp2;go_ret;exact ax9
end Go.Proofs.YteagahcbffgjpaaGreatDoor.G

namespace Go.Proofs.YteagahcbffgjpaaGreatDoor.G
open Go.RowKit Go.Proofs.YteagahcbffgjpaaGreatDoorW.PrintWords Go.Proofs.YteagahcbffgjpaaGreatDoorW.PrintLast Go.Proofs.YteagahcbffgjpaaGreatDoorW.PrintMore
open Go.Proofs.YteagahcbffgjpaaGreatDoor.Gl Go.Proofs.YteagahcbffgjpaaGreatDoor.Ext
attribute [local go_sem] max2_int min2_int max_two min_two max_three min_three max_four min_four   -- for this text's walks alone
set_option linter.unusedVariables false
set_option linter.unusedSimpArgs false
def spec_l4Find.l0:Nat→ByteArray→Int→List (S42)→Option (Int)
 | 0,_,_,_=>none
 | k+1,x1,x5,Mj=>if x5<(Mj.length:Int) then (if 0≤x5 then (if ((rd_T42 Mj x5).f0).toList=x1.toList then (some x5) else (spec_l4Find.l0 k x1 (wrap64 (x5+1)) Mj)) else (none)) else (some (-1))
def spec_l4Find.f (k:Nat) (aA:List (S42)) (a1:ByteArray):Option (Int):=spec_l4Find.l0 k a1 0 aA
theorem spec_l4Find.mono_l:∀ k,(∀ y0 y1 y2,LeO (spec_l4Find.l0 k y0 y1 y2) (spec_l4Find.l0 (k+1) y0 y1 y2))
 | 0=>fun _ _ _ r h=>by simp [spec_l4Find.l0] at h
 | k+1=>by
  have ih0:=spec_l4Find.mono_l k
  ·
   intro y0 y1 y2;unfold spec_l4Find.l0
   repeat' first
   | (with_reducible exact ih0 _ _ _)
   | (with_reducible exact LeO.refl _)
   | (with_reducible exact LeO.none _)
   | (with_reducible refine LeO.ite ?_ ?_)
   | (with_reducible refine LeO.bind ?_ (fun _=>?_))
   | exact ih0 _ _ _
   | exact LeO.none _
   | refine LeO.ite ?_ ?_
   | refine LeO.bind ?_ (fun _=>?_)
theorem spec_l4Find.mono:∀ a0 a1 k,LeO (spec_l4Find.f k a0 a1) (spec_l4Find.f (k+1) a0 a1):=by
 intro a0 a1 k;have ih0:=spec_l4Find.mono_l k;unfold spec_l4Find.f
 repeat' first
   | (with_reducible exact ih0 _ _ _)
   | (with_reducible exact LeO.refl _)
   | (with_reducible exact LeO.none _)
   | (with_reducible refine LeO.ite ?_ ?_)
   | (with_reducible refine LeO.bind ?_ (fun _=>?_))
   | exact ih0 _ _ _
   | exact LeO.none _
   | refine LeO.ite ?_ ?_
   | refine LeO.bind ?_ (fun _=>?_)
set_option maxHeartbeats 8000000 in
set_option maxRecDepth 100000 in
theorem spec_l4Find.calls (k:Nat) (bH:Option Addr) (bA:Nat) (aA:List (S42)) (a1:ByteArray) (r:Int) (w:World) (cE:Kd.C k42 w bH aA.length aA) (cA:aA.length≤bA) (h:spec_l4Find.f k aA a1=some r) :
  Calls Tryz.prog 13 #[.agg #[.slice bH aA.length bA],.string a1] w fun e w'=>e=.returned (.int .i64 r)∧Below w.heap.size w w':=by
 have hu28:=Tryz.underlying28;have cM:=am cE;have eO:=am cA;clear cE cA;have HB:=am (Below.refl w.heap.size w);have H:(spec_l4Find.l0 k a1 0 aA)=some r:=h;clear h;have H':=am H;clear H;go_enter Tryz.func13,Tryz.ntmps13;go_wp2_with (first|((with_reducible refine gate_dst (N:=2) rfl ?_);refine box_event ?hg (N:=2) ?hd (cs:=#[.slice bH aA.length bA]) (t:=28) ?hr ?_;(case hd=>rfl);(case hg=>rfl);(case hr=>first|(go_simp;done)|(go_simp;rfl));intro Nm hg w3 hbox hb;have rW:=am (hbox);have aXB:=am (bsz hg au46);have a1V:=am (bsz hg au46);replace HB:=am (below_step au46 hb);clear hb hbox hg))
 go_loopg [5] k (fun kq v5 w'=>∃ (aC:Int),v5=.int .i64 aC∧Aside0 (spec_l4Find.l0 kq a1 aC aA=some r)∧Aside0 (kq≤k)∧Aside0 (w'.heap[Nm]?=some (.cells #[(.slice bH aA.length bA)] 28 (0,0)))∧Aside0 (Below w.heap.size w w'))
 case atStart=>exact ⟨(0),au88,H',⟨Nat.le_refl _⟩,⟨by (with_reducible repeat (first|refine blk_drewN ?_ _|refine blk_drew ?_|refine blk_alloc ?_ _));exact rW.out⟩,⟨by repeat (first|(with_reducible first|exact HB.out|apply below_alloc|apply pw_below_drewN|apply below_drew1|refine below_set ?_ a1V.out)|exact HB.out)⟩⟩
 case round =>
  clear H'
  try clear c1
  try clear p2
  obtain ⟨aC,rfl,HA,HK1,rW,HB⟩:=hrel
  cases gk with
  | zero=>exact absurd HA.out (by simp [spec_l4Find.l0])
  | succ k1 =>
   have H:=HA.out;clear HA;simp only [spec_l4Find.l0] at H;by_cases c4:aC<(aA.length:Int)
   ·
    rw [if_pos c4] at H;have c4b0:=dt c4;clear c4;by_cases c5:0≤aC
    ·
     rw [if_pos c5] at H;have c5b0:=dt c5;clear c5;by_cases c6:((rd_T42 aA aC).f0).toList=a1.toList
     ·
      rw [if_pos c6] at H;have c6b0:=qt c6;have c6b1:=bf c6;clear c6;obtain rfl:=ojz H;have kN:wr.cell? ⟨Nm,0,none⟩=some (.slice bH aA.length bA):=(blk_cell rW.out 0).trans rfl;have kO:=blk_frozen rW.out 0;have JS:0≤(aC:Int):=od au87;have JU:aC<(aA.length:Int):=od au87;obtain ⟨aEI,aA5,aA6,aA7,aA8,adT,AH,AI,AJ,AK,AL,AM,AN,AO,AP,AQ,vW,vX,vY,vZ,AR,AU,AV,AW⟩:=at_T42 cM.out aC JS JU
      cases adT
      replace AH:=bcl HB.out AH;replace AI:=bcl HB.out AI;replace AJ:=bcl HB.out AJ;replace AK:=bcl HB.out AK;replace AL:=bcl HB.out AL;replace AM:=bcl HB.out AM;replace AN:=bcl HB.out AN;replace AO:=bcl HB.out AO;replace AP:=bcl HB.out AP;replace AQ:=bcl HB.out AQ;replace vW:=bcl HB.out vW;replace vX:=bcl HB.out vX;replace vY:=bcl HB.out vY;replace vZ:=bcl HB.out vZ;have anV:=am AU;have anW:=am AR;clear AU AR;have anX:=am AW;have anY:=am AV;clear AW AV;replace JS:=eq_true JS;replace JU:=eq_true JU;go_wp2;go_ret;exact ax10
     ·
      rw [if_neg c6] at H;have c6b0:=qf c6;have c6b1:=bu c6;have H':=am H;clear H;have QO:wr.cell? ⟨Nm,0,none⟩=some (.slice bH aA.length bA):=(blk_cell rW.out 0).trans rfl;have QP:=blk_frozen rW.out 0;have JS:0≤(aC:Int):=od au87;have JU:aC<(aA.length:Int):=od au87;obtain ⟨aEI,aA5,aA6,aA7,aA8,adT,AH,AI,AJ,AK,AL,AM,AN,AO,AP,AQ,vW,vX,vY,vZ,AR,AU,AV,AW⟩:=at_T42 cM.out aC JS JU
      cases adT
      replace AH:=bcl HB.out AH;replace AI:=bcl HB.out AI;replace AJ:=bcl HB.out AJ;replace AK:=bcl HB.out AK;replace AL:=bcl HB.out AL;replace AM:=bcl HB.out AM;replace AN:=bcl HB.out AN;replace AO:=bcl HB.out AO;replace AP:=bcl HB.out AP;replace AQ:=bcl HB.out AQ;replace vW:=bcl HB.out vW;replace vX:=bcl HB.out vX;replace vY:=bcl HB.out vY;replace vZ:=bcl HB.out vZ;have anV:=am AU;have anW:=am AR;clear AU AR;have anX:=am AW;have anY:=am AV;clear AW AV;replace JS:=eq_true JS;replace JU:=eq_true JU;go_wp2
      go_roundg k1
      case measure=>have:=HK1.out;omega
      case rel=>exact ⟨(wrap64 (aC+1)),au88,H',⟨by have:=HK1.out;omega⟩,⟨by (with_reducible repeat (first|refine blk_drewN ?_ _|refine blk_drew ?_|refine blk_alloc ?_ _));exact rW.out⟩,⟨by repeat (first|(with_reducible first|exact HB.out|apply below_alloc|apply pw_below_drewN|apply below_drew1|refine below_set ?_ a1V.out)|exact HB.out)⟩⟩
    · rw [if_neg c5] at H;exact absurd H (by simp)
   · rw [if_neg c4] at H;have c4b0:=df c4;clear c4;obtain rfl:=ojz H;have zB:wr.cell? ⟨Nm,0,none⟩=some (.slice bH aA.length bA):=(blk_cell rW.out 0).trans rfl;have zC:=blk_frozen rW.out 0;go_wp2;go_ret;exact ax10
def spec_l2Own.l0:Nat→List (S69)→List (S69)→Int→Option ((List (S69)))
 | 0,_,_,_=>none
 | k+1,x0,x3,x4=>if x4<(x0.length:Int) then (if 0≤x4 then ((some (([]:List ByteArray):List ByteArray)).bind fun Ek=>(if Ek.length+((rd_T69 x0 x4).f0).length<8796093022208 then (if x3.length<1954687338268 then (spec_l2Own.l0 k x0 (x3++[(⟨(Ek++((rd_T69 x0 x4).f0)),(rd_T69 x0 x4).f1,(rd_T69 x0 x4).f2,(rd_T69 x0 x4).f3⟩:S69)]) (wrap64 (x4+1))) else (none)) else (none))) else (none)) else (some x3)
def spec_l2Own.f (k:Nat) (l0:List (S69)):Option ((List (S69))):=spec_l2Own.l0 k l0 (([]:List (S69))) 0
theorem spec_l2Own.mono_l:∀ k,(∀ y0 y1 y2,LeO (spec_l2Own.l0 k y0 y1 y2) (spec_l2Own.l0 (k+1) y0 y1 y2))
 | 0=>fun _ _ _ r h=>by simp [spec_l2Own.l0] at h
 | k+1=>by
  have ih0:=spec_l2Own.mono_l k
  ·
   intro y0 y1 y2;unfold spec_l2Own.l0
   repeat' first
   | (with_reducible exact ih0 _ _ _)
   | (with_reducible exact LeO.refl _)
   | (with_reducible exact LeO.none _)
   | (with_reducible refine LeO.ite ?_ ?_)
   | (with_reducible refine LeO.bind ?_ (fun _=>?_))
   | exact ih0 _ _ _
   | exact LeO.none _
   | refine LeO.ite ?_ ?_
   | refine LeO.bind ?_ (fun _=>?_)
theorem spec_l2Own.mono:∀ a0 k,LeO (spec_l2Own.f k a0) (spec_l2Own.f (k+1) a0):=by
 intro a0 k;have ih0:=spec_l2Own.mono_l k;unfold spec_l2Own.f
 repeat' first
   | (with_reducible exact ih0 _ _ _)
   | (with_reducible exact LeO.refl _)
   | (with_reducible exact LeO.none _)
   | (with_reducible refine LeO.ite ?_ ?_)
   | (with_reducible refine LeO.bind ?_ (fun _=>?_))
   | exact ih0 _ _ _
   | exact LeO.none _
   | refine LeO.ite ?_ ?_
   | refine LeO.bind ?_ (fun _=>?_)
set_option maxHeartbeats 8000000 in
set_option maxRecDepth 100000 in
theorem spec_l2Own.calls (k:Nat) (A0:Option Addr) (c0:Nat) (l0:List (S69)) (r:List (S69)) (w:World) (dH:Kd.C k69 w A0 l0.length l0) (cP:l0.length≤c0) (h:spec_l2Own.f k l0=some r) :
  Calls Tryz.prog 24 #[.slice A0 l0.length c0] w fun e w'=>∃ dS:Value,e=.returned (dS)∧Kd.S k69 69 w' w.heap.size (fun _=>True) dS r∧Below w.heap.size w w':=by
 have hu69:=Tryz.underlying69;have cW:=am dH;have mM:=am cP;clear dH cP;have HB:=am (Below.refl w.heap.size w);have H:(spec_l2Own.l0 k l0 (([]:List (S69))) 0)=some r:=h;clear h
 obtain ⟨aA9,KG⟩:∃ y_:List (S69),y_=(([]:List (S69))):=⟨_,rfl⟩
 replace H:(spec_l2Own.l0 k l0 aA9 0)=some r:=by first|(rw [KG];with_reducible exact H)|(have H2_:=(Option.bind_some _ _).symm.trans H;rw [KG];with_reducible exact H2_)|(have H2_:=(Option.bind_some _ _).symm.trans H;with_reducible exact H2_)|with_reducible exact H|(rw [KG];exact H)|exact H
 have agQ:=am KG;clear KG;have H':=am H;clear H;go_enter Tryz.func24,Tryz.ntmps24;go_wp2_with (first|((with_reducible refine gate_dst (N:=6) rfl ?_);refine Kd.S_lit k69 _ 69 ?hg (N:=6) ?hd (xs:=([]:List (S69))) (inner:=[]) (ok:=fun _=>True) (okp:=fun _=>True) ?hr ?hp (fun _ hk=>hk) trivial (Below.refl _ _) (Nat.le_refl _) (by simp) ?_;(case hd=>rfl);(case hg=>rfl);(case hr=>first|(go_simp;done)|(go_simp;rfl));(case hp=>exact (Reps.none _ _));intro b0Y w2 ho3 hb hg_ hnew_;clear hg_ hnew_;(first|rw [← agQ.out] at ho3|(simp only [Int.reduceToNat] at ho3;rw [← agQ.out] at ho3));have aEJ:=am (Kd.S_lower ho3 (below_size au46));replace HB:=am (below_step au46 hb);clear hb ho3))
 go_loopg [3,4] k (fun kq v3 v4 w'=>∃ (aE:List (S69)) (aI:Int),v4=.int .i64 aI∧Aside0 (spec_l2Own.l0 kq l0 aE aI=some r)∧Aside0 (kq≤k)∧Aside0 (Kd.S k69 69 w' w.heap.size (fun _=>True) v3 aE)∧Aside0 (Below w.heap.size w w'))
 case atStart=>exact ⟨(aA9),(0),au88,H',⟨Nat.le_refl _⟩,⟨by (with_reducible repeat (first|apply Kd.S_alloc|apply Kd.S_drewN|apply Kd.S_drew));exact aEJ.out⟩,⟨by repeat (first|(with_reducible first|exact HB.out|apply below_alloc|apply pw_below_drewN|apply below_drew1)|exact HB.out)⟩⟩
 case round =>
  clear H'
  try clear c2
  try clear p2
  obtain ⟨aE,aI,rfl,HA,HK1,bS,HB⟩:=hrel
  cases gk with
  | zero=>exact absurd HA.out (by simp [spec_l2Own.l0])
  | succ k1 =>
   have H:=HA.out;clear HA;simp only [spec_l2Own.l0] at H;by_cases c4:aI<(l0.length:Int)
   ·
    rw [if_pos c4] at H;have c4b0:=dt c4;clear c4;by_cases c5:0≤aI
    ·
     rw [if_pos c5] at H;have c5b0:=dt c5;clear c5
     obtain ⟨Ek,KH⟩:∃ y_:List ByteArray,y_=(([]:List ByteArray)):=⟨_,rfl⟩
     replace H:(if Ek.length+((rd_T69 l0 aI).f0).length<8796093022208 then (if aE.length<1954687338268 then (spec_l2Own.l0 k1 l0 (aE++[(⟨(Ek++((rd_T69 l0 aI).f0)),(rd_T69 l0 aI).f1,(rd_T69 l0 aI).f2,(rd_T69 l0 aI).f3⟩:S69)]) (wrap64 (aI+1))) else (none)) else (none))=some r:=by first|(rw [KH];with_reducible exact H)|(have H2_:=(Option.bind_some _ _).symm.trans H;rw [KH];with_reducible exact H2_)|(have H2_:=(Option.bind_some _ _).symm.trans H;with_reducible exact H2_)|with_reducible exact H|(rw [KH];exact H)|exact H
     have agR:=am KH;clear KH;by_cases c6:Ek.length+((rd_T69 l0 aI).f0).length<8796093022208
     ·
      rw [if_pos c6] at H;have aJk:=am c6;clear c6
      obtain ⟨nJ,KI⟩:∃ y_:List ByteArray,y_=(Ek++((rd_T69 l0 aI).f0)):=⟨_,rfl⟩
      replace H:(if aE.length<1954687338268 then (spec_l2Own.l0 k1 l0 (aE++[(⟨nJ,(rd_T69 l0 aI).f1,(rd_T69 l0 aI).f2,(rd_T69 l0 aI).f3⟩:S69)]) (wrap64 (aI+1))) else (none))=some r:=by first|(rw [KI];with_reducible exact H)|(have H2_:=(Option.bind_some _ _).symm.trans H;rw [KI];with_reducible exact H2_)|(have H2_:=(Option.bind_some _ _).symm.trans H;with_reducible exact H2_)|with_reducible exact H|(rw [KI];exact H)|exact H
      have aEK:=am KI;clear KI;by_cases c7:aE.length<1954687338268
      ·
       rw [if_pos c7] at H;have a7X:=am c7;clear c7
       obtain ⟨aAa,KJ⟩:∃ y_:List (S69),y_=(aE++[(⟨nJ,(rd_T69 l0 aI).f1,(rd_T69 l0 aI).f2,(rd_T69 l0 aI).f3⟩:S69)]):=⟨_,rfl⟩
       replace H:(spec_l2Own.l0 k1 l0 aAa (wrap64 (aI+1)))=some r:=by first|(rw [KJ];with_reducible exact H)|(have H2_:=(Option.bind_some _ _).symm.trans H;rw [KJ];with_reducible exact H2_)|(have H2_:=(Option.bind_some _ _).symm.trans H;with_reducible exact H2_)|with_reducible exact H|(rw [KJ];exact H)|exact H
       have aEL:=am KJ;clear KJ;have H':=am H;clear H;have adU:0≤(aI:Int):=od au87;have adV:aI<(l0.length:Int):=od au87;obtain ⟨aXC,wA,wB,aJl,a0W,a0X,a0Y,a0Z,a1A,a1B⟩:=at_T69 cW.out aI adU adV
       cases aJl
       replace a0W:=bcl HB.out a0W;replace a0X:=bcl HB.out a0X;replace a0Y:=bcl HB.out a0Y;replace a0Z:=bcl HB.out a0Z;have anZ:=am a1B;have aSy:=am a1A;clear a1B a1A;replace adU:=eq_true adU;replace adV:=eq_true adV;go_wp2_with (first|((with_reducible refine gate_dst (N:=5) rfl ?_);refine box_event ?hg (N:=5) ?hd (cs:=#[.slice none 0 0,.string (⟨#[]⟩:ByteArray),.string (⟨#[]⟩:ByteArray),.string (⟨#[]⟩:ByteArray)]) (t:=69) ?hr ?_;(case hd=>rfl);(case hg=>rfl);(case hr=>first|(go_simp;done)|(go_simp;rfl));intro gN hg w8 hbox hb;replace bS:=am (Kd.S_below (Kd.S_elderB au83 gN (Nat.le_of_eq hg.symm)) hb);have iE:=am (hbox);have aXD:=am (bsz hg au46);have aeQ:=am (bsz hg au46);replace HB:=am (below_step au46 hb);clear hb hbox hg;obtain ⟨zB,a5P,a5Q,a5R,zC,a5S,a5T,a5U⟩:=blkc4 iE.out)|((with_reducible refine gate_dst (N:=17) rfl ?_);refine Kd.R_lit Kd.string _ 9 ?hg (N:=17) ?hd (xs:=([]:List ByteArray)) (inner:=[]) (ok:=fun _=>True) (okp:=fun _=>True) ?hr ?hp (fun _ hk=>hk) trivial (Below.refl _ _) (Nat.le_refl _) (by simp) ?_;(case hd=>rfl);(case hg=>rfl);(case hr=>first|(go_simp;done)|(go_simp;rfl));(case hp=>exact (Reps.none _ _));intro aJm mN ho11 hb hg_ hnew_;clear hg_ hnew_;(first|rw [← agR.out] at ho11|(simp only [Int.reduceToNat] at ho11;rw [← agR.out] at ho11));replace bS:=am (Kd.S_elder' (by (with_reducible repeat (first|apply Kd.S_alloc|apply Kd.S_drewN|apply Kd.S_drew));exact (Kd.S_mono (Kd.S_far (p:=⟨gN,3,none⟩) (Kd.S_far (p:=⟨gN,2,none⟩) (Kd.S_far (p:=⟨gN,1,none⟩) (Kd.S_far (p:=⟨gN,0,none⟩) (Kd.S_mono bS.out (fun k_ hk=>(⟨hk,hk.2⟩:_∧k_≠gN))) (fun _ hk=>hk.2) (.slice wA ((rd_T69 l0 aI).f0).length wB)) (fun _ hk=>hk.2) (.string ((rd_T69 l0 aI).f1))) (fun _ hk=>hk.2) (.string ((rd_T69 l0 aI).f2))) (fun _ hk=>hk.2) (.string ((rd_T69 l0 aI).f3))) (fun _ h_=>h_.1))) (Kd.R_base ho11) hb);have a4O:=am (Kd.R_lower ho11 (below_size au40));replace iE:=am (blk_below (g:=gN) (o:=.cells #[.slice wA ((rd_T69 l0 aI).f0).length wB,.string ((rd_T69 l0 aI).f1),.string ((rd_T69 l0 aI).f2),.string ((rd_T69 l0 aI).f3)] 69 (0,0)) (by (with_reducible repeat (first|refine blk_drewN ?_ _|refine blk_drew ?_|refine blk_alloc ?_ _));apply put4;(with_reducible repeat (first|refine blk_drewN ?_ _|refine blk_drew ?_|refine blk_alloc ?_ _));exact iE.out) hb);replace HB:=am (below_step au40 hb);clear hb ho11;obtain ⟨gZ,qA,qB,qC,hD,qD,qE,qF⟩:=blkc4 iE.out)|((with_reducible refine gate_builtin (b:=.append) (xs:=#[.tmp 17,.tmp 19]) rfl ?_);at_builtin;refine Kd.R_append_rows Kd.string (w0:=w) w.heap.size rfl (.tmp 17) (.tmp 19) 67 9 (.string ⟨#[]⟩) 16 rfl Tryz.underlying67 info9 rfl (by decide) (by omega) aJm Ek ((rd_T69 l0 aI).f0) _ _ _ (fun _=>True) (fun _=>False) rfl rfl ?aO ?aR (fun _ _ h=>h) (fun _ h=>h.elim) ?aF ?aB ?aS ?aL ?_;(case aR=>repeat (first|exact (Kd.C_below anZ.out HB.out)|(with_reducible refine Kd.C_alloc ?_ _)|(with_reducible refine Kd.C_drewN ?_ _)|(with_reducible refine Kd.C_drew ?_)));(case aB=>exact au40);(case aF=>exact (fun _ _=>trivial));(case aO=>exact (by (with_reducible repeat (first|apply Kd.R_alloc|apply Kd.R_drewN|apply Kd.R_drew));exact a4O.out));(case aS=>exact (below_size au40));(case aL=>have:=aJk.out;omega);intro b0Z mP ho hb hg hat;rw [← aEK.out] at ho;have dT:=am (Kd.S_after (ok:=(fun k_=>k_≠gN)) au44 hg hat);have dU:=am (blk_grown (g:=gN) (o:=.cells #[.slice wA ((rd_T69 l0 aI).f0).length wB,.string ((rd_T69 l0 aI).f1),.string ((rd_T69 l0 aI).f2),.string ((rd_T69 l0 aI).f3)] 69 (0,0)) au77 hg (Kd.R_ne a4O.out iE.out (by decide)));have fH:=am (hb);have kX:=am (ho);clear bS;clear iE;clear HB;clear a4O;have bS:=dT;have iE:=dU;have HB:=fH;have Dh:=kX;clear dT dU fH kX;clear ho hb hg hat;obtain ⟨eT,eU,abN⟩:=Kd.R_slice Dh.out;subst abN;obtain ⟨gX,kP,kQ,kR,gY,kS,kT,kU⟩:=blkc4 iE.out)|((with_reducible refine gate_store (t:=67) (p:=21) rfl ?_);refine store_event (t:=67) (p:=21) (v:=?vo_w16) (w1:=(mP.setCell ⟨gN,0,none⟩ (.slice eT nJ.length eU))) ?hg ?ho ?hn ?hr ?_;(case ho=>rfl);(case hg=>rfl);(case hn=>rfl);(case hr=>first|(go_simp;done)|(go_simp;rfl));intro vC hw;have dT:Aside0 (Kd.S k69 69 vC w.heap.size (fun k_=>some k_≠(.slice eT nJ.length eU:Value).ownBlock∧k_≠gN) u3 aE):=⟨(by rw [hw];exact (by (with_reducible repeat (first|apply Kd.S_alloc|apply Kd.S_drewN|apply Kd.S_drew));exact Kd.S_mono (Kd.S_far (p:=⟨gN,0,none⟩) (Kd.S_mono bS.out (fun k_ hk=>(⟨hk,hk.1⟩:_∧k_≠gN))) (fun _ hk=>hk.2) (.slice eT nJ.length eU)) (fun _ hk=>⟨hk.1.2,hk.1.1⟩)))⟩;have dU:Aside0 (Kd.R Kd.string 9 vC w.heap.size (fun _=>True) (.slice eT nJ.length eU) nJ):=⟨(by rw [hw];exact (by (with_reducible repeat (first|apply Kd.R_alloc|apply Kd.R_drewN|apply Kd.R_drew));exact Kd.R_mono (Kd.R_far (p:=⟨gN,0,none⟩) (Kd.R_types Dh.out iE.out (by decide)) (fun _ hk=>hk.2) (.slice eT nJ.length eU)) (fun _ hk=>trivial)))⟩;have fH:Aside0 (vC.heap[gN]?=some (.cells #[.slice eT nJ.length eU,.string ((rd_T69 l0 aI).f1),.string ((rd_T69 l0 aI).f2),.string ((rd_T69 l0 aI).f3)] 69 (0,0))):=⟨(by rw [hw];exact (by (with_reducible repeat (first|refine blk_drewN ?_ _|refine blk_drew ?_|refine blk_alloc ?_ _));refine blk_put (cs:=#[.slice wA ((rd_T69 l0 aI).f0).length wB,.string ((rd_T69 l0 aI).f1),.string ((rd_T69 l0 aI).f2),.string ((rd_T69 l0 aI).f3)]) ?_ 0 _ rfl;(with_reducible repeat (first|refine blk_drewN ?_ _|refine blk_drew ?_|refine blk_alloc ?_ _));exact iE.out))⟩;have kX:Aside0 (Below w.heap.size w vC):=⟨(by rw [hw];exact au40)⟩;clear hw;clear bS;clear Dh;clear iE;clear HB;have bS:=dT;have Dh:=dU;have iE:=fH;have HB:=kX;clear dT dU fH kX;obtain ⟨tL,tM,tN,tP,tQ,tR,tS,tT⟩:=blkc4 iE.out)|((with_reducible refine gate_builtin (b:=.append) (xs:=#[.tmp 22,.tmp 24]) rfl ?_);at_builtin;refine Kd.S_append k69 (w0:=w) w.heap.size rfl (.tmp 22) (.tmp 24) 38 69 (.agg #[(.slice none 0 0),(.string ⟨#[]⟩),(.string ⟨#[]⟩),(.string ⟨#[]⟩)]) 72 rfl Tryz.underlying38 info69 rfl (by decide) (by omega) u3 aE (⟨nJ,(rd_T69 l0 aI).f1,(rd_T69 l0 aI).f2,(rd_T69 l0 aI).f3⟩:S69) [.slice eT nJ.length eU,.string ((rd_T69 l0 aI).f1),.string ((rd_T69 l0 aI).f2),.string ((rd_T69 l0 aI).f3)] (fun k_=>k_≠gN) (fun k_=>some k_=(.slice eT nJ.length eU:Value).ownBlock) rfl rfl ?aP (fun k_ hk_=>((Kd.R_mono (ok':=fun k_=>((fun k_=>k_≠gN)) k_∧some k_≠(u3:Value).ownBlock) (Kd.R_types (Kd.R_apart' (Dh.out) (Kd.S_typed bS.out) (by decide)) iE.out (by decide)) (fun k_ hk=>⟨hk.2,hk.1.2⟩))).1 k_ hk_.symm) ?aF ?aO ?aB ?aS ?aL ?_;(case aP=>exact k69_mkM _ _ _ (⟨nJ,(rd_T69 l0 aI).f1,(rd_T69 l0 aI).f2,(rd_T69 l0 aI).f3⟩:S69) (Kd.R_mono (Kd.R_tight rfl (Kd.R_mono (ok':=fun k_=>((fun k_=>k_≠gN)) k_∧some k_≠(u3:Value).ownBlock) (Kd.R_types (Kd.R_apart' (Dh.out) (Kd.S_typed bS.out) (by decide)) iE.out (by decide)) (fun k_ hk=>⟨hk.2,hk.1.2⟩))) (fun _ h_=>h_)));(case aB=>exact au40);(case aF=>exact (fun k_ hk=>Kd.freshB (g:=gN) (o:=.cells #[.slice eT nJ.length eU,.string ((rd_T69 l0 aI).f1),.string ((rd_T69 l0 aI).f2),.string ((rd_T69 l0 aI).f3)] 69 (0,0)) au77 k_ hk));(case aO=>exact au43);(case aS=>exact (below_size au40));(case aL=>have:=a7X.out;omega);intro b1A nW ho hb hg hat;rw [← aEL.out] at ho;have dT:=am (blk_grown (g:=gN) (o:=.cells #[.slice eT nJ.length eU,.string ((rd_T69 l0 aI).f1),.string ((rd_T69 l0 aI).f2),.string ((rd_T69 l0 aI).f3)] 69 (0,0)) au77 hg (Kd.S_away bS.out (fun _ hk=>hk.2)));have dU:=am (hb);have fH:=am (ho);clear iE;clear HB;clear bS;clear Dh;have iE:=dT;have HB:=dU;have aEM:=fH;clear dT dU fH;clear ho hb hg hat))
       go_roundg k1
       case measure=>have:=HK1.out;omega
       case rel=>exact ⟨(aAa),(wrap64 (aI+1)),au88,H',⟨by have:=HK1.out;omega⟩,⟨by (with_reducible repeat (first|apply Kd.S_alloc|apply Kd.S_drewN|apply Kd.S_drew));exact Kd.S_mono aEM.out (fun _ hk=>trivial)⟩,⟨by repeat (first|(with_reducible first|exact HB.out|apply below_alloc|apply pw_below_drewN|apply below_drew1|refine below_set ?_ aeQ.out)|exact HB.out)⟩⟩
      · rw [if_neg c7] at H;exact absurd H (by simp)
     · rw [if_neg c6] at H;exact absurd H (by simp)
    · rw [if_neg c5] at H;exact absurd H (by simp)
   · rw [if_neg c4] at H;have c4b0:=df c4;clear c4;obtain rfl:=ojz H;go_wp2;go_ret;exact ⟨_,by first|rfl|(simp [errW_none,errW_some] <;> rfl)|(simp [*,errW_none,errW_some] <;> rfl),by (with_reducible repeat (first|apply Kd.S_alloc|apply Kd.S_drewN|apply Kd.S_drew));exact bS.out,by repeat (first|(with_reducible first|exact HB.out|apply below_alloc|apply pw_below_drewN|apply below_drew1)|exact HB.out)⟩
def spec_l4Copy.f (k:Nat) (aJ:ByteArray) (aH:Int) (bJ:List (S69)) (bM:List (S69)) (aX:ByteArray) (bB:ByteArray) (bE:ByteArray) (bN:Int) (bO:Int) (bQ:Int) (bF:Bool) (bI:Int) (bD:ByteArray) (bL:ByteArray):Option (ByteArray × Int × (List (S69)) × (List (S69)) × ByteArray × ByteArray × ByteArray × Int × Int × Int × Bool × Int × ByteArray × ByteArray):=(spec_l2Own.f k bJ).bind fun iX=>((spec_l2Own.f k bM).bind fun jV=>(some (aJ,aH,iX,jV,aX,bB,bE,bN,bO,bQ,bF,bI,bD,bL)))
theorem spec_l4Copy.mono:∀ a0 a1 a2 a3 a4 a5 a6 a7 a8 a9 iG iH iI iJ k,LeO (spec_l4Copy.f k a0 a1 a2 a3 a4 a5 a6 a7 a8 a9 iG iH iI iJ) (spec_l4Copy.f (k+1) a0 a1 a2 a3 a4 a5 a6 a7 a8 a9 iG iH iI iJ):=by
 intro a0 a1 a2 a3 a4 a5 a6 a7 a8 a9 iG iH iI iJ k;unfold spec_l4Copy.f
 repeat' first
   | (with_reducible exact spec_l2Own.mono _ _)
   | (with_reducible exact LeO.refl _)
   | (with_reducible exact LeO.none _)
   | (with_reducible refine LeO.ite ?_ ?_)
   | (with_reducible refine LeO.bind ?_ (fun _=>?_))
   | exact spec_l2Own.mono _ _
   | exact LeO.none _
   | refine LeO.ite ?_ ?_
   | refine LeO.bind ?_ (fun _=>?_)
set_option maxHeartbeats 8000000 in
set_option maxRecDepth 100000 in
theorem spec_l4Copy.calls (k:Nat) (aJ:ByteArray) (aH:Int) (dD:Option Addr) (dE:Nat) (bJ:List (S69)) (dF:Option Addr) (dG:Nat) (bM:List (S69)) (aX:ByteArray) (bB:ByteArray) (bE:ByteArray) (bN:Int) (bO:Int) (bQ:Int) (bF:Bool) (bI:Int) (bD:ByteArray) (bL:ByteArray) (r1:ByteArray) (r2:Int) (r3:List (S69)) (r4:List (S69)) (r5:ByteArray) (r6:ByteArray) (r7:ByteArray) (r8:Int) (r9:Int) (r10:Int) (r11:Bool) (r12:Int) (r13:ByteArray) (r14:ByteArray) (w:World) (fY:Kd.C k69 w dD bJ.length bJ) (eZ:bJ.length≤dE) (fZ:Kd.C k69 w dF bM.length bM) (fA:bM.length≤dG) (h:spec_l4Copy.f k aJ aH bJ bM aX bB bE bN bO bQ bF bI bD bL=some (r1,r2,r3,r4,r5,r6,r7,r8,r9,r10,r11,r12,r13,r14)) :
  Calls Tryz.prog 14 #[.agg #[.string aJ,.int .i64 aH,.slice dD bJ.length dE,.slice dF bM.length dG,.string aX,.string bB,.string bE,.int .i64 bN,.int .i64 bO,.int .i64 bQ,.bool bF,.int .i64 bI,.string bD,.string bL]] w fun e w'=>∃ IH II:Value,e=.returned (.agg #[.string r1,.int .i64 r2,IH,II,.string r5,.string r6,.string r7,.int .i64 r8,.int .i64 r9,.int .i64 r10,.bool r11,.int .i64 r12,.string r13,.string r14])∧Kd.S k69 69 w' w.heap.size (fun k_=>some k_≠(II:Value).ownBlock) IH r3∧Kd.S k69 69 w' w.heap.size (fun k_=>some k_≠(IH:Value).ownBlock) II r4∧Below w.heap.size w w':=by
 have hu42:=Tryz.underlying42;have gQ:=am fY;have gR:=am eZ;clear fY eZ;have jC:=am fZ;have jD:=am fA;clear fZ fA;have HB:=am (Below.refl w.heap.size w);have H:((spec_l2Own.f k bJ).bind fun iX=>((spec_l2Own.f k bM).bind fun jV=>(some (aJ,aH,iX,jV,aX,bB,bE,bN,bO,bQ,bF,bI,bD,bL))))=some (r1,r2,r3,r4,r5,r6,r7,r8,r9,r10,r11,r12,r13,r14):=h;clear h;replace H:=ob H;obtain ⟨iX,fC,H⟩:=H
 try dsimp only at H
 have A2:=am fC;clear fC;replace H:=ob H;obtain ⟨jV,dL,H⟩:=H
 try dsimp only at H
 have A3:=am dL;clear dL;simp only [Option.some.injEq,Prod.mk.injEq] at H;obtain ⟨rfl,rfl,rfl,rfl,rfl,rfl,rfl,rfl,rfl,rfl,rfl,rfl,rfl,rfl⟩:=H;go_enter Tryz.func14,Tryz.ntmps14;go_wp2_with (first|((with_reducible refine gate_dst (N:=1) rfl ?_);refine box_event ?hg (N:=1) ?hd (cs:=#[.string aJ,.int .i64 aH,.slice dD bJ.length dE,.slice dF bM.length dG,.string aX,.string bB,.string bE,.int .i64 bN,.int .i64 bO,.int .i64 bQ,.bool bF,.int .i64 bI,.string bD,.string bL]) (t:=42) ?hr ?_;(case hd=>rfl);(case hg=>rfl);(case hr=>first|(go_simp;done)|(go_simp;rfl));intro wL hg w4 hbox hb;have oK:=am (hbox);have aXE:=am (bsz hg au46);have a1P:=am (bsz hg au46);replace HB:=am (below_step au46 hb);clear hb hbox hg)|((with_reducible refine gate_dst (N:=2) rfl ?_);refine box_event ?hg (N:=2) ?hd (cs:=#[.string (⟨#[]⟩:ByteArray),.int .i64 0,.slice none 0 0,.slice none 0 0,.string (⟨#[]⟩:ByteArray),.string (⟨#[]⟩:ByteArray),.string (⟨#[]⟩:ByteArray),.int .i64 0,.int .i64 0,.int .i64 0,.bool false,.int .i64 0,.string (⟨#[]⟩:ByteArray),.string (⟨#[]⟩:ByteArray)]) (t:=42) ?hr ?_;(case hd=>rfl);(case hg=>rfl);(case hr=>first|(go_simp;done)|(go_simp;rfl));intro dQ hg w5 hbox hb;have xC:=am (hbox);have aXF:=am (bsz hg au41);have aeM:=am (bsz hg au41);replace HB:=am (below_step au41 hb);have a7K:=am (bne (g:=wL) hg au78);have El:=am (ben (g:=wL) hg au78);replace oK:=am (blk_below (g:=wL) au78 hb);clear hb hbox hg;have aaZ:=a7K.out;have abA:=El.out;obtain ⟨kN,lK,lL,lM,aUK,aUL,aUM,aUN,aUO,aUP,aSz,aSA,aSB,aSC,kO,lN,lO,lP,aUQ,aUR,aUS,aUT,aUU,aUV,aSD,aSE,aSF,aSG⟩:=blkc14 oK.out)|((with_reducible refine gate_callee (f:=24) rfl ?_);refine goesL_ (some 5) rfl rfl Tryz.func24 (by kernel_rfl) rfl #[.slice dD bJ.length dE] rfl au45 ?_;(with_reducible refine (spec_l2Own.calls k _ _ bJ iX _ ?aU ?aV A2.out).mono ?_);(case aU=>repeat (first|exact (Kd.C_below gQ.out HB.out)|(with_reducible refine Kd.C_alloc ?_ _)|(with_reducible refine Kd.C_drewN ?_ _)|(with_reducible refine Kd.C_drew ?_)));(case aV=>exact gR.out);rintro e w8 ⟨b1B,rfl,ho0,hb⟩;refine ⟨_,rfl,?_⟩;have MI:=am (Kd.S_lower ho0 (below_size au18));replace oK:=am (blk_below (g:=wL) au78 hb);replace xC:=am (blk_below (g:=dQ) (by (with_reducible repeat (first|refine blk_drewN ?_ _|refine blk_drew ?_|refine blk_alloc ?_ _));exact xC.out) hb);replace HB:=am (below_step au18 hb);(try clear hb);(try clear ho0);obtain ⟨fW,fL,K8⟩:=Kd.S_slice MI.out;subst K8;obtain ⟨nM,KS,KT,KU,alK,alL,alM,alN,alO,alP,abF,abG,abH,abI,nN,KV,KW,KX,alQ,alR,alS,alT,alU,alV,abJ,abK,abL,abM⟩:=blkc14 oK.out)|((with_reducible refine gate_callee (f:=24) rfl ?_);refine goesL_ (some 9) rfl rfl Tryz.func24 (by kernel_rfl) rfl #[.slice dF bM.length dG] rfl au45 ?_;(with_reducible refine (spec_l2Own.calls k _ _ bM jV _ ?aU ?aV A3.out).mono ?_);(case aU=>exact Kd.C_below jC.out au18);(case aV=>exact jD.out);rintro e dM ⟨b1C,rfl,ho0,hb⟩;refine ⟨_,rfl,?_⟩;have agS:=am (Kd.S_lower (Kd.S_new' ho0 (Kd.S_lt au4)) (below_size au18));replace MI:=am (Kd.S_elder' au4 (Kd.S_base ho0) hb);replace oK:=am (blk_below (g:=wL) (o:=.cells #[.string aJ,.int .i64 aH,.slice fW iX.length fL,.slice dF bM.length dG,.string aX,.string bB,.string bE,.int .i64 bN,.int .i64 bO,.int .i64 bQ,.bool bF,.int .i64 bI,.string bD,.string bL] 42 (0,0)) (by (with_reducible repeat (first|refine blk_drewN ?_ _|refine blk_drew ?_|refine blk_alloc ?_ _));refine blk_put (cs:=#[.string aJ,.int .i64 aH,.slice dD bJ.length dE,.slice dF bM.length dG,.string aX,.string bB,.string bE,.int .i64 bN,.int .i64 bO,.int .i64 bQ,.bool bF,.int .i64 bI,.string bD,.string bL]) ?_ 2 _ rfl;(with_reducible repeat (first|refine blk_drewN ?_ _|refine blk_drew ?_|refine blk_alloc ?_ _));exact oK.out) hb);replace xC:=am (blk_below (g:=dQ) (o:=.cells #[.string (⟨#[]⟩:ByteArray),.int .i64 0,.slice none 0 0,.slice none 0 0,.string (⟨#[]⟩:ByteArray),.string (⟨#[]⟩:ByteArray),.string (⟨#[]⟩:ByteArray),.int .i64 0,.int .i64 0,.int .i64 0,.bool false,.int .i64 0,.string (⟨#[]⟩:ByteArray),.string (⟨#[]⟩:ByteArray)] 42 (0,0)) (by (with_reducible repeat (first|refine blk_drewN ?_ _|refine blk_drew ?_|refine blk_alloc ?_ _));refine blk_far ?_ El.out _;(with_reducible repeat (first|refine blk_drewN ?_ _|refine blk_drew ?_|refine blk_alloc ?_ _));exact xC.out) hb);replace HB:=am (below_step au18 hb);(try clear hb);(try clear ho0);obtain ⟨nK,nL,aJn⟩:=Kd.S_slice agS.out;subst aJn;obtain ⟨lV,nO,nP,nQ,M5,M6,M7,M8,M9,Ma,JI,JJ,JK,JL,lW,nR,nS,nT,Mb,Mc,Md,Me,Mf,Mg,JM,JN,JO,JP⟩:=blkc14 oK.out;obtain ⟨rX,rY,rZ,sB,SC,SD,SE,SF,SG,SH,NJ,NK,NL,NM,sC,sD,sF,sG,SI,SJ,SK,SL,SN,SO,NN,NO,NP,NQ⟩:=blkc14 xC.out));refine bodyPost_ret (results_cell_row rfl _ _ dQ 42 #[.string aJ,.int .i64 aH,.slice fW iX.length fL,.slice nK jV.length nL,.string aX,.string bB,.string bE,.int .i64 bN,.int .i64 bO,.int .i64 bQ,.bool bF,.int .i64 bI,.string bD,.string bL] (0,0) _ rfl (by (with_reducible repeat (first|refine blk_drewN ?_ _|refine blk_drew ?_|refine blk_alloc ?_ _));apply put14;(with_reducible repeat (first|refine blk_drewN ?_ _|refine blk_drew ?_|refine blk_alloc ?_ _));refine blk_far ?_ El.out _;(with_reducible repeat (first|refine blk_drewN ?_ _|refine blk_drew ?_|refine blk_alloc ?_ _));exact xC.out) Tryz.underlying42 rfl (by kernel_rfl)) rfl ?_;exact ⟨_,_,by first|rfl|(simp [errW_none,errW_some] <;> rfl)|(simp [*,errW_none,errW_some] <;> rfl),by (with_reducible repeat (first|apply Kd.S_alloc|apply Kd.S_drewN|apply Kd.S_drew));exact Kd.S_mono (Kd.S_far (p:=⟨dQ,13,none⟩) (Kd.S_far (p:=⟨dQ,12,none⟩) (Kd.S_far (p:=⟨dQ,11,none⟩) (Kd.S_far (p:=⟨dQ,10,none⟩) (Kd.S_far (p:=⟨dQ,9,none⟩) (Kd.S_far (p:=⟨dQ,8,none⟩) (Kd.S_far (p:=⟨dQ,7,none⟩) (Kd.S_far (p:=⟨dQ,6,none⟩) (Kd.S_far (p:=⟨dQ,5,none⟩) (Kd.S_far (p:=⟨dQ,4,none⟩) (Kd.S_far (p:=⟨dQ,3,none⟩) (Kd.S_far (p:=⟨dQ,2,none⟩) (Kd.S_far (p:=⟨dQ,1,none⟩) (Kd.S_far (p:=⟨dQ,0,none⟩) (Kd.S_far (p:=⟨wL,3,none⟩) (Kd.S_types (Kd.S_types MI.out oK.out (by decide)) xC.out (by decide)) (fun _ hk=>hk.1.2) (.slice nK jV.length nL)) (fun _ hk=>hk.2) (.string aJ)) (fun _ hk=>hk.2) (.int .i64 aH)) (fun _ hk=>hk.2) (.slice fW iX.length fL)) (fun _ hk=>hk.2) (.slice nK jV.length nL)) (fun _ hk=>hk.2) (.string aX)) (fun _ hk=>hk.2) (.string bB)) (fun _ hk=>hk.2) (.string bE)) (fun _ hk=>hk.2) (.int .i64 bN)) (fun _ hk=>hk.2) (.int .i64 bO)) (fun _ hk=>hk.2) (.int .i64 bQ)) (fun _ hk=>hk.2) (.bool bF)) (fun _ hk=>hk.2) (.int .i64 bI)) (fun _ hk=>hk.2) (.string bD)) (fun _ hk=>hk.2) (.string bL)) (fun _ hk=>hk.1.1.2),by (with_reducible repeat (first|apply Kd.S_alloc|apply Kd.S_drewN|apply Kd.S_drew));exact Kd.S_mono (Kd.S_far (p:=⟨dQ,13,none⟩) (Kd.S_far (p:=⟨dQ,12,none⟩) (Kd.S_far (p:=⟨dQ,11,none⟩) (Kd.S_far (p:=⟨dQ,10,none⟩) (Kd.S_far (p:=⟨dQ,9,none⟩) (Kd.S_far (p:=⟨dQ,8,none⟩) (Kd.S_far (p:=⟨dQ,7,none⟩) (Kd.S_far (p:=⟨dQ,6,none⟩) (Kd.S_far (p:=⟨dQ,5,none⟩) (Kd.S_far (p:=⟨dQ,4,none⟩) (Kd.S_far (p:=⟨dQ,3,none⟩) (Kd.S_far (p:=⟨dQ,2,none⟩) (Kd.S_far (p:=⟨dQ,1,none⟩) (Kd.S_far (p:=⟨dQ,0,none⟩) (Kd.S_far (p:=⟨wL,3,none⟩) (Kd.S_types (Kd.S_types agS.out oK.out (by decide)) xC.out (by decide)) (fun _ hk=>hk.1.2) (.slice nK jV.length nL)) (fun _ hk=>hk.2) (.string aJ)) (fun _ hk=>hk.2) (.int .i64 aH)) (fun _ hk=>hk.2) (.slice fW iX.length fL)) (fun _ hk=>hk.2) (.slice nK jV.length nL)) (fun _ hk=>hk.2) (.string aX)) (fun _ hk=>hk.2) (.string bB)) (fun _ hk=>hk.2) (.string bE)) (fun _ hk=>hk.2) (.int .i64 bN)) (fun _ hk=>hk.2) (.int .i64 bO)) (fun _ hk=>hk.2) (.int .i64 bQ)) (fun _ hk=>hk.2) (.bool bF)) (fun _ hk=>hk.2) (.int .i64 bI)) (fun _ hk=>hk.2) (.string bD)) (fun _ hk=>hk.2) (.string bL)) (fun _ hk=>hk.1.1.2),by repeat (first|(with_reducible first|exact HB.out|apply below_alloc|apply pw_below_drewN|apply below_drew1|refine below_set ?_ a1P.out|refine below_set ?_ aeM.out)|exact HB.out)⟩
mutual
def spec_DropEntry.j0:Nat→ByteArray→Bool→List (S42)→Option ((List (S42)) × Bool)
 | 0,_,_,_=>none
 | k+1,x1,x16,eC=>if x16=true then (some (([]:List (S42)),false)) else (spec_DropEntry.l0 k x1 0 eC ([]:List (S42)))
def spec_DropEntry.l0:Nat→ByteArray→Int→List (S42)→List (S42)→Option ((List (S42)) × Bool)
 | 0,_,_,_,_=>none
 | k+1,x1,x7,eC,Io=>if x7<(eC.length:Int) then (if 0≤x7 then (if ((rd_T42 eC x7).f0).toList=x1.toList then (spec_DropEntry.l0 k x1 (wrap64 (x7+1)) eC Io) else ((spec_l4Copy.f k ((rd_T42 eC x7).f0) ((rd_T42 eC x7).f1) ((rd_T42 eC x7).f2) ((rd_T42 eC x7).f3) ((rd_T42 eC x7).f4) ((rd_T42 eC x7).f5) ((rd_T42 eC x7).f6) ((rd_T42 eC x7).f7.f0) ((rd_T42 eC x7).f7.f1) ((rd_T42 eC x7).f7.f2) ((rd_T42 eC x7).f7.f3) ((rd_T42 eC x7).f8) ((rd_T42 eC x7).f9) ((rd_T42 eC x7).f10)).bind fun lF=>(if Io.length<733007751850 then (spec_DropEntry.l0 k x1 (wrap64 (x7+1)) eC (Io++[(⟨lF.1,lF.2.1,lF.2.2.1,lF.2.2.2.1,lF.2.2.2.2.1,lF.2.2.2.2.2.1,lF.2.2.2.2.2.2.1,(⟨lF.2.2.2.2.2.2.2.1,lF.2.2.2.2.2.2.2.2.1,lF.2.2.2.2.2.2.2.2.2.1,lF.2.2.2.2.2.2.2.2.2.2.1⟩:S40),lF.2.2.2.2.2.2.2.2.2.2.2.1,lF.2.2.2.2.2.2.2.2.2.2.2.2.1,lF.2.2.2.2.2.2.2.2.2.2.2.2.2⟩:S42)])) else (none)))) else (none)) else (some (Io,true))
end
def spec_DropEntry.f (k:Nat) (aA:List (S42)) (a1:ByteArray):Option ((List (S42)) × Bool):=(spec_l4Good.f k aA).bind fun Sj=>(if Sj=true then ((spec_l4Find.f k aA a1).bind fun Mk=>(spec_DropEntry.j0 k a1 (decide (Mk<0)) aA)) else (spec_DropEntry.j0 k a1 true aA))
theorem spec_DropEntry.mono_l:∀ k,(∀ y0 y1 y2,LeO (spec_DropEntry.j0 k y0 y1 y2) (spec_DropEntry.j0 (k+1) y0 y1 y2))∧(∀ y0 y1 y2 y3,LeO (spec_DropEntry.l0 k y0 y1 y2 y3) (spec_DropEntry.l0 (k+1) y0 y1 y2 y3))
 | 0=>⟨fun _ _ _ r h=>by simp [spec_DropEntry.j0] at h,fun _ _ _ _ r h=>by simp [spec_DropEntry.l0] at h⟩
 | k+1=>by
  obtain ⟨ih0,ih1⟩:=spec_DropEntry.mono_l k;refine ⟨?_,?_⟩
  ·
   intro y0 y1 y2;unfold spec_DropEntry.j0
   repeat' first
   | (with_reducible exact ih0 _ _ _)
   | (with_reducible exact ih1 _ _ _ _)
   | (with_reducible exact spec_l4Copy.mono _ _ _ _ _ _ _ _ _ _ _ _ _ _ _)
   | (with_reducible exact spec_l4Find.mono _ _ _)
   | (with_reducible exact spec_l4Good.mono _ _)
   | (with_reducible exact LeO.refl _)
   | (with_reducible exact LeO.none _)
   | (with_reducible refine LeO.ite ?_ ?_)
   | (with_reducible refine LeO.bind ?_ (fun _=>?_))
   | exact ih0 _ _ _
   | exact ih1 _ _ _ _
   | exact spec_l4Copy.mono _ _ _ _ _ _ _ _ _ _ _ _ _ _ _
   | exact spec_l4Find.mono _ _ _
   | exact spec_l4Good.mono _ _
   | exact LeO.none _
   | refine LeO.ite ?_ ?_
   | refine LeO.bind ?_ (fun _=>?_)
  ·
   intro y0 y1 y2 y3;unfold spec_DropEntry.l0
   repeat' first
   | (with_reducible exact ih0 _ _ _)
   | (with_reducible exact ih1 _ _ _ _)
   | (with_reducible exact spec_l4Copy.mono _ _ _ _ _ _ _ _ _ _ _ _ _ _ _)
   | (with_reducible exact spec_l4Find.mono _ _ _)
   | (with_reducible exact spec_l4Good.mono _ _)
   | (with_reducible exact LeO.refl _)
   | (with_reducible exact LeO.none _)
   | (with_reducible refine LeO.ite ?_ ?_)
   | (with_reducible refine LeO.bind ?_ (fun _=>?_))
   | exact ih0 _ _ _
   | exact ih1 _ _ _ _
   | exact spec_l4Copy.mono _ _ _ _ _ _ _ _ _ _ _ _ _ _ _
   | exact spec_l4Find.mono _ _ _
   | exact spec_l4Good.mono _ _
   | exact LeO.none _
   | refine LeO.ite ?_ ?_
   | refine LeO.bind ?_ (fun _=>?_)
theorem spec_DropEntry.mono:∀ a0 a1 k,LeO (spec_DropEntry.f k a0 a1) (spec_DropEntry.f (k+1) a0 a1):=by
 intro a0 a1 k;obtain ⟨ih0,ih1⟩:=spec_DropEntry.mono_l k;unfold spec_DropEntry.f
 repeat' first
   | (with_reducible exact ih0 _ _ _)
   | (with_reducible exact ih1 _ _ _ _)
   | (with_reducible exact spec_l4Copy.mono _ _ _ _ _ _ _ _ _ _ _ _ _ _ _)
   | (with_reducible exact spec_l4Find.mono _ _ _)
   | (with_reducible exact spec_l4Good.mono _ _)
   | (with_reducible exact LeO.refl _)
   | (with_reducible exact LeO.none _)
   | (with_reducible refine LeO.ite ?_ ?_)
   | (with_reducible refine LeO.bind ?_ (fun _=>?_))
   | exact ih0 _ _ _
   | exact ih1 _ _ _ _
   | exact spec_l4Copy.mono _ _ _ _ _ _ _ _ _ _ _ _ _ _ _
   | exact spec_l4Find.mono _ _ _
   | exact spec_l4Good.mono _ _
   | exact LeO.none _
   | refine LeO.ite ?_ ?_
   | refine LeO.bind ?_ (fun _=>?_)
def spec_DropEntry.T8:Bool × List (List Nat × List Nat):=(true,[([],[]),([0],[0]),([],[]),([2],[2]),([],[]),([3,4],[3,4]),([5],[5]),([6],[6]),([7],[7]),([1,8,7],[1,8]),([0,1,2,3,4,5,6,7,8,9],[]),([10,9,9,0,1,2,3,4,5,6,7,8,9],[9,10])])
def spec_DropEntry.B8:List Nat:=[0,1,0,4,0,28,60,124,252,511,1023,2047]
theorem spec_DropEntry.tab8:rtab .any (opsOf Tryz.f5 8)=spec_DropEntry.T8:=by kernel_rfl
theorem spec_DropEntry.bits8:waitsOk spec_DropEntry.T8.2 spec_DropEntry.B8=true:=by kernel_rfl
set_option maxHeartbeats 8000000 in
set_option maxRecDepth 100000 in
theorem spec_DropEntry.calls (k:Nat) (bH:Option Addr) (bA:Nat) (aA:List (S42)) (a1:ByteArray) (r1:List (S42)) (r2:Bool) (w:World) (cE:Kd.C k42 w bH aA.length aA) (cA:aA.length≤bA) (h:spec_DropEntry.f k aA a1=some (r1,r2)) :
  Calls Tryz.prog 5 #[.agg #[.slice bH aA.length bA],.string a1] w fun e w'=>∃ dS:Value,e=.returned (.tuple #[.agg #[dS],.bool r2])∧Kd.R k42 42 w' w.heap.size (fun _=>True) dS r1∧Below w.heap.size w w':=by
 have hu28:=Tryz.underlying28;have hu42:=Tryz.underlying42;have cM:=am cE;have eO:=am cA;clear cE cA;have HB:=am (Below.refl w.heap.size w);have H:((spec_l4Good.f k aA).bind fun Sj=>(if Sj=true then ((spec_l4Find.f k aA a1).bind fun Mk=>(spec_DropEntry.j0 k a1 (decide (Mk<0)) aA)) else (spec_DropEntry.j0 k a1 true aA)))=some (r1,r2):=h;clear h;have Ot:=am H;clear H;go_enter Tryz.func5,Tryz.ntmps5
 go_upto_region 1 with (first|((with_reducible refine gate_dst (N:=2) rfl ?_);refine box_event ?hg (N:=2) ?hd (cs:=#[.slice bH aA.length bA]) (t:=28) ?hr ?_;(case hd=>rfl);(case hg=>rfl);(case hr=>first|(go_simp;done)|(go_simp;rfl));intro gO hg w4 hbox hb;have dC:=am (hbox);have aXG:=am (bsz hg au46);have qI:=am (bsz hg au46);replace HB:=am (below_step au46 hb);clear hb hbox hg)|((with_reducible refine gate_dst (N:=4) rfl ?_);refine box_event ?hg (N:=4) ?hd (cs:=#[.slice none 0 0]) (t:=28) ?hr ?_;(case hd=>rfl);(case hg=>rfl);(case hr=>first|(go_simp;done)|(go_simp;rfl));intro kL hg w5 hbox hb;have eW:=am (hbox);have aXH:=am (bsz hg au42);have rP:=am (bsz hg au42);replace HB:=am (below_step au42 hb);have oI:=am (bne (g:=gO) hg au79);have oJ:=am (ben (g:=gO) hg au79);replace dC:=am (blk_below (g:=gO) au79 hb);clear hb hbox hg))
 (try simp only [Act.put,List.setIfInBounds_toArray,List.set_cons_zero,List.set_cons_succ])
 go_cut [16] (fun v16 wc=>∃ (kq:Nat) (Nn:Bool),v16=.bool Nn∧Aside0 (spec_DropEntry.j0 kq a1 Nn aA=some (r1,r2))∧Aside0 (kq≤k)∧Aside0 (wc.heap[gO]?=some (.cells #[(.slice bH aA.length bA)] 28 (0,0)))∧Aside0 (wc.heap[kL]?=some (.cells #[(.slice none 0 0)] 28 (0,0)))∧Aside0 (Below w.heap.size w wc))
 case first =>
  have H:=Ot.out;clear Ot;replace H:=ob H;obtain ⟨Sj,iV,H⟩:=H
  try dsimp only at H
  have A6:=am iV;clear iV;by_cases c7:Sj=true
  ·
   subst c7;replace H:=(if_pos rfl).symm.trans H;replace H:=ob H;obtain ⟨Mk,iW,H⟩:=H
   try dsimp only at H
   have A8:=am iW;clear iW;have H':=am H;clear H;have avE:=oI.out;have avF:=oJ.out;have nM:w5.cell? ⟨gO,0,none⟩=some (.slice bH aA.length bA):=(blk_cell dC.out 0).trans rfl;have nN:=blk_frozen dC.out 0;go_wp2_with (first|((with_reducible refine gate_callee (f:=12) rfl ?_);refine goesL_ (some 9) rfl rfl Tryz.func12 (by kernel_rfl) rfl #[.agg #[.slice bH aA.length bA]] rfl au45 ?_;(with_reducible refine (spec_l4Good.calls k _ _ aA true _ ?aU ?aV A6.out).mono ?_);(case aU=>repeat (first|exact (Kd.C_below cM.out HB.out)|(with_reducible refine Kd.C_alloc ?_ _)|(with_reducible refine Kd.C_drewN ?_ _)|(with_reducible refine Kd.C_drew ?_)));(case aV=>exact eO.out);rintro e dM ⟨rfl,hb⟩;refine ⟨_,rfl,?_⟩;replace dC:=am (blk_below (g:=gO) au79 hb);replace eW:=am (blk_below (g:=kL) au80 hb);replace HB:=am (below_step au19 hb);(try clear hb);have gZ:dM.cell? ⟨gO,0,none⟩=some (.slice bH aA.length bA):=(blk_cell dC.out 0).trans rfl;have hD:=blk_frozen dC.out 0)|(go_at_call 13;(with_reducible refine (spec_l4Find.calls k _ _ aA a1 Mk _ ?aU ?aV A8.out).mono ?_);(case aU=>repeat (first|exact (Kd.C_below cM.out HB.out)|(with_reducible refine Kd.C_alloc ?_ _)|(with_reducible refine Kd.C_drewN ?_ _)|(with_reducible refine Kd.C_drew ?_)));(case aV=>exact eO.out);rintro e mP ⟨rfl,hb⟩;replace dC:=am (blk_below (g:=gO) au79 hb);replace eW:=am (blk_below (g:=kL) au80 hb);replace HB:=am (below_step au19 hb);(try clear hb)));go_meet
   case rel=>exact ⟨_,(decide (Mk<0)),au88,H',⟨by first|omega|exact Nat.le_refl _⟩,⟨by (with_reducible repeat (first|refine blk_drewN ?_ _|refine blk_drew ?_|refine blk_alloc ?_ _));exact dC.out⟩,⟨by (with_reducible repeat (first|refine blk_drewN ?_ _|refine blk_drew ?_|refine blk_alloc ?_ _));exact eW.out⟩,⟨by repeat (first|(with_reducible first|exact HB.out|apply below_alloc|apply pw_below_drewN|apply below_drew1|refine below_set ?_ qI.out|refine below_set ?_ rP.out)|exact HB.out)⟩⟩
  ·
   replace c7:=Bool.eq_false_iff.mpr c7;subst c7;replace H:=(if_neg (show ¬ (false=true) by decide)).symm.trans H;have H':=am H;clear H;have aEm:=oI.out;have aEn:=oJ.out;have gX:w5.cell? ⟨gO,0,none⟩=some (.slice bH aA.length bA):=(blk_cell dC.out 0).trans rfl;have gY:=blk_frozen dC.out 0;go_wp2_with (first|((with_reducible refine gate_callee (f:=12) rfl ?_);refine goesL_ (some 9) rfl rfl Tryz.func12 (by kernel_rfl) rfl #[.agg #[.slice bH aA.length bA]] rfl au45 ?_;(with_reducible refine (spec_l4Good.calls k _ _ aA false _ ?aU ?aV A6.out).mono ?_);(case aU=>repeat (first|exact (Kd.C_below cM.out HB.out)|(with_reducible refine Kd.C_alloc ?_ _)|(with_reducible refine Kd.C_drewN ?_ _)|(with_reducible refine Kd.C_drew ?_)));(case aV=>exact eO.out);rintro e vC ⟨rfl,hb⟩;refine ⟨_,rfl,?_⟩;replace dC:=am (blk_below (g:=gO) au79 hb);replace eW:=am (blk_below (g:=kL) au80 hb);replace HB:=am (below_step au19 hb);(try clear hb)));go_meet
   case rel=>exact ⟨_,(true),au88,H',⟨by first|omega|exact Nat.le_refl _⟩,⟨by (with_reducible repeat (first|refine blk_drewN ?_ _|refine blk_drew ?_|refine blk_alloc ?_ _));exact dC.out⟩,⟨by (with_reducible repeat (first|refine blk_drewN ?_ _|refine blk_drew ?_|refine blk_alloc ?_ _));exact eW.out⟩,⟨by repeat (first|(with_reducible first|exact HB.out|apply below_alloc|apply pw_below_drewN|apply below_drew1|refine below_set ?_ qI.out|refine below_set ?_ rP.out)|exact HB.out)⟩⟩
 case rest =>
  clear Ot
  try clear c1
  try clear p2
  try clear c5
  try clear c7
  try clear c9
  try clear eA
  try clear dB
  try clear nM nN
  try clear gZ hD
  try clear gX gY
  obtain ⟨kq,Nn,rfl,HA,Ou,dC,eW,HB⟩:=hcut
  cases kq with
  | zero=>exact absurd HA.out (by simp [spec_DropEntry.j0])
  | succ kj2 =>
   have H:=HA.out;clear HA;simp only [spec_DropEntry.j0] at H;by_cases mO:Nn=true
   · subst mO;replace H:=(if_pos rfl).symm.trans H;simp only [Option.some.injEq,Prod.mk.injEq] at H;obtain ⟨rfl,rfl⟩:=H;have aXI:=oJ.out;have aXJ:=oI.out;have tJ:wc.cell? ⟨kL,0,none⟩=some (.slice none 0 0):=(blk_cell eW.out 0).trans rfl;have tK:=blk_frozen eW.out 0;go_wp2;refine bodyPost_ret (results_ct rfl _ _ kL 28 #[.slice none 0 0] (0,0) _ rfl au1 Tryz.underlying28 rfl (by kernel_rfl)) rfl ?_;exact ⟨_,by first|rfl|(simp [errW_none,errW_some] <;> rfl)|(simp [*,errW_none,errW_some] <;> rfl),by first|exact Kd.R_nil _ _ _ _ _|exact Kd.N_nil _ _ _ _ _|exact Kd.V_nil _ _ _ _ _|exact Kd.Q_nil _ _ _ _ _|exact Kd.S_nil _ _ _ _ _,by repeat (first|(with_reducible first|exact HB.out|apply below_alloc|apply pw_below_drewN|apply below_drew1|refine below_set ?_ qI.out|refine below_set ?_ rP.out)|exact HB.out)⟩
   ·
    replace mO:=Bool.eq_false_iff.mpr mO;subst mO;replace H:=(if_neg (show ¬ (false=true) by decide)).symm.trans H;have H':=am H;clear H;go_wp2_with (first|((with_reducible refine gate_dst (N:=6) rfl ?_);refine box_event ?hg (N:=6) ?hd (cs:=#[.slice none 0 0]) (t:=28) ?hr ?_;(case hd=>rfl);(case hg=>rfl);(case hr=>first|(go_simp;done)|(go_simp;rfl));intro xD hg Dp hbox hb;have fD:=am (hbox);have aXK:=am (bsz hg au19);have JX:=am (bsz hg au19);replace HB:=am (below_step au19 hb);have lR:=am (bne (g:=gO) hg au79);have rE:=am (ben (g:=gO) hg au79);replace dC:=am (blk_below (g:=gO) au79 hb);have rF:=am (bne (g:=kL) hg au80);have Em:=am (ben (g:=kL) hg au80);replace eW:=am (blk_below (g:=kL) au80 hb);clear hb hbox hg;have aDH:=rE.out;have aDI:=lR.out;have aXL:=Em.out;have aXM:=rF.out;have LU:Dp.cell? ⟨xD,0,none⟩=some (.slice none 0 0):=(blk_cell fD.out 0).trans rfl;have LV:=blk_frozen fD.out 0))
    go_loopg [7] kj2 (fun kq v7 w'=>∃ (bU:Int) (fV:List (S42)) (jW:Value),v7=.int .i64 bU∧Aside0 (spec_DropEntry.l0 kq a1 bU aA fV=some (r1,r2))∧Aside0 (kq≤kj2)∧Aside0 (Kd.R k42 42 w' w.heap.size (fun _=>True) jW fV)∧Aside0 (w'.heap[gO]?=some (.cells #[(.slice bH aA.length bA)] 28 (0,0)))∧Aside0 (w'.heap[kL]?=some (.cells #[(.slice none 0 0)] 28 (0,0)))∧Aside0 (w'.heap[xD]?=some (.cells #[jW] 28 (0,0)))∧Aside0 (Below w.heap.size w w'))
    case atStart=>exact ⟨(0),(([]:List (S42))),(.slice none 0 0),au88,H',⟨Nat.le_refl _⟩,⟨by first|exact Kd.R_nil _ _ _ _ _|exact Kd.N_nil _ _ _ _ _|exact Kd.V_nil _ _ _ _ _|exact Kd.Q_nil _ _ _ _ _|exact Kd.S_nil _ _ _ _ _⟩,⟨by (with_reducible repeat (first|refine blk_drewN ?_ _|refine blk_drew ?_|refine blk_alloc ?_ _));refine blk_far ?_ lR.out _;(with_reducible repeat (first|refine blk_drewN ?_ _|refine blk_drew ?_|refine blk_alloc ?_ _));exact dC.out⟩,⟨by (with_reducible repeat (first|refine blk_drewN ?_ _|refine blk_drew ?_|refine blk_alloc ?_ _));refine blk_far ?_ rF.out _;(with_reducible repeat (first|refine blk_drewN ?_ _|refine blk_drew ?_|refine blk_alloc ?_ _));exact eW.out⟩,⟨by (with_reducible repeat (first|refine blk_drewN ?_ _|refine blk_drew ?_|refine blk_alloc ?_ _));refine blk_put (cs:=#[.slice none 0 0]) ?_ 0 _ rfl;(with_reducible repeat (first|refine blk_drewN ?_ _|refine blk_drew ?_|refine blk_alloc ?_ _));exact fD.out⟩,⟨by repeat (first|(with_reducible first|exact HB.out|apply below_alloc|apply pw_below_drewN|apply below_drew1|refine below_set ?_ qI.out|refine below_set ?_ rP.out|refine below_set ?_ JX.out)|exact HB.out)⟩⟩
    case round =>
     clear H'
     try clear c1
     try clear c2
     try clear p2
     try clear c5
     try clear c7
     try clear c9
     try clear eA
     try clear dB
     try clear mO
     try clear jB
     try clear rN
     try clear oV
     try clear nM nN
     try clear gZ hD
     try clear gX gY
     try clear tJ tK
     try clear LU LV
     try clear p2
     obtain ⟨bU,fV,jW,rfl,HA,HK2,eM,dC,eW,fD,HB⟩:=hrel
     cases gk with
     | zero=>exact absurd HA.out (by simp [spec_DropEntry.l0])
     | succ k2 =>
      have H:=HA.out;clear HA;simp only [spec_DropEntry.l0] at H;by_cases iL:bU<(aA.length:Int)
      ·
       rw [if_pos iL] at H;have c24b0:=dt iL;clear iL;by_cases oW:0≤bU
       ·
        rw [if_pos oW] at H;have c25b0:=dt oW;clear oW;by_cases mZ:((rd_T42 aA bU).f0).toList=a1.toList
        ·
         rw [if_pos mZ] at H;have c26b0:=qt mZ;have c26b1:=bf mZ;clear mZ;have H':=am H;clear H;have aXN:=oI.out;have aXO:=oJ.out;have aXP:=lR.out;have aXQ:=rE.out;have LW:wr.cell? ⟨gO,0,none⟩=some (.slice bH aA.length bA):=(blk_cell dC.out 0).trans rfl;have LX:=blk_frozen dC.out 0;have JV:0≤(bU:Int):=od au87;have JW:bU<(aA.length:Int):=od au87;obtain ⟨dR,aAb,aAc,aAd,aAe,adW,AX,AY,AZ,B0,B2,B3,B9,Ba,Bb,Bc,wC,wD,wE,wF,Bd,Be,Bf,Bg⟩:=at_T42 cM.out bU JV JW
         cases adW
         replace AX:=bcl HB.out AX;replace AY:=bcl HB.out AY;replace AZ:=bcl HB.out AZ;replace B0:=bcl HB.out B0;replace B2:=bcl HB.out B2;replace B3:=bcl HB.out B3;replace B9:=bcl HB.out B9;replace Ba:=bcl HB.out Ba;replace Bb:=bcl HB.out Bb;replace Bc:=bcl HB.out Bc;replace wC:=bcl HB.out wC;replace wD:=bcl HB.out wD;replace wE:=bcl HB.out wE;replace wF:=bcl HB.out wF;have aoA:=am Be;have aoB:=am Bd;clear Be Bd;have aoC:=am Bg;have aoD:=am Bf;clear Bg Bf;replace JV:=eq_true JV;replace JW:=eq_true JW;go_wp2
         go_roundg k2
         case measure=>have:=Ou.out;have:=HK2.out;omega
         case rel=>exact ⟨(wrap64 (bU+1)),(fV),(jW),au88,H',⟨by have:=Ou.out;have:=HK2.out;omega⟩,⟨by (with_reducible repeat (first|apply Kd.R_alloc|apply Kd.R_drewN|apply Kd.R_drew));exact eM.out⟩,⟨by (with_reducible repeat (first|refine blk_drewN ?_ _|refine blk_drew ?_|refine blk_alloc ?_ _));exact dC.out⟩,⟨by (with_reducible repeat (first|refine blk_drewN ?_ _|refine blk_drew ?_|refine blk_alloc ?_ _));exact eW.out⟩,⟨by (with_reducible repeat (first|refine blk_drewN ?_ _|refine blk_drew ?_|refine blk_alloc ?_ _));exact fD.out⟩,⟨by repeat (first|(with_reducible first|exact HB.out|apply below_alloc|apply pw_below_drewN|apply below_drew1|refine below_set ?_ qI.out|refine below_set ?_ rP.out|refine below_set ?_ JX.out)|exact HB.out)⟩⟩
        ·
         rw [if_neg mZ] at H;have c26b0:=qf mZ;have c26b1:=bu mZ;replace H:=ob H;obtain ⟨⟨Ml,Mm,Mn,Mo,Mp,Mq,Mr,Ms,Mt,Mu,Mv,Mw,Mx,My⟩,aAf,H⟩:=H;replace H:(if fV.length<733007751850 then (spec_DropEntry.l0 k2 a1 (wrap64 (bU+1)) aA (fV++[(⟨Ml,Mm,Mn,Mo,Mp,Mq,Mr,(⟨Ms,Mt,Mu,Mv⟩:S40),Mw,Mx,My⟩:S42)])) else (none))=some (r1,r2):=H;have dL:=am aAf;clear aAf;by_cases wY:fV.length<733007751850
         ·
          rw [if_pos wY] at H;have aEN:=am wY;clear wY
          obtain ⟨a4P,KL⟩:∃ y_:List (S42),y_=(fV++[(⟨Ml,Mm,Mn,Mo,Mp,Mq,Mr,(⟨Ms,Mt,Mu,Mv⟩:S40),Mw,Mx,My⟩:S42)]):=⟨_,rfl⟩
          replace H:(spec_DropEntry.l0 k2 a1 (wrap64 (bU+1)) aA a4P)=some (r1,r2):=by first|(rw [KL];with_reducible exact H)|(have H2_:=(Option.bind_some _ _).symm.trans H;rw [KL];with_reducible exact H2_)|(have H2_:=(Option.bind_some _ _).symm.trans H;with_reducible exact H2_)|with_reducible exact H|(rw [KL];exact H)|exact H
          have aEO:=am KL;clear KL;have H':=am H;clear H;have aDJ:=oI.out;have aDK:=oJ.out;have aDO:=lR.out;have aDP:=rE.out;have FJ:wr.cell? ⟨gO,0,none⟩=some (.slice bH aA.length bA):=(blk_cell dC.out 0).trans rfl;have FL:=blk_frozen dC.out 0;have JV:0≤(bU:Int):=od au87;have JW:bU<(aA.length:Int):=od au87;obtain ⟨dR,aAb,aAc,aAd,aAe,adW,AX,AY,AZ,B0,B2,B3,B9,Ba,Bb,Bc,wC,wD,wE,wF,Bd,Be,Bf,Bg⟩:=at_T42 cM.out bU JV JW
          cases adW
          replace AX:=bcl HB.out AX;replace AY:=bcl HB.out AY;replace AZ:=bcl HB.out AZ;replace B0:=bcl HB.out B0;replace B2:=bcl HB.out B2;replace B3:=bcl HB.out B3;replace B9:=bcl HB.out B9;replace Ba:=bcl HB.out Ba;replace Bb:=bcl HB.out Bb;replace Bc:=bcl HB.out Bc;replace wC:=bcl HB.out wC;replace wD:=bcl HB.out wD;replace wE:=bcl HB.out wE;replace wF:=bcl HB.out wF;have aoA:=am Be;have aoB:=am Bd;clear Be Bd;have aoC:=am Bg;have aoD:=am Bf;clear Bg Bf;replace JV:=eq_true JV;replace JW:=eq_true JW
          try go_wp2
          replace eM:=am (Kd.R_drew eM.out);replace dC:=am (blk_drew dC.out);replace eW:=am (blk_drew eW.out);replace fD:=am (blk_drew fD.out);replace HB:=am (below_drew1 HB.out);have adX:0≤(bU:Int):=od au87;have adY:bU<(aA.length:Int):=od au87;obtain ⟨aEP,a7L,a7M,a7N,a7O,aJo,Ip,Iq,Ir,It,Iu,Iv,Iw,Ix,Iy,Iz,Di,Dj,Dk,Dl,a1C,a1D,a1E,a1F⟩:=at_T42 cM.out bU adX adY;have wG:=Dl;have wH:=Dk;have wI:=Dj;have wJ:=Di;have Bh:=Iz;have Bi:=Iy;have Bj:=Ix;have Bl:=Iw;have Bm:=Iv;have Bn:=Iu;have Bo:=It;have Bp:=Ir;have Bq:=Iq;have Br:=Ip
          obtain rfl:dR=aEP:=(by injection aJo)
          replace Ip:=bcl HB.out Ip;replace Iq:=bcl HB.out Iq;replace Ir:=bcl HB.out Ir;replace It:=bcl HB.out It;replace Iu:=bcl HB.out Iu;replace Iv:=bcl HB.out Iv;replace Iw:=bcl HB.out Iw;replace Ix:=bcl HB.out Ix;replace Iy:=bcl HB.out Iy;replace Iz:=bcl HB.out Iz;replace Di:=bcl HB.out Di;replace Dj:=bcl HB.out Dj;replace Dk:=bcl HB.out Dk;replace Dl:=bcl HB.out Dl;have a1G:=am a1D;have aoE:=am a1C;clear a1D a1C;have a1H:=am a1F;have aoF:=am a1E;clear a1F a1E;replace adX:=eq_true adX;replace adY:=eq_true adY;refine start_ (n:=12) (S:=fun w'=>w'.cell? ⟨xD,0,none⟩=some (jW)∧w'.cell? ⟨gO,0,none⟩=some (.slice (some dR) aA.length bA)∧w'.cell? (dR.add ((bU).toNat*14))=some (.string ((rd_T42 aA bU).f0))∧w'.cell? ⟨(dR.add ((bU).toNat*14)).block,(dR.add ((bU).toNat*14)).off+1,none⟩=some (.int .i64 ((rd_T42 aA bU).f1))∧w'.cell? ⟨(dR.add ((bU).toNat*14)).block,(dR.add ((bU).toNat*14)).off+2,none⟩=some (.slice a7L ((rd_T42 aA bU).f2).length a7M)∧w'.cell? ⟨(dR.add ((bU).toNat*14)).block,(dR.add ((bU).toNat*14)).off+3,none⟩=some (.slice a7N ((rd_T42 aA bU).f3).length a7O)∧w'.cell? ⟨(dR.add ((bU).toNat*14)).block,(dR.add ((bU).toNat*14)).off+4,none⟩=some (.string ((rd_T42 aA bU).f4))∧w'.cell? ⟨(dR.add ((bU).toNat*14)).block,(dR.add ((bU).toNat*14)).off+5,none⟩=some (.string ((rd_T42 aA bU).f5))∧w'.cell? ⟨(dR.add ((bU).toNat*14)).block,(dR.add ((bU).toNat*14)).off+6,none⟩=some (.string ((rd_T42 aA bU).f6))∧w'.cell? ⟨(dR.add ((bU).toNat*14)).block,(dR.add ((bU).toNat*14)).off+7,none⟩=some (.int .i64 ((rd_T42 aA bU).f7.f0))∧w'.cell? ⟨(dR.add ((bU).toNat*14)).block,(dR.add ((bU).toNat*14)).off+8,none⟩=some (.int .i64 ((rd_T42 aA bU).f7.f1))∧w'.cell? ⟨(dR.add ((bU).toNat*14)).block,(dR.add ((bU).toNat*14)).off+9,none⟩=some (.int .i64 ((rd_T42 aA bU).f7.f2))∧w'.cell? ⟨(dR.add ((bU).toNat*14)).block,(dR.add ((bU).toNat*14)).off+10,none⟩=some (.bool ((rd_T42 aA bU).f7.f3))∧w'.cell? ⟨(dR.add ((bU).toNat*14)).block,(dR.add ((bU).toNat*14)).off+11,none⟩=some (.int .i64 ((rd_T42 aA bU).f8))∧w'.cell? ⟨(dR.add ((bU).toNat*14)).block,(dR.add ((bU).toNat*14)).off+12,none⟩=some (.string ((rd_T42 aA bU).f9))∧w'.cell? ⟨(dR.add ((bU).toNat*14)).block,(dR.add ((bU).toNat*14)).off+13,none⟩=some (.string ((rd_T42 aA bU).f10))) (ds:=[11]) #[false,false,false,false,false,false,false,false,false,false,false,false] (by kernel_rfl) rfl rfl ⟨(blk_cell fD.out 0).trans rfl,(blk_cell dC.out 0).trans rfl,(bcl HB.out Br),(bcl HB.out Bq),(bcl HB.out Bp),(bcl HB.out Bo),(bcl HB.out Bn),(bcl HB.out Bm),(bcl HB.out Bl),(bcl HB.out Bj),(bcl HB.out Bi),(bcl HB.out Bh),(bcl HB.out wJ),(bcl HB.out wI),(bcl HB.out wH),(bcl HB.out wG)⟩ (fun hHeld=>?_);refine with_tabW spec_DropEntry.tab8 spec_DropEntry.bits8 (fun HT_ HW_=>?_);generalize wr.drew=w35 at eM dC eW fD HB a1G a1H Ip Iq Di Dj Dk Dl Ir It Iu Iv Iw Ix Iy Iz hHeld ⊢;refine pu_ 0 (some 34) #[true,false,false,false,false,false,false,false,false,false,false,false] HT_.out ?_;refine pu_ 2 (some 36) #[true,false,true,false,false,false,false,false,false,false,false,false] HT_.out ?_;refine pu_ 4 (some 38) #[true,false,true,false,true,false,false,false,false,false,false,false] HT_.out ?_;refine ta7_ 1 (some 35) #[true,true,true,false,true,false,false,false,false,false,false,false] HT_.out HW_.out hHeld ?_;refine ta7_ 3 (some 37) #[true,true,true,true,true,false,false,false,false,false,false,false] HT_.out HW_.out hHeld ?_;refine pu_ 5 (some 39) #[true,true,true,true,true,true,false,false,false,false,false,false] HT_.out ?_;refine ta7_ 6 (some 40) #[true,true,true,true,true,true,true,false,false,false,false,false] HT_.out HW_.out hHeld ?_;refine on_ 7 (some 41) #[true,true,true,true,true,true,true,true,false,false,false,false] HT_.out (fun K hK=>?_);refine gs_ Tryz.func14 #[.agg #[.string ((rd_T42 aA bU).f0),.int .i64 ((rd_T42 aA bU).f1),.slice a7L ((rd_T42 aA bU).f2).length a7M,.slice a7N ((rd_T42 aA bU).f3).length a7O,.string ((rd_T42 aA bU).f4),.string ((rd_T42 aA bU).f5),.string ((rd_T42 aA bU).f6),.int .i64 ((rd_T42 aA bU).f7.f0),.int .i64 ((rd_T42 aA bU).f7.f1),.int .i64 ((rd_T42 aA bU).f7.f2),.bool ((rd_T42 aA bU).f7.f3),.int .i64 ((rd_T42 aA bU).f8),.string ((rd_T42 aA bU).f9),.string ((rd_T42 aA bU).f10)]] ?_
          with_reducible refine (spec_l4Copy.calls k2 ((rd_T42 aA bU).f0) ((rd_T42 aA bU).f1) _ _ ((rd_T42 aA bU).f2) _ _ ((rd_T42 aA bU).f3) ((rd_T42 aA bU).f4) ((rd_T42 aA bU).f5) ((rd_T42 aA bU).f6) ((rd_T42 aA bU).f7.f0) ((rd_T42 aA bU).f7.f1) ((rd_T42 aA bU).f7.f2) ((rd_T42 aA bU).f7.f3) ((rd_T42 aA bU).f8) ((rd_T42 aA bU).f9) ((rd_T42 aA bU).f10) Ml Mm Mn Mo Mp Mq Mr Ms Mt Mu Mv Mw Mx My _ ?aU ?aV ?dY ?dZ dL.out).mono ?_
          (case aU=>repeat (first|exact (Kd.C_below a1G.out HB.out)|(with_reducible refine Kd.C_alloc ?_ _)|(with_reducible refine Kd.C_drewN ?_ _)|(with_reducible refine Kd.C_drew ?_)))
          (case aV=>exact aoE.out)
          (case dY=>repeat (first|exact (Kd.C_below a1H.out HB.out)|(with_reducible refine Kd.C_alloc ?_ _)|(with_reducible refine Kd.C_drewN ?_ _)|(with_reducible refine Kd.C_drew ?_)))
          (case dZ=>exact aoF.out)
          rintro e w36 ⟨b1D,b1E,rfl,ho0,ho1,hb⟩;refine ⟨_,rfl,?_⟩;replace eM:=am (Kd.R_mono (Kd.R_told (Kd.R_told (Kd.R_old (by (with_reducible repeat (first|apply Kd.R_alloc|apply Kd.R_drewN|apply Kd.R_drew));exact eM.out) hb) (Kd.S_base ho0)) (Kd.S_base ho1)) (fun _ h_=>h_.1));have a4Q:=am (Kd.S_lower ho0 (below_size au9));have a4R:=am (Kd.S_lower ho1 (below_size au9));replace dC:=am (blk_below (g:=gO) au79 hb);replace eW:=am (blk_below (g:=kL) au80 hb);replace fD:=am (blk_below (g:=xD) au81 hb);replace HB:=am (below_step au9 hb)
          (try clear hb)
          (try clear ho0)
          (try clear ho1)
          obtain ⟨aJp,aJq,aAg⟩:=Kd.S_slice a4Q.out
          (first|subst aAg|(injection aAg with lH uQ lI;have uR:=lH.symm;have uS:=lI.symm;clear lH uQ lI;subst uR;subst uS))
          obtain ⟨aJr,aJs,aAh⟩:=Kd.S_slice a4R.out
          (first|subst aAh|(injection aAh with lH uQ lI;have uR:=lH.symm;have uS:=lI.symm;clear lH uQ lI;subst uR;subst uS))
          refine hK.out _ _ ⟨(blk_cell fD.out 0).trans rfl,(blk_cell dC.out 0).trans rfl,(bcl HB.out Br),(bcl HB.out Bq),(bcl HB.out Bp),(bcl HB.out Bo),(bcl HB.out Bn),(bcl HB.out Bm),(bcl HB.out Bl),(bcl HB.out Bj),(bcl HB.out Bi),(bcl HB.out Bh),(bcl HB.out wJ),(bcl HB.out wI),(bcl HB.out wH),(bcl HB.out wG)⟩ (fun hHeld=>?_);clear hK K;refine no_ (some 41) ?_;refine on_ 8 (some 42) #[true,true,true,true,true,true,true,true,true,false,false,false] HT_.out (fun K hK=>?_);refine value_ (w1:=?_) (v:=?_) (by rfl) rfl ?_ ?_
          rotate_left 2
          ·
           go_simp
           constructor
           · rfl
           · rfl
          refine hK.out _ _ ⟨(blk_cell (blk_alloc fD.out _) 0).trans rfl,(blk_cell (blk_alloc dC.out _) 0).trans rfl,(World.cell?_alloc_lt _ _ _ (World.block_lt_of_cell? _ _ ((bcl HB.out Br)))).trans ((bcl HB.out Br)),(World.cell?_alloc_lt _ _ _ (World.block_lt_of_cell? _ _ ((bcl HB.out Bq)))).trans ((bcl HB.out Bq)),(World.cell?_alloc_lt _ _ _ (World.block_lt_of_cell? _ _ ((bcl HB.out Bp)))).trans ((bcl HB.out Bp)),(World.cell?_alloc_lt _ _ _ (World.block_lt_of_cell? _ _ ((bcl HB.out Bo)))).trans ((bcl HB.out Bo)),(World.cell?_alloc_lt _ _ _ (World.block_lt_of_cell? _ _ ((bcl HB.out Bn)))).trans ((bcl HB.out Bn)),(World.cell?_alloc_lt _ _ _ (World.block_lt_of_cell? _ _ ((bcl HB.out Bm)))).trans ((bcl HB.out Bm)),(World.cell?_alloc_lt _ _ _ (World.block_lt_of_cell? _ _ ((bcl HB.out Bl)))).trans ((bcl HB.out Bl)),(World.cell?_alloc_lt _ _ _ (World.block_lt_of_cell? _ _ ((bcl HB.out Bj)))).trans ((bcl HB.out Bj)),(World.cell?_alloc_lt _ _ _ (World.block_lt_of_cell? _ _ ((bcl HB.out Bi)))).trans ((bcl HB.out Bi)),(World.cell?_alloc_lt _ _ _ (World.block_lt_of_cell? _ _ ((bcl HB.out Bh)))).trans ((bcl HB.out Bh)),(World.cell?_alloc_lt _ _ _ (World.block_lt_of_cell? _ _ ((bcl HB.out wJ)))).trans ((bcl HB.out wJ)),(World.cell?_alloc_lt _ _ _ (World.block_lt_of_cell? _ _ ((bcl HB.out wI)))).trans ((bcl HB.out wI)),(World.cell?_alloc_lt _ _ _ (World.block_lt_of_cell? _ _ ((bcl HB.out wH)))).trans ((bcl HB.out wH)),(World.cell?_alloc_lt _ _ _ (World.block_lt_of_cell? _ _ ((bcl HB.out wG)))).trans ((bcl HB.out wG))⟩ (fun hHeld=>?_);clear hK K;refine no_ (some 42) ?_;refine on_ 9 (some 43) #[true,true,true,true,true,true,true,true,true,true,false,false] HT_.out (fun K hK=>?_);refine Kd.R_append_step k42 (w0:=w) w.heap.size (by rfl) (.tmp 35) (.tmp 42) 26 42 (.agg #[(.string ⟨#[]⟩),(.int .i64 0),(.slice none 0 0),(.slice none 0 0),(.string ⟨#[]⟩),(.string ⟨#[]⟩),(.string ⟨#[]⟩),(.int .i64 0),(.int .i64 0),(.int .i64 0),(.bool false),(.int .i64 0),(.string ⟨#[]⟩),(.string ⟨#[]⟩)]) 192 rfl Tryz.underlying26 info42 rfl (by decide) (by omega) jW fV (⟨Ml,Mm,Mn,Mo,Mp,Mq,Mr,(⟨Ms,Mt,Mu,Mv⟩:S40),Mw,Mx,My⟩:S42) [.string Ml,.int .i64 Mm,.slice aJp Mn.length aJq,.slice aJr Mo.length aJs,.string Mp,.string Mq,.string Mr,.int .i64 Ms,.int .i64 Mt,.int .i64 Mu,.bool Mv,.int .i64 Mw,.string Mx,.string My] (fun _=>True) (fun k_=>((fun _=>True)) k_∧some k_≠(jW:Value).ownBlock) rfl rfl ?aP (fun _ hk=>hk) ?aF ?aO ?aB ?aS ?aL ?_
          (case aP=>exact k42_mkM _ _ _ (⟨Ml,Mm,Mn,Mo,Mp,Mq,Mr,(⟨Ms,Mt,Mu,Mv⟩:S40),Mw,Mx,My⟩:S42) (Kd.R_mono (Kd.R_apart' ((Kd.S_R a4Q.out)) (Kd.R_typed eM.out) (by decide)) (fun k_ hk=>⟨trivial,hk.2⟩)) (Kd.R_mono (Kd.R_apart' ((Kd.S_R a4R.out)) (Kd.R_typed eM.out) (by decide)) (fun k_ hk=>⟨trivial,hk.2⟩)))
          (case aB=>exact au9)
          (case aF=>exact (fun _ _=>trivial))
          (case aO=>exact (by (with_reducible repeat (first|apply Kd.R_alloc|apply Kd.R_drewN|apply Kd.R_drew));exact Kd.R_mono eM.out (fun _ hk=>trivial)))
          (case aS=>exact (below_size au9))
          (case aL=>have:=aEN.out;omega)
          intro b1F w37 ho hb hg hat;rw [← aEO.out] at ho;have dT:=am (blk_grown (g:=gO) (o:=.cells #[.slice (some dR) aA.length bA] 28 (0,0)) au79 hg (Kd.R_ne eM.out dC.out (by decide)));have dU:=am (blk_grown (g:=kL) (o:=.cells #[.slice none 0 0] 28 (0,0)) au80 hg (Kd.R_ne eM.out eW.out (by decide)));have fH:=am (blk_grown (g:=xD) (o:=.cells #[jW] 28 (0,0)) au81 hg (Kd.R_ne eM.out fD.out (by decide)));have kX:=am (hb);have Dm:=am (ho);clear dC;clear eW;clear fD;clear HB;clear eM;clear a4Q;clear a4R;have dC:=dT;have eW:=dU;have fD:=fH;have HB:=kX;have agT:=Dm;clear dT dU fH kX Dm;clear ho hb hg hat;obtain ⟨aAi,aAj,aAk⟩:=Kd.R_slice agT.out
          (first|subst aAk|(injection aAk with lH uQ lI;have uR:=lH.symm;have uS:=lI.symm;clear lH uQ lI;subst uR;subst uS))
          refine hK.out _ _ ⟨(blk_cell fD.out 0).trans rfl,(blk_cell dC.out 0).trans rfl,(bcl HB.out Br),(bcl HB.out Bq),(bcl HB.out Bp),(bcl HB.out Bo),(bcl HB.out Bn),(bcl HB.out Bm),(bcl HB.out Bl),(bcl HB.out Bj),(bcl HB.out Bi),(bcl HB.out Bh),(bcl HB.out wJ),(bcl HB.out wI),(bcl HB.out wH),(bcl HB.out wG)⟩ (fun hHeld=>?_);clear hK K;refine no_ (some 43) ?_;refine pu_ 10 (some 44) #[true,true,true,true,true,true,true,true,true,true,true,false] HT_.out ?_;refine last_ (i:=11) (N:=none) #[true,true,true,true,true,true,true,true,true,true,true,true] rfl rfl (one_of HT_.out (by kernel_rfl)) (by decide) (fun K hK=>?_);have hs41:w37.cell? ⟨xD,0,none⟩=some (jW):=(blk_cell fD.out 0).trans rfl;have hfs41:=blk_frozen fD.out 0;have hns41_0:=lR.out;have hns41_1:=rF.out;have hms41_0:=rE.out;have hms41_1:=Em.out;refine skip_ (w1:=?_) (by rfl) rfl ?_ ?_
          rotate_left
          ·
           go_simp
           rfl
          refine hK.out _ _ ?_;clear hK K;refine done_ (done_of HT_.out (by kernel_rfl)) ?_
          try go_wp2
          go_roundg k2
          case measure=>have:=Ou.out;have:=HK2.out;omega
          case rel=>exact ⟨(wrap64 (bU+1)),(a4P),(.slice aAi a4P.length aAj),au88,H',⟨by have:=Ou.out;have:=HK2.out;omega⟩,⟨by (with_reducible repeat (first|apply Kd.R_alloc|apply Kd.R_drewN|apply Kd.R_drew));exact Kd.R_mono (Kd.R_far (p:=⟨xD,0,none⟩) (Kd.R_types agT.out fD.out (by decide)) (fun _ hk=>hk.2) (.slice aAi a4P.length aAj)) (fun _ hk=>trivial)⟩,⟨by (with_reducible repeat (first|refine blk_drewN ?_ _|refine blk_drew ?_|refine blk_alloc ?_ _));refine blk_far ?_ lR.out _;(with_reducible repeat (first|refine blk_drewN ?_ _|refine blk_drew ?_|refine blk_alloc ?_ _));exact dC.out⟩,⟨by (with_reducible repeat (first|refine blk_drewN ?_ _|refine blk_drew ?_|refine blk_alloc ?_ _));refine blk_far ?_ rF.out _;(with_reducible repeat (first|refine blk_drewN ?_ _|refine blk_drew ?_|refine blk_alloc ?_ _));exact eW.out⟩,⟨by (with_reducible repeat (first|refine blk_drewN ?_ _|refine blk_drew ?_|refine blk_alloc ?_ _));refine blk_put (cs:=#[jW]) ?_ 0 _ rfl;(with_reducible repeat (first|refine blk_drewN ?_ _|refine blk_drew ?_|refine blk_alloc ?_ _));exact fD.out⟩,⟨by repeat (first|(with_reducible first|exact HB.out|apply below_alloc|apply pw_below_drewN|apply below_drew1|refine below_set ?_ qI.out|refine below_set ?_ rP.out|refine below_set ?_ JX.out)|exact HB.out)⟩⟩
         · rw [if_neg wY] at H;exact absurd H (by simp)
       · rw [if_neg oW] at H;exact absurd H (by simp)
      · rw [if_neg iL] at H;have c24b0:=df iL;clear iL;simp only [Option.some.injEq,Prod.mk.injEq] at H;obtain ⟨rfl,rfl⟩:=H;have aXR:=oI.out;have aXS:=oJ.out;have aXT:=lR.out;have aXU:=rE.out;have aSH:wr.cell? ⟨gO,0,none⟩=some (.slice bH aA.length bA):=(blk_cell dC.out 0).trans rfl;have aSI:=blk_frozen dC.out 0;have aXV:=Em.out;have aXW:=rF.out;have Ud:wr.cell? ⟨xD,0,none⟩=some (jW):=(blk_cell fD.out 0).trans rfl;have Ue:=blk_frozen fD.out 0;obtain ⟨aAl,aAm,aJt⟩:=Kd.R_slice eM.out;subst aJt;have aSJ:wr.cell? ⟨kL,0,none⟩=some (.slice none 0 0):=(blk_cell eW.out 0).trans rfl;have aSK:=blk_frozen eW.out 0;go_wp2;refine bodyPost_ret (results_ct rfl _ _ kL 28 #[.slice aAl fV.length aAm] (0,0) _ rfl au1 Tryz.underlying28 rfl (by kernel_rfl)) rfl ?_;exact ⟨_,by first|rfl|(simp [errW_none,errW_some] <;> rfl)|(simp [*,errW_none,errW_some] <;> rfl),by (with_reducible repeat (first|apply Kd.R_alloc|apply Kd.R_drewN|apply Kd.R_drew));exact Kd.R_mono (Kd.R_far (p:=⟨kL,0,none⟩) (Kd.R_types eM.out eW.out (by decide)) (fun _ hk=>hk.2) (.slice aAl fV.length aAm)) (fun _ hk=>trivial),by repeat (first|(with_reducible first|exact HB.out|apply below_alloc|apply pw_below_drewN|apply below_drew1|refine below_set ?_ qI.out|refine below_set ?_ rP.out|refine below_set ?_ JX.out)|exact HB.out)⟩
end Go.Proofs.YteagahcbffgjpaaGreatDoor.G

namespace Go.Proofs.YteagahcbffgjpaaGreatDoor.G
open Go.RowKit Go.Proofs.YteagahcbffgjpaaGreatDoorW.PrintWords Go.Proofs.YteagahcbffgjpaaGreatDoorW.PrintLast Go.Proofs.YteagahcbffgjpaaGreatDoorW.PrintMore Go.Proofs.YteagahcbffgjpaaGreatDoor.B Go.Proofs.YteagahcbffgjpaaGreatDoor.Gl
set_option linter.unusedVariables false
set_option linter.unusedSimpArgs false
set_option maxHeartbeats 4000000 in
set_option maxRecDepth 100000 in
theorem markL_s (P:Nat→Prop) (A:Option Addr) (c:Nat) (l:List S42) (a1:Int) (w0 w:World) (h0:0≤a1) (h1:a1+cntE l≤4611686018427387904) (hB:Below w0.heap.size w0 w) (ho:Kd.S kES 42 w w0.heap.size P (.slice A l.length c) l) :
    Calls Tryz.prog 9 #[.agg #[.slice A l.length c],.int .i64 a1] w fun e w'=>e=.returned (.int .i64 (a1+cntE l))∧Kd.S kES 42 w' w0.heap.size P (.slice A l.length c) (mkE a1 l)∧Below w0.heap.size w0 w'∧Kept w w' P:=by
  have HR:=am ho;have HL:=am (And.intro h0 h1);have HB:=am hB;have hu:=Tryz.underlying28;clear ho h0 h1 hB;go_enter Tryz.func9,Tryz.ntmps9
  go_wp2_with (first
    | ((with_reducible refine gate_dst (N:=2) rfl ?_);refine box_event ?hg (N:=2) ?hd (cs:=#[.slice A l.length c]) (t:=28) ?hr ?_;(case hd=>rfl);(case hg=>rfl);(case hr=>first|(go_simp;done)|(go_simp;rfl));intro gb hg w3 hbox hb;have HB1:=am (below_step HB.out hb);have HK1:=am (Kept.of_below hb P);have IE:=am (Kd.S_below HR.out hb);have hz:w3.cell? ⟨gb,0,none⟩=some (.slice A l.length c):=(blk_cell hbox 0).trans rfl;clear hb hbox hg)
    | ((with_reducible refine gate_callee (f:=20) rfl ?_);refine goesL_ (some 8) rfl rfl Tryz.func20 (by kernel_rfl) rfl #[.slice A l.length c,.int .i64 a1] rfl (by (try simp only [List.map_toArray,List.map_cons,List.map_nil]);first|done|rfl) ?_;(refine (markE_s P _ l a1 w0 _ HL.out.1 HL.out.2 (show Below w0.heap.size w0 _ from by repeat (first|exact HB1.out|apply pw_below_drewN|apply below_drew1|apply below_alloc)) (show Kd.S kES 42 _ w0.heap.size P _ l from by (with_reducible repeat (first|apply Kd.S_alloc|apply Kd.S_drewN|apply Kd.S_drew));exact IE.out)).mono ?_);rintro e w5 ⟨rfl,hS,hb,hk⟩;refine ⟨_,rfl,?_⟩;have HB2:=am hb;have HS2:=am hS;have HK2:=am (Kept.then_ (show Kept w _ P from by repeat (first|exact HK1.out|apply Kept.drewN|apply Kept.drew|apply Kept.alloc)) hk (fun _ h=>Or.inl h));clear hS hb hk))
  go_ret;exact ⟨rfl,(by (with_reducible repeat (first|apply Kd.S_alloc|apply Kd.S_drewN|apply Kd.S_drew));exact HS2.out),(by repeat (first|exact HB2.out|apply pw_below_drewN|apply below_drew1|apply below_alloc)),(by repeat (first|exact HK2.out|apply Kept.drewN|apply Kept.drew|apply Kept.alloc))⟩
theorem held_n (k:Nat) (A:Option Addr) (c n:Nat) (l:List S42) (a r:Int) (w:World) (hn:n=l.length) (hr:Kd.C k42 w A l.length l) (hc:n≤c) (h:laws_heldLibrary.f k l a=some r) (hrp:0≤r) :
    Calls Tryz.prog 10 #[.agg #[.slice A n c],.int .i64 a] w fun e w'=>e=.returned (.int .i64 r)∧Below w.heap.size w w':=by
  subst hn;exact laws_heldLibrary.calls k A c l a r w hr hc h hrp
set_option maxHeartbeats 8000000 in
set_option maxRecDepth 100000 in
theorem dropLaw (k:Nat) (A:Option Addr) (c:Nat) (l:List S52) (key:ByteArray) (w:World) {gF1 gF2 gF3:Bool} (hG:GL gF1 gF2 gF3 w) (hr:Kd.C k52 w A l.length l) (hc:l.length≤c) (t0 tn:Int) (tx tw tg:List S42) (rb:Bool) (hk:¬ (key.size:Int)>1048576) (h0:laws_szLibrary.f k l 1048576=some t0) (h0':¬ t0<0) (h1:laws_toLibrary.f k l=some tx) (h2:spec_DropEntry.f k tx key=some (tw,rb)) (h3:impl_DropEntry.f tx key=some (tg,rb)) (h4:laws_eqLibrary.f k tg tw=some true) (h5:laws_eqLibrary.f k tx tx=some true) (h6:laws_markLibrary.f tx 1=some tn) (h6':¬ tn<0) (h7:laws_heldLibrary.f k (mkE 1 tg) 1=some (1+cntE tg)) (hm:1+cntE tg≤4611686018427387904) (hm':¬ 1+cntE tg<0) :
    Calls Tryz.prog 3 #[.agg #[.slice A l.length c],.string key] w fun e w'=>e=.returned (.bool true)∧Below w.heap.size w w':=by
  obtain ⟨w0,rfl⟩:∃ w0,w0=w:=⟨w,rfl⟩
  have HG:=am hG;have HR:=am hr;have HC:=am hc;have HB0:=am (Below.refl w0.heap.size w0);have H0:=am h0;have H1:=am h1;have H2:=am h2;have H3:=am h3;have H4:=am h4;have H5:=am h5;have H6:=am h6;have H7:=am h7;have HM:=am hm;have HP:=am (show 0≤1+cntE tg from by omega);have hu24:=Tryz.underlying24;have hu28:=Tryz.underlying28;have k0:decide (1048576<(key.size:Int))=false:=df (by omega);have k1:decide (1048576<key.size)=false:=df (by omega);have k2:decide (t0<0)=false:=df h0';have k3:decide (tn<0)=false:=df h6';have k4:decide (1+cntE tg<0)=false:=df hm'
  have k5:(rb != rb)=false:=by cases rb <;> rfl
  have k6:((1+cntE tg) != (1+cntE tg))=false:=by simp
  have eV:=am True.intro;clear hG hr hc hk h0 h0' h1 h2 h3 h4 h5 h6 h6' h7 hm hm';go_enter Tryz.func3,Tryz.ntmps3
  go_wp2_with (first
    | (have q_:=HB0.out;(with_reducible refine gate_dst (N:=2) rfl ?_);refine box_event ?hg (N:=2) ?hd (cs:=#[.slice A l.length c]) (t:=24) ?hr ?_;(case hd=>rfl);(case hg=>rfl);(case hr=>first|(go_simp;done)|(go_simp;rfl));intro g1 hg w1 hbox hb;have eV:=am ((by rw [hg];exact below_size (show Below w0.heap.size w0 _ from by repeat (first|exact HB0.out|apply below_alloc|apply pw_below_drewN|apply below_drew1|refine below_set ?_ eV.out))):w0.heap.size≤g1);have HB1:=am (below_step (show Below w0.heap.size w0 _ from by repeat (first|exact HB0.out|apply below_alloc|apply pw_below_drewN|apply below_drew1|refine below_set ?_ eV.out)) hb);have hKp:=Kept.below (show Kept w0 _ (fun _=>False) from by repeat (first|exact Kept.refl _ _|apply Kept.drewN|apply Kept.drew|refine Kept.setCell ?_ (Or.inl (by exact rfl)) _|apply Kept.alloc)) hb;clear HB0 hKp ;have HK1:=am hbox;clear hbox hb hg q_;have dK:w1.cell? ⟨g1,0,none⟩=some (.slice A l.length c):=(blk_cell HK1.out 0).trans rfl;have eG:=blk_frozen HK1.out 0)
    | (have q_:=HB1.out;go_at_call 4;(refine (laws_szLibrary.calls k A c l 1048576 t0 _ ?s1 HC.out H0.out).mono ?_);(case s1=>exact (Kd.C_below HR.out (show Below w0.heap.size w0 _ from by repeat (first|exact HB1.out|apply below_alloc|apply pw_below_drewN|apply below_drew1|refine below_set ?_ eV.out))));rintro e w2 ⟨rfl,hb⟩;clear dK eG;have HB2:=am (below_step (show Below w0.heap.size w0 _ from by repeat (first|exact HB1.out|apply below_alloc|apply pw_below_drewN|apply below_drew1|refine below_set ?_ eV.out)) hb);have hKp:=Kept.below (show Kept w1 _ (fun _=>False) from by repeat (first|exact Kept.refl _ _|apply Kept.drewN|apply Kept.drew|refine Kept.setCell ?_ (Or.inl (by exact rfl)) _|apply Kept.alloc)) hb;have n1:=am (blk_kept HK1.out hKp (fun h=>h));clear HB1 hKp HK1;have HK1:=n1;clear n1;clear q_;clear hb;have dK:w2.cell? ⟨g1,0,none⟩=some (.slice A l.length c):=(blk_cell HK1.out 0).trans rfl;have eG:=blk_frozen HK1.out 0)
    | (have q_:=HB2.out;go_at_call 6;(refine (laws_toLibrary.calls k A c l tx _ ?s1 HC.out H1.out).mono ?_);(case s1=>exact (Kd.C_below HR.out (show Below w0.heap.size w0 _ from by repeat (first|exact HB2.out|apply below_alloc|apply pw_below_drewN|apply below_drew1|refine below_set ?_ eV.out))));rintro e w3 ⟨v,rfl,ho,hb⟩;clear dK eG;have mm:=am (Kd.R_lower ho (below_size (show Below w0.heap.size w0 _ from by repeat (first|exact HB2.out|apply below_alloc|apply pw_below_drewN|apply below_drew1|refine below_set ?_ eV.out))));have HB3:=am (below_step (show Below w0.heap.size w0 _ from by repeat (first|exact HB2.out|apply below_alloc|apply pw_below_drewN|apply below_drew1|refine below_set ?_ eV.out)) hb);have hKp:=Kept.below (show Kept w2 _ (fun _=>False) from by repeat (first|exact Kept.refl _ _|apply Kept.drewN|apply Kept.drew|refine Kept.setCell ?_ (Or.inl (by exact rfl)) _|apply Kept.alloc)) hb;have n1:=am (blk_kept HK1.out hKp (fun h=>h));clear HB2 hKp HK1;have HK1:=n1;clear n1;have HRa:=mm;clear mm ho;obtain ⟨Aa,ca,ea⟩:=Kd.R_slice HRa.out;subst ea;clear q_;clear hb;have dK:w3.cell? ⟨g1,0,none⟩=some (.slice A l.length c):=(blk_cell HK1.out 0).trans rfl;have eG:=blk_frozen HK1.out 0)
    | (have q_:=HB3.out;go_at_call 5;(refine (spec_DropEntry.calls k _ _ tx key tw rb _ ?s1 ?s2 H2.out).mono ?_);(case s1=>exact (Kd.R_reads' (Kd.R_kept HRa.out (show Kept w3 _ (fun _=>False) from by repeat (first|exact Kept.refl _ _|apply Kept.drewN|apply Kept.drew|refine Kept.setCell ?_ (Or.inl (by exact rfl)) _|apply Kept.alloc)) (fun _ _ h=>h))).2.2);(case s2=>exact (Kd.R_reads' HRa.out).2.1);rintro e w4 ⟨v,rfl,ho,hb⟩;clear dK eG;have mm:=am (Kd.R_lower ho (below_size (show Below w0.heap.size w0 _ from by repeat (first|exact HB3.out|apply below_alloc|apply pw_below_drewN|apply below_drew1|refine below_set ?_ eV.out))));clear HRa;have HB4:=am (below_step (show Below w0.heap.size w0 _ from by repeat (first|exact HB3.out|apply below_alloc|apply pw_below_drewN|apply below_drew1|refine below_set ?_ eV.out)) hb);have hKp:=Kept.below (show Kept w3 _ (fun _=>False) from by repeat (first|exact Kept.refl _ _|apply Kept.drewN|apply Kept.drew|refine Kept.setCell ?_ (Or.inl (by exact rfl)) _|apply Kept.alloc)) hb;have n1:=am (blk_kept HK1.out hKp (fun h=>h));clear HB3 hKp HK1;have HK1:=n1;clear n1;have HRw:=mm;clear mm ho;obtain ⟨Aw,cw,ew⟩:=Kd.R_slice HRw.out;subst ew;clear q_;clear hb;have dK:w4.cell? ⟨g1,0,none⟩=some (.slice A l.length c):=(blk_cell HK1.out 0).trans rfl;have eG:=blk_frozen HK1.out 0)
    | (have q_:=HB4.out;(with_reducible refine gate_dst (N:=6) rfl ?_);refine box_event ?hg (N:=6) ?hd (cs:=#[.slice none 0 0]) (t:=28) ?hr ?_;(case hd=>rfl);(case hg=>rfl);(case hr=>first|(go_simp;done)|(go_simp;rfl));intro g5 hg w5 hbox hb;clear dK eG;have GE5:=am ((by rw [hg];exact below_size (show Below w0.heap.size w0 _ from by repeat (first|exact HB4.out|apply below_alloc|apply pw_below_drewN|apply below_drew1|refine below_set ?_ eV.out))):w0.heap.size≤g5);have mm:=am (Kd.R_mono (Kd.R_bound HRw.out) (ok':=fun k=>k<g5) (fun k hk=>(show k<g5 from by rw [hg];exact hk.2.2.1)));clear HRw;have HRw:=mm;clear mm;have LT1_5:=am (show g1<g5 from by rw [hg];exact blk_ltH HK1.out);have NE1_5:=am (Nat.ne_of_lt LT1_5.out);have b1G:=NE1_5.out;have b1H:=Nat.ne_of_gt LT1_5.out;have HB5:=am (below_step (show Below w0.heap.size w0 _ from by repeat (first|exact HB4.out|apply below_alloc|apply pw_below_drewN|apply below_drew1|refine below_set ?_ eV.out)) hb);have hKp:=Kept.below (show Kept w4 _ (fun _=>False) from by repeat (first|exact Kept.refl _ _|apply Kept.drewN|apply Kept.drew|refine Kept.setCell ?_ (Or.inl (by exact rfl)) _|apply Kept.alloc)) hb;have n1:=am (blk_kept HK1.out hKp (fun h=>h));have mw:=am (Kd.R_kept HRw.out hKp (fun _ _ h=>h));clear HB4 hKp HK1 HRw;have HK1:=n1;have HRw:=mw;clear n1 mw;have HK5:=am hbox;clear hbox hb hg q_;have dK:w5.cell? ⟨g1,0,none⟩=some (.slice A l.length c):=(blk_cell HK1.out 0).trans rfl;have eG:=blk_frozen HK1.out 0;have iM:w5.cell? ⟨g5,0,none⟩=some (.slice none 0 0):=(blk_cell HK5.out 0).trans rfl;have gV:=blk_frozen HK5.out 0)
    | (have q_:=HB5.out;go_at_call 6;(refine (laws_toLibrary.calls k A c l tx _ ?s1 HC.out H1.out).mono ?_);(case s1=>exact (Kd.C_below HR.out (show Below w0.heap.size w0 _ from by repeat (first|exact HB5.out|apply below_alloc|apply pw_below_drewN|apply below_drew1|refine below_set ?_ GE5.out))));rintro e w6 ⟨v,rfl,ho,hb⟩;clear dK eG iM gV;have mm:=am (Kd.R_lower (Kd.R_mono (Kd.R_bound ho) (ok':=fun k=>g5<k) (fun k hk=>Nat.lt_of_lt_of_le (blk_ltH HK5.out) (Nat.le_trans (show Kept w5 _ (fun k=>k=g5) from by repeat (first|exact Kept.refl _ _|apply Kept.drewN|apply Kept.drew|refine Kept.setCell ?_ (Or.inl (by exact rfl)) _|apply Kept.alloc)).1 hk.2.1))) (below_size (show Below w0.heap.size w0 _ from by repeat (first|exact HB5.out|apply below_alloc|apply pw_below_drewN|apply below_drew1|refine below_set ?_ GE5.out))));have HB6:=am (below_step (show Below w0.heap.size w0 _ from by repeat (first|exact HB5.out|apply below_alloc|apply pw_below_drewN|apply below_drew1|refine below_set ?_ GE5.out)) hb);have hKp:=Kept.below (show Kept w5 _ (fun k=>k=g5) from by repeat (first|exact Kept.refl _ _|apply Kept.drewN|apply Kept.drew|refine Kept.setCell ?_ (Or.inl (by exact rfl)) _|apply Kept.alloc)) hb;have n1:=am (blk_kept HK1.out hKp (fun e=>NE1_5.out e));have n5:=am (show w6.heap[g5]?=some (.cells #[.slice Aw tw.length cw] 28 (0,0)) from blk_below (by (with_reducible repeat (first|refine blk_drewN ?_ _|refine blk_drew ?_|refine blk_alloc ?_ _));refine blk_put (cs:=#[.slice none 0 0]) ?_ 0 _ rfl;exact HK5.out) hb);have mw:=am (Kd.R_kept HRw.out hKp (fun k hk e=>by have l1:=LT1_5.out;have e':k=g5:=e;revert hk;intro hk;(try simp only at hk);omega));clear HB5 hKp HK1 HK5 HRw;have HK1:=n1;have HK5:=n5;have HRw:=mw;clear n1 n5 mw;have HRx:=mm;clear mm ho;obtain ⟨Ax,cx,ex⟩:=Kd.R_slice HRx.out;subst ex;clear q_;clear hb;have dK:w6.cell? ⟨g1,0,none⟩=some (.slice A l.length c):=(blk_cell HK1.out 0).trans rfl;have eG:=blk_frozen HK1.out 0;have iM:w6.cell? ⟨g5,0,none⟩=some (.slice Aw tw.length cw):=(blk_cell HK5.out 0).trans rfl;have gV:=blk_frozen HK5.out 0)
    | (have q_:=HB6.out;(with_reducible refine gate_dst (N:=8) rfl ?_);refine box_event ?hg (N:=8) ?hd (cs:=#[.slice none 0 0]) (t:=28) ?hr ?_;(case hd=>rfl);(case hg=>rfl);(case hr=>first|(go_simp;done)|(go_simp;rfl));intro g7 hg w7 hbox hb;clear dK eG iM gV;have GE7:=am ((by rw [hg];exact below_size (show Below w0.heap.size w0 _ from by repeat (first|exact HB6.out|apply below_alloc|apply pw_below_drewN|apply below_drew1|refine below_set ?_ eV.out))):w0.heap.size≤g7);have mm:=am (Kd.R_mono (Kd.R_bound HRx.out) (ok':=fun k=>g5<k∧k<g7) (fun k hk=>⟨hk.1,(show k<g7 from by rw [hg];exact hk.2.2.1)⟩));clear HRx;have HRx:=mm;clear mm;have LT1_7:=am (show g1<g7 from by rw [hg];exact blk_ltH HK1.out);have NE1_7:=am (Nat.ne_of_lt LT1_7.out);have b1I:=NE1_7.out;have b1J:=Nat.ne_of_gt LT1_7.out;have LT5_7:=am (show g5<g7 from by rw [hg];exact blk_ltH HK5.out);have NE5_7:=am (Nat.ne_of_lt LT5_7.out);have b1K:=NE5_7.out;have b1L:=Nat.ne_of_gt LT5_7.out;have HB7:=am (below_step (show Below w0.heap.size w0 _ from by repeat (first|exact HB6.out|apply below_alloc|apply pw_below_drewN|apply below_drew1|refine below_set ?_ eV.out)) hb);have hKp:=Kept.below (show Kept w6 _ (fun _=>False) from by repeat (first|exact Kept.refl _ _|apply Kept.drewN|apply Kept.drew|refine Kept.setCell ?_ (Or.inl (by exact rfl)) _|apply Kept.alloc)) hb;have n1:=am (blk_kept HK1.out hKp (fun h=>h));have n5:=am (blk_kept HK5.out hKp (fun h=>h));have mw:=am (Kd.R_kept HRw.out hKp (fun _ _ h=>h));have mx:=am (Kd.R_kept HRx.out hKp (fun _ _ h=>h));clear HB6 hKp HK1 HK5 HRw HRx;have HK1:=n1;have HK5:=n5;have HRw:=mw;have HRx:=mx;clear n1 n5 mw mx;have HK7:=am hbox;clear hbox hb hg q_;have dK:w7.cell? ⟨g1,0,none⟩=some (.slice A l.length c):=(blk_cell HK1.out 0).trans rfl;have eG:=blk_frozen HK1.out 0;have iM:w7.cell? ⟨g5,0,none⟩=some (.slice Aw tw.length cw):=(blk_cell HK5.out 0).trans rfl;have gV:=blk_frozen HK5.out 0;have kB:w7.cell? ⟨g7,0,none⟩=some (.slice none 0 0):=(blk_cell HK7.out 0).trans rfl;have jA:=blk_frozen HK7.out 0)
    | (have q_:=HB7.out;go_at_call 7;(refine (impl_DropEntry.callsD _ _ tx key tg rb _ (hG:=HG.out.below (show Below w0.heap.size w0 _ from by repeat (first|exact HB7.out|apply below_alloc|apply pw_below_drewN|apply below_drew1|refine below_set ?_ GE7.out))) ?s1 ?s2 H3.out).mono ?_);(case s1=>exact (Kd.R_reads' (Kd.R_kept HRx.out (show Kept w7 _ (fun k=>k=g7) from by repeat (first|exact Kept.refl _ _|apply Kept.drewN|apply Kept.drew|refine Kept.setCell ?_ (Or.inl (by exact rfl)) _|apply Kept.alloc)) (fun k hk e=>by have l1:=LT1_7.out;have l5:=LT5_7.out;have e':k=g7:=e;revert hk;intro hk;(try simp only at hk);omega))).2.2);(case s2=>exact (Kd.R_reads' HRx.out).2.1);rintro e w8 ⟨v,rfl,ho,hb⟩;clear dK eG iM gV kB jA;have mm:=am (Kd.S_lower (Kd.S_mono (Kd.S_bound ho) (ok':=fun k=>g7<k) (fun k hk=>Nat.lt_of_lt_of_le (blk_ltH HK7.out) (Nat.le_trans (show Kept w7 _ (fun k=>k=g7) from by repeat (first|exact Kept.refl _ _|apply Kept.drewN|apply Kept.drew|refine Kept.setCell ?_ (Or.inl (by exact rfl)) _|apply Kept.alloc)).1 hk.2.1))) (below_size (show Below w0.heap.size w0 _ from by repeat (first|exact HB7.out|apply below_alloc|apply pw_below_drewN|apply below_drew1|refine below_set ?_ GE7.out))));have HB8:=am (below_step (show Below w0.heap.size w0 _ from by repeat (first|exact HB7.out|apply below_alloc|apply pw_below_drewN|apply below_drew1|refine below_set ?_ GE7.out)) hb);have hKp:=Kept.below (show Kept w7 _ (fun k=>k=g7) from by repeat (first|exact Kept.refl _ _|apply Kept.drewN|apply Kept.drew|refine Kept.setCell ?_ (Or.inl (by exact rfl)) _|apply Kept.alloc)) hb;have n1:=am (blk_kept HK1.out hKp (fun e=>NE1_7.out e));have n5:=am (blk_kept HK5.out hKp (fun e=>NE5_7.out e));have n7:=am (show w8.heap[g7]?=some (.cells #[.slice Ax tx.length cx] 28 (0,0)) from blk_below (by (with_reducible repeat (first|refine blk_drewN ?_ _|refine blk_drew ?_|refine blk_alloc ?_ _));refine blk_put (cs:=#[.slice none 0 0]) ?_ 0 _ rfl;exact HK7.out) hb);have mw:=am (Kd.R_kept HRw.out hKp (fun k hk e=>by have l1:=LT1_7.out;have l5:=LT5_7.out;have e':k=g7:=e;revert hk;intro hk;(try simp only at hk);omega));have mx:=am (Kd.R_kept HRx.out hKp (fun k hk e=>by have l1:=LT1_7.out;have l5:=LT5_7.out;have e':k=g7:=e;revert hk;intro hk;(try simp only at hk);omega));clear HB7 hKp HK1 HK5 HK7 HRw HRx;have HK1:=n1;have HK5:=n5;have HK7:=n7;have HRw:=mw;have HRx:=mx;clear n1 n5 n7 mw mx;have HRg:=mm;clear mm ho;obtain ⟨Ag,cg,eg⟩:=Kd.S_slice HRg.out;subst eg;clear q_;clear hb;have dK:w8.cell? ⟨g1,0,none⟩=some (.slice A l.length c):=(blk_cell HK1.out 0).trans rfl;have eG:=blk_frozen HK1.out 0;have iM:w8.cell? ⟨g5,0,none⟩=some (.slice Aw tw.length cw):=(blk_cell HK5.out 0).trans rfl;have gV:=blk_frozen HK5.out 0;have kB:w8.cell? ⟨g7,0,none⟩=some (.slice Ax tx.length cx):=(blk_cell HK7.out 0).trans rfl;have jA:=blk_frozen HK7.out 0)
    | (have q_:=HB8.out;(with_reducible refine gate_dst (N:=9) rfl ?_);refine box_event ?hg (N:=9) ?hd (cs:=#[.slice none 0 0]) (t:=28) ?hr ?_;(case hd=>rfl);(case hg=>rfl);(case hr=>first|(go_simp;done)|(go_simp;rfl));intro g9 hg w9 hbox hb;clear dK eG iM gV kB jA;have GE9:=am ((by rw [hg];exact below_size (show Below w0.heap.size w0 _ from by repeat (first|exact HB8.out|apply below_alloc|apply pw_below_drewN|apply below_drew1|refine below_set ?_ eV.out))):w0.heap.size≤g9);have mm:=am (Kd.S_mono (Kd.S_bound HRg.out) (ok':=fun k=>g7<k∧k<g9) (fun k hk=>⟨hk.1,(show k<g9 from by rw [hg];exact hk.2.2.1)⟩));clear HRg;have HRg:=mm;clear mm;have LT1_9:=am (show g1<g9 from by rw [hg];exact blk_ltH HK1.out);have NE1_9:=am (Nat.ne_of_lt LT1_9.out);have b1M:=NE1_9.out;have b1N:=Nat.ne_of_gt LT1_9.out;have LT5_9:=am (show g5<g9 from by rw [hg];exact blk_ltH HK5.out);have NE5_9:=am (Nat.ne_of_lt LT5_9.out);have b1O:=NE5_9.out;have b1P:=Nat.ne_of_gt LT5_9.out;have LT7_9:=am (show g7<g9 from by rw [hg];exact blk_ltH HK7.out);have NE7_9:=am (Nat.ne_of_lt LT7_9.out);have b1Q:=NE7_9.out;have b1R:=Nat.ne_of_gt LT7_9.out;have HB9:=am (below_step (show Below w0.heap.size w0 _ from by repeat (first|exact HB8.out|apply below_alloc|apply pw_below_drewN|apply below_drew1|refine below_set ?_ eV.out)) hb);have hKp:=Kept.below (show Kept w8 _ (fun _=>False) from by repeat (first|exact Kept.refl _ _|apply Kept.drewN|apply Kept.drew|refine Kept.setCell ?_ (Or.inl (by exact rfl)) _|apply Kept.alloc)) hb;have n1:=am (blk_kept HK1.out hKp (fun h=>h));have n5:=am (blk_kept HK5.out hKp (fun h=>h));have n7:=am (blk_kept HK7.out hKp (fun h=>h));have mw:=am (Kd.R_kept HRw.out hKp (fun _ _ h=>h));have mx:=am (Kd.R_kept HRx.out hKp (fun _ _ h=>h));have mg:=am (Kd.S_kept HRg.out hKp (fun _ _ h=>h));clear HB8 hKp HK1 HK5 HK7 HRw HRx HRg;have HK1:=n1;have HK5:=n5;have HK7:=n7;have HRw:=mw;have HRx:=mx;have HRg:=mg;clear n1 n5 n7 mw mx mg;have HK9:=am hbox;clear hbox hb hg q_;have dK:w9.cell? ⟨g1,0,none⟩=some (.slice A l.length c):=(blk_cell HK1.out 0).trans rfl;have eG:=blk_frozen HK1.out 0;have iM:w9.cell? ⟨g5,0,none⟩=some (.slice Aw tw.length cw):=(blk_cell HK5.out 0).trans rfl;have gV:=blk_frozen HK5.out 0;have kB:w9.cell? ⟨g7,0,none⟩=some (.slice Ax tx.length cx):=(blk_cell HK7.out 0).trans rfl;have jA:=blk_frozen HK7.out 0;have mQ:w9.cell? ⟨g9,0,none⟩=some (.slice none 0 0):=(blk_cell HK9.out 0).trans rfl;have kW:=blk_frozen HK9.out 0)
    | (have q_:=HB9.out;go_at_call 8;(refine (laws_eqLibrary.calls k _ _ tg _ _ tw _ ?s1 ?s2 ?s3 ?s4 H4.out).mono ?_);(case s1=>exact (Kd.S_reads' (kES_weak (Kd.S_kept HRg.out (show Kept w9 _ (fun k=>k=g9) from by repeat (first|exact Kept.refl _ _|apply Kept.drewN|apply Kept.drew|refine Kept.setCell ?_ (Or.inl (by exact rfl)) _|apply Kept.alloc)) (fun k hk e=>by have l1:=LT1_9.out;have l5:=LT5_9.out;have l7:=LT7_9.out;have e':k=g9:=e;revert hk;intro hk;(try simp only at hk);omega)))).2.2);(case s2=>exact (Kd.S_reads' HRg.out).2.1);(case s3=>exact (Kd.R_reads' (Kd.R_kept HRw.out (show Kept w9 _ (fun k=>k=g9) from by repeat (first|exact Kept.refl _ _|apply Kept.drewN|apply Kept.drew|refine Kept.setCell ?_ (Or.inl (by exact rfl)) _|apply Kept.alloc)) (fun k hk e=>by have l1:=LT1_9.out;have l5:=LT5_9.out;have l7:=LT7_9.out;have e':k=g9:=e;revert hk;intro hk;(try simp only at hk);omega))).2.2);(case s4=>exact (Kd.R_reads' HRw.out).2.1);rintro e mN ⟨rfl,hb⟩;clear dK eG iM gV kB jA mQ kW;have HB10:=am (below_step (show Below w0.heap.size w0 _ from by repeat (first|exact HB9.out|apply below_alloc|apply pw_below_drewN|apply below_drew1|refine below_set ?_ GE9.out)) hb);have hKp:=Kept.below (show Kept w9 _ (fun k=>k=g9) from by repeat (first|exact Kept.refl _ _|apply Kept.drewN|apply Kept.drew|refine Kept.setCell ?_ (Or.inl (by exact rfl)) _|apply Kept.alloc)) hb;have n1:=am (blk_kept HK1.out hKp (fun e=>NE1_9.out e));have n5:=am (blk_kept HK5.out hKp (fun e=>NE5_9.out e));have n7:=am (blk_kept HK7.out hKp (fun e=>NE7_9.out e));have n9:=am (show mN.heap[g9]?=some (.cells #[.slice Ag tg.length cg] 28 (0,0)) from blk_below (by (with_reducible repeat (first|refine blk_drewN ?_ _|refine blk_drew ?_|refine blk_alloc ?_ _));refine blk_put (cs:=#[.slice none 0 0]) ?_ 0 _ rfl;exact HK9.out) hb);have mw:=am (Kd.R_kept HRw.out hKp (fun k hk e=>by have l1:=LT1_9.out;have l5:=LT5_9.out;have l7:=LT7_9.out;have e':k=g9:=e;revert hk;intro hk;(try simp only at hk);omega));have mx:=am (Kd.R_kept HRx.out hKp (fun k hk e=>by have l1:=LT1_9.out;have l5:=LT5_9.out;have l7:=LT7_9.out;have e':k=g9:=e;revert hk;intro hk;(try simp only at hk);omega));have mg:=am (Kd.S_kept HRg.out hKp (fun k hk e=>by have l1:=LT1_9.out;have l5:=LT5_9.out;have l7:=LT7_9.out;have e':k=g9:=e;revert hk;intro hk;(try simp only at hk);omega));clear HB9 hKp HK1 HK5 HK7 HK9 HRw HRx HRg;have HK1:=n1;have HK5:=n5;have HK7:=n7;have HK9:=n9;have HRw:=mw;have HRx:=mx;have HRg:=mg;clear n1 n5 n7 n9 mw mx mg;clear q_;clear hb;have dK:mN.cell? ⟨g1,0,none⟩=some (.slice A l.length c):=(blk_cell HK1.out 0).trans rfl;have eG:=blk_frozen HK1.out 0;have iM:mN.cell? ⟨g5,0,none⟩=some (.slice Aw tw.length cw):=(blk_cell HK5.out 0).trans rfl;have gV:=blk_frozen HK5.out 0;have kB:mN.cell? ⟨g7,0,none⟩=some (.slice Ax tx.length cx):=(blk_cell HK7.out 0).trans rfl;have jA:=blk_frozen HK7.out 0;have mQ:mN.cell? ⟨g9,0,none⟩=some (.slice Ag tg.length cg):=(blk_cell HK9.out 0).trans rfl;have kW:=blk_frozen HK9.out 0))
  have HB11:=am (below_drew1 HB10.out);have n1:=am (blk_drew HK1.out);have n5:=am (blk_drew HK5.out);have n7:=am (blk_drew HK7.out);have n9:=am (blk_drew HK9.out);have mw:=am (Kd.R_drew HRw.out);have mx:=am (Kd.R_drew HRx.out);have mg:=am (Kd.S_drew HRg.out);clear HB10 HK1 dK eG HK5 iM gV HK7 kB jA HK9 mQ kW HRw HRx HRg;have HK1:=n1;have HK5:=n5;have HK7:=n7;have HK9:=n9;have HRw:=mw;have HRx:=mx;have HRg:=mg;clear n1 n5 n7 n9 mw mx mg;refine start_ (n:=5) (S:=fun w'=>w'.cell? ⟨g7,0,none⟩=some (.slice Ax tx.length cx)∧w'.cell? ⟨g1,0,none⟩=some (.slice A l.length c)) (ds:=[]) #[false,false,false,false,false] (by kernel_rfl) rfl rfl ⟨(blk_cell HK7.out 0).trans rfl,(blk_cell HK1.out 0).trans rfl⟩ (fun hHeld=>?_);generalize mN.drew=dM at HB11 HK1 HK5 HK7 HK9 HRw HRx HRg hHeld ⊢;refine take_ (i:=0) (N:=some 48) (v:=?_) (a':=?_) #[true,false,false,false,false] rfl rfl (by kernel_rfl) (fun _ _ _ h=>h) (Or.inl ⟨by rfl,?_⟩) hHeld ?_ ?_
  rotate_left
  · rintro w' ⟨s0,s1⟩
    go_simp
    with_reducible rfl
  rotate_left
  · simp only [Act.put,List.setIfInBounds_toArray,List.set_cons_zero,List.set_cons_succ,i64_w,i32_w]
    rfl
  refine take_ (i:=1) (N:=some 49) (v:=?_) (a':=?_) #[true,true,false,false,false] rfl rfl (by kernel_rfl) (fun _ _ _ h=>h) (Or.inl ⟨by rfl,?_⟩) hHeld ?_ ?_
  rotate_left
  · rintro w' ⟨s0,s1⟩
    go_simp
    with_reducible rfl
  rotate_left
  · simp only [Act.put,List.setIfInBounds_toArray,List.set_cons_zero,List.set_cons_succ,i64_w,i32_w]
    rfl
  have q_:=HB11.out;refine one_ (i:=2) (N:=some 50) #[true,true,true,false,false] rfl rfl (by kernel_rfl) (by decide) (fun K hK=>?_);refine goes_ Tryz.func6 (by kernel_rfl) rfl #[.agg #[.slice A l.length c]] (by rfl) rfl rfl (by (try simp only [List.map_toArray,List.map_cons,List.map_nil]);first|done|rfl|(simp only [List.length_drop,List.length_take];rfl)) ?_
  (refine (laws_toLibrary.calls k A c l tx _ ?s1 HC.out H1.out).mono ?_)
  (case s1=>exact (Kd.C_below HR.out (show Below w0.heap.size w0 _ from by repeat (first|exact HB11.out|apply below_alloc|apply pw_below_drewN|apply below_drew1|refine below_set ?_ eV.out))))
  rintro e adZ ⟨v,rfl,ho,hb⟩;refine ⟨_,rfl,?_⟩;have mm:=am (Kd.R_lower ho (below_size (show Below w0.heap.size w0 _ from by repeat (first|exact HB11.out|apply below_alloc|apply pw_below_drewN|apply below_drew1|refine below_set ?_ eV.out))));have HB115:=am (below_step (show Below w0.heap.size w0 _ from by repeat (first|exact HB11.out|apply below_alloc|apply pw_below_drewN|apply below_drew1|refine below_set ?_ eV.out)) hb);have hKp:=Kept.below (show Kept dM _ (fun _=>False) from by repeat (first|exact Kept.refl _ _|apply Kept.drewN|apply Kept.drew|refine Kept.setCell ?_ (Or.inl (by exact rfl)) _|apply Kept.alloc)) hb;have n1:=am (blk_kept HK1.out hKp (fun h=>h));have n5:=am (blk_kept HK5.out hKp (fun h=>h));have n7:=am (blk_kept HK7.out hKp (fun h=>h));have n9:=am (blk_kept HK9.out hKp (fun h=>h));have mw:=am (Kd.R_kept HRw.out hKp (fun _ _ h=>h));have mx:=am (Kd.R_kept HRx.out hKp (fun _ _ h=>h));have mg:=am (Kd.S_kept HRg.out hKp (fun _ _ h=>h));clear HB11 hKp HK1 HK5 HK7 HK9 HRw HRx HRg;have HK1:=n1;have HK5:=n5;have HK7:=n7;have HK9:=n9;have HRw:=mw;have HRx:=mx;have HRg:=mg;clear n1 n5 n7 n9 mw mx mg;have HRy:=mm;clear mm ho;obtain ⟨Ay,cy,ey⟩:=Kd.R_slice HRy.out;subst ey;clear q_;clear hb;refine hK.out _ _ ⟨(blk_cell HK7.out 0).trans rfl,(blk_cell HK1.out 0).trans rfl⟩ (fun hHeld=>?_);clear hK K;refine norm_ (a':=?_) ?_ ?_
  rotate_left
  · show Act.put _ (some 50) _=_
    simp only [Act.put,List.setIfInBounds_toArray,List.set_cons_zero,List.set_cons_succ,i64_w,i32_w];rfl
  have q_:=HB115.out;refine one_ (i:=3) (N:=some 51) #[true,true,true,true,false] rfl rfl (by kernel_rfl) (by decide) (fun K hK=>?_);refine goes_ Tryz.func8 (by kernel_rfl) rfl #[.agg #[.slice Ax tx.length cx],.agg #[.slice Ay tx.length cy]] (by rfl) rfl rfl (by (try simp only [List.map_toArray,List.map_cons,List.map_nil]);first|done|rfl|(simp only [List.length_drop,List.length_take];rfl)) ?_
  (refine (laws_eqLibrary.calls k _ _ tx _ _ tx _ ?s1 ?s2 ?s3 ?s4 H5.out).mono ?_)
  (case s1=>exact (Kd.R_reads' (Kd.R_kept HRx.out (show Kept adZ _ (fun _=>False) from by repeat (first|exact Kept.refl _ _|apply Kept.drewN|apply Kept.drew|refine Kept.setCell ?_ (Or.inl (by exact rfl)) _|apply Kept.alloc)) (fun _ _ h=>h))).2.2)
  (case s2=>exact (Kd.R_reads' HRx.out).2.1)
  (case s3=>exact (Kd.R_reads' (Kd.R_kept HRy.out (show Kept adZ _ (fun _=>False) from by repeat (first|exact Kept.refl _ _|apply Kept.drewN|apply Kept.drew|refine Kept.setCell ?_ (Or.inl (by exact rfl)) _|apply Kept.alloc)) (fun _ _ h=>h))).2.2)
  (case s4=>exact (Kd.R_reads' HRy.out).2.1)
  rintro e MF ⟨rfl,hb⟩;refine ⟨_,rfl,?_⟩;clear HRy;have HB12:=am (below_step (show Below w0.heap.size w0 _ from by repeat (first|exact HB115.out|apply below_alloc|apply pw_below_drewN|apply below_drew1|refine below_set ?_ eV.out)) hb);have hKp:=Kept.below (show Kept adZ _ (fun _=>False) from by repeat (first|exact Kept.refl _ _|apply Kept.drewN|apply Kept.drew|refine Kept.setCell ?_ (Or.inl (by exact rfl)) _|apply Kept.alloc)) hb;have n1:=am (blk_kept HK1.out hKp (fun h=>h));have n5:=am (blk_kept HK5.out hKp (fun h=>h));have n7:=am (blk_kept HK7.out hKp (fun h=>h));have n9:=am (blk_kept HK9.out hKp (fun h=>h));have mw:=am (Kd.R_kept HRw.out hKp (fun _ _ h=>h));have mx:=am (Kd.R_kept HRx.out hKp (fun _ _ h=>h));have mg:=am (Kd.S_kept HRg.out hKp (fun _ _ h=>h));clear HB115 hKp HK1 HK5 HK7 HK9 HRw HRx HRg;have HK1:=n1;have HK5:=n5;have HK7:=n7;have HK9:=n9;have HRw:=mw;have HRx:=mx;have HRg:=mg;clear n1 n5 n7 n9 mw mx mg;clear q_;clear hb;refine hK.out _ _ ⟨(blk_cell HK7.out 0).trans rfl,(blk_cell HK1.out 0).trans rfl⟩ (fun hHeld=>?_);clear hK K;refine norm_ (a':=?_) ?_ ?_
  rotate_left
  · show Act.put _ (some 51) _=_
    simp only [Act.put,List.setIfInBounds_toArray,List.set_cons_zero,List.set_cons_succ,i64_w,i32_w];rfl
  refine pure_ (i:=4) (N:=some 52) (v:=?_) (a':=?_) #[true,true,true,true,true] rfl rfl (by kernel_rfl) (fun _ _ _ h=>h) (Or.inl ⟨by rfl,?_⟩) ?_ ?_
  rotate_left
  · intro w'
    go_simp
    with_reducible rfl
  rotate_left
  · simp only [Act.put,List.setIfInBounds_toArray,List.set_cons_zero,List.set_cons_succ,i64_w,i32_w]
    rfl
  refine done_ (by kernel_rfl) ?_;have dK:MF.cell? ⟨g1,0,none⟩=some (.slice A l.length c):=(blk_cell HK1.out 0).trans rfl;have eG:=blk_frozen HK1.out 0;have iM:MF.cell? ⟨g5,0,none⟩=some (.slice Aw tw.length cw):=(blk_cell HK5.out 0).trans rfl;have gV:=blk_frozen HK5.out 0;have kB:MF.cell? ⟨g7,0,none⟩=some (.slice Ax tx.length cx):=(blk_cell HK7.out 0).trans rfl;have jA:=blk_frozen HK7.out 0;have mQ:MF.cell? ⟨g9,0,none⟩=some (.slice Ag tg.length cg):=(blk_cell HK9.out 0).trans rfl;have kW:=blk_frozen HK9.out 0
  go_wp2_with (first
    | (have q_:=HB12.out;go_at_call 9;(refine (laws_markLibrary.calls (P:=(fun k=>g5<k∧k<g7)) HRx.out 1 tn _ ?s1 (below_size (show Below w0.heap.size w0 _ from by repeat (first|exact HB12.out|apply below_alloc|apply pw_below_drewN|apply below_drew1|refine below_set ?_ eV.out))) H6.out).mono ?_);(case s1=>exact (Kd.R_kept HRx.out (show Kept MF _ (fun _=>False) from by repeat (first|exact Kept.refl _ _|apply Kept.drewN|apply Kept.drew|refine Kept.setCell ?_ (Or.inl (by exact rfl)) _|apply Kept.alloc)) (fun _ _ h=>h)));rintro e mP ⟨rfl,hb,hs⟩;clear dK eG iM gV kB jA mQ kW;have HB13:=am (Below.trans (show Below w0.heap.size w0 _ from by repeat (first|exact HB12.out|apply below_alloc|apply pw_below_drewN|apply below_drew1|refine below_set ?_ eV.out)) hb);have hK:=Kept.then_ (show Kept MF _ (fun k=>g5<k∧k<g7) from by repeat (first|exact Kept.refl _ _|apply Kept.drewN|apply Kept.drew|refine Kept.setCell ?_ (Or.inl (by exact rfl)) _|apply Kept.alloc)) (Sim.kept hs) (S2:=(fun k=>g5<k∧k<g7)) (fun k hk=>Or.inl hk);have n1:=am (blk_kept HK1.out hK (fun h=>by have l1:=LT1_5.out;have l2:=LT7_9.out;have h1:=h.1;have h2:=h.2;omega));have n5:=am (blk_kept HK5.out hK (fun h=>by have l1:=LT1_5.out;have l2:=LT7_9.out;have h1:=h.1;have h2:=h.2;omega));have n7:=am (blk_kept HK7.out hK (fun h=>by have l1:=LT1_5.out;have l2:=LT7_9.out;have h1:=h.1;have h2:=h.2;omega));have n9:=am (blk_kept HK9.out hK (fun h=>by have l1:=LT1_5.out;have l2:=LT7_9.out;have h1:=h.1;have h2:=h.2;omega));have mw:=am (Kd.R_kept HRw.out hK (fun k hk h=>by have h1:=h.1;have hk1:k<g5:=hk;omega));have mg:=am (Kd.S_kept HRg.out hK (fun k hk h=>by have h2:=h.2;have hk1:=hk.1;omega));clear HB12 hK hb hs HRx HRw HRg HK1 HK5 HK7 HK9;have HK1:=n1;have HK5:=n5;have HK7:=n7;have HK9:=n9;have HRw:=mw;have HRg:=mg;clear mw mg q_ n1 n5 n7 n9;have dK:mP.cell? ⟨g1,0,none⟩=some (.slice A l.length c):=(blk_cell HK1.out 0).trans rfl;have eG:=blk_frozen HK1.out 0;have iM:mP.cell? ⟨g5,0,none⟩=some (.slice Aw tw.length cw):=(blk_cell HK5.out 0).trans rfl;have gV:=blk_frozen HK5.out 0;have kB:mP.cell? ⟨g7,0,none⟩=some (.slice Ax tx.length cx):=(blk_cell HK7.out 0).trans rfl;have jA:=blk_frozen HK7.out 0;have mQ:mP.cell? ⟨g9,0,none⟩=some (.slice Ag tg.length cg):=(blk_cell HK9.out 0).trans rfl;have kW:=blk_frozen HK9.out 0)
    | (have q_:=HB13.out;go_at_call 8;(refine (laws_eqLibrary.calls k _ _ tg _ _ tw _ ?s1 ?s2 ?s3 ?s4 H4.out).mono ?_);(case s1=>exact (Kd.S_reads' (kES_weak (Kd.S_kept HRg.out (show Kept mP _ (fun _=>False) from by repeat (first|exact Kept.refl _ _|apply Kept.drewN|apply Kept.drew|refine Kept.setCell ?_ (Or.inl (by exact rfl)) _|apply Kept.alloc)) (fun _ _ h=>h)))).2.2);(case s2=>exact (Kd.S_reads' HRg.out).2.1);(case s3=>exact (Kd.R_reads' (Kd.R_kept HRw.out (show Kept mP _ (fun _=>False) from by repeat (first|exact Kept.refl _ _|apply Kept.drewN|apply Kept.drew|refine Kept.setCell ?_ (Or.inl (by exact rfl)) _|apply Kept.alloc)) (fun _ _ h=>h))).2.2);(case s4=>exact (Kd.R_reads' HRw.out).2.1);rintro e rL ⟨rfl,hb⟩;clear dK eG iM gV kB jA mQ kW;have HB14:=am (below_step (show Below w0.heap.size w0 _ from by repeat (first|exact HB13.out|apply below_alloc|apply pw_below_drewN|apply below_drew1|refine below_set ?_ eV.out)) hb);have hKp:=Kept.below (show Kept mP _ (fun _=>False) from by repeat (first|exact Kept.refl _ _|apply Kept.drewN|apply Kept.drew|refine Kept.setCell ?_ (Or.inl (by exact rfl)) _|apply Kept.alloc)) hb;have n1:=am (blk_kept HK1.out hKp (fun h=>h));have n5:=am (blk_kept HK5.out hKp (fun h=>h));have n7:=am (blk_kept HK7.out hKp (fun h=>h));have n9:=am (blk_kept HK9.out hKp (fun h=>h));have mw:=am (Kd.R_kept HRw.out hKp (fun _ _ h=>h));have mg:=am (Kd.S_kept HRg.out hKp (fun _ _ h=>h));clear HB13 hKp HK1 HK5 HK7 HK9 HRw HRg;have HK1:=n1;have HK5:=n5;have HK7:=n7;have HK9:=n9;have HRw:=mw;have HRg:=mg;clear n1 n5 n7 n9 mw mg;clear q_;clear hb;have dK:rL.cell? ⟨g1,0,none⟩=some (.slice A l.length c):=(blk_cell HK1.out 0).trans rfl;have eG:=blk_frozen HK1.out 0;have iM:rL.cell? ⟨g5,0,none⟩=some (.slice Aw tw.length cw):=(blk_cell HK5.out 0).trans rfl;have gV:=blk_frozen HK5.out 0;have kB:rL.cell? ⟨g7,0,none⟩=some (.slice Ax tx.length cx):=(blk_cell HK7.out 0).trans rfl;have jA:=blk_frozen HK7.out 0;have mQ:rL.cell? ⟨g9,0,none⟩=some (.slice Ag tg.length cg):=(blk_cell HK9.out 0).trans rfl;have kW:=blk_frozen HK9.out 0)
    | (have q_:=HB14.out;go_at_call 9;(refine (markL_s (fun k=>g7<k∧k<g9) _ _ tg 1 w0 _ (by decide) HM.out (show Below w0.heap.size w0 _ from by repeat (first|exact HB14.out|apply below_alloc|apply pw_below_drewN|apply below_drew1|refine below_set ?_ eV.out)) ?s1).mono ?_);(case s1=>exact (Kd.S_kept HRg.out (show Kept rL _ (fun _=>False) from by repeat (first|exact Kept.refl _ _|apply Kept.drewN|apply Kept.drew|refine Kept.setCell ?_ (Or.inl (by exact rfl)) _|apply Kept.alloc)) (fun _ _ h=>h)));rintro e MD ⟨rfl,hS,hb,hs⟩;clear dK eG iM gV kB jA mQ kW;have HB15:=am hb;have hK:=Kept.then_ (show Kept rL _ (fun k=>g7<k∧k<g9) from by repeat (first|exact Kept.refl _ _|apply Kept.drewN|apply Kept.drew|refine Kept.setCell ?_ (Or.inl (by exact rfl)) _|apply Kept.alloc)) hs (S2:=(fun k=>g7<k∧k<g9)) (fun k hk=>Or.inl hk);have n1:=am (blk_kept HK1.out hK (fun h=>by have l1:=LT1_7.out;have l2:=LT5_7.out;have h1:=h.1;have h2:=h.2;omega));have n5:=am (blk_kept HK5.out hK (fun h=>by have l1:=LT1_7.out;have l2:=LT5_7.out;have h1:=h.1;have h2:=h.2;omega));have n7:=am (blk_kept HK7.out hK (fun h=>by have l1:=LT1_7.out;have l2:=LT5_7.out;have h1:=h.1;have h2:=h.2;omega));have n9:=am (blk_kept HK9.out hK (fun h=>by have l1:=LT1_7.out;have l2:=LT5_7.out;have h1:=h.1;have h2:=h.2;omega));have mw:=am (Kd.R_kept HRw.out hK (fun k hk h=>by have l2:=LT5_7.out;have h1:=h.1;have hk1:k<g5:=hk;omega));have mg:=am (Kd.S_R (kES_weak hS));clear HB14 hK hb hs hS HRw HRg HK1 HK5 HK7 HK9;have HK1:=n1;have HK5:=n5;have HK7:=n7;have HK9:=n9;have HRw:=mw;have HRg:=mg;clear mw mg q_ n1 n5 n7 n9;have dK:MD.cell? ⟨g1,0,none⟩=some (.slice A l.length c):=(blk_cell HK1.out 0).trans rfl;have eG:=blk_frozen HK1.out 0;have iM:MD.cell? ⟨g5,0,none⟩=some (.slice Aw tw.length cw):=(blk_cell HK5.out 0).trans rfl;have gV:=blk_frozen HK5.out 0;have kB:MD.cell? ⟨g7,0,none⟩=some (.slice Ax tx.length cx):=(blk_cell HK7.out 0).trans rfl;have jA:=blk_frozen HK7.out 0;have mQ:MD.cell? ⟨g9,0,none⟩=some (.slice Ag tg.length cg):=(blk_cell HK9.out 0).trans rfl;have kW:=blk_frozen HK9.out 0)
    | (have q_:=HB15.out;go_at_call 10;(refine (held_n k Ag cg tg.length (mkE 1 tg) 1 (1+cntE tg) _ (mkE_len tg 1).symm ?s1 ?s2 H7.out HP.out).mono ?_);(case s1=>exact (Kd.R_reads' (Kd.R_kept HRg.out (show Kept MD _ (fun _=>False) from by repeat (first|exact Kept.refl _ _|apply Kept.drewN|apply Kept.drew|refine Kept.setCell ?_ (Or.inl (by exact rfl)) _|apply Kept.alloc)) (fun _ _ h=>h))).2.2);(case s2=>exact (Kd.R_reads' HRg.out).2.1);rintro e vC ⟨rfl,hb⟩;clear dK eG iM gV kB jA mQ kW;have HB16:=am (below_step (show Below w0.heap.size w0 _ from by repeat (first|exact HB15.out|apply below_alloc|apply pw_below_drewN|apply below_drew1|refine below_set ?_ eV.out)) hb);have hKp:=Kept.below (show Kept MD _ (fun _=>False) from by repeat (first|exact Kept.refl _ _|apply Kept.drewN|apply Kept.drew|refine Kept.setCell ?_ (Or.inl (by exact rfl)) _|apply Kept.alloc)) hb;have n1:=am (blk_kept HK1.out hKp (fun h=>h));have n5:=am (blk_kept HK5.out hKp (fun h=>h));have n7:=am (blk_kept HK7.out hKp (fun h=>h));have n9:=am (blk_kept HK9.out hKp (fun h=>h));have mw:=am (Kd.R_kept HRw.out hKp (fun _ _ h=>h));have mg:=am (Kd.R_kept HRg.out hKp (fun _ _ h=>h));clear HB15 hKp HK1 HK5 HK7 HK9 HRw HRg;have HK1:=n1;have HK5:=n5;have HK7:=n7;have HK9:=n9;have HRw:=mw;have HRg:=mg;clear n1 n5 n7 n9 mw mg;clear q_;clear hb;have dK:vC.cell? ⟨g1,0,none⟩=some (.slice A l.length c):=(blk_cell HK1.out 0).trans rfl;have eG:=blk_frozen HK1.out 0;have iM:vC.cell? ⟨g5,0,none⟩=some (.slice Aw tw.length cw):=(blk_cell HK5.out 0).trans rfl;have gV:=blk_frozen HK5.out 0;have kB:vC.cell? ⟨g7,0,none⟩=some (.slice Ax tx.length cx):=(blk_cell HK7.out 0).trans rfl;have jA:=blk_frozen HK7.out 0;have mQ:vC.cell? ⟨g9,0,none⟩=some (.slice Ag tg.length cg):=(blk_cell HK9.out 0).trans rfl;have kW:=blk_frozen HK9.out 0)
    | (have q_:=HB16.out;go_at_call 6;(refine (laws_toLibrary.calls k A c l tx _ ?s1 HC.out H1.out).mono ?_);(case s1=>exact (Kd.C_below HR.out (show Below w0.heap.size w0 _ from by repeat (first|exact HB16.out|apply below_alloc|apply pw_below_drewN|apply below_drew1|refine below_set ?_ eV.out))));rintro e oP ⟨v,rfl,ho,hb⟩;clear dK eG iM gV kB jA mQ kW;have mm:=am (Kd.R_lower ho (below_size (show Below w0.heap.size w0 _ from by repeat (first|exact HB16.out|apply below_alloc|apply pw_below_drewN|apply below_drew1|refine below_set ?_ eV.out))));have HB17:=am (below_step (show Below w0.heap.size w0 _ from by repeat (first|exact HB16.out|apply below_alloc|apply pw_below_drewN|apply below_drew1|refine below_set ?_ eV.out)) hb);have hKp:=Kept.below (show Kept vC _ (fun _=>False) from by repeat (first|exact Kept.refl _ _|apply Kept.drewN|apply Kept.drew|refine Kept.setCell ?_ (Or.inl (by exact rfl)) _|apply Kept.alloc)) hb;have n1:=am (blk_kept HK1.out hKp (fun h=>h));have n5:=am (blk_kept HK5.out hKp (fun h=>h));have n7:=am (blk_kept HK7.out hKp (fun h=>h));have n9:=am (blk_kept HK9.out hKp (fun h=>h));have mw:=am (Kd.R_kept HRw.out hKp (fun _ _ h=>h));have mg:=am (Kd.R_kept HRg.out hKp (fun _ _ h=>h));clear HB16 hKp HK1 HK5 HK7 HK9 HRw HRg;have HK1:=n1;have HK5:=n5;have HK7:=n7;have HK9:=n9;have HRw:=mw;have HRg:=mg;clear n1 n5 n7 n9 mw mg;have HRz:=mm;clear mm ho;obtain ⟨Az,cz,ez⟩:=Kd.R_slice HRz.out;subst ez;clear q_;clear hb;have dK:oP.cell? ⟨g1,0,none⟩=some (.slice A l.length c):=(blk_cell HK1.out 0).trans rfl;have eG:=blk_frozen HK1.out 0;have iM:oP.cell? ⟨g5,0,none⟩=some (.slice Aw tw.length cw):=(blk_cell HK5.out 0).trans rfl;have gV:=blk_frozen HK5.out 0;have kB:oP.cell? ⟨g7,0,none⟩=some (.slice Ax tx.length cx):=(blk_cell HK7.out 0).trans rfl;have jA:=blk_frozen HK7.out 0;have mQ:oP.cell? ⟨g9,0,none⟩=some (.slice Ag tg.length cg):=(blk_cell HK9.out 0).trans rfl;have kW:=blk_frozen HK9.out 0)
    | (have q_:=HB17.out;go_at_call 7;(refine (impl_DropEntry.calls _ _ tx key tg rb _ (hG:=HG.out.below (show Below w0.heap.size w0 _ from by repeat (first|exact HB17.out|apply below_alloc|apply pw_below_drewN|apply below_drew1|refine below_set ?_ eV.out))) ?s1 ?s2 H3.out).mono ?_);(case s1=>exact (Kd.R_reads' (Kd.R_kept HRz.out (show Kept oP _ (fun _=>False) from by repeat (first|exact Kept.refl _ _|apply Kept.drewN|apply Kept.drew|refine Kept.setCell ?_ (Or.inl (by exact rfl)) _|apply Kept.alloc)) (fun _ _ h=>h))).2.2);(case s2=>exact (Kd.R_reads' HRz.out).2.1);rintro e nW ⟨v,rfl,ho,hb⟩;clear dK eG iM gV kB jA mQ kW;have mm:=am (Kd.R_lower ho (below_size (show Below w0.heap.size w0 _ from by repeat (first|exact HB17.out|apply below_alloc|apply pw_below_drewN|apply below_drew1|refine below_set ?_ eV.out))));clear HRz;have HB18:=am (below_step (show Below w0.heap.size w0 _ from by repeat (first|exact HB17.out|apply below_alloc|apply pw_below_drewN|apply below_drew1|refine below_set ?_ eV.out)) hb);have hKp:=Kept.below (show Kept oP _ (fun _=>False) from by repeat (first|exact Kept.refl _ _|apply Kept.drewN|apply Kept.drew|refine Kept.setCell ?_ (Or.inl (by exact rfl)) _|apply Kept.alloc)) hb;have n1:=am (blk_kept HK1.out hKp (fun h=>h));have n5:=am (blk_kept HK5.out hKp (fun h=>h));have n7:=am (blk_kept HK7.out hKp (fun h=>h));have n9:=am (blk_kept HK9.out hKp (fun h=>h));have mw:=am (Kd.R_kept HRw.out hKp (fun _ _ h=>h));have mg:=am (Kd.R_kept HRg.out hKp (fun _ _ h=>h));clear HB17 hKp HK1 HK5 HK7 HK9 HRw HRg;have HK1:=n1;have HK5:=n5;have HK7:=n7;have HK9:=n9;have HRw:=mw;have HRg:=mg;clear n1 n5 n7 n9 mw mg;have HRh:=mm;clear mm ho;obtain ⟨Ah,ch,eh⟩:=Kd.R_slice HRh.out;subst eh;clear q_;clear hb;have dK:nW.cell? ⟨g1,0,none⟩=some (.slice A l.length c):=(blk_cell HK1.out 0).trans rfl;have eG:=blk_frozen HK1.out 0;have iM:nW.cell? ⟨g5,0,none⟩=some (.slice Aw tw.length cw):=(blk_cell HK5.out 0).trans rfl;have gV:=blk_frozen HK5.out 0;have kB:nW.cell? ⟨g7,0,none⟩=some (.slice Ax tx.length cx):=(blk_cell HK7.out 0).trans rfl;have jA:=blk_frozen HK7.out 0;have mQ:nW.cell? ⟨g9,0,none⟩=some (.slice Ag tg.length cg):=(blk_cell HK9.out 0).trans rfl;have kW:=blk_frozen HK9.out 0)
    | (have q_:=HB18.out;(with_reducible refine gate_dst (N:=14) rfl ?_);refine box_event ?hg (N:=14) ?hd (cs:=#[.slice none 0 0]) (t:=28) ?hr ?_;(case hd=>rfl);(case hg=>rfl);(case hr=>first|(go_simp;done)|(go_simp;rfl));intro g19 hg xM hbox hb;clear dK eG iM gV kB jA mQ kW;have aJu:=am ((by rw [hg];exact below_size (show Below w0.heap.size w0 _ from by repeat (first|exact HB18.out|apply below_alloc|apply pw_below_drewN|apply below_drew1|refine below_set ?_ eV.out))):w0.heap.size≤g19);have mm:=am (Kd.R_mono (Kd.R_bound HRh.out) (ok':=fun k=>k<g19) (fun k hk=>(show k<g19 from by rw [hg];exact hk.2.2.1)));clear HRh;have HRh:=mm;clear mm;have LT1_19:=am (show g1<g19 from by rw [hg];exact blk_ltH HK1.out);have NE1_19:=am (Nat.ne_of_lt LT1_19.out);have aXX:=NE1_19.out;have aXY:=Nat.ne_of_gt LT1_19.out;have LT5_19:=am (show g5<g19 from by rw [hg];exact blk_ltH HK5.out);have NE5_19:=am (Nat.ne_of_lt LT5_19.out);have aXZ:=NE5_19.out;have aY0:=Nat.ne_of_gt LT5_19.out;have LT7_19:=am (show g7<g19 from by rw [hg];exact blk_ltH HK7.out);have NE7_19:=am (Nat.ne_of_lt LT7_19.out);have aY1:=NE7_19.out;have aY2:=Nat.ne_of_gt LT7_19.out;have LT9_19:=am (show g9<g19 from by rw [hg];exact blk_ltH HK9.out);have NE9_19:=am (Nat.ne_of_lt LT9_19.out);have aY3:=NE9_19.out;have aY4:=Nat.ne_of_gt LT9_19.out;have HB19:=am (below_step (show Below w0.heap.size w0 _ from by repeat (first|exact HB18.out|apply below_alloc|apply pw_below_drewN|apply below_drew1|refine below_set ?_ eV.out)) hb);have hKp:=Kept.below (show Kept nW _ (fun _=>False) from by repeat (first|exact Kept.refl _ _|apply Kept.drewN|apply Kept.drew|refine Kept.setCell ?_ (Or.inl (by exact rfl)) _|apply Kept.alloc)) hb;have n1:=am (blk_kept HK1.out hKp (fun h=>h));have n5:=am (blk_kept HK5.out hKp (fun h=>h));have n7:=am (blk_kept HK7.out hKp (fun h=>h));have n9:=am (blk_kept HK9.out hKp (fun h=>h));have mw:=am (Kd.R_kept HRw.out hKp (fun _ _ h=>h));have mg:=am (Kd.R_kept HRg.out hKp (fun _ _ h=>h));have mh:=am (Kd.R_kept HRh.out hKp (fun _ _ h=>h));clear HB18 hKp HK1 HK5 HK7 HK9 HRw HRg HRh;have HK1:=n1;have HK5:=n5;have HK7:=n7;have HK9:=n9;have HRw:=mw;have HRg:=mg;have HRh:=mh;clear n1 n5 n7 n9 mw mg mh;have HK19:=am hbox;clear hbox hb hg q_;have dK:xM.cell? ⟨g1,0,none⟩=some (.slice A l.length c):=(blk_cell HK1.out 0).trans rfl;have eG:=blk_frozen HK1.out 0;have iM:xM.cell? ⟨g5,0,none⟩=some (.slice Aw tw.length cw):=(blk_cell HK5.out 0).trans rfl;have gV:=blk_frozen HK5.out 0;have kB:xM.cell? ⟨g7,0,none⟩=some (.slice Ax tx.length cx):=(blk_cell HK7.out 0).trans rfl;have jA:=blk_frozen HK7.out 0;have mQ:xM.cell? ⟨g9,0,none⟩=some (.slice Ag tg.length cg):=(blk_cell HK9.out 0).trans rfl;have kW:=blk_frozen HK9.out 0;have a4S:xM.cell? ⟨g19,0,none⟩=some (.slice none 0 0):=(blk_cell HK19.out 0).trans rfl;have a4T:=blk_frozen HK19.out 0)
    | (have q_:=HB19.out;go_at_call 8;(refine (laws_eqLibrary.calls k _ _ tg _ _ tw _ ?s1 ?s2 ?s3 ?s4 H4.out).mono ?_);(case s1=>exact (Kd.R_reads' (Kd.R_kept HRh.out (show Kept xM _ (fun k=>k=g19) from by repeat (first|exact Kept.refl _ _|apply Kept.drewN|apply Kept.drew|refine Kept.setCell ?_ (Or.inl (by exact rfl)) _|apply Kept.alloc)) (fun k hk e=>by have l1:=LT1_19.out;have l5:=LT5_19.out;have l7:=LT7_19.out;have l9:=LT9_19.out;have e':k=g19:=e;revert hk;intro hk;(try simp only at hk);omega))).2.2);(case s2=>exact (Kd.R_reads' HRh.out).2.1);(case s3=>exact (Kd.R_reads' (Kd.R_kept HRw.out (show Kept xM _ (fun k=>k=g19) from by repeat (first|exact Kept.refl _ _|apply Kept.drewN|apply Kept.drew|refine Kept.setCell ?_ (Or.inl (by exact rfl)) _|apply Kept.alloc)) (fun k hk e=>by have l1:=LT1_19.out;have l5:=LT5_19.out;have l7:=LT7_19.out;have l9:=LT9_19.out;have e':k=g19:=e;revert hk;intro hk;(try simp only at hk);omega))).2.2);(case s4=>exact (Kd.R_reads' HRw.out).2.1);rintro e Dp ⟨rfl,hb⟩;clear dK eG iM gV kB jA mQ kW a4S a4T;clear HRh;have HB20:=am (below_step (show Below w0.heap.size w0 _ from by repeat (first|exact HB19.out|apply below_alloc|apply pw_below_drewN|apply below_drew1|refine below_set ?_ aJu.out)) hb);have hKp:=Kept.below (show Kept xM _ (fun k=>k=g19) from by repeat (first|exact Kept.refl _ _|apply Kept.drewN|apply Kept.drew|refine Kept.setCell ?_ (Or.inl (by exact rfl)) _|apply Kept.alloc)) hb;have n1:=am (blk_kept HK1.out hKp (fun e=>NE1_19.out e));have n5:=am (blk_kept HK5.out hKp (fun e=>NE5_19.out e));have n7:=am (blk_kept HK7.out hKp (fun e=>NE7_19.out e));have n9:=am (blk_kept HK9.out hKp (fun e=>NE9_19.out e));have n19:=am (show Dp.heap[g19]?=some (.cells #[.slice Ah tg.length ch] 28 (0,0)) from blk_below (by (with_reducible repeat (first|refine blk_drewN ?_ _|refine blk_drew ?_|refine blk_alloc ?_ _));refine blk_put (cs:=#[.slice none 0 0]) ?_ 0 _ rfl;exact HK19.out) hb);have mw:=am (Kd.R_kept HRw.out hKp (fun k hk e=>by have l1:=LT1_19.out;have l5:=LT5_19.out;have l7:=LT7_19.out;have l9:=LT9_19.out;have e':k=g19:=e;revert hk;intro hk;(try simp only at hk);omega));have mg:=am (Kd.R_kept HRg.out hKp (fun k hk e=>by have l1:=LT1_19.out;have l5:=LT5_19.out;have l7:=LT7_19.out;have l9:=LT9_19.out;have e':k=g19:=e;revert hk;intro hk;(try simp only at hk);omega));clear HB19 hKp HK1 HK5 HK7 HK9 HK19 HRw HRg;have HK1:=n1;have HK5:=n5;have HK7:=n7;have HK9:=n9;have HK19:=n19;have HRw:=mw;have HRg:=mg;clear n1 n5 n7 n9 n19 mw mg;clear q_;clear hb;have dK:Dp.cell? ⟨g1,0,none⟩=some (.slice A l.length c):=(blk_cell HK1.out 0).trans rfl;have eG:=blk_frozen HK1.out 0;have iM:Dp.cell? ⟨g5,0,none⟩=some (.slice Aw tw.length cw):=(blk_cell HK5.out 0).trans rfl;have gV:=blk_frozen HK5.out 0;have kB:Dp.cell? ⟨g7,0,none⟩=some (.slice Ax tx.length cx):=(blk_cell HK7.out 0).trans rfl;have jA:=blk_frozen HK7.out 0;have mQ:Dp.cell? ⟨g9,0,none⟩=some (.slice Ag tg.length cg):=(blk_cell HK9.out 0).trans rfl;have kW:=blk_frozen HK9.out 0;have a4S:Dp.cell? ⟨g19,0,none⟩=some (.slice Ah tg.length ch):=(blk_cell HK19.out 0).trans rfl;have a4T:=blk_frozen HK19.out 0)
    | (have q_:=HB20.out;go_at_call 10;(refine (held_n k Ag cg tg.length (mkE 1 tg) 1 (1+cntE tg) _ (mkE_len tg 1).symm ?s1 ?s2 H7.out HP.out).mono ?_);(case s1=>exact (Kd.R_reads' (Kd.R_kept HRg.out (show Kept Dp _ (fun _=>False) from by repeat (first|exact Kept.refl _ _|apply Kept.drewN|apply Kept.drew|refine Kept.setCell ?_ (Or.inl (by exact rfl)) _|apply Kept.alloc)) (fun _ _ h=>h))).2.2);(case s2=>exact (Kd.R_reads' HRg.out).2.1);rintro e QJ ⟨rfl,hb⟩;clear dK eG iM gV kB jA mQ kW a4S a4T;have HB21:=am (below_step (show Below w0.heap.size w0 _ from by repeat (first|exact HB20.out|apply below_alloc|apply pw_below_drewN|apply below_drew1|refine below_set ?_ eV.out)) hb);have hKp:=Kept.below (show Kept Dp _ (fun _=>False) from by repeat (first|exact Kept.refl _ _|apply Kept.drewN|apply Kept.drew|refine Kept.setCell ?_ (Or.inl (by exact rfl)) _|apply Kept.alloc)) hb;have n1:=am (blk_kept HK1.out hKp (fun h=>h));have n5:=am (blk_kept HK5.out hKp (fun h=>h));have n7:=am (blk_kept HK7.out hKp (fun h=>h));have n9:=am (blk_kept HK9.out hKp (fun h=>h));have n19:=am (blk_kept HK19.out hKp (fun h=>h));have mw:=am (Kd.R_kept HRw.out hKp (fun _ _ h=>h));have mg:=am (Kd.R_kept HRg.out hKp (fun _ _ h=>h));clear HB20 hKp HK1 HK5 HK7 HK9 HK19 HRw HRg;have HK1:=n1;have HK5:=n5;have HK7:=n7;have HK9:=n9;have HK19:=n19;have HRw:=mw;have HRg:=mg;clear n1 n5 n7 n9 n19 mw mg;clear q_;clear hb;have dK:QJ.cell? ⟨g1,0,none⟩=some (.slice A l.length c):=(blk_cell HK1.out 0).trans rfl;have eG:=blk_frozen HK1.out 0;have iM:QJ.cell? ⟨g5,0,none⟩=some (.slice Aw tw.length cw):=(blk_cell HK5.out 0).trans rfl;have gV:=blk_frozen HK5.out 0;have kB:QJ.cell? ⟨g7,0,none⟩=some (.slice Ax tx.length cx):=(blk_cell HK7.out 0).trans rfl;have jA:=blk_frozen HK7.out 0;have mQ:QJ.cell? ⟨g9,0,none⟩=some (.slice Ag tg.length cg):=(blk_cell HK9.out 0).trans rfl;have kW:=blk_frozen HK9.out 0;have a4S:QJ.cell? ⟨g19,0,none⟩=some (.slice Ah tg.length ch):=(blk_cell HK19.out 0).trans rfl;have a4T:=blk_frozen HK19.out 0))
  go_ret;exact ⟨rfl,by repeat (first|exact HB21.out|apply pw_below_drewN|apply below_drew1|apply below_alloc)⟩
noncomputable def laws_FnExactDropEntry.f (k:Nat) (l:List S52) (a1:ByteArray):Option Bool:=if (a1.size:Int)>1048576 then some true else (laws_szLibrary.f k l 1048576).bind fun t0=>if t0<0 then some true else (laws_toLibrary.f k l).bind fun tx=>(spec_DropEntry.f k tx a1).bind fun s=>(impl_DropEntry.f tx a1).bind fun i=>(laws_eqLibrary.f k i.1 s.1).bind fun e1=>(laws_eqLibrary.f k tx tx).bind fun e2=>(laws_markLibrary.f tx 1).bind fun tn=>(laws_heldLibrary.f k (mkE 1 i.1) 1).bind fun q=>if e1=true∧e2=true∧i.2=s.2∧0≤tn∧q=1+cntE i.1∧0≤1+cntE i.1∧1+cntE i.1≤4611686018427387904 then some true else none
set_option maxHeartbeats 4000000 in
set_option maxRecDepth 100000 in
theorem dropShort1 (A:Option Addr) (c:Nat) (l:List S52) (key:ByteArray) (w:World) (hr:Kd.C k52 w A l.length l) (hc:l.length≤c) (hk:(key.size:Int)>1048576) :
  Calls Tryz.prog 3 #[.agg #[.slice A l.length c],.string key] w fun e w'=>e=.returned (.bool true)∧Below w.heap.size w w':=by
 obtain ⟨w0,rfl⟩:∃ w0,w0=w:=⟨w,rfl⟩
 have HR:=am hr;have HC:=am hc;have HB0:=am (Below.refl w0.heap.size w0);have hu24:=Tryz.underlying24;have eV:=am True.intro;have k0:=dt hk;have k1:decide (1048576<key.size)=true:=dt (by omega);clear hr hc hk;go_enter Tryz.func3,Tryz.ntmps3
 go_wp2_with (first
  | (have q_:=HB0.out;(with_reducible refine gate_dst (N:=2) rfl ?_);refine box_event ?hg (N:=2) ?hd (cs:=#[.slice A l.length c]) (t:=24) ?hr ?_;(case hd=>rfl);(case hg=>rfl);(case hr=>first|(go_simp;done)|(go_simp;rfl));intro g1 hg w1 hbox hb;have eV:=am (au20:w0.heap.size≤g1);have HB1:=am (below_step (show Below w0.heap.size w0 _ from by repeat (first|exact HB0.out|apply below_alloc|apply pw_below_drewN|apply below_drew1|refine below_set ?_ eV.out)) hb);have hKp:=Kept.below (show Kept w0 _ (fun _=>False) from by repeat (first|exact Kept.refl _ _|apply Kept.drewN|apply Kept.drew|refine Kept.setCell ?_ (Or.inl (by exact rfl)) _|apply Kept.alloc)) hb;clear HB0 hKp ;have HK1:=am hbox;clear hbox hb hg q_;have dK:w1.cell? ⟨g1,0,none⟩=some (.slice A l.length c):=(blk_cell HK1.out 0).trans rfl;have eG:=blk_frozen HK1.out 0))
 go_ret;exact ⟨rfl,by repeat (first|exact HB1.out|apply pw_below_drewN|apply below_drew1|apply below_alloc)⟩
set_option maxHeartbeats 4000000 in
set_option maxRecDepth 100000 in
theorem dropShort2 (k:Nat) (A:Option Addr) (c:Nat) (l:List S52) (key:ByteArray) (w:World) (hr:Kd.C k52 w A l.length l) (hc:l.length≤c) (hk:¬ (key.size:Int)>1048576) (t0:Int) (h0:laws_szLibrary.f k l 1048576=some t0) (h0':t0<0) :
  Calls Tryz.prog 3 #[.agg #[.slice A l.length c],.string key] w fun e w'=>e=.returned (.bool true)∧Below w.heap.size w w':=by
 obtain ⟨w0,rfl⟩:∃ w0,w0=w:=⟨w,rfl⟩
 have HR:=am hr;have HC:=am hc;have HB0:=am (Below.refl w0.heap.size w0);have hu24:=Tryz.underlying24;have eV:=am True.intro;have H0:=am h0;have k0:decide (1048576<(key.size:Int))=false:=df (by omega);have k1:decide (1048576<key.size)=false:=df (by omega);have k2:decide (t0<0)=true:=dt h0';clear hr hc hk h0 h0';go_enter Tryz.func3,Tryz.ntmps3
 go_wp2_with (first
  | (have q_:=HB0.out;(with_reducible refine gate_dst (N:=2) rfl ?_);refine box_event ?hg (N:=2) ?hd (cs:=#[.slice A l.length c]) (t:=24) ?hr ?_;(case hd=>rfl);(case hg=>rfl);(case hr=>first|(go_simp;done)|(go_simp;rfl));intro g1 hg w1 hbox hb;have eV:=am (au20:w0.heap.size≤g1);have HB1:=am (below_step (show Below w0.heap.size w0 _ from by repeat (first|exact HB0.out|apply below_alloc|apply pw_below_drewN|apply below_drew1|refine below_set ?_ eV.out)) hb);have hKp:=Kept.below (show Kept w0 _ (fun _=>False) from by repeat (first|exact Kept.refl _ _|apply Kept.drewN|apply Kept.drew|refine Kept.setCell ?_ (Or.inl (by exact rfl)) _|apply Kept.alloc)) hb;clear HB0 hKp ;have HK1:=am hbox;clear hbox hb hg q_;have dK:w1.cell? ⟨g1,0,none⟩=some (.slice A l.length c):=(blk_cell HK1.out 0).trans rfl;have eG:=blk_frozen HK1.out 0)
  | (have q_:=HB1.out;go_at_call 4;(refine (laws_szLibrary.calls k A c l 1048576 t0 _ ?s1 HC.out H0.out).mono ?_);(case s1=>exact (Kd.C_below HR.out (show Below w0.heap.size w0 _ from by repeat (first|exact HB1.out|apply below_alloc|apply pw_below_drewN|apply below_drew1|refine below_set ?_ eV.out))));rintro e w2 ⟨rfl,hb⟩;clear dK eG;have HB2:=am (below_step (show Below w0.heap.size w0 _ from by repeat (first|exact HB1.out|apply below_alloc|apply pw_below_drewN|apply below_drew1|refine below_set ?_ eV.out)) hb);have hKp:=Kept.below (show Kept w1 _ (fun _=>False) from by repeat (first|exact Kept.refl _ _|apply Kept.drewN|apply Kept.drew|refine Kept.setCell ?_ (Or.inl (by exact rfl)) _|apply Kept.alloc)) hb;have n1:=am (blk_kept HK1.out hKp (fun h=>h));clear HB1 hKp HK1;have HK1:=n1;clear n1;clear q_;clear hb;have dK:w2.cell? ⟨g1,0,none⟩=some (.slice A l.length c):=(blk_cell HK1.out 0).trans rfl;have eG:=blk_frozen HK1.out 0))
 go_ret;exact ⟨rfl,by repeat (first|exact HB2.out|apply pw_below_drewN|apply below_drew1|apply below_alloc)⟩
theorem laws_FnExactDropEntry.calls (k:Nat) (A:Option Addr) (c:Nat) (l:List S52) (key:ByteArray) (w:World) {gF1 gF2 gF3:Bool} (hG:GL gF1 gF2 gF3 w) (hr:Kd.C k52 w A l.length l) (hc:l.length≤c) (h:laws_FnExactDropEntry.f k l key=some true) :
  Calls Tryz.prog 3 #[.agg #[.slice A l.length c],.string key] w fun e w'=>e=.returned (.bool true)∧Below w.heap.size w w':=by
 unfold laws_FnExactDropEntry.f at h;by_cases hk:(key.size:Int)>1048576
 · exact dropShort1 A c l key w hr hc hk
 rw [if_neg hk] at h;obtain ⟨t0,h0,h⟩:=ob h;by_cases h0':t0<0
 · exact dropShort2 k A c l key w hr hc hk t0 h0 h0'
 rw [if_neg h0'] at h;obtain ⟨tx,h1,h⟩:=ob h;obtain ⟨⟨tw,rb⟩,h2,h⟩:=ob h;obtain ⟨⟨tg,rc⟩,h3,h⟩:=ob h;obtain ⟨e1,h4,h⟩:=ob h;obtain ⟨e2,h5,h⟩:=ob h;obtain ⟨tn,h6,h⟩:=ob h;obtain ⟨q,h7,h⟩:=ob h;by_cases hh:e1=true∧e2=true∧rc=rb∧0≤tn∧q=1+cntE tg∧0≤1+cntE tg∧1+cntE tg≤4611686018427387904
 · obtain ⟨rfl,rfl,rfl,n0,rfl,m0,m1⟩:=hh;exact dropLaw k A c l key w hG hr hc t0 tn tx tw tg rc hk h0 h0' h1 h2 h3 h4 h5 h6 (by omega) h7 m1 (by omega)
 · rw [if_neg hh] at h;cases h
end Go.Proofs.YteagahcbffgjpaaGreatDoor.G

namespace Go.Proofs.YteagahcbffgjpaaGreatDoor.Opn
open Go.RowKit Go.Proofs.YteagahcbffgjpaaGreatDoorW.PrintWords
set_option linter.unusedVariables false
set_option linter.unusedSimpArgs false
variable {H:Type} {enc:TypeId × Value→H} {P:Program} {w:World} {base:Nat} {spare:Nat→Bool} {held:Bool}
def okInt (k:IntKind) (n:Int):Prop:=(Lit.int k n).wf=true
def okBool (_:Bool):Prop:=True
def okStr (s:ByteArray):Prop:=s.size≤9223372036854775807
def okList {α:Type} (p:α→Prop) (xs:List α):Prop:=xs.length≤9223372036854775807∧∀ x∈xs,p x
theorem of_int {t:TypeId} {k:IntKind} {fuel:Nat} {cs:List Value} {x:DataW H × List MemPlace} (ht:P.underlying t=some (.int k)) (h:DataW.trod enc P w base spare held fuel t cs=some x) :
    ∃ n,(Kd.int k).K w n cs∧okInt k n:=by
  obtain ⟨n,rfl,rfl,hw⟩:=DataW.trod_int ht h;exact ⟨n,rfl,hw⟩
theorem of_bool {t:TypeId} {fuel:Nat} {cs:List Value} {x:DataW H × List MemPlace} (ht:P.underlying t=some .bool) (h:DataW.trod enc P w base spare held fuel t cs=some x) :
    ∃ n,Kd.bool.K w n cs∧okBool n:=by
  cases fuel with
  | zero=>simp [DataW.trod] at h
  | succ fuel =>
    match cs with
    | []=>simp [DataW.trod,ht] at h
    | [v]=>cases v <;> simp [DataW.trod,ht] at h;exact ⟨_,rfl,trivial⟩
    | _ :: _ :: _=>simp [DataW.trod,ht] at h
theorem of_string {t:TypeId} {fuel:Nat} {cs:List Value} {x:DataW H × List MemPlace} (ht:P.underlying t=some .string) (h:DataW.trod enc P w base spare held fuel t cs=some x) :
    ∃ n,Kd.string.K w n cs∧okStr n:=by
  cases fuel with
  | zero=>simp [DataW.trod] at h
  | succ fuel =>
    match cs with
    | []=>simp [DataW.trod,ht] at h
    | [v]=>cases v <;> simp [DataW.trod,ht] at h;exact ⟨_,rfl,h.1⟩
    | _ :: _ :: _=>simp [DataW.trod,ht] at h
theorem add_add (a:Addr) (k i:Nat):(a.add k).add i=a.add (k+i):=by
  unfold Addr.add
  by_cases hk:k=0 <;> by_cases hi:i=0 <;> simp [hk,hi,Nat.add_assoc]
theorem of_slice {α:Type} {d:Kd α} {ok:α→Prop} {t e:TypeId} {fuel:Nat} {cs:List Value} {x:DataW H × List MemPlace} (ht:P.underlying t=some (.slice e)) (hc:P.cellsOf e=d.sz)
    (ih:∀ n cs x,DataW.trod enc P w base spare held n e cs=some x→∃ y,d.K w y cs∧ok y) (h:DataW.trod enc P w base spare held fuel t cs=some x) :
    ∃ ys,(Kd.slice e d).K w ys cs∧okList ok ys:=by
  rcases Go.Deep.open_slice ht h with ⟨rfl,_⟩|⟨a,len,cap,m,n,D,Pl,rfl,hb,hl,hm,hmm,hxe,hel⟩
  · exact ⟨[],⟨none,0,rfl,by simp,rfl,by simp,fun h=>absurd h (by simp)⟩,by simp,fun x hx=>by simp at hx⟩
  · have hlm:len≤m:=by rw [hmm];split <;> omega
    have hm':len≤9223372036854775807:=by unfold maxLen at hm;omega
    have key:∀ i,i<len→∃ cs' y,w.cells? base (a.add (i*P.cellsOf e)) (P.cellsOf e)=some cs'∧d.K w y cs'∧ok y:=by
      intro i hi;obtain ⟨cs',h1,h2⟩:=hel i (by omega);obtain ⟨y,hy,ho⟩:=ih _ _ _ h2;exact ⟨cs',y,h1,hy,ho⟩
    obtain ⟨ys,hlen,hys⟩:∃ ys:List α,ys.length=len∧∀ i (hi:i<ys.length),∃ cs',w.cells? base (a.add (i*P.cellsOf e)) (P.cellsOf e)=some cs'∧d.K w ys[i] cs'∧ok ys[i]:=by
      clear h hxe hel hmm hlm hl hm hm'
      induction len with
      | zero=>exact ⟨[],rfl,fun i hi=>by simp at hi⟩
      | succ len ihl =>
        obtain ⟨ys,h1,h2⟩:=ihl (fun i hi=>key i (by omega));obtain ⟨cs',y,h3,h4,h5⟩:=key len (by omega);refine ⟨ys++[y],by simp [h1],fun i hi=>?_⟩;by_cases hi':i<ys.length
        · rw [List.getElem_append_left hi'];exact h2 i hi'
        · have:i=len:=by simp at hi;omega
          subst this
          refine ⟨cs',h3,?_,?_⟩ <;> rw [List.getElem_append_right (by omega)] <;> simpa [h1]
    refine ⟨ys,⟨some a,cap,by rw [hlen],by omega,rfl,by omega,fun _=>⟨a,rfl,fun j p hj=>?_⟩⟩,by omega,fun y hy=>?_⟩
    · obtain ⟨hj',rfl⟩:=List.getElem?_eq_some_iff.1 hj
      obtain ⟨cs',h1,h2,_⟩:=hys j hj';rw [hc] at h1;refine ⟨cs',d.K_len h2,h2,fun i u hu=>?_⟩;obtain ⟨_,hl',hcell⟩:=World.cells?_some h1
      have hi:i<d.sz:=by have:=(List.getElem?_eq_some_iff.1 hu).1;omega
      have:=hcell i hi;rw [hu,add_add] at this;exact this
    · obtain ⟨i,hi,rfl⟩:=List.getElem_of_mem hy
      obtain ⟨_,_,_,h3⟩:=hys i hi;exact h3
theorem mapM_all {α β:Type} {f:α→Option β}:∀ {l:List α} {ys:List β},l.mapM f=some ys→∀ x∈l,∃ y,f x=some y
  | [],_,_,x,hx=>by simp at hx
  | a :: l,ys,h,x,hx=>by
    rw [List.mapM_cons] at h;simp only [Option.bind_eq_bind,Option.bind_eq_some_iff] at h;obtain ⟨y,h1,ys',h2,_⟩:=h
    rcases List.mem_cons.1 hx with rfl|hx
    · exact ⟨y,h1⟩
    · exact mapM_all h2 x hx
theorem of_fields {t:TypeId} {fs:Array Field} {fuel:Nat} {cs:List Value} {x:DataW H × List MemPlace} (ht:P.underlying t=some (.struct fs)) (h:DataW.trod enc P w base spare held fuel t cs=some x) :
    cs.length=P.cellsOf t∧∃ n,∀ f∈fs.toList,∃ y,DataW.trod enc P w base spare held n f.type ((cs.drop f.offset).take (P.cellsOf f.type))=some y:=by
  cases fuel with
  | zero=>simp [DataW.trod] at h
  | succ fuel =>
    simp only [DataW.trod,ht] at h
    split at h
    · rename_i hl
      refine ⟨hl,fuel,?_⟩;simp only [Option.map_eq_some_iff] at h;obtain ⟨ys,h1,_⟩:=h;exact mapM_all h1
    · simp at h
theorem pair_K {α β:Type} {a:Kd α} {b:Kd β} {x:α} {y:β} {cs:List Value} {n:Nat} (off:Nat) (hn:a.sz=n) (h0:a.K w x ((cs.drop off).take n)) (h1:b.K w y (cs.drop (off+n))):(Kd.pair a b).K w (x,y) (cs.drop off) :=
  ⟨_,_,by rw [← List.drop_drop];exact (List.take_append_drop n (cs.drop off)).symm,h0,h1⟩
theorem last_K {α:Type} {a:Kd α} {x:α} {cs:List Value} {n:Nat} (off:Nat) (hl:cs.length=off+n) (h0:a.K w x ((cs.drop off).take n)):a.K w x (cs.drop off):=by
  rwa [List.take_of_length_le (by rw [List.length_drop];omega)] at h0
end Go.Proofs.YteagahcbffgjpaaGreatDoor.Opn

namespace Go.Proofs.YteagahcbffgjpaaGreatDoor.G
open Go.Proofs.YteagahcbffgjpaaGreatDoor.Opn
open Go.RowKit Go.Proofs.YteagahcbffgjpaaGreatDoorW.PrintWords Go.Proofs.YteagahcbffgjpaaGreatDoorW.PrintLast Go.Proofs.YteagahcbffgjpaaGreatDoorW.PrintMore
open Go.Proofs.YteagahcbffgjpaaGreatDoor.Gl Go.Proofs.YteagahcbffgjpaaGreatDoor.Ext
attribute [local go_sem] max2_int min2_int max_two min_two max_three min_three max_four min_four   -- for this text's walks alone
set_option linter.unusedVariables false
set_option linter.unusedSimpArgs false
theorem cells3:Tryz.prog.cellsOf 3=1:=by kernel_rfl
theorem cells4:Tryz.prog.cellsOf 4=1:=by kernel_rfl
theorem cells9:Tryz.prog.cellsOf 9=1:=by kernel_rfl
theorem cells22:Tryz.prog.cellsOf 22=1:=by kernel_rfl
theorem cells24:Tryz.prog.cellsOf 24=1:=by kernel_rfl
theorem cells49:Tryz.prog.cellsOf 49=1:=by kernel_rfl
theorem cells50:Tryz.prog.cellsOf 50=4:=by kernel_rfl
theorem cells52:Tryz.prog.cellsOf 52=14:=by kernel_rfl
theorem cells67:Tryz.prog.cellsOf 67=1:=by kernel_rfl
theorem cells78:Tryz.prog.cellsOf 78=4:=by kernel_rfl
def ok78 (y:S78):Prop:=okList (okStr) y.f0∧okStr y.f1∧okStr y.f2∧okStr y.f3
theorem of_T78 {H:Type} {enc:TypeId × Value→H} {w:World} {base:Nat} {spare:Nat→Bool} {held:Bool} {fuel:Nat} {cs:List Value} {x:DataW H × List MemPlace} (h:DataW.trod enc Tryz.prog w base spare held fuel 78 cs=some x):∃ y:S78,k78.K w y cs∧ok78 y:=by
  obtain ⟨hl,n,hf⟩:=of_fields Tryz.underlying78 h;rw [cells78] at hl;simp only [List.mem_cons,List.not_mem_nil,or_false,forall_eq_or_imp,forall_eq] at hf;obtain ⟨⟨y0,f0⟩,⟨y1,f1⟩,⟨y2,f2⟩,⟨y3,f3⟩⟩:=hf;rw [cells67] at f0;obtain ⟨x0,g0,b0⟩:=of_slice (ok:=okStr) Tryz.underlying67 cells9 (fun _ _ _ h_=>of_string Tryz.underlying9 h_) f0;rw [cells9] at f1;obtain ⟨x1,g1,b1⟩:=of_string Tryz.underlying9 f1;rw [cells9] at f2;obtain ⟨x2,g2,b2⟩:=of_string Tryz.underlying9 f2;rw [cells9] at f3;obtain ⟨x3,g3,b3⟩:=of_string Tryz.underlying9 f3;exact ⟨⟨x0,x1,x2,x3⟩,(pair_K (n:=1) 0 rfl g0 (pair_K (n:=1) 1 rfl g1 (pair_K (n:=1) 2 rfl g2 (last_K (n:=1) 3 hl g3)))),⟨b0,b1,b2,b3⟩⟩
def ok50 (y:S50):Prop:=okInt .i64 y.f0∧okInt .i64 y.f1∧okInt .i64 y.f2∧okBool y.f3
theorem of_T50 {H:Type} {enc:TypeId × Value→H} {w:World} {base:Nat} {spare:Nat→Bool} {held:Bool} {fuel:Nat} {cs:List Value} {x:DataW H × List MemPlace} (h:DataW.trod enc Tryz.prog w base spare held fuel 50 cs=some x):∃ y:S50,k50.K w y cs∧ok50 y:=by
  obtain ⟨hl,n,hf⟩:=of_fields Tryz.underlying50 h;rw [cells50] at hl;simp only [List.mem_cons,List.not_mem_nil,or_false,forall_eq_or_imp,forall_eq] at hf;obtain ⟨⟨y0,f0⟩,⟨y1,f1⟩,⟨y2,f2⟩,⟨y3,f3⟩⟩:=hf;rw [cells3] at f0;obtain ⟨x0,g0,b0⟩:=of_int Tryz.underlying3 f0;rw [cells3] at f1;obtain ⟨x1,g1,b1⟩:=of_int Tryz.underlying3 f1;rw [cells3] at f2;obtain ⟨x2,g2,b2⟩:=of_int Tryz.underlying3 f2;rw [cells4] at f3;obtain ⟨x3,g3,b3⟩:=of_bool Tryz.underlying4 f3;exact ⟨⟨x0,x1,x2,x3⟩,(pair_K (n:=1) 0 rfl g0 (pair_K (n:=1) 1 rfl g1 (pair_K (n:=1) 2 rfl g2 (last_K (n:=1) 3 hl g3)))),⟨b0,b1,b2,b3⟩⟩
def ok52 (y:S52):Prop:=okStr y.f0∧okInt .i64 y.f1∧okList (ok78) y.f2∧okList (ok78) y.f3∧okStr y.f4∧okStr y.f5∧okStr y.f6∧ok50 y.f7∧okInt .i64 y.f8∧okStr y.f9∧okStr y.f10
theorem of_T52 {H:Type} {enc:TypeId × Value→H} {w:World} {base:Nat} {spare:Nat→Bool} {held:Bool} {fuel:Nat} {cs:List Value} {x:DataW H × List MemPlace} (h:DataW.trod enc Tryz.prog w base spare held fuel 52 cs=some x):∃ y:S52,k52.K w y cs∧ok52 y:=by
  obtain ⟨hl,n,hf⟩:=of_fields Tryz.underlying52 h;rw [cells52] at hl;simp only [List.mem_cons,List.not_mem_nil,or_false,forall_eq_or_imp,forall_eq] at hf;obtain ⟨⟨y0,f0⟩,⟨y1,f1⟩,⟨y2,f2⟩,⟨y3,f3⟩,⟨y4,f4⟩,⟨y5,f5⟩,⟨y6,f6⟩,⟨y7,f7⟩,⟨y8,f8⟩,⟨y9,f9⟩,⟨Dn,f10⟩⟩:=hf;rw [cells9] at f0;obtain ⟨x0,g0,b0⟩:=of_string Tryz.underlying9 f0;rw [cells3] at f1;obtain ⟨x1,g1,b1⟩:=of_int Tryz.underlying3 f1;rw [cells49] at f2;obtain ⟨x2,g2,b2⟩:=of_slice (ok:=ok78) Tryz.underlying49 cells78 (fun _ _ _ h_=>of_T78 h_) f2;rw [cells49] at f3;obtain ⟨x3,g3,b3⟩:=of_slice (ok:=ok78) Tryz.underlying49 cells78 (fun _ _ _ h_=>of_T78 h_) f3;rw [cells9] at f4;obtain ⟨x4,g4,b4⟩:=of_string Tryz.underlying9 f4;rw [cells9] at f5;obtain ⟨x5,g5,b5⟩:=of_string Tryz.underlying9 f5;rw [cells9] at f6;obtain ⟨x6,g6,b6⟩:=of_string Tryz.underlying9 f6;rw [cells50] at f7;obtain ⟨x7,g7,b7⟩:=of_T50 f7;rw [cells3] at f8;obtain ⟨x8,g8,b8⟩:=of_int Tryz.underlying3 f8;rw [cells9] at f9;obtain ⟨x9,g9,b9⟩:=of_string Tryz.underlying9 f9;rw [cells9] at f10;obtain ⟨x10,g10,b10⟩:=of_string Tryz.underlying9 f10;exact ⟨⟨x0,x1,x2,x3,x4,x5,x6,x7,x8,x9,x10⟩,(pair_K (n:=1) 0 rfl g0 (pair_K (n:=1) 1 rfl g1 (pair_K (n:=1) 2 rfl g2 (pair_K (n:=1) 3 rfl g3 (pair_K (n:=1) 4 rfl g4 (pair_K (n:=1) 5 rfl g5 (pair_K (n:=1) 6 rfl g6 (pair_K (n:=4) 7 rfl g7 (pair_K (n:=1) 11 rfl g8 (pair_K (n:=1) 12 rfl g9 (last_K (n:=1) 13 hl g10))))))))))),⟨b0,b1,b2,b3,b4,b5,b6,b7,b8,b9,b10⟩⟩
def ok24 (y:S24):Prop:=okList (ok52) y.f0
theorem of_T24 {H:Type} {enc:TypeId × Value→H} {w:World} {base:Nat} {spare:Nat→Bool} {held:Bool} {fuel:Nat} {cs:List Value} {x:DataW H × List MemPlace} (h:DataW.trod enc Tryz.prog w base spare held fuel 24 cs=some x):∃ y:S24,k24.K w y cs∧ok24 y:=by
  obtain ⟨hl,n,hf⟩:=of_fields Tryz.underlying24 h;rw [cells24] at hl;simp only [List.mem_cons,List.not_mem_nil,or_false,forall_eq_or_imp,forall_eq] at hf;obtain ⟨y0,f0⟩:=hf;rw [cells22] at f0;obtain ⟨x0,g0,b0⟩:=of_slice (ok:=ok52) Tryz.underlying22 cells52 (fun _ _ _ h_=>of_T52 h_) f0;exact ⟨⟨x0⟩,(last_K (n:=1) 0 (by simpa using hl) g0),b0⟩
def laws_FnExactDropEntry.Pur:Prop:=∀ (aA:List (S52)) (a1:ByteArray),okList (ok52) aA→okStr a1→∃ k,laws_FnExactDropEntry.f k aA a1=some true
theorem laws_FnExactDropEntry.wlk (P:laws_FnExactDropEntry.Pur) (bH:Option Addr) (bA:Nat) (aA:List (S52)) (a1:ByteArray) (w:World) (cE:Kd.C k52 w bH aA.length aA) (cA:aA.length≤bA) {gF1 gF2 gF3:Bool} (hG:GL gF1 gF2 gF3 w) (aEQ:okList (ok52) aA) (ba1:okStr a1) :
    Calls Tryz.prog 3 #[.agg #[.slice bH aA.length bA],.string a1] w fun e w'=>e=.returned (.bool true)∧Below w.heap.size w w':=by
  obtain ⟨k,h⟩:=P aA a1 aEQ ba1;refine (laws_FnExactDropEntry.calls k bH bA aA a1 w hG cE cA h).mono ?_;rintro e w' ⟨rfl,hd⟩;exact ⟨rfl,hd⟩
end Go.Proofs.YteagahcbffgjpaaGreatDoor.G

namespace Go.Proofs.YteagahcbffgjpaaGreatDoor.B
open Go.RowKit Go.Proofs.YteagahcbffgjpaaGreatDoorW.PrintWords Go.Proofs.YteagahcbffgjpaaGreatDoorW.PrintLast
set_option linter.unusedVariables false
set_option linter.unusedSimpArgs false
def ahd (seg:List UInt8):List (List UInt8)→List (List UInt8)
  | []=>[seg]
  | h :: t=>(seg++h) :: t
def spl (b:UInt8):List UInt8→List (List UInt8)
  | []=>[[]]
  | c :: cs=>if c=b then [] :: spl b cs else ahd [c] (spl b cs)
theorem spl_cons (b c:UInt8) (cs:List UInt8):spl b (c :: cs)=if c=b then [] :: spl b cs else ahd [c] (spl b cs):=rfl
theorem spl_ne (b:UInt8) (l:List UInt8):spl b l≠[]:=by
  cases l with
  | nil=>simp [spl]
  | cons c cs=>unfold spl;split <;> simp;unfold ahd;split <;> simp
theorem ahd_nil (p:List (List UInt8)) (h:p≠[]):ahd [] p=p:=by cases p <;> simp_all [ahd]
theorem ahd_ahd (a b:List UInt8) (p:List (List UInt8)):ahd a (ahd b p)=ahd (a++b) p:=by cases p <;> simp [ahd]
theorem spl_length (b:UInt8) (l:List UInt8):(spl b l).length≤l.length+1:=by
  induction l with
  | nil=>simp [spl]
  | cons c cs ih =>
    unfold spl
    split
    · simp;omega
    · cases h:spl b cs with
      | nil=>exact absurd h (spl_ne b cs)
      | cons p q=>rw [h] at ih;simp [ahd] at ih ⊢;omega
theorem spl_step (b:UInt8) (l:List UInt8) (from_ i:Nat) (hi:i<l.length) (hf:from_≤i) :
    ahd ((l.drop from_).take (i-from_)) (spl b (l.drop i)) =
      if l[i]=b then ((l.drop from_).take (i-from_)) :: spl b (l.drop (i+1)) else ahd ((l.drop from_).take (i+1-from_)) (spl b (l.drop (i+1))):=by
  rw [List.drop_eq_getElem_cons hi,spl_cons];by_cases h:l[i]=b
  · rw [if_pos h,if_pos h]
    simp [ahd]
  · rw [if_neg h,if_neg h]
    have e:(l.drop from_).take (i+1-from_)=(l.drop from_).take (i-from_)++[l[i]]:=by
      rw [show i+1-from_=(i-from_)+1 by omega,List.take_succ_eq_append_getElem (by rw [List.length_drop];omega)]
      congr 2
      rw [List.getElem_drop]
      congr 1
      omega
    rw [e];exact ahd_ahd _ _ _
theorem spl_none (c:UInt8):∀ l:List UInt8,(∀ k:Nat,l[k]?≠some c)→spl c l=[l]
  | [],_=>rfl
  | a :: l,h=>by
    have h0:a≠c:=fun e=>h 0 (by simp [e])
    rw [spl_cons,if_neg h0,spl_none c l (fun k=>by simpa using h (k+1))];rfl
theorem spl_first (c:UInt8):∀ (i:Nat) (l:List UInt8),l[i]?=some c→(∀ k:Nat,k<i→l[k]?≠some c)→spl c l=l.take i :: spl c (l.drop (i+1))
  | 0,[],h,_=>by simp at h
  | 0,a :: l,h,_=>by
    have h0:a=c:=by simpa using h
    rw [spl_cons,if_pos h0];rfl
  | i+1,[],h,_=>by simp at h
  | i+1,a :: l,h,hk=>by
    have h0:a≠c:=fun e=>hk 0 (by omega) (by simp [e])
    rw [spl_cons,if_neg h0,spl_first c i l (by simpa using h) (fun k hk'=>by simpa using hk (k+1) (by omega))];rfl
theorem indexB_one (s:ByteArray) (c:UInt8):Lib.indexB s (mkB [c])=Lib.indexByte (L s) c:=by
  unfold Lib.indexB;have:(mkB [c]).data.toList=[c]:=L_mk [c];rw [this];exact Lib.index_one _ _
theorem splitB_spl (c:UInt8) (n:Nat):∀ s:ByteArray,s.size≤n→(Lib.splitB (mkB [c]) 0 (Lib.countB s (mkB [c])) s).map L=spl c (L s):=by
  have h1:(mkB [c]).size=1:=by rw [size_mk];rfl
  induction n with
  | zero =>
    intro s hs
    rcases Lib.indexB_cases s (mkB [c]) with hm|⟨i,hi,hr⟩
    · rw [Lib.splitB_miss _ _ _ _ hm]
      have:=Lib.indexByte_none (by rw [← indexB_one];exact hm:Lib.indexByte (L s) c=-1);rw [spl_none c (L s) this];rfl
    · omega
  | succ n ih =>
    intro s hs
    rcases Lib.indexB_cases s (mkB [c]) with hm|⟨i,hi,hr⟩
    · rw [Lib.splitB_miss _ _ _ _ hm]
      have:=Lib.indexByte_none (by rw [← indexB_one];exact hm:Lib.indexByte (L s) c=-1);rw [spl_none c (L s) this];rfl
    · rw [h1] at hr
      have hc:=Lib.countB_hit s (mkB [c]) i (by omega) hi;rw [h1] at hc;rw [hc,Nat.add_comm 1,Lib.splitB_hit _ _ _ _ i hi,h1,List.map_cons,ih (s.extract (i+1) s.size) (by rw [ByteArray.size_extract];omega)];obtain ⟨a,b⟩:=Lib.indexByte_some (by rw [← indexB_one];exact hi:Lib.indexByte (L s) c=i);rw [spl_first c i (L s) a b,L_extract,L_extract]
      congr 1
      congr 1
      rw [List.take_of_length_le (by rw [List.length_drop,L_len];omega)]
theorem splitB_eq (c:UInt8) (s:ByteArray):Lib.splitB (mkB [c]) 0 (Lib.countB s (mkB [c])) s=(spl c (L s)).map mkB:=by
  rw [← splitB_spl c s.size s (Nat.le_refl _),List.map_map]
  have:(mkB∘L)=id:=by funext x;exact mk_L x
  rw [this,List.map_id]
end Go.Proofs.YteagahcbffgjpaaGreatDoor.B

namespace Go.Proofs.YteagahcbffgjpaaGreatDoor.G
open Go.RowKit Go.Proofs.YteagahcbffgjpaaGreatDoorW.PrintWords Go.Proofs.YteagahcbffgjpaaGreatDoorW.PrintLast Go.Proofs.YteagahcbffgjpaaGreatDoor.B
set_option linter.unusedVariables false
set_option linter.unusedSimpArgs false
theorem split_loop (s:ByteArray) (b:UInt8) (hs:s.size≤8796093022000) (d:Nat):∀ (out:List ByteArray) (f i:Nat),out.length≤i→f≤i→i≤s.size→s.size-i=d →
    Ev (fun k=>spec_l1Split.l0 k s (b.toNat:Int) out f i) (out++(ahd (((L s).drop f).take (i-f)) (spl b ((L s).drop i))).map mkB):=by
  have hL:(L s).length=s.size:=L_len s
  induction d with
  | zero =>
    intro out f i h0 h1 h2 hd
    have e:i=s.size:=by omega
    refine Ev.step (f:=fun _=>some (out++[s.extract f s.size])) (fun k=>?_) (ev_eq (Ev.now _) ?_)
    · simp only [spec_l1Split.l0]
      rw [if_neg (by omega),if_pos (by omega),if_pos (by omega),if_pos (by omega)];simp
    · rw [List.drop_of_length_le (l:=L s) (i:=i) (by omega)]
      simp [spl,ahd];apply L_inj;rw [L_extract,L_mk,e]
  | succ d ih =>
    intro out f i h0 h1 h2 hd
    have hlt:i<s.size:=by omega
    have hlt':i<(L s).length:=by omega
    rw [spl_step b (L s) f i hlt' h1]
    have hw:wrap64 ((i:Int)+1)=((i+1:Nat):Int):=by rw [w64 (by omega) (by omega)];rfl
    by_cases e:(L s)[i]=b
    · rw [if_pos e]
      refine Ev.step (f:=fun k=>spec_l1Split.l0 k s (b.toNat:Int) (out++[s.extract f i]) ((i+1:Nat):Int) ((i+1:Nat):Int)) (fun k=>?_) (ev_eq (ih (out++[s.extract f i]) (i+1) (i+1) (by simp;omega) (by omega) (by omega) (by omega)) ?_)
      · simp only [spec_l1Split.l0]
        rw [if_pos (by omega),if_pos (by omega),if_pos (by rw [bt_get s i hlt,e]),if_pos (by omega),if_pos (by omega),if_pos (by omega),if_pos (by omega),hw];simp
      · rw [Nat.sub_self,List.take_zero,ahd_nil _ (spl_ne b _),List.append_assoc]
        congr 1
        simp;apply L_inj;rw [L_extract,L_mk]
    · rw [if_neg e]
      refine Ev.step (f:=fun k=>spec_l1Split.l0 k s (b.toNat:Int) out f ((i+1:Nat):Int)) (fun k=>?_) (ih out f (i+1) (by omega) (by omega) (by omega) (by omega));simp only [spec_l1Split.l0];rw [if_pos (by omega),if_pos (by omega),if_neg (by rw [bt_get s i hlt];exact fun h=>e (u8_inj h)),hw]
theorem split_ev (s:ByteArray) (b:UInt8) (hs:s.size≤8796093022000):Ev (fun k=>spec_l1Split.f k s (b.toNat:Int)) ((spl b (L s)).map mkB):=by
  have:=split_loop s b hs s.size [] 0 0 (by simp) (by omega) (by omega) (by omega);unfold spec_l1Split.f
  simpa [ahd_nil _ (spl_ne b _)] using this
def upD (c:Int):Bool:=decide (65≤c) && decide (c≤90)
def loD (c:Int):Bool:=decide (97≤c) && decide (c≤122)
def leD (c:Int):Bool:=upD c || loD c
def inD (n:Nat):Bool:=decide (1≤n) && decide (n≤12)
theorem spec_up (c:Int):spec_l2Upper.f c=some (upD c):=by unfold spec_l2Upper.f upD;by_cases h:65≤c <;> simp [h]
theorem spec_lo (c:Int):spec_l2Lower.f c=some (loD c):=by unfold spec_l2Lower.f loD;by_cases h:97≤c <;> simp [h]
theorem impl_up (c:Int):impl_isUpper.f c=some (upD c):=by unfold impl_isUpper.f upD;by_cases h:65≤c <;> simp [h]
theorem impl_lo (c:Int):impl_isLower.f c=some (loD c):=by unfold impl_isLower.f loD;by_cases h:97≤c <;> simp [h]
theorem spec_le (c:Int):spec_l2Letter.f c=some (leD c):=by unfold spec_l2Letter.f leD;rw [spec_up,spec_lo];cases upD c <;> simp
theorem impl_le (c:Int):impl_isLetter.f c=some (leD c):=by unfold impl_isLetter.f leD;rw [impl_up,impl_lo];cases upD c <;> simp
theorem in12 (n:Nat):(if (n:Int) ≥ 1 then some (decide ((n:Int)≤12)) else some false)=some (inD n):=by
  unfold inD;by_cases h:1≤n
  · rw [if_pos (by omega)]
    congr 1
    rw [dt h,Bool.true_and,decide_eq_decide];omega
  · rw [if_neg (by omega)];simp [h]
theorem spec_in (s:ByteArray):spec_l1In.f (s.size:Int) 1 12=some (inD s.size):=in12 s.size
theorem impl_in (s:ByteArray):impl_inside.f (s.size:Int) 1 12=some (inD s.size):=in12 s.size
theorem inD_iff {n:Nat}:inD n=true ↔ 1≤n∧n≤12:=by simp [inD]
def okD (s:ByteArray) (i:Nat):Bool:=leD (bt s i) || ((decide (bt s i=45) || decide (bt s i=39)) && leD (bt s ((i:Int)-1)))
def wlD (s:ByteArray):Nat→Nat→Bool
  | 0,_=>true
  | d+1,i=>okD s i && wlD s d (i+1)
def wordD (s:ByteArray):Bool:=inD s.size && ((leD (bt s 0) && leD (bt s ((s.size:Int)-1))) && wlD s (s.size-1) 1)
def greatD (s:ByteArray):Bool:=wordD s && upD (bt s 0)
theorem word_step (s:ByteArray) (i k:Nat) (h1:1≤i) (h2:i<s.size) (h3:s.size≤12):spec_l2Word.l0 (k+1) s (i:Int)=if okD s i=true then spec_l2Word.l0 k s ((i+1:Nat):Int) else some false:=by
  have hw:wrap64 ((i:Int)+1)=((i+1:Nat):Int):=by rw [w64 (by omega) (by omega)];rfl
  have hw':wrap64 ((i:Int)-1)=(i:Int)-1:=w64 (by omega) (by omega)
  have a1:(0:Int)≤(i:Int)-1:=by omega
  have a2:(i:Int)-1<(s.size:Int):=by omega
  simp only [spec_l2Word.l0];rw [if_pos (show (i:Int)<(s.size:Int) by omega),if_pos (show (0:Int)≤(i:Int) by omega),spec_le,hw,hw'];simp only [Option.bind_some,if_pos a1,if_pos a2,spec_le];unfold okD;generalize ((i+1:Nat):Int)=j
  cases leD (bt s i) <;> cases leD (bt s ((i:Int)-1)) <;> by_cases c:bt s i=45 <;> by_cases d:bt s i=39 <;> simp [c,d]
theorem word_loop (s:ByteArray) (hs:s.size≤12) (d:Nat):∀ i:Nat,1≤i→i≤s.size→s.size-i=d→Ev (fun k=>spec_l2Word.l0 k s (i:Int)) (wlD s d i):=by
  induction d with
  | zero =>
    intro i h1 h2 hd;refine Ev.step (f:=fun _=>some true) (fun k=>?_) (Ev.now _);simp only [spec_l2Word.l0];rw [if_neg (by omega)]
  | succ d ih =>
    intro i h1 h2 hd;refine Ev.step (f:=fun k=>if okD s i=true then spec_l2Word.l0 k s ((i+1:Nat):Int) else some false) (fun k=>word_step s i k h1 (by omega) hs) ?_;unfold wlD
    cases h:okD s i with
    | true=>exact ev_pos rfl (ev_eq (ih (i+1) (by omega) (by omega) (by omega)) (by simp))
    | false=>exact ev_neg (by simp) (ev_eq (Ev.now _) (by simp))
theorem loops_eq (s:ByteArray) (k:Nat):∀ i:Int,impl_isNameWord.l0 k s i=spec_l2Word.l0 k s i:=by
  induction k with
  | zero=>intro i;simp [impl_isNameWord.l0,spec_l2Word.l0]
  | succ k ih=>intro i;simp only [impl_isNameWord.l0,spec_l2Word.l0,impl_le,spec_le,ih]
theorem spec_word (s:ByteArray):Ev (fun k=>spec_l2Word.f k s) (wordD s):=by
  unfold spec_l2Word.f wordD
  cases h:inD s.size with
  | false =>
    refine Ev.step (f:=fun _=>some false) (fun k=>?_) (ev_eq (Ev.now _) (by simp));simp only [spec_in,h,Option.bind_some,spec_l2Word.j0];simp
  | true =>
    obtain ⟨h1,h2⟩:=inD_iff.1 h;have hw:wrap64 ((s.size:Int)-1)=(s.size:Int)-1:=w64 (by omega) (by omega);refine Ev.step (f:=fun k=>if (leD (bt s 0) && leD (bt s ((s.size:Int)-1)))=true then spec_l2Word.l0 k s ((1:Nat):Int) else some false) (fun k=>?_) ?_
    · have a1:(0:Int)<(s.size:Int):=by omega
      have a2:(0:Int)≤(s.size:Int)-1:=by omega
      have a3:(s.size:Int)-1<(s.size:Int):=by omega
      simp only [spec_in,h,Option.bind_some,if_pos a1,if_pos a2,if_pos a3,hw,spec_le,spec_l2Word.j0]
      cases leD (bt s 0) <;> cases leD (bt s ((s.size:Int)-1)) <;> simp
    · cases h3:(leD (bt s 0) && leD (bt s ((s.size:Int)-1))) with
      | true=>exact ev_pos rfl (ev_eq (word_loop s h2 (s.size-1) 1 (by omega) (by omega) rfl) (by simp))
      | false=>exact ev_neg (by simp) (ev_eq (Ev.now _) (by simp))
theorem impl_word (s:ByteArray):Ev (fun k=>impl_isNameWord.f k s) (wordD s):=by
  unfold impl_isNameWord.f wordD
  cases h:inD s.size with
  | false =>
    refine Ev.step (f:=fun _=>some false) (fun k=>?_) (ev_eq (Ev.now _) (by simp));simp only [impl_in,h,Option.bind_some,impl_isNameWord.j0];simp
  | true =>
    obtain ⟨h1,h2⟩:=inD_iff.1 h;have hw:wrap64 ((s.size:Int)-1)=(s.size:Int)-1:=w64 (by omega) (by omega);refine Ev.step (f:=fun k=>if (leD (bt s 0) && leD (bt s ((s.size:Int)-1)))=true then spec_l2Word.l0 k s ((0:Nat):Int) else some false) (fun k=>?_) ?_
    · have a1:(0:Int)<(s.size:Int):=by omega
      have a2:(0:Int)≤(s.size:Int)-1:=by omega
      have a3:(s.size:Int)-1<(s.size:Int):=by omega
      simp only [impl_in,h,Option.bind_some,if_pos a1,if_pos a2,if_pos a3,hw,impl_le,impl_isNameWord.j0,loops_eq]
      cases leD (bt s 0) <;> cases leD (bt s ((s.size:Int)-1)) <;> simp
    · cases h3:(leD (bt s 0) && leD (bt s ((s.size:Int)-1))) with
      | true =>
        refine ev_pos rfl (Ev.step (f:=fun k=>spec_l2Word.l0 k s ((1:Nat):Int)) (fun k=>?_) (ev_eq (word_loop s h2 (s.size-1) 1 (by omega) (by omega) rfl) (by simp)))
        have h0:leD (bt s 0)=true:=by simp at h3;exact h3.1
        simp only [spec_l2Word.l0];rw [if_pos (by omega),if_pos (by omega),spec_le,show ((0:Nat):Int)=0 from rfl,h0,w64 (by omega) (by omega)];simp
      | false=>exact ev_neg (by simp) (ev_eq (Ev.now _) (by simp))
theorem word_in {s:ByteArray} (h:wordD s=true):1≤s.size∧s.size≤12:=by
  unfold wordD at h
  cases hi:inD s.size with
  | true=>exact inD_iff.1 hi
  | false=>rw [hi] at h;simp at h
theorem impl_great (s:ByteArray):Ev (fun k=>impl_isGreatWord.f k s) (greatD s):=by
  unfold impl_isGreatWord.f greatD;refine Ev.bind (impl_word s) ?_
  cases h:wordD s with
  | true =>
    have:=word_in h;refine ev_pos rfl (ev_pos (by omega) (ev_eq (Ev.congr (f:=fun _=>some (upD (bt s 0))) (fun k=>by rw [impl_up];rfl) (Ev.now _)) (by simp)))
  | false=>exact ev_neg (by simp) (ev_eq (Ev.now _) (by simp))
def lowF (s:ByteArray) (j:Nat):Bool:=((L s).drop j).all fun b=>loD (b.toNat:Int)
def lowD (s:ByteArray):Bool:=lowF s 0
def wsD (l:List ByteArray):Bool:=l.all fun w=>inD w.size && lowD w
theorem lowF_step (s:ByteArray) (j:Nat) (h:j<s.size):lowF s j=(loD (bt s j) && lowF s (j+1)):=by
  unfold lowF
  have hl:j<(L s).length:=by rw [L_len];exact h
  rw [List.drop_eq_getElem_cons hl,List.all_cons,bt_get s j h]
theorem lowF_end (s:ByteArray) (j:Nat) (h:s.size≤j):lowF s j=true:=by
  unfold lowF;rw [List.drop_of_length_le (by rw [L_len];exact h)];rfl
theorem low_all (s:ByteArray) (h:lowD s=true) (j:Nat) (hj:j<s.size):leD (bt s j)=true:=by
  have hl:j<(L s).length:=by rw [L_len];exact hj
  have:=List.all_eq_true.1 h _ (by rw [List.drop_zero];exact List.getElem_mem hl);rw [bt_get s j hj];unfold leD;rw [this];simp
theorem wl_low (s:ByteArray) (h:lowD s=true) (d:Nat):∀ i,i+d≤s.size→wlD s d i=true:=by
  induction d with
  | zero=>intro i _;rfl
  | succ d ih =>
    intro i hi;unfold wlD okD;rw [low_all s h i (by omega),ih (i+1) (by omega)];rfl
theorem word_low (s:ByteArray):(wordD s && lowD s)=(inD s.size && lowD s):=by
  cases h:lowD s with
  | false=>simp
  | true =>
    unfold wordD
    cases hi:inD s.size with
    | false=>simp
    | true =>
      obtain ⟨h1,h2⟩:=inD_iff.1 hi;have e1:=low_all s h 0 (by omega);have e2:=low_all s h (s.size-1) (by omega);rw [show ((s.size-1:Nat):Int)=(s.size:Int)-1 by omega] at e2;rw [show ((0:Nat):Int)=0 from rfl] at e1;rw [e1,e2,wl_low s h (s.size-1) 1 (by omega)];rfl
theorem rd_get (l:List ByteArray) (i:Nat) (h:i<l.length):rdOf ByteArray.empty l (i:Int)=l[i]:=by simp [rdOf,h]
theorem spec_inner (ws:List ByteArray) (i:Nat) (hi:i<ws.length) (hs:(ws[i]).size≤12) (hl:ws.length≤4611686018427387904) (T:Bool) (hT:Ev (fun k=>spec_l2Particle.l0 k ws ((i+1:Nat):Int)) T) (d:Nat):∀ j:Nat,j≤(ws[i]).size→(ws[i]).size-j=d →
    Ev (fun k=>spec_l2Particle.l1 k ws (i:Int) (j:Int)) (lowF ws[i] j && T):=by
  have hw:wrap64 ((i:Int)+1)=((i+1:Nat):Int):=by rw [w64 (by omega) (by omega)];rfl
  induction d with
  | zero =>
    intro j h1 hd;refine Ev.step (f:=fun k=>spec_l2Particle.l0 k ws ((i+1:Nat):Int)) (fun k=>?_) (ev_eq hT (by rw [lowF_end _ _ (by omega)];simp));simp only [spec_l2Particle.l1,rd_get ws i hi];rw [if_pos (by omega),if_pos (by omega),if_neg (by omega),hw]
  | succ d ih =>
    intro j h1 hd;rw [lowF_step _ j (by omega)]
    have hw':wrap64 ((j:Int)+1)=((j+1:Nat):Int):=by rw [w64 (by omega) (by omega)];rfl
    refine Ev.step (f:=fun k=>if loD (bt ws[i] (j:Int))=true then spec_l2Particle.l1 k ws (i:Int) ((j+1:Nat):Int) else some false) (fun k=>?_) ?_
    · simp only [spec_l2Particle.l1,rd_get ws i hi]
      rw [if_pos (by omega),if_pos (by omega),if_pos (by omega),if_pos (by omega),hw',spec_lo];rfl
    · cases h:loD (bt ws[i] (j:Int)) with
      | true=>exact ev_pos rfl (ev_eq (ih (j+1) (by omega) (by omega)) (by simp))
      | false=>exact ev_neg (by simp) (ev_eq (Ev.now _) (by simp))
theorem spec_outer (ws:List ByteArray) (hl:ws.length≤4611686018427387904) (d:Nat):∀ i:Nat,i≤ws.length→ws.length-i=d →
    Ev (fun k=>spec_l2Particle.l0 k ws (i:Int)) (wsD (ws.drop i) && decide (ws.length≤2)):=by
  induction d with
  | zero =>
    intro i h1 hd;refine Ev.step (f:=fun k=>some (decide ((ws.length:Int)≤2))) (fun k=>?_) (ev_eq (Ev.now _) ?_)
    · simp only [spec_l2Particle.l0];rw [if_neg (by omega)]
    · rw [List.drop_of_length_le (by omega)]
      show decide _=(true && decide _)
      rw [Bool.true_and,decide_eq_decide];omega
  | succ d ih =>
    intro i h1 hd
    have hi:i<ws.length:=by omega
    refine Ev.step (f:=fun k=>(spec_l2Word.f k ws[i]).bind fun t=>if t=true then spec_l2Particle.l1 k ws (i:Int) ((0:Nat):Int) else some false) (fun k=>?_) ?_
    · simp only [spec_l2Particle.l0,rd_get ws i hi]
      rw [if_pos (by omega),if_pos (by omega)];rfl
    · refine Ev.bind (spec_word _) ?_
      have e:(wsD (ws.drop i) && decide (ws.length≤2))=((wordD ws[i] && lowD ws[i]) && (wsD (ws.drop (i+1)) && decide (ws.length≤2))):=by
        rw [word_low,List.drop_eq_getElem_cons hi];simp only [wsD,List.all_cons,Bool.and_assoc]
      rw [e]
      cases h:wordD ws[i] with
      | true=>exact ev_pos rfl (ev_eq (spec_inner ws i hi (word_in h).2 hl _ (ih (i+1) (by omega) (by omega)) _ 0 (by omega) rfl) (by simp [lowD]))
      | false=>exact ev_neg (by simp) (ev_eq (Ev.now _) (by simp))
theorem impl_inner (ws ws':List ByteArray) (n i:Nat) (w:ByteArray) (hi:i<4611686018427387904) (hs:w.size≤12) (T:Bool) (hT:Ev (fun k=>impl_isParticle.l0 k ws ws' (n:Int) ((i+1:Nat):Int)) T) (d:Nat):∀ j:Nat,j≤w.size→w.size-j=d →
    Ev (fun k=>impl_isParticle.l1 k ws w (j:Int) ws' (n:Int) (i:Int)) (lowF w j && T):=by
  have hw:wrap64 ((i:Int)+1)=((i+1:Nat):Int):=by rw [w64 (by omega) (by omega)];rfl
  induction d with
  | zero =>
    intro j h1 hd;refine Ev.step (f:=fun k=>impl_isParticle.l0 k ws ws' (n:Int) ((i+1:Nat):Int)) (fun k=>?_) (ev_eq hT (by rw [lowF_end _ _ (by omega)];simp));simp only [impl_isParticle.l1];rw [if_neg (by omega),hw]
  | succ d ih =>
    intro j h1 hd;rw [lowF_step _ j (by omega)]
    have hw':wrap64 ((j:Int)+1)=((j+1:Nat):Int):=by rw [w64 (by omega) (by omega)];rfl
    refine Ev.step (f:=fun k=>if loD (bt w (j:Int))=true then impl_isParticle.l1 k ws w ((j+1:Nat):Int) ws' (n:Int) (i:Int) else some false) (fun k=>?_) ?_
    · simp only [impl_isParticle.l1]
      rw [if_pos (by omega),if_pos (by omega),hw',impl_lo];rfl
    · cases h:loD (bt w (j:Int)) with
      | true=>exact ev_pos rfl (ev_eq (ih (j+1) (by omega) (by omega)) (by simp))
      | false=>exact ev_neg (by simp) (ev_eq (Ev.now _) (by simp))
theorem impl_outer (ws:List ByteArray) (hl:ws.length≤4611686018427387904) (d:Nat):∀ i:Nat,i≤ws.length→ws.length-i=d →
    Ev (fun k=>impl_isParticle.l0 k ws ws (ws.length:Int) (i:Int)) (wsD (ws.drop i) && decide (ws.length≤2)):=by
  induction d with
  | zero =>
    intro i h1 hd;refine Ev.step (f:=fun k=>some (decide ((ws.length:Int)≤2))) (fun k=>?_) (ev_eq (Ev.now _) ?_)
    · simp only [impl_isParticle.l0];rw [if_neg (by omega)]
    · rw [List.drop_of_length_le (by omega)]
      show decide _=(true && decide _)
      rw [Bool.true_and,decide_eq_decide];omega
  | succ d ih =>
    intro i h1 hd
    have hi:i<ws.length:=by omega
    have e:(wsD (ws.drop i) && decide (ws.length≤2))=(inD (ws[i]).size && (lowD ws[i] && (wsD (ws.drop (i+1)) && decide (ws.length≤2)))):=by
      rw [List.drop_eq_getElem_cons hi];simp only [wsD,List.all_cons,Bool.and_assoc]
    rw [e];refine Ev.step (f:=fun k=>if inD (ws[i]).size=true then impl_isParticle.l1 k ws ws[i] ((0:Nat):Int) ws (ws.length:Int) (i:Int) else some false) (fun k=>?_) ?_
    · simp only [impl_isParticle.l0,rd_get ws i hi]
      rw [if_pos (by omega),if_pos (by omega),if_pos (by omega),impl_in];rfl
    · cases h:inD (ws[i]).size with
      | true=>exact ev_pos rfl (ev_eq (impl_inner ws ws ws.length i ws[i] (by omega) (inD_iff.1 h).2 _ (ih (i+1) (by omega) (by omega)) _ 0 (by omega) rfl) (by simp [lowD]))
      | false=>exact ev_neg (by simp) (ev_eq (Ev.now _) (by simp))
def wordsOf (s:ByteArray):List ByteArray:=(spl 32 (L s)).map mkB
def partD (s:ByteArray):Bool:=decide (s.size=0) || (wsD (wordsOf s) && decide ((wordsOf s).length≤2))
theorem wordsOf_len (s:ByteArray):(wordsOf s).length≤s.size+1:=by
  have:=spl_length 32 (L s);rw [L_len] at this;unfold wordsOf;rw [List.length_map];exact this
theorem nil_iff (s:ByteArray):s.toList=([]:List UInt8) ↔ s.size=0:=by rw [toList_L,size_pos_iff]
theorem split_sp (s:ByteArray) (c:UInt8) (hs:s.size≤4294967280):strings_Split.f s (⟨#[c]⟩:ByteArray)=some ((spl c (L s)).map mkB):=by
  have e:(⟨#[c]⟩:ByteArray)=mkB [c]:=rfl
  have h1:(mkB [c]).size=1:=by rw [size_mk];rfl
  have hc:=Lib.countB_le (mkB [c]) (by omega) s.size s (Nat.le_refl _);unfold strings_Split.f;rw [e,if_pos ⟨by omega,by omega,Lib.splitB_all (mkB [c]) (by omega) 0 _ s rfl,by omega⟩,splitB_eq]
theorem spec_part (s:ByteArray) (hs:s.size≤4294967280):Ev (fun k=>spec_l2Particle.f k s) (partD s):=by
  unfold spec_l2Particle.f partD;by_cases h:s.size=0
  · exact ev_pos ((nil_iff s).2 h) (ev_eq (Ev.now _) (by simp [h]))
  · refine ev_neg (fun e=>h ((nil_iff s).1 e)) (Ev.bind (split_ev s 32 (by omega)) (ev_eq (spec_outer (wordsOf s) (by have:=wordsOf_len s;omega) _ 0 (by omega) rfl) ?_))
    simp [h]
theorem impl_part (s:ByteArray) (hs:s.size≤4294967280):Ev (fun k=>impl_isParticle.f k s) (partD s):=by
  unfold impl_isParticle.f partD;by_cases h:s.size=0
  · exact ev_pos ((nil_iff s).2 h) (ev_eq (Ev.now _) (by simp [h]))
  · refine ev_neg (fun e=>h ((nil_iff s).1 e)) (ev_bind0 (split_sp s 32 hs) (ev_eq (impl_outer (wordsOf s) (by have:=wordsOf_len s;omega) _ 0 (by omega) rfl) ?_))
    simp [h]
def rngD (c:Int):Bool:=decide (32≤c) && decide (c≤126)
def rngF (s:ByteArray):Nat→Nat→Bool
  | 0,_=>true
  | d+1,i=>rngD (bt s (i:Int)) && rngF s d (i+1)
def edgeD (s:ByteArray):Bool:=!decide (bt s 0=32) && !decide (bt s ((s.size:Int)-1)=32)
theorem trimR (n:Nat):∀ s:ByteArray,s.size=n→n≤4611686018427387904→∃ t,Ev (fun k=>strings_trimRightByte.f k s 32) t∧t.size≤n∧(1≤n→bt s ((n:Int)-1)=32→t.size<n)∧((n=0∨bt s ((n:Int)-1)≠32)→t=s):=by
  induction n with
  | zero =>
    intro s hs hb;refine ⟨s,Ev.step (f:=fun _=>some s) (fun k=>?_) (Ev.now _),by omega,fun h=>by omega,fun _=>rfl⟩;simp only [strings_trimRightByte.f,strings_trimRightByte.l0];rw [if_neg (by omega)]
  | succ n ih =>
    intro s hs hb
    have hw:wrap64 ((s.size:Int)-1)=(n:Int):=by rw [w64 (by omega) (by omega)];omega
    have e0:((n+1:Nat):Int)-1=(n:Int):=by omega
    rw [e0];by_cases c:bt s (n:Int)=32
    · have hs':(s.extract 0 n).size=n:=by rw [ByteArray.size_extract];omega
      obtain ⟨t,ht,h1,_,_⟩:=ih (s.extract 0 n) hs' (by omega);refine ⟨t,Ev.step (f:=fun k=>strings_trimRightByte.f k (s.extract 0 n) 32) (fun k=>?_) ht,by omega,fun _ _=>by omega,fun h=>?_⟩
      · simp only [strings_trimRightByte.f,strings_trimRightByte.l0,hw]
        rw [if_pos (by omega),if_pos (by omega),if_pos (by omega),if_pos c,if_pos (by omega),Int.toNat_natCast]
      · rcases h with h|h
        · omega
        · exact absurd c h
    · refine ⟨s,Ev.step (f:=fun _=>some s) (fun k=>?_) (Ev.now _),by omega,fun _ h=>absurd h c,fun _=>rfl⟩
      simp only [strings_trimRightByte.f,strings_trimRightByte.l0,hw];rw [if_pos (by omega),if_pos (by omega),if_pos (by omega),if_neg c]
theorem trimL (n:Nat):∀ s:ByteArray,s.size=n→n≤4611686018427387904→∃ t,Ev (fun k=>strings_trimLeftByte.f k s 32) t∧t.size≤n∧(1≤n→bt s 0=32→t.size<n)∧((n=0∨bt s 0≠32)→t=s):=by
  induction n with
  | zero =>
    intro s hs hb;refine ⟨s,Ev.step (f:=fun _=>some s) (fun k=>?_) (Ev.now _),by omega,fun h=>by omega,fun _=>rfl⟩;simp only [strings_trimLeftByte.f,strings_trimLeftByte.l0];rw [if_neg (by omega)]
  | succ n ih =>
    intro s hs hb;by_cases c:bt s 0=32
    · have hs':(s.extract 1 s.size).size=n:=by rw [ByteArray.size_extract];omega
      obtain ⟨t,ht,h1,_,_⟩:=ih (s.extract 1 s.size) hs' (by omega);refine ⟨t,Ev.step (f:=fun k=>strings_trimLeftByte.f k (s.extract 1 s.size) 32) (fun k=>?_) ht,by omega,fun _ _=>by omega,fun h=>?_⟩
      · simp only [strings_trimLeftByte.f,strings_trimLeftByte.l0]
        rw [if_pos (by omega),if_pos (by omega),if_pos c,if_pos (by omega)]
      · rcases h with h|h
        · omega
        · exact absurd c h
    · refine ⟨s,Ev.step (f:=fun _=>some s) (fun k=>?_) (Ev.now _),by omega,fun _ h=>absurd h c,fun _=>rfl⟩
      simp only [strings_trimLeftByte.f,strings_trimLeftByte.l0];rw [if_pos (by omega),if_pos (by omega),if_neg c]
theorem trim_ev (s:ByteArray) (h1:1≤s.size) (h2:s.size≤4611686018427387904):∃ t,Ev (fun k=>strings_Trim.f k s (⟨#[32]⟩:ByteArray)) t∧(t.toList == s.toList)=edgeD s:=by
  obtain ⟨t1,ht1,ha,hb,hc⟩:=trimR s.size s rfl h2;obtain ⟨t2,ht2,ha',hb',hc'⟩:=trimL t1.size t1 rfl (by omega);refine ⟨t2,?_,?_⟩
  · unfold strings_Trim.f
    have hz:¬ s.toList=([]:List UInt8):=fun e=>by rw [toList_L] at e;have:=(size_pos_iff s).2 e;omega
    refine ev_neg hz ?_
    have e1:((⟨#[32]⟩:ByteArray).toList == ([]:List UInt8))=false:=by rw [toList_L];rfl
    have e2:((⟨#[32]⟩:ByteArray).size:Int)=1:=rfl;have e3:bt (⟨#[32]⟩:ByteArray) 0=32:=rfl;rw [e1];refine Ev.step (f:=fun k=>strings_Trim.j1 k s (⟨#[32]⟩:ByteArray) true) (fun k=>?_) (Ev.step (f:=fun k=>(strings_trimRightByte.f k s 32).bind fun t=>(strings_trimLeftByte.f k t 32).bind fun u=>some u) (fun k=>?_) (Ev.bind ht1 (Ev.bind ht2 (Ev.now _))))
    · simp only [strings_Trim.j0]
      rw [if_neg (by simp),e2,if_pos rfl,if_pos (by omega),e3];rfl
    · simp only [strings_Trim.j1]
      rw [if_pos trivial,e2,if_pos (by omega),e3]
  · unfold edgeD
    by_cases c:bt s ((s.size:Int)-1)=32
    · have:t2.size<s.size:=by have:=hb h1 c;omega
      have ne:¬ t2.toList=s.toList:=fun e=>by have:=toList_eq_iff.1 e;subst this;omega
      rw [show (t2.toList == s.toList)=false by simpa using ne];simp [c]
    · have e:=hc (Or.inr c)
      subst e;by_cases c0:bt t1 0=32
      · have h3:=hb' h1 c0
        have ne:¬ t2.toList=t1.toList:=fun e=>by have:=toList_eq_iff.1 e;subst this;omega
        rw [show (t2.toList == t1.toList)=false by simpa using ne];simp [c0]
      · have e:=hc' (Or.inr c0)
        subst e;simp [c,c0]
theorem print_loop (s:ByteArray) (h1:1≤s.size) (h2:s.size≤100) (d:Nat):∀ i:Nat,i≤s.size→s.size-i=d →
    Ev (fun k=>impl_isPrintable.l0 k s (i:Int)) (rngF s d i && edgeD s):=by
  induction d with
  | zero =>
    intro i hi hd;obtain ⟨t,ht,e⟩:=trim_ev s h1 (by omega);refine Ev.step (f:=fun k=>(strings_Trim.f k s (⟨#[32]⟩:ByteArray)).bind fun aeA=>(some (aeA.toList == s.toList))) (fun k=>?_) (Ev.bind ht (ev_eq (Ev.now _) (by rw [e];simp [rngF])));simp only [impl_isPrintable.l0];rw [if_neg (by omega)]
  | succ d ih =>
    intro i hi hd
    have hw:wrap64 ((i:Int)+1)=((i+1:Nat):Int):=by rw [w64 (by omega) (by omega)];rfl
    refine Ev.step (f:=fun k=>if rngD (bt s (i:Int))=true then impl_isPrintable.l0 k s ((i+1:Nat):Int) else some false) (fun k=>?_) ?_
    · simp only [impl_isPrintable.l0]
      rw [if_pos (by omega),if_pos (by omega),hw];unfold rngD;by_cases c1:bt s (i:Int)<32
      · rw [if_pos c1,if_neg (by simp;omega)]
      · rw [if_neg c1]
        by_cases c2:bt s (i:Int)>126
        · rw [if_pos c2,if_neg (by simp;omega)]
        · rw [if_neg c2,if_pos (by simp;omega)]
    · unfold rngF
      cases h:rngD (bt s (i:Int)) with
      | true=>exact ev_pos rfl (ev_eq (ih (i+1) (by omega) (by omega)) (by simp))
      | false=>exact ev_neg (by simp) (ev_eq (Ev.now _) (by simp))
theorem trim_nil (s:ByteArray) (h:s.size=0):Ev (fun k=>strings_Trim.f k s (⟨#[32]⟩:ByteArray)) s:=by
  unfold strings_Trim.f;refine ev_pos ((nil_iff s).2 h) (Ev.step (f:=fun _=>some s) (fun k=>?_) (Ev.now _));simp only [strings_Trim.j0];rw [if_pos trivial]
def textD (s:ByteArray):Bool:=decide (s.size≤40) && (decide (s.size=0) || (rngF s s.size 0 && edgeD s))
theorem impl_text (s:ByteArray):Ev (fun k=>impl_isText.f k s) (textD s):=by
  unfold impl_isText.f textD;by_cases h:s.size≤40
  · refine ev_pos (by omega) ?_
    unfold impl_isPrintable.f;by_cases h0:s.size=0
    · refine Ev.bind (a:=true) ?_ (ev_eq (Ev.now _) (by simp [h,h0]))
      refine Ev.step (f:=fun k=>(strings_Trim.f k s (⟨#[32]⟩:ByteArray)).bind fun aeA=>(some (aeA.toList == s.toList))) (fun k=>?_) (Ev.bind (trim_nil s h0) (ev_eq (Ev.now _) (by simp)));simp only [impl_isPrintable.l0];rw [if_neg (by omega)]
    · exact Ev.bind (print_loop s (by omega) (by omega) _ 0 (by omega) rfl) (ev_eq (Ev.now _) (by simp [h,h0]))
  · exact ev_neg (by omega) (ev_eq (Ev.now _) (by simp [h]))
theorem spec_text_end (s:ByteArray) (h2:s.size≤40):Ev (fun k=>spec_l4Text.l0 k s (s.size:Int)) (decide (s.size=0) || edgeD s):=by
  refine Ev.step (f:=fun _=>some (decide (s.size=0) || edgeD s)) (fun k=>?_) (Ev.now _);simp only [spec_l4Text.l0];rw [if_neg (by omega)];by_cases h0:s.size=0
  · rw [if_pos ((nil_iff s).2 h0)];simp [h0]
  · have hw:wrap64 ((s.size:Int)-1)=(s.size:Int)-1:=w64 (by omega) (by omega)
    rw [if_neg (fun e=>h0 ((nil_iff s).1 e)),if_pos (by omega)];unfold edgeD;by_cases c:bt s 0=32
    · rw [if_pos c];simp [c,h0]
    · rw [if_neg c,hw,if_pos (by omega),if_pos (by omega)]
      by_cases e:bt s ((s.size:Int)-1)=32
      · rw [e];simp [h0]
      · rw [show (bt s ((s.size:Int)-1) != 32)=true from bne_iff_ne.2 e];simp [c,e,h0]
theorem spec_text_loop (s:ByteArray) (h2:s.size≤40) (d:Nat):∀ i:Nat,i≤s.size→s.size-i=d →
    Ev (fun k=>spec_l4Text.l0 k s (i:Int)) (rngF s d i && (decide (s.size=0) || edgeD s)):=by
  induction d with
  | zero =>
    intro i hi hd
    obtain rfl:i=s.size:=by omega
    exact ev_eq (spec_text_end s h2) (by simp [rngF])
  | succ d ih =>
    intro i hi hd
    have hw:wrap64 ((i:Int)+1)=((i+1:Nat):Int):=by rw [w64 (by omega) (by omega)];rfl
    refine Ev.step (f:=fun k=>if rngD (bt s (i:Int))=true then spec_l4Text.l0 k s ((i+1:Nat):Int) else some false) (fun k=>?_) ?_
    · simp only [spec_l4Text.l0]
      rw [if_pos (by omega),if_pos (by omega),hw];unfold rngD;by_cases c1:bt s (i:Int)<32
      · rw [if_pos c1,if_neg (by simp;omega)]
      · rw [if_neg c1]
        by_cases c2:bt s (i:Int)>126
        · rw [if_pos c2,if_neg (by simp;omega)]
        · rw [if_neg c2,if_pos (by simp;omega)]
    · unfold rngF
      cases h:rngD (bt s (i:Int)) with
      | true=>exact ev_pos rfl (ev_eq (ih (i+1) (by omega) (by omega)) (by simp))
      | false=>exact ev_neg (by simp) (ev_eq (Ev.now _) (by simp))
theorem spec_text (s:ByteArray):Ev (fun k=>spec_l4Text.f k s) (textD s):=by
  unfold spec_l4Text.f textD;by_cases h:s.size≤40
  · refine ev_neg (by omega) (ev_eq (spec_text_loop s h _ 0 (by omega) rfl) ?_)
    by_cases h0:s.size=0
    · rw [h0];simp [rngF]
    · simp [h,h0]
  · exact ev_pos (by omega) (ev_eq (Ev.now _) (by simp [h]))
def digD (c:Int):Bool:=decide (48≤c) && decide (c≤57)
def keyC (c:Int):Bool:=loD c || digD c
def keyF (s:ByteArray):Nat→Nat→Bool
  | 0,_=>true
  | d+1,i=>keyC (bt s (i:Int)) && keyF s d (i+1)
def inK (n:Nat):Bool:=decide (1≤n) && decide (n≤10)
def keyD (s:ByteArray):Bool:=inK s.size && (loD (bt s 0) && keyF s s.size 0)
theorem in10 (n:Nat):(if (n:Int) ≥ 1 then some (decide ((n:Int)≤10)) else some false)=some (inK n):=by
  unfold inK;by_cases h:1≤n
  · rw [if_pos (by omega)]
    congr 1
    rw [dt h,Bool.true_and,decide_eq_decide];omega
  · rw [if_neg (by omega)];simp [h]
theorem inK_iff {n:Nat}:inK n=true ↔ 1≤n∧n≤10:=by simp [inK]
theorem impl_dig (c:Int):impl_isDigit.f c=some (digD c):=by unfold impl_isDigit.f digD;by_cases h:48≤c <;> simp [h]
theorem spec_key_loop (s:ByteArray) (h2:s.size≤10) (d:Nat):∀ i:Nat,i≤s.size→s.size-i=d→Ev (fun k=>spec_l4Key.l0 k s (i:Int)) (keyF s d i):=by
  induction d with
  | zero =>
    intro i hi hd;refine Ev.step (f:=fun _=>some true) (fun k=>?_) (Ev.now _);simp only [spec_l4Key.l0];rw [if_neg (by omega)]
  | succ d ih =>
    intro i hi hd
    have hw:wrap64 ((i:Int)+1)=((i+1:Nat):Int):=by rw [w64 (by omega) (by omega)];rfl
    refine Ev.step (f:=fun k=>if keyC (bt s (i:Int))=true then spec_l4Key.l0 k s ((i+1:Nat):Int) else some false) (fun k=>?_) ?_
    · simp only [spec_l4Key.l0]
      rw [if_pos (by omega),if_pos (by omega),hw,spec_lo];simp only [Option.bind_some];unfold keyC
      cases loD (bt s (i:Int)) with
      | true=>rw [if_pos rfl,Bool.true_or,if_pos rfl]
      | false =>
        rw [if_neg (by simp)];unfold digD;by_cases c1:bt s (i:Int)<48
        · rw [if_pos c1,if_neg (by simp;omega)]
        · rw [if_neg c1]
          by_cases c2:bt s (i:Int)>57
          · rw [if_pos c2,if_neg (by simp;omega)]
          · rw [if_neg c2,if_pos (by simp;omega)]
    · unfold keyF
      cases h:keyC (bt s (i:Int)) with
      | true=>exact ev_pos rfl (ev_eq (ih (i+1) (by omega) (by omega)) (by simp))
      | false=>exact ev_neg (by simp) (ev_eq (Ev.now _) (by simp))
theorem impl_key_loop (s:ByteArray) (h2:s.size≤10) (d:Nat):∀ i:Nat,i≤s.size→s.size-i=d→Ev (fun k=>impl_isKey.l0 k s (i:Int)) (keyF s d i):=by
  induction d with
  | zero =>
    intro i hi hd;refine Ev.step (f:=fun _=>some true) (fun k=>?_) (Ev.now _);simp only [impl_isKey.l0];rw [if_neg (by omega)]
  | succ d ih =>
    intro i hi hd
    have hw:wrap64 ((i:Int)+1)=((i+1:Nat):Int):=by rw [w64 (by omega) (by omega)];rfl
    refine Ev.step (f:=fun k=>if keyC (bt s (i:Int))=true then impl_isKey.l0 k s ((i+1:Nat):Int) else some false) (fun k=>?_) ?_
    · simp only [impl_isKey.l0]
      rw [if_pos (by omega),if_pos (by omega),hw,impl_lo];simp only [Option.bind_some];unfold keyC
      cases loD (bt s (i:Int)) with
      | true=>rw [if_pos rfl,Bool.true_or,if_pos rfl]
      | false =>
        rw [if_neg (by simp),impl_dig];simp only [Option.bind_some,Bool.false_or]
    · unfold keyF
      cases h:keyC (bt s (i:Int)) with
      | true=>exact ev_pos rfl (ev_eq (ih (i+1) (by omega) (by omega)) (by simp))
      | false=>exact ev_neg (by simp) (ev_eq (Ev.now _) (by simp))
theorem spec_key (s:ByteArray):Ev (fun k=>spec_l4Key.f k s) (keyD s):=by
  have hj1:Ev (fun k=>spec_l4Key.j0 k s true) false:=Ev.step (f:=fun _=>some false) (fun k=>by simp [spec_l4Key.j0]) (Ev.now _);unfold spec_l4Key.f spec_l1In.f keyD;rw [in10];refine Ev.bind (a:=inK s.size) (Ev.now _) ?_
  cases h:inK s.size with
  | false=>exact ev_neg (by simp) (ev_eq hj1 (by simp))
  | true =>
    obtain ⟨h1,h2⟩:=inK_iff.1 h;refine ev_pos rfl (ev_pos (by omega) (ev_bind0 (spec_lo _) ?_))
    cases loD (bt s 0) with
    | false=>exact ev_eq hj1 (by simp)
    | true=>exact Ev.step (f:=fun k=>spec_l4Key.l0 k s ((0:Nat):Int)) (fun k=>by simp [spec_l4Key.j0]) (ev_eq (spec_key_loop s h2 _ 0 (by omega) rfl) (by simp))
theorem impl_key (s:ByteArray):Ev (fun k=>impl_isKey.f k s) (keyD s):=by
  have hj1:Ev (fun k=>impl_isKey.j0 k s true) false:=Ev.step (f:=fun _=>some false) (fun k=>by simp [impl_isKey.j0]) (Ev.now _);unfold impl_isKey.f impl_inside.f keyD;rw [in10];refine Ev.bind (a:=inK s.size) (Ev.now _) ?_
  cases h:inK s.size with
  | false=>exact ev_neg (by simp) (ev_eq hj1 (by simp))
  | true =>
    obtain ⟨h1,h2⟩:=inK_iff.1 h;refine ev_pos rfl (ev_pos (by omega) (ev_bind0 (impl_lo _) ?_))
    cases loD (bt s 0) with
    | false=>exact ev_eq hj1 (by simp)
    | true=>exact Ev.step (f:=fun k=>impl_isKey.l0 k s ((0:Nat):Int)) (fun k=>by simp [impl_isKey.j0]) (ev_eq (impl_key_loop s h2 _ 0 (by omega) rfl) (by simp))
def bytesS (l:List ByteArray):Nat:=(l.map (·.size)).sum
def bulkS (l:List ByteArray):Nat:=l.length+bytesS l
theorem bytesS_cons (a:ByteArray) (l:List ByteArray):bytesS (a :: l)=a.size+bytesS l:=by simp [bytesS]
def lftOf (left:Int) (n:Nat):Int:=if (n:Int)≤left then left-n else -1
theorem szS_loop (l:List ByteArray) (hb:∀ s∈l,s.size≤9223372036854775807) (hl:l.length≤9223372036854775807) (d:Nat):∀ (left:Int) (i:Nat),0≤left→left≤4611686018427387904→l.length-i=d→i≤l.length →
    Ev (fun k=>laws_szStringS.l0 k l left i) (lftOf left (bytesS (l.drop i))):=by
  induction d with
  | zero =>
    intro left i h0 h1 hd hi;refine Ev.step (f:=fun _=>some left) (fun k=>?_) (ev_eq (Ev.now _) ?_)
    · simp only [laws_szStringS.l0];rw [if_neg (by omega)]
    · rw [List.drop_of_length_le (by omega)];simp [lftOf,bytesS];omega
  | succ d ih =>
    intro left i h0 h1 hd hi
    have hlt:i<l.length:=by omega
    have hs:=hb l[i] (List.getElem_mem hlt)
    have hr:rdOf ByteArray.empty l (i:Int)=l[i]:=by simp [rdOf,hlt]
    have hw:wrap64 (left-(l[i].size:Int))=left-(l[i].size:Int):=w64 (by omega) (by omega);rw [List.drop_eq_getElem_cons hlt,bytesS_cons];by_cases hn:left-(l[i].size:Int)<0
    · refine Ev.step (f:=fun _=>some (-1)) (fun k=>?_) (ev_eq (Ev.now _) ?_)
      · simp only [laws_szStringS.l0];rw [if_pos (by omega),if_pos (by omega),hr,hw,if_pos hn]
      · unfold lftOf;rw [if_neg (by omega)]
    · refine Ev.step (f:=fun k=>laws_szStringS.l0 k l (left-(l[i].size:Int)) ((i+1:Nat):Int)) (fun k=>?_) (ev_eq (ih (left-(l[i].size:Int)) (i+1) (by omega) (by omega) (by omega) (by omega)) ?_)
      · simp only [laws_szStringS.l0];rw [if_pos (by omega),if_pos (by omega),hr,hw,if_neg hn,w64 (x:=(i:Int)+1) (by omega) (by omega)];rfl
      · unfold lftOf;split <;> split <;> omega
theorem szS_ev (l:List ByteArray) (hb:∀ s∈l,s.size≤9223372036854775807) (hl:l.length≤9223372036854775807) (left:Int) (h0:0≤left) (h1:left≤4611686018427387904) :
    Ev (fun k=>laws_szStringS.f k l left) (lftOf left (bulkS l)):=by
  unfold laws_szStringS.f;have hw:wrap64 (left-(l.length:Int))=left-(l.length:Int):=w64 (by omega) (by omega);rw [hw];by_cases hn:left-(l.length:Int)<0
  · refine ev_pos hn (ev_eq (Ev.now _) ?_)
    unfold lftOf bulkS;rw [if_neg (by omega)]
  · refine ev_neg hn (ev_eq (szS_loop l hb hl l.length (left-l.length) 0 (by omega) (by omega) rfl (by omega)) ?_)
    rw [List.drop_zero]
    unfold lftOf bulkS;split <;> split <;> omega
theorem toS_loop (l:List ByteArray) (hl:l.length≤17592186044416) (d:Nat):∀ (i:Nat),l.length-i=d→i≤l.length →
    Ev (fun k=>laws_toStringS.l0 k l (l.take i++List.replicate (l.length-i) (⟨#[]⟩:ByteArray)) i) l:=by
  induction d with
  | zero =>
    intro i hd hi;refine Ev.step (f:=fun _=>some l) (fun k=>?_) (Ev.now _);simp only [laws_toStringS.l0];rw [if_neg (by omega),hd,List.take_of_length_le (by omega)];simp
  | succ d ih =>
    intro i hd hi
    have hlt:i<l.length:=by omega
    refine Ev.step (f:=fun k=>laws_toStringS.l0 k l (l.take (i+1)++List.replicate (l.length-(i+1)) (⟨#[]⟩:ByteArray)) ((i+1:Nat):Int)) (fun k=>?_) (ih (i+1) (by omega) (by omega))
    have hr:rdOf ByteArray.empty l (i:Int)=l[i]:=by simp [rdOf,hlt]
    have hlen:(l.take i).length=i:=by simp;omega
    have e:(l.take i++List.replicate (l.length-i) (⟨#[]⟩:ByteArray)).set i l[i]=l.take (i+1)++List.replicate (l.length-(i+1)) (⟨#[]⟩:ByteArray):=by
      rw [List.set_append_right _ _ (by omega),hlen,Nat.sub_self,show l.length-i=(l.length-(i+1))+1 by omega,List.replicate_succ,List.set_cons_zero,List.take_succ_eq_append_getElem hlt,List.append_assoc];rfl
    simp only [laws_toStringS.l0];rw [if_pos (by omega),if_pos (by omega),if_pos (by simp;omega),hr,w64 (x:=(i:Int)+1) (by omega) (by omega),Int.toNat_natCast,e];rfl
theorem toS_ev (l:List ByteArray) (hl:l.length≤17592186044416):Ev (fun k=>laws_toStringS.f k l) l:=by
  unfold laws_toStringS.f;refine ev_pos (by omega) (ev_pos (by omega) ?_);have:=toS_loop l hl l.length 0 rfl (by omega)
  simpa using this
end Go.Proofs.YteagahcbffgjpaaGreatDoor.G
