/- Texts of this session for the law FnChangedFields, put together by a program (merge.py): each ends with its namespace; conditions stand with each theorem. -/
import Derived.Test.YtcbhlghofihjcaaGreatDoorKFnChangedFields2
import Derived.Test.YtcbhlghofihjcaaGreatDoorKFnChangedFields5
import Derived.Test.YtcbhlghofihjcaaGreatDoorKFnChangedFields6
import Derived.Lib.Atoi
set_option maxHeartbeats 8000000
set_option maxRecDepth 100000
namespace Go.Proofs.YtcbhlghofihjcaaGreatDoor.G
open Go.RowKit Go.Proofs.YtcbhlghofihjcaaGreatDoorW.PrintWords Go.Proofs.YtcbhlghofihjcaaGreatDoorW.PrintLast Go.Proofs.YtcbhlghofihjcaaGreatDoorW.PrintMore
open Go.Proofs.YtcbhlghofihjcaaGreatDoor.Gl Go.Proofs.YtcbhlghofihjcaaGreatDoor.Ext
attribute [local go_sem] max2_int min2_int max_two min_two max_three min_three max_four min_four   -- for this text's walks alone
set_option linter.unusedVariables false
set_option linter.unusedSimpArgs false
mutual
def spec_ChangedFields.j0:Nat→List ByteArray→Bool→ByteArray→Int→List (S68)→List (S68)→ByteArray→ByteArray→ByteArray→Int→Int→Int→Bool→Int→ByteArray→ByteArray→ByteArray→Int→List (S68)→List (S68)→ByteArray→ByteArray→ByteArray→Int→Int→Int→Bool→Int→ByteArray→ByteArray→Option (List ByteArray × Bool)
 | 0,_,_,_,_,_,_,_,_,_,_,_,_,_,_,_,_,_,_,_,_,_,_,_,_,_,_,_,_,_,_=>none
 | k+1,x6,x21,mS,oS,rB,rC,rD,rE,rF,rG,rH,rI,rJ,rK,rL,oT,mT,oU,rM,rN,rO,rP,rQ,rR,rS,rT,rU,rV,rW,oV=>if x21=true then (some (x6,false)) else ((spec_l4Fields.f).bind fun fS=>(spec_ChangedFields.l0 k x6 fS 0 mS oS rB rC rD rE rF rG rH rI rJ rK rL oT mT oU rM rN rO rP rQ rR rS rT rU rV rW oV))
def spec_ChangedFields.l0:Nat→List ByteArray→List ByteArray→Int→ByteArray→Int→List (S68)→List (S68)→ByteArray→ByteArray→ByteArray→Int→Int→Int→Bool→Int→ByteArray→ByteArray→ByteArray→Int→List (S68)→List (S68)→ByteArray→ByteArray→ByteArray→Int→Int→Int→Bool→Int→ByteArray→ByteArray→Option (List ByteArray × Bool)
 | 0,_,_,_,_,_,_,_,_,_,_,_,_,_,_,_,_,_,_,_,_,_,_,_,_,_,_,_,_,_,_,_=>none
 | k+1,x6,x7,x8,mS,oS,rB,rC,rD,rE,rF,rG,rH,rI,rJ,rK,rL,oT,mT,oU,rM,rN,rO,rP,rQ,rR,rS,rT,rU,rV,rW,oV=>if x8<(x7.length:Int) then (if 0≤x8 then ((spec_l4Field.f k mS oS rB rC rD rE rF rG rH rI rJ rK rL oT (rdOf ByteArray.empty x7 x8)).bind fun acD=>((spec_l4Field.f k mT oU rM rN rO rP rQ rR rS rT rU rV rW oV (rdOf ByteArray.empty x7 x8)).bind fun U1=>(if acD.1.toList=U1.1.toList then (spec_ChangedFields.l0 k x6 x7 (wrap64 (x8+1)) mS oS rB rC rD rE rF rG rH rI rJ rK rL oT mT oU rM rN rO rP rQ rR rS rT rU rV rW oV) else (if x6.length<8796093022208 then (spec_ChangedFields.l0 k (x6++[rdOf ByteArray.empty x7 x8]) x7 (wrap64 (x8+1)) mS oS rB rC rD rE rF rG rH rI rJ rK rL oT mT oU rM rN rO rP rQ rR rS rT rU rV rW oV) else (none))))) else (none)) else (if oT.toList=oV.toList then (spec_ChangedFields.j2 k x6 mS oS rB rC rD rE rF rG rH rI rJ rK rL oT mT oU rM rN rO rP rQ rR rS rT rU rV rW oV) else (if x6.length<8796093022208 then (spec_ChangedFields.j2 k (x6++[(⟨#[99,114,111,115,115]⟩:ByteArray)]) mS oS rB rC rD rE rF rG rH rI rJ rK rL oT mT oU rM rN rO rP rQ rR rS rT rU rV rW oV) else (none)))
def spec_ChangedFields.j2:Nat→List ByteArray→ByteArray→Int→List (S68)→List (S68)→ByteArray→ByteArray→ByteArray→Int→Int→Int→Bool→Int→ByteArray→ByteArray→ByteArray→Int→List (S68)→List (S68)→ByteArray→ByteArray→ByteArray→Int→Int→Int→Bool→Int→ByteArray→ByteArray→Option (List ByteArray × Bool)
 | 0,_,_,_,_,_,_,_,_,_,_,_,_,_,_,_,_,_,_,_,_,_,_,_,_,_,_,_,_,_=>none
 | k+1,x6,mS,oS,rB,rC,rD,rE,rF,rG,rH,rI,rJ,rK,rL,oT,mT,oU,rM,rN,rO,rP,rQ,rR,rS,rT,rU,rV,rW,oV=>if oS=oU then (if mS.toList=mT.toList then (some (x6,true)) else (if x6.length<8796093022208 then (some ((x6++[(⟨#[107,101,121]⟩:ByteArray)]),true)) else (none))) else (if x6.length<8796093022208 then ((some (x6++[(⟨#[107,105,110,100]⟩:ByteArray)]:List ByteArray)).bind fun Bw=>(if mS.toList=mT.toList then (some (Bw,true)) else (if Bw.length<8796093022208 then (some ((Bw++[(⟨#[107,101,121]⟩:ByteArray)]),true)) else (none)))) else (none))
end
def spec_ChangedFields.f (k:Nat) (aD:ByteArray) (aA:Int) (aN:List (S68)) (aQ:List (S68)) (bB:ByteArray) (bC:ByteArray) (bD:ByteArray) (aV:Int) (aY:Int) (bA:Int) (aH:Bool) (aI:Int) (aK:ByteArray) (aM:ByteArray) (cA:ByteArray) (bT:Int) (bR:List (S68)) (bS:List (S68)) (cD:ByteArray) (cE:ByteArray) (cF:ByteArray) (bW:Int) (bX:Int) (bZ:Int) (bM:Bool) (bO:Int) (bP:ByteArray) (bN:ByteArray):Option (List ByteArray × Bool):=(some (([]:List ByteArray):List ByteArray)).bind fun AN=>((spec_l4Entry.f k aD aA aN aQ bB bC bD aV aY bA aH aI aK aM).bind fun J4=>(if J4=true then ((spec_l4Entry.f k cA bT bR bS cD cE cF bW bX bZ bM bO bP bN).bind fun Fh=>(spec_ChangedFields.j0 k AN (!Fh) aD aA aN aQ bB bC bD aV aY bA aH aI aK aM cA bT bR bS cD cE cF bW bX bZ bM bO bP bN)) else (spec_ChangedFields.j0 k AN true aD aA aN aQ bB bC bD aV aY bA aH aI aK aM cA bT bR bS cD cE cF bW bX bZ bM bO bP bN)))
theorem spec_ChangedFields.mono_l:∀ k,(∀ y0 y1 y2 y3 y4 y5 y6 y7 y8 y9 cV cW cX cY kD sX sZ tA tB tC tD tE tF tG tH tI tJ tK tL Fi,LeO (spec_ChangedFields.j0 k y0 y1 y2 y3 y4 y5 y6 y7 y8 y9 cV cW cX cY kD sX sZ tA tB tC tD tE tF tG tH tI tJ tK tL Fi) (spec_ChangedFields.j0 (k+1) y0 y1 y2 y3 y4 y5 y6 y7 y8 y9 cV cW cX cY kD sX sZ tA tB tC tD tE tF tG tH tI tJ tK tL Fi))∧(∀ y0 y1 y2 y3 y4 y5 y6 y7 y8 y9 cV cW cX cY kD sX sZ tA tB tC tD tE tF tG tH tI tJ tK tL Fi y30,LeO (spec_ChangedFields.l0 k y0 y1 y2 y3 y4 y5 y6 y7 y8 y9 cV cW cX cY kD sX sZ tA tB tC tD tE tF tG tH tI tJ tK tL Fi y30) (spec_ChangedFields.l0 (k+1) y0 y1 y2 y3 y4 y5 y6 y7 y8 y9 cV cW cX cY kD sX sZ tA tB tC tD tE tF tG tH tI tJ tK tL Fi y30))∧(∀ y0 y1 y2 y3 y4 y5 y6 y7 y8 y9 cV cW cX cY kD sX sZ tA tB tC tD tE tF tG tH tI tJ tK tL,LeO (spec_ChangedFields.j2 k y0 y1 y2 y3 y4 y5 y6 y7 y8 y9 cV cW cX cY kD sX sZ tA tB tC tD tE tF tG tH tI tJ tK tL) (spec_ChangedFields.j2 (k+1) y0 y1 y2 y3 y4 y5 y6 y7 y8 y9 cV cW cX cY kD sX sZ tA tB tC tD tE tF tG tH tI tJ tK tL))
 | 0=>⟨fun _ _ _ _ _ _ _ _ _ _ _ _ _ _ _ _ _ _ _ _ _ _ _ _ _ _ _ _ _ _ r h=>by simp [spec_ChangedFields.j0] at h,fun _ _ _ _ _ _ _ _ _ _ _ _ _ _ _ _ _ _ _ _ _ _ _ _ _ _ _ _ _ _ _ r h=>by simp [spec_ChangedFields.l0] at h,fun _ _ _ _ _ _ _ _ _ _ _ _ _ _ _ _ _ _ _ _ _ _ _ _ _ _ _ _ _ r h=>by simp [spec_ChangedFields.j2] at h⟩
 | k+1=>by
  obtain ⟨ih0,ih1,ih2⟩:=spec_ChangedFields.mono_l k;refine ⟨?_,?_,?_⟩
  ·
   intro y0 y1 y2 y3 y4 y5 y6 y7 y8 y9 cV cW cX cY kD sX sZ tA tB tC tD tE tF tG tH tI tJ tK tL Fi;unfold spec_ChangedFields.j0
   repeat' first
   | (with_reducible exact ih0 _ _ _ _ _ _ _ _ _ _ _ _ _ _ _ _ _ _ _ _ _ _ _ _ _ _ _ _ _ _)
   | (with_reducible exact ih1 _ _ _ _ _ _ _ _ _ _ _ _ _ _ _ _ _ _ _ _ _ _ _ _ _ _ _ _ _ _ _)
   | (with_reducible exact ih2 _ _ _ _ _ _ _ _ _ _ _ _ _ _ _ _ _ _ _ _ _ _ _ _ _ _ _ _ _)
   | (with_reducible exact spec_l4Entry.mono _ _ _ _ _ _ _ _ _ _ _ _ _ _ _)
   | (with_reducible exact spec_l4Field.mono _ _ _ _ _ _ _ _ _ _ _ _ _ _ _ _)
   | (with_reducible exact LeO.refl _)
   | (with_reducible exact LeO.none _)
   | (with_reducible refine LeO.ite ?_ ?_)
   | (with_reducible refine LeO.bind ?_ (fun _=>?_))
   | exact ih0 _ _ _ _ _ _ _ _ _ _ _ _ _ _ _ _ _ _ _ _ _ _ _ _ _ _ _ _ _ _
   | exact ih1 _ _ _ _ _ _ _ _ _ _ _ _ _ _ _ _ _ _ _ _ _ _ _ _ _ _ _ _ _ _ _
   | exact ih2 _ _ _ _ _ _ _ _ _ _ _ _ _ _ _ _ _ _ _ _ _ _ _ _ _ _ _ _ _
   | exact spec_l4Entry.mono _ _ _ _ _ _ _ _ _ _ _ _ _ _ _
   | exact spec_l4Field.mono _ _ _ _ _ _ _ _ _ _ _ _ _ _ _ _
   | exact LeO.none _
   | refine LeO.ite ?_ ?_
   | refine LeO.bind ?_ (fun _=>?_)
  ·
   intro y0 y1 y2 y3 y4 y5 y6 y7 y8 y9 cV cW cX cY kD sX sZ tA tB tC tD tE tF tG tH tI tJ tK tL Fi y30;unfold spec_ChangedFields.l0
   repeat' first
   | (with_reducible exact ih0 _ _ _ _ _ _ _ _ _ _ _ _ _ _ _ _ _ _ _ _ _ _ _ _ _ _ _ _ _ _)
   | (with_reducible exact ih1 _ _ _ _ _ _ _ _ _ _ _ _ _ _ _ _ _ _ _ _ _ _ _ _ _ _ _ _ _ _ _)
   | (with_reducible exact ih2 _ _ _ _ _ _ _ _ _ _ _ _ _ _ _ _ _ _ _ _ _ _ _ _ _ _ _ _ _)
   | (with_reducible exact spec_l4Entry.mono _ _ _ _ _ _ _ _ _ _ _ _ _ _ _)
   | (with_reducible exact spec_l4Field.mono _ _ _ _ _ _ _ _ _ _ _ _ _ _ _ _)
   | (with_reducible exact LeO.refl _)
   | (with_reducible exact LeO.none _)
   | (with_reducible refine LeO.ite ?_ ?_)
   | (with_reducible refine LeO.bind ?_ (fun _=>?_))
   | exact ih0 _ _ _ _ _ _ _ _ _ _ _ _ _ _ _ _ _ _ _ _ _ _ _ _ _ _ _ _ _ _
   | exact ih1 _ _ _ _ _ _ _ _ _ _ _ _ _ _ _ _ _ _ _ _ _ _ _ _ _ _ _ _ _ _ _
   | exact ih2 _ _ _ _ _ _ _ _ _ _ _ _ _ _ _ _ _ _ _ _ _ _ _ _ _ _ _ _ _
   | exact spec_l4Entry.mono _ _ _ _ _ _ _ _ _ _ _ _ _ _ _
   | exact spec_l4Field.mono _ _ _ _ _ _ _ _ _ _ _ _ _ _ _ _
   | exact LeO.none _
   | refine LeO.ite ?_ ?_
   | refine LeO.bind ?_ (fun _=>?_)
  ·
   intro y0 y1 y2 y3 y4 y5 y6 y7 y8 y9 cV cW cX cY kD sX sZ tA tB tC tD tE tF tG tH tI tJ tK tL;unfold spec_ChangedFields.j2
   repeat' first
   | (with_reducible exact ih0 _ _ _ _ _ _ _ _ _ _ _ _ _ _ _ _ _ _ _ _ _ _ _ _ _ _ _ _ _ _)
   | (with_reducible exact ih1 _ _ _ _ _ _ _ _ _ _ _ _ _ _ _ _ _ _ _ _ _ _ _ _ _ _ _ _ _ _ _)
   | (with_reducible exact ih2 _ _ _ _ _ _ _ _ _ _ _ _ _ _ _ _ _ _ _ _ _ _ _ _ _ _ _ _ _)
   | (with_reducible exact spec_l4Entry.mono _ _ _ _ _ _ _ _ _ _ _ _ _ _ _)
   | (with_reducible exact spec_l4Field.mono _ _ _ _ _ _ _ _ _ _ _ _ _ _ _ _)
   | (with_reducible exact LeO.refl _)
   | (with_reducible exact LeO.none _)
   | (with_reducible refine LeO.ite ?_ ?_)
   | (with_reducible refine LeO.bind ?_ (fun _=>?_))
   | exact ih0 _ _ _ _ _ _ _ _ _ _ _ _ _ _ _ _ _ _ _ _ _ _ _ _ _ _ _ _ _ _
   | exact ih1 _ _ _ _ _ _ _ _ _ _ _ _ _ _ _ _ _ _ _ _ _ _ _ _ _ _ _ _ _ _ _
   | exact ih2 _ _ _ _ _ _ _ _ _ _ _ _ _ _ _ _ _ _ _ _ _ _ _ _ _ _ _ _ _
   | exact spec_l4Entry.mono _ _ _ _ _ _ _ _ _ _ _ _ _ _ _
   | exact spec_l4Field.mono _ _ _ _ _ _ _ _ _ _ _ _ _ _ _ _
   | exact LeO.none _
   | refine LeO.ite ?_ ?_
   | refine LeO.bind ?_ (fun _=>?_)
theorem spec_ChangedFields.mono:∀ a0 a1 a2 a3 a4 a5 a6 a7 a8 a9 hJ hU hV hY nP AO AP AQ AR AU a20 a21 a22 a23 AV a25 AW AX k,LeO (spec_ChangedFields.f k a0 a1 a2 a3 a4 a5 a6 a7 a8 a9 hJ hU hV hY nP AO AP AQ AR AU a20 a21 a22 a23 AV a25 AW AX) (spec_ChangedFields.f (k+1) a0 a1 a2 a3 a4 a5 a6 a7 a8 a9 hJ hU hV hY nP AO AP AQ AR AU a20 a21 a22 a23 AV a25 AW AX):=by
 intro a0 a1 a2 a3 a4 a5 a6 a7 a8 a9 hJ hU hV hY nP AO AP AQ AR AU a20 a21 a22 a23 AV a25 AW AX k;obtain ⟨ih0,ih1,ih2⟩:=spec_ChangedFields.mono_l k;unfold spec_ChangedFields.f
 repeat' first
   | (with_reducible exact ih0 _ _ _ _ _ _ _ _ _ _ _ _ _ _ _ _ _ _ _ _ _ _ _ _ _ _ _ _ _ _)
   | (with_reducible exact ih1 _ _ _ _ _ _ _ _ _ _ _ _ _ _ _ _ _ _ _ _ _ _ _ _ _ _ _ _ _ _ _)
   | (with_reducible exact ih2 _ _ _ _ _ _ _ _ _ _ _ _ _ _ _ _ _ _ _ _ _ _ _ _ _ _ _ _ _)
   | (with_reducible exact spec_l4Entry.mono _ _ _ _ _ _ _ _ _ _ _ _ _ _ _)
   | (with_reducible exact spec_l4Field.mono _ _ _ _ _ _ _ _ _ _ _ _ _ _ _ _)
   | (with_reducible exact LeO.refl _)
   | (with_reducible exact LeO.none _)
   | (with_reducible refine LeO.ite ?_ ?_)
   | (with_reducible refine LeO.bind ?_ (fun _=>?_))
   | exact ih0 _ _ _ _ _ _ _ _ _ _ _ _ _ _ _ _ _ _ _ _ _ _ _ _ _ _ _ _ _ _
   | exact ih1 _ _ _ _ _ _ _ _ _ _ _ _ _ _ _ _ _ _ _ _ _ _ _ _ _ _ _ _ _ _ _
   | exact ih2 _ _ _ _ _ _ _ _ _ _ _ _ _ _ _ _ _ _ _ _ _ _ _ _ _ _ _ _ _
   | exact spec_l4Entry.mono _ _ _ _ _ _ _ _ _ _ _ _ _ _ _
   | exact spec_l4Field.mono _ _ _ _ _ _ _ _ _ _ _ _ _ _ _ _
   | exact LeO.none _
   | refine LeO.ite ?_ ?_
   | refine LeO.bind ?_ (fun _=>?_)
def spec_ChangedFields.T8:Bool × List (List Nat × List Nat):=(true,[([],[]),([],[]),([],[]),([1,2],[1,2]),([3],[3]),([0,4],[0,4]),([5],[5]),([6],[6]),([6],[6]),([7,5,0,1,2,3,4,5,6,7],[7]),([8,9,0,1,2,3,4,5,6,7,8,9],[8])])
def spec_ChangedFields.B8:List Nat:=[0,0,0,6,14,31,63,127,127,255,1023]
theorem spec_ChangedFields.tab8:rtab .any (opsOf Tryz.f7 8)=spec_ChangedFields.T8:=by kernel_rfl
theorem spec_ChangedFields.bits8:waitsOk spec_ChangedFields.T8.2 spec_ChangedFields.B8=true:=by kernel_rfl
def spec_ChangedFields.T9:Bool × List (List Nat × List Nat):=(true,[([],[]),([],[]),([],[]),([1,2],[1,2]),([3],[3]),([0,4],[0,4]),([5],[5]),([6],[6]),([6],[6]),([7,5,0,1,2,3,4,5,6,7],[7]),([8,9,0,1,2,3,4,5,6,7,8,9],[8])])
def spec_ChangedFields.B9:List Nat:=[0,0,0,6,14,31,63,127,127,255,1023]
theorem spec_ChangedFields.tab9:rtab .any (opsOf Tryz.f7 9)=spec_ChangedFields.T9:=by kernel_rfl
theorem spec_ChangedFields.bits9:waitsOk spec_ChangedFields.T9.2 spec_ChangedFields.B9=true:=by kernel_rfl
theorem spec_ChangedFields.L0 {P:Prop} (h:P:=by
  go_wp2_with (first|((with_reducible refine gate_callee (f:=17) rfl ?_);refine goesL_ (some 15) rfl rfl Tryz.func17 (by kernel_rfl) rfl #[.agg #[.string aD,.int .i64 aA,.slice cK aN.length cL,.slice cH aQ.length cI,.string bB,.string bC,.string bD,.int .i64 aV,.int .i64 aY,.int .i64 bA,.bool aH,.int .i64 aI,.string aK,.string aM]] rfl au58 ?_;(with_reducible refine (spec_l4Entry.calls k aD aA _ _ aN _ _ aQ bB bC bD aV aY bA aH aI aK aM _ _ ?aE ?aG ?bU ?bV A8.out).mono ?_);(case aE=>repeat (first|exact (Kd.C_below fJ.out HB.out)|(with_reducible refine Kd.C_alloc ?_ _)|(with_reducible refine Kd.C_drewN ?_ _)|(with_reducible refine Kd.C_drew ?_)));(case aG=>exact fK.out);(case bU=>repeat (first|exact (Kd.C_below gB.out HB.out)|(with_reducible refine Kd.C_alloc ?_ _)|(with_reducible refine Kd.C_drewN ?_ _)|(with_reducible refine Kd.C_drew ?_)));(case bV=>exact gC.out);rintro e Jq ⟨rfl,hb⟩;refine ⟨_,rfl,?_⟩;replace FD:=am (Kd.R_below au96 hb);replace bJ:=am (blk_below (g:=dF) au80 hb);replace bK:=am (blk_below (g:=dI) au81 hb);replace HB:=am (below_step au27 hb);(try clear hb);obtain ⟨nX,nY,nZ,oB,Ld,Le,Lf,Lg,Lh,Li,I4,I5,I6,I7,oC,oD,oF,oG,Lj,Lk,Ll,Lm,Ln,Lo,I8,I9,Ia,Ib⟩:=blkc14 bK.out)|(go_at_call 17;(with_reducible refine (spec_l4Entry.calls k cA bT _ _ bR _ _ bS cD cE cF bW bX bZ bM bO bP bN Fh _ ?aE ?aG ?bU ?bV nO.out).mono ?_);(case aE=>repeat (first|exact (Kd.C_below nC.out HB.out)|(with_reducible refine Kd.C_alloc ?_ _)|(with_reducible refine Kd.C_drewN ?_ _)|(with_reducible refine Kd.C_drew ?_)));(case aG=>exact nD.out);(case bU=>repeat (first|exact (Kd.C_below oW.out HB.out)|(with_reducible refine Kd.C_alloc ?_ _)|(with_reducible refine Kd.C_drewN ?_ _)|(with_reducible refine Kd.C_drew ?_)));(case bV=>exact oX.out);rintro e Xk ⟨rfl,hb⟩;replace FD:=am (Kd.R_below au96 hb);replace bJ:=am (blk_below (g:=dF) au80 hb);replace bK:=am (blk_below (g:=dI) au81 hb);replace HB:=am (below_step au27 hb);(try clear hb)));go_meet
  case rel=>first|(exact ⟨_,(!Fh),au104,H',⟨by first|omega|exact Nat.le_refl _⟩,⟨by (with_reducible repeat (first|apply Kd.R_alloc|apply Kd.R_drewN|apply Kd.R_drew));exact FD.out⟩,⟨by (with_reducible repeat (first|refine blk_drewN ?_ _|refine blk_drew ?_|refine blk_alloc ?_ _));exact bJ.out⟩,⟨by (with_reducible repeat (first|refine blk_drewN ?_ _|refine blk_drew ?_|refine blk_alloc ?_ _));exact bK.out⟩,⟨by repeat (first|(with_reducible first|exact HB.out|apply below_alloc|apply pw_below_drewN|apply below_drew1|refine below_set ?_ nS.out|refine below_set ?_ pT.out)|exact HB.out)⟩⟩)|(exact ⟨_,(fZ),H',⟨by have:=Hg.out;have:=HK2.out;first|omega|exact Nat.le_refl _⟩,⟨by (with_reducible repeat (first|apply Kd.R_alloc|apply Kd.R_drewN|apply Kd.R_drew));exact Kd.R_mono fF.out (fun _ hk=>trivial)⟩,⟨by (with_reducible repeat (first|refine blk_drewN ?_ _|refine blk_drew ?_|refine blk_alloc ?_ _));exact bJ.out⟩,⟨by (with_reducible repeat (first|refine blk_drewN ?_ _|refine blk_drew ?_|refine blk_alloc ?_ _));exact bK.out⟩,⟨by repeat (first|(with_reducible first|exact HB.out|apply below_alloc|apply pw_below_drewN|apply below_drew1|refine below_set ?_ nS.out|refine below_set ?_ pT.out)|exact HB.out)⟩⟩)):P:=h
theorem spec_ChangedFields.L1 {P:Prop} (h:P:=by
  try go_wp2_with (first|((with_reducible refine gate_builtin (b:=.append) (xs:=#[.tmp 51,.tmp 56]) rfl ?_);at_builtin;refine Kd.R_append Kd.string (w0:=w) w.heap.size rfl (.tmp 51) (.tmp 56) 31 9 (.string ⟨#[]⟩) 16 rfl Tryz.underlying31 info9 rfl (by decide) (by omega) u6 fZ (rdOf ByteArray.empty fS dZ) [.string (rdOf ByteArray.empty fS dZ)] (fun k_=>some k_≠(.slice (some xF) fS.length UZ:Value).ownBlock) (fun _=>False) rfl rfl ?aP (fun _ hk=>hk.elim) ?aF ?aO ?aB ?aS ?aL ?_;(case aP=>exact rfl);(case aB=>exact au27);(case aF=>exact (fun k_ hk=>Kd.fresh' (Kd.R_lt au100) k_ hk));(case aO=>exact au101);(case aS=>exact (below_size au27));(case aL=>have:=U2.out;omega);intro aN8 Xg ho hb hg hat;rw [← acE.out] at ho;have dS:=am (Kd.R_after (ok:=(fun _=>True)) au57 hg hat);have dT:=am (blk_grown (g:=dF) (o:=.cells #[.string aD,.int .i64 aA,.slice cK aN.length cL,.slice cH aQ.length cI,.string bB,.string bC,.string bD,.int .i64 aV,.int .i64 aY,.int .i64 bA,.bool aH,.int .i64 aI,.string aK,.string aM] 28 (0,0)) au80 hg (Kd.R_ne fF.out bJ.out (by decide)));have eG:=am (blk_grown (g:=dI) (o:=.cells #[.string cA,.int .i64 bT,.slice eI bR.length eJ,.slice eK bS.length eL,.string cD,.string cE,.string cF,.int .i64 bW,.int .i64 bX,.int .i64 bZ,.bool bM,.int .i64 bO,.string bP,.string bN] 28 (0,0)) au81 hg (Kd.R_ne fF.out bK.out (by decide)));have eQ:=am (hb);have ES:=am (ho);clear gN;clear bJ;clear bK;clear HB;clear fF;have gN:=dS;have bJ:=dT;have bK:=eG;have HB:=eQ;have acF:=ES;clear dS dT eG eQ ES;clear ho hb hg hat))
  go_roundg k2
  case measure=>have:=Hg.out;have:=HK2.out;omega
  case rel=>first|(exact ⟨(a8Z),(wrap64 (dZ+1)),au104,H',⟨by have:=Hg.out;have:=HK2.out;omega⟩,⟨by (with_reducible repeat (first|apply Kd.R_alloc|apply Kd.R_drewN|apply Kd.R_drew));exact acF.out⟩,⟨by (with_reducible repeat (first|apply Kd.R_alloc|apply Kd.R_drewN|apply Kd.R_drew));exact Kd.R_mono gN.out (fun _ hk=>hk.2)⟩,⟨by (with_reducible repeat (first|refine blk_drewN ?_ _|refine blk_drew ?_|refine blk_alloc ?_ _));exact bJ.out⟩,⟨by (with_reducible repeat (first|refine blk_drewN ?_ _|refine blk_drew ?_|refine blk_alloc ?_ _));exact bK.out⟩,⟨by repeat (first|(with_reducible first|exact HB.out|apply below_alloc|apply pw_below_drewN|apply below_drew1|refine below_set ?_ nS.out|refine below_set ?_ pT.out)|exact HB.out)⟩⟩)|(exact ⟨(fZ),(wrap64 (dZ+1)),au104,H',⟨by have:=Hg.out;have:=HK2.out;omega⟩,⟨by (with_reducible repeat (first|apply Kd.R_alloc|apply Kd.R_drewN|apply Kd.R_drew));exact fF.out⟩,⟨by (with_reducible repeat (first|apply Kd.R_alloc|apply Kd.R_drewN|apply Kd.R_drew));exact gN.out⟩,⟨by (with_reducible repeat (first|refine blk_drewN ?_ _|refine blk_drew ?_|refine blk_alloc ?_ _));exact bJ.out⟩,⟨by (with_reducible repeat (first|refine blk_drewN ?_ _|refine blk_drew ?_|refine blk_alloc ?_ _));exact bK.out⟩,⟨by repeat (first|(with_reducible first|exact HB.out|apply below_alloc|apply pw_below_drewN|apply below_drew1|refine below_set ?_ nS.out|refine below_set ?_ pT.out)|exact HB.out)⟩⟩)):P:=h
theorem spec_ChangedFields.L2 {P:Prop} (h:P:=by
  go_wp2_with (first|((with_reducible refine gate_builtin (b:=.append) (xs:=#[.tmp 71,.tmp 72]) rfl ?_);at_builtin;refine Kd.R_append Kd.string (w0:=w) w.heap.size rfl (.tmp 71) (.tmp 72) 31 9 (.string ⟨#[]⟩) 16 rfl Tryz.underlying31 info9 rfl (by decide) (by omega) u6 wB (⟨#[107,105,110,100]⟩:ByteArray) [.string (⟨#[107,105,110,100]⟩:ByteArray)] (fun _=>True) (fun _=>False) rfl rfl ?aP (fun _ hk=>hk.elim) ?aF ?aO ?aB ?aS ?aL ?_;(case aP=>exact rfl);(case aB=>exact au27);(case aF=>exact (fun _ _=>trivial));(case aO=>exact au101);(case aS=>exact (below_size au27));(case aL=>have:=N0.out;omega);intro a9A w62 ho hb hg hat;rw [← XQ.out] at ho;have dS:=am (blk_grown (g:=dF) (o:=.cells #[.string aD,.int .i64 aA,.slice cK aN.length cL,.slice cH aQ.length cI,.string bB,.string bC,.string bD,.int .i64 aV,.int .i64 aY,.int .i64 bA,.bool aH,.int .i64 aI,.string aK,.string aM] 28 (0,0)) au80 hg (Kd.R_ne fF.out bJ.out (by decide)));have dT:=am (blk_grown (g:=dI) (o:=.cells #[.string cA,.int .i64 bT,.slice eI bR.length eJ,.slice eK bS.length eL,.string cD,.string cE,.string cF,.int .i64 bW,.int .i64 bX,.int .i64 bZ,.bool bM,.int .i64 bO,.string bP,.string bN] 28 (0,0)) au81 hg (Kd.R_ne fF.out bK.out (by decide)));have eG:=am (hb);have eQ:=am (ho);clear bJ;clear bK;clear HB;clear fF;have bJ:=dS;have bK:=dT;have HB:=eG;have Hb:=eQ;clear dS dT eG eQ;clear ho hb hg hat;obtain ⟨R1,R2,R3,R4,a0G,a0H,a0I,a0J,a0K,a0L,VJ,VK,VL,VM,R5,R6,R7,R8,a0M,a0N,a0O,a0P,a0Q,a0R,VN,VO,VP,VQ⟩:=blkc14 bJ.out;obtain ⟨YB,YC,YD,YE,aEw,aEx,aEy,aEz,aEA,aEB,anD,anE,anF,anG,YF,YG,YH,YI,aEC,aED,aEE,aEF,aEG,aEH,anH,anI,anJ,anK⟩:=blkc14 bK.out));go_ret2
  first|(exact ⟨_,by first|rfl|(simp [errW_none,errW_some] <;> rfl)|(simp [*,errW_none,errW_some] <;> rfl),by (with_reducible repeat (first|apply Kd.R_alloc|apply Kd.R_drewN|apply Kd.R_drew));exact Hb.out,by repeat (first|(with_reducible first|exact HB.out|apply below_alloc|apply pw_below_drewN|apply below_drew1|refine below_set ?_ nS.out|refine below_set ?_ pT.out)|exact HB.out)⟩)|(exact ⟨_,by first|rfl|(simp [errW_none,errW_some] <;> rfl)|(simp [*,errW_none,errW_some] <;> rfl),by (with_reducible repeat (first|apply Kd.R_alloc|apply Kd.R_drewN|apply Kd.R_drew));exact fF.out,by repeat (first|(with_reducible first|exact HB.out|apply below_alloc|apply pw_below_drewN|apply below_drew1|refine below_set ?_ nS.out|refine below_set ?_ pT.out)|exact HB.out)⟩)):P:=h
theorem spec_ChangedFields.calls (k:Nat) (aD:ByteArray) (aA:Int) (cK:Option Addr) (cL:Nat) (aN:List (S68)) (cH:Option Addr) (cI:Nat) (aQ:List (S68)) (bB:ByteArray) (bC:ByteArray) (bD:ByteArray) (aV:Int) (aY:Int) (bA:Int) (aH:Bool) (aI:Int) (aK:ByteArray) (aM:ByteArray) (cA:ByteArray) (bT:Int) (eI:Option Addr) (eJ:Nat) (bR:List (S68)) (eK:Option Addr) (eL:Nat) (bS:List (S68)) (cD:ByteArray) (cE:ByteArray) (cF:ByteArray) (bW:Int) (bX:Int) (bZ:Int) (bM:Bool) (bO:Int) (bP:ByteArray) (bN:ByteArray) (r1:List ByteArray) (r2:Bool) (w:World) (gF:Kd.C k68 w cK aN.length aN) (gG:aN.length≤cL) (gH:Kd.C k68 w cH aQ.length aQ) (gI:aQ.length≤cI) (tM:Kd.C k68 w eI bR.length bR) (tN:bR.length≤eJ) (tP:Kd.C k68 w eK bS.length bS) (tQ:bS.length≤eL) (h:spec_ChangedFields.f k aD aA aN aQ bB bC bD aV aY bA aH aI aK aM cA bT bR bS cD cE cF bW bX bZ bM bO bP bN=some (r1,r2)) :
  Calls Tryz.prog 7 #[.agg #[.string aD,.int .i64 aA,.slice cK aN.length cL,.slice cH aQ.length cI,.string bB,.string bC,.string bD,.int .i64 aV,.int .i64 aY,.int .i64 bA,.bool aH,.int .i64 aI,.string aK,.string aM],.agg #[.string cA,.int .i64 bT,.slice eI bR.length eJ,.slice eK bS.length eL,.string cD,.string cE,.string cF,.int .i64 bW,.int .i64 bX,.int .i64 bZ,.bool bM,.int .i64 bO,.string bP,.string bN]] w fun e w'=>∃ gO:Value,e=.returned (.tuple #[gO,.bool r2])∧Kd.R Kd.string 9 w' w.heap.size (fun _=>True) gO r1∧Below w.heap.size w w':=by
 have hu28:=Tryz.underlying28;have fJ:=am gF;have fK:=am gG;clear gF gG;have gB:=am gH;have gC:=am gI;clear gH gI;have nC:=am tM;have nD:=am tN;clear tM tN;have oW:=am tP;have oX:=am tQ;clear tP tQ;have HB:=am (Below.refl w.heap.size w);have H:((some (([]:List ByteArray):List ByteArray)).bind fun AN=>((spec_l4Entry.f k aD aA aN aQ bB bC bD aV aY bA aH aI aK aM).bind fun J4=>(if J4=true then ((spec_l4Entry.f k cA bT bR bS cD cE cF bW bX bZ bM bO bP bN).bind fun Fh=>(spec_ChangedFields.j0 k AN (!Fh) aD aA aN aQ bB bC bD aV aY bA aH aI aK aM cA bT bR bS cD cE cF bW bX bZ bM bO bP bN)) else (spec_ChangedFields.j0 k AN true aD aA aN aQ bB bC bD aV aY bA aH aI aK aM cA bT bR bS cD cE cF bW bX bZ bM bO bP bN))))=some (r1,r2):=h;clear h
 obtain ⟨AN,Kl⟩:∃ y_:List ByteArray,y_=(([]:List ByteArray)):=⟨_,rfl⟩
 replace H:((spec_l4Entry.f k aD aA aN aQ bB bC bD aV aY bA aH aI aK aM).bind fun J4=>(if J4=true then ((spec_l4Entry.f k cA bT bR bS cD cE cF bW bX bZ bM bO bP bN).bind fun Fh=>(spec_ChangedFields.j0 k AN (!Fh) aD aA aN aQ bB bC bD aV aY bA aH aI aK aM cA bT bR bS cD cE cF bW bX bZ bM bO bP bN)) else (spec_ChangedFields.j0 k AN true aD aA aN aQ bB bC bD aV aY bA aH aI aK aM cA bT bR bS cD cE cF bW bX bZ bM bO bP bN)))=some (r1,r2):=by first|(rw [Kl];with_reducible exact H)|(have H2_:=(Option.bind_some _ _).symm.trans H;rw [Kl];with_reducible exact H2_)|(have H2_:=(Option.bind_some _ _).symm.trans H;with_reducible exact H2_)|with_reducible exact H|(rw [Kl];exact H)|exact H
 have XR:=am Kl;clear Kl;have Ar:=am H;clear H;go_enter Tryz.func7,Tryz.ntmps7
 go_upto_region 2 with (first|((with_reducible refine gate_dst (N:=2) rfl ?_);refine box_event ?hg (N:=2) ?hd (cs:=#[.string aD,.int .i64 aA,.slice cK aN.length cL,.slice cH aQ.length cI,.string bB,.string bC,.string bD,.int .i64 aV,.int .i64 aY,.int .i64 bA,.bool aH,.int .i64 aI,.string aK,.string aM]) (t:=28) ?hr ?_;(case hd=>rfl);(case hg=>rfl);(case hr=>first|(go_simp;done)|(go_simp;rfl));intro dF hg w4 hbox hb;have bJ:=am (hbox);have aLS:=am (bsz hg au59);have nS:=am (bsz hg au59);replace HB:=am (below_step au59 hb);clear hb hbox hg)|((with_reducible refine gate_dst (N:=3) rfl ?_);refine box_event ?hg (N:=3) ?hd (cs:=#[.string cA,.int .i64 bT,.slice eI bR.length eJ,.slice eK bS.length eL,.string cD,.string cE,.string cF,.int .i64 bW,.int .i64 bX,.int .i64 bZ,.bool bM,.int .i64 bO,.string bP,.string bN]) (t:=28) ?hr ?_;(case hd=>rfl);(case hg=>rfl);(case hr=>first|(go_simp;done)|(go_simp;rfl));intro dI hg w5 hbox hb;have bK:=am (hbox);have aLT:=am (bsz hg au50);have pT:=am (bsz hg au50);replace HB:=am (below_step au50 hb);have nQ:=am (bne (g:=dF) hg au80);have nR:=am (ben (g:=dF) hg au80);replace bJ:=am (blk_below (g:=dF) au80 hb);clear hb hbox hg)|((with_reducible refine gate_dst (N:=13) rfl ?_);refine Kd.R_lit Kd.string _ 9 ?hg (N:=13) ?hd (xs:=([]:List ByteArray)) (inner:=[]) (ok:=fun _=>True) (okp:=fun _=>True) ?hr ?hp (fun _ hk=>hk) trivial (Below.refl _ _) (Nat.le_refl _) (by simp) ?_;(case hd=>rfl);(case hg=>rfl);(case hr=>first|(go_simp;done)|(go_simp;rfl));(case hp=>exact (Reps.none _ _));intro anL w6 ho7 hb hg_ hnew_;clear hg_ hnew_;(first|rw [← XR.out] at ho7|(simp only [Int.reduceToNat] at ho7;rw [← XR.out] at ho7));have FD:=am (Kd.R_lower ho7 (below_size au27));replace bJ:=am (blk_below (g:=dF) au80 hb);replace bK:=am (blk_below (g:=dI) au81 hb);replace HB:=am (below_step au27 hb);clear hb ho7))
 (try simp only [Act.put,List.setIfInBounds_toArray,List.set_cons_zero,List.set_cons_succ])
 go_cut [21] (fun v21 wc=>∃ (kq:Nat) (Nh:Bool),v21=.bool Nh∧Aside0 (spec_ChangedFields.j0 kq AN Nh aD aA aN aQ bB bC bD aV aY bA aH aI aK aM cA bT bR bS cD cE cF bW bX bZ bM bO bP bN=some (r1,r2))∧Aside0 (kq≤k)∧Aside0 (Kd.R Kd.string 9 wc w.heap.size (fun _=>True) anL AN)∧Aside0 (wc.heap[dF]?=some (.cells #[.string aD,.int .i64 aA,(.slice cK aN.length cL),(.slice cH aQ.length cI),.string bB,.string bC,.string bD,.int .i64 aV,.int .i64 aY,.int .i64 bA,.bool aH,.int .i64 aI,.string aK,.string aM] 28 (0,0)))∧Aside0 (wc.heap[dI]?=some (.cells #[.string cA,.int .i64 bT,(.slice eI bR.length eJ),(.slice eK bS.length eL),.string cD,.string cE,.string cF,.int .i64 bW,.int .i64 bX,.int .i64 bZ,.bool bM,.int .i64 bO,.string bP,.string bN] 28 (0,0)))∧Aside0 (Below w.heap.size w wc))
 case first =>
  have H:=Ar.out;clear Ar;replace H:=obz H;obtain ⟨J4,wF,H⟩:=H
  try dsimp only at H
  have A8:=am wF;clear wF;by_cases c9:J4=true
  ·
   subst c9;replace H:=(if_pos rfl).symm.trans H;replace H:=obz H;obtain ⟨Fh,kC,H⟩:=H
   try dsimp only at H
   have nO:=am kC;clear kC;have H':=am H;clear H;have Xs:=nQ.out;have Xt:=nR.out;obtain ⟨oH,oI,oJ,oK,SR,SS,SU,SV,SX,SY,Px,Py,Pz,PC,oL,oM,oN,oO,SZ,T0,T1,T2,T3,T4,PD,PE,PF,PG⟩:=blkc14 bJ.out;exact spec_ChangedFields.L0
  ·
   replace c9:=Bool.eq_false_iff.mpr c9;subst c9;replace H:=(if_neg (show ¬ (false=true) by decide)).symm.trans H;have H':=am H;clear H;have aLU:=nQ.out;have aLV:=nR.out;obtain ⟨lI,lJ,lK,lL,vC,vD,vG,vH,vI,vJ,qE,qF,qG,qH,lM,lN,lO,lP,vK,vL,vM,vN,vO,vP,qI,qJ,qK,qL⟩:=blkc14 bJ.out;go_wp2_with (first|((with_reducible refine gate_callee (f:=17) rfl ?_);refine goesL_ (some 15) rfl rfl Tryz.func17 (by kernel_rfl) rfl #[.agg #[.string aD,.int .i64 aA,.slice cK aN.length cL,.slice cH aQ.length cI,.string bB,.string bC,.string bD,.int .i64 aV,.int .i64 aY,.int .i64 bA,.bool aH,.int .i64 aI,.string aK,.string aM]] rfl au58 ?_;(with_reducible refine (spec_l4Entry.calls k aD aA _ _ aN _ _ aQ bB bC bD aV aY bA aH aI aK aM _ _ ?aE ?aG ?bU ?bV A8.out).mono ?_);(case aE=>repeat (first|exact (Kd.C_below fJ.out HB.out)|(with_reducible refine Kd.C_alloc ?_ _)|(with_reducible refine Kd.C_drewN ?_ _)|(with_reducible refine Kd.C_drew ?_)));(case aG=>exact fK.out);(case bU=>repeat (first|exact (Kd.C_below gB.out HB.out)|(with_reducible refine Kd.C_alloc ?_ _)|(with_reducible refine Kd.C_drewN ?_ _)|(with_reducible refine Kd.C_drew ?_)));(case bV=>exact gC.out);rintro e NO ⟨rfl,hb⟩;refine ⟨_,rfl,?_⟩;replace FD:=am (Kd.R_below au96 hb);replace bJ:=am (blk_below (g:=dF) au80 hb);replace bK:=am (blk_below (g:=dI) au81 hb);replace HB:=am (below_step au27 hb);(try clear hb)));go_meet
   case rel=>exact ⟨_,(true),au104,H',⟨by first|omega|exact Nat.le_refl _⟩,⟨by (with_reducible repeat (first|apply Kd.R_alloc|apply Kd.R_drewN|apply Kd.R_drew));exact FD.out⟩,⟨by (with_reducible repeat (first|refine blk_drewN ?_ _|refine blk_drew ?_|refine blk_alloc ?_ _));exact bJ.out⟩,⟨by (with_reducible repeat (first|refine blk_drewN ?_ _|refine blk_drew ?_|refine blk_alloc ?_ _));exact bK.out⟩,⟨by repeat (first|(with_reducible first|exact HB.out|apply below_alloc|apply pw_below_drewN|apply below_drew1|refine below_set ?_ nS.out|refine below_set ?_ pT.out)|exact HB.out)⟩⟩
 case rest =>
  clear Ar
  try clear c1
  try clear p2
  try clear c7
  try clear c9
  try clear cO
  try clear dB
  try clear gD
  try clear oH oI Px Py Pz PC oJ oK SR SS SU SV SX SY oL oM PD PE PF PG oN oO SZ T0 T1 T2 T3 T4
  try clear nX nY I4 I5 I6 I7 nZ oB Ld Le Lf Lg Lh Li oC oD I8 I9 Ia Ib oF oG Lj Lk Ll Lm Ln Lo
  try clear lI lJ qE qF qG qH lK lL vC vD vG vH vI vJ lM lN qI qJ qK qL lO lP vK vL vM vN vO vP
  obtain ⟨kq,Nh,rfl,HA,Hg,fF,bJ,bK,HB⟩:=hcut
  cases kq with
  | zero=>exact absurd HA.out (by simp [spec_ChangedFields.j0])
  | succ Oe =>
   have H:=HA.out;clear HA;simp only [spec_ChangedFields.j0] at H;by_cases fO:Nh=true
   · subst fO;replace H:=(if_pos rfl).symm.trans H;simp only [Option.some.injEq,Prod.mk.injEq] at H;obtain ⟨rfl,rfl⟩:=H;exact spec_ChangedFields.L2
   ·
    replace fO:=Bool.eq_false_iff.mpr fO;subst fO;replace H:=(if_neg (show ¬ (false=true) by decide)).symm.trans H;replace H:=obz H;obtain ⟨fS,Ff,H⟩:=H
    try dsimp only at H
    have fD:=am Ff;clear Ff;have H':=am H;clear H;go_wp2_with (first|((with_reducible refine gate_callee (f:=18) rfl ?_);refine goesL_ (some 23) rfl rfl Tryz.func18 (by kernel_rfl) rfl #[] rfl au58 ?_;(with_reducible refine (spec_l4Fields.calls  fS _ fD.out).mono ?_);rintro e w21 ⟨a9B,rfl,ho0,hb⟩;refine ⟨_,rfl,?_⟩;have acG:=am (Kd.R_lower (Kd.R_new' ho0 (Kd.R_lt au101)) (below_size au27));replace fF:=am (Kd.R_elder' au101 (Kd.R_base ho0) hb);replace bJ:=am (blk_below (g:=dF) au80 hb);replace bK:=am (blk_below (g:=dI) au81 hb);replace HB:=am (below_step au27 hb);(try clear hb);(try clear ho0)))
    go_loopg [6,8] Oe (fun kq v6 v8 w'=>∃ (fZ:List ByteArray) (dZ:Int),v8=.int .i64 dZ∧Aside0 (spec_ChangedFields.l0 kq fZ fS dZ aD aA aN aQ bB bC bD aV aY bA aH aI aK aM cA bT bR bS cD cE cF bW bX bZ bM bO bP bN=some (r1,r2))∧Aside0 (kq≤Oe)∧Aside0 (Kd.R Kd.string 9 w' w.heap.size (fun k_=>some k_≠(a9B:Value).ownBlock) v6 fZ)∧Aside0 (Kd.R Kd.string 9 w' w.heap.size (fun k_=>some k_≠(v6:Value).ownBlock) a9B fS)∧Aside0 (w'.heap[dF]?=some (.cells #[.string aD,.int .i64 aA,(.slice cK aN.length cL),(.slice cH aQ.length cI),.string bB,.string bC,.string bD,.int .i64 aV,.int .i64 aY,.int .i64 bA,.bool aH,.int .i64 aI,.string aK,.string aM] 28 (0,0)))∧Aside0 (w'.heap[dI]?=some (.cells #[.string cA,.int .i64 bT,(.slice eI bR.length eJ),(.slice eK bS.length eL),.string cD,.string cE,.string cF,.int .i64 bW,.int .i64 bX,.int .i64 bZ,.bool bM,.int .i64 bO,.string bP,.string bN] 28 (0,0)))∧Aside0 (Below w.heap.size w w'))
    case atStart=>exact ⟨(AN),(0),au104,H',⟨Nat.le_refl _⟩,⟨by (with_reducible repeat (first|apply Kd.R_alloc|apply Kd.R_drewN|apply Kd.R_drew));exact Kd.R_mono fF.out (fun _ hk=>hk.2)⟩,⟨by (with_reducible repeat (first|apply Kd.R_alloc|apply Kd.R_drewN|apply Kd.R_drew));exact Kd.R_mono acG.out (fun _ hk=>hk.2)⟩,⟨by (with_reducible repeat (first|refine blk_drewN ?_ _|refine blk_drew ?_|refine blk_alloc ?_ _));exact bJ.out⟩,⟨by (with_reducible repeat (first|refine blk_drewN ?_ _|refine blk_drew ?_|refine blk_alloc ?_ _));exact bK.out⟩,⟨by repeat (first|(with_reducible first|exact HB.out|apply below_alloc|apply pw_below_drewN|apply below_drew1|refine below_set ?_ nS.out|refine below_set ?_ pT.out)|exact HB.out)⟩⟩
    case round =>
     clear H'
     try clear c1
     try clear p2
     try clear c7
     try clear c9
     try clear cO
     try clear dB
     try clear gD
     try clear hZ
     try clear fO
     try clear oH oI Px Py Pz PC oJ oK SR SS SU SV SX SY oL oM PD PE PF PG oN oO SZ T0 T1 T2 T3 T4
     try clear nX nY I4 I5 I6 I7 nZ oB Ld Le Lf Lg Lh Li oC oD I8 I9 Ia Ib oF oG Lj Lk Ll Lm Ln Lo
     try clear lI lJ qE qF qG qH lK lL vC vD vG vH vI vJ lM lN qI qJ qK qL lO lP vK vL vM vN vO vP
     try clear p2
     obtain ⟨fZ,dZ,rfl,HA,HK2,fF,gN,bJ,bK,HB⟩:=hrel
     cases gk with
     | zero=>exact absurd HA.out (by simp [spec_ChangedFields.l0])
     | succ k2 =>
      have H:=HA.out;clear HA;simp only [spec_ChangedFields.l0] at H;by_cases fP:dZ<(fS.length:Int)
      ·
       rw [if_pos fP] at H;have c22b0:=dt fP;clear fP;by_cases kG:0≤dZ
       ·
        rw [if_pos kG] at H;have c23b0:=dt kG;clear kG;replace H:=obz H;obtain ⟨⟨PH,a9C⟩,Pw,H⟩:=H;replace H:((spec_l4Field.f k2 cA bT bR bS cD cE cF bW bX bZ bM bO bP bN (rdOf ByteArray.empty fS dZ)).bind fun U1=>(if PH.toList=U1.1.toList then (spec_ChangedFields.l0 k2 fZ fS (wrap64 (dZ+1)) aD aA aN aQ bB bC bD aV aY bA aH aI aK aM cA bT bR bS cD cE cF bW bX bZ bM bO bP bN) else (if fZ.length<8796093022208 then (spec_ChangedFields.l0 k2 (fZ++[rdOf ByteArray.empty fS dZ]) fS (wrap64 (dZ+1)) aD aA aN aQ bB bC bD aV aY bA aH aI aK aM cA bT bR bS cD cE cF bW bX bZ bM bO bP bN) else (none))))=some (r1,r2):=H;have XO:=am Pw;clear Pw;replace H:=obz H;obtain ⟨⟨U3,a9D⟩,Pe,H⟩:=H;replace H:(if PH.toList=U3.toList then (spec_ChangedFields.l0 k2 fZ fS (wrap64 (dZ+1)) aD aA aN aQ bB bC bD aV aY bA aH aI aK aM cA bT bR bS cD cE cF bW bX bZ bM bO bP bN) else (if fZ.length<8796093022208 then (spec_ChangedFields.l0 k2 (fZ++[rdOf ByteArray.empty fS dZ]) fS (wrap64 (dZ+1)) aD aA aN aQ bB bC bD aV aY bA aH aI aK aM cA bT bR bS cD cE cF bW bX bZ bM bO bP bN) else (none)))=some (r1,r2):=H;have XK:=am Pe;clear Pe;by_cases kH:PH.toList=U3.toList
        ·
         rw [if_pos kH] at H;have c26b0:=qt kH;have c26b1:=bfz kH;clear kH;have H':=am H;clear H;obtain ⟨aN9,aNa,anM⟩:=Kd.R_slice gN.out;subst anM
         try go_wp2
         replace fF:=am (Kd.R_drew fF.out);replace gN:=am (Kd.R_drew gN.out);replace bJ:=am (blk_drew bJ.out);replace bK:=am (blk_drew bK.out);replace HB:=am (below_drew1 HB.out);have Fj:0≤(dZ:Int):=od au103;have Fl:dZ<(fS.length:Int):=od au103;obtain ⟨xF,Wz,yQ⟩:=Kd.at_string (Kd.R_reads' gN.out).2.2 dZ Fj Fl
         cases Wz
         replace Fj:=eq_true Fj;replace Fl:=eq_true Fl;refine start_ (n:=11) (S:=fun w'=>w'.cell? ⟨dF,0,none⟩=some (.string aD)∧w'.cell? ⟨dF,1,none⟩=some (.int .i64 aA)∧w'.cell? ⟨dF,2,none⟩=some (.slice cK aN.length cL)∧w'.cell? ⟨dF,3,none⟩=some (.slice cH aQ.length cI)∧w'.cell? ⟨dF,4,none⟩=some (.string bB)∧w'.cell? ⟨dF,5,none⟩=some (.string bC)∧w'.cell? ⟨dF,6,none⟩=some (.string bD)∧w'.cell? ⟨dF,7,none⟩=some (.int .i64 aV)∧w'.cell? ⟨dF,8,none⟩=some (.int .i64 aY)∧w'.cell? ⟨dF,9,none⟩=some (.int .i64 bA)∧w'.cell? ⟨dF,10,none⟩=some (.bool aH)∧w'.cell? ⟨dF,11,none⟩=some (.int .i64 aI)∧w'.cell? ⟨dF,12,none⟩=some (.string aK)∧w'.cell? ⟨dF,13,none⟩=some (.string aM)∧w'.cell? (xF.add (dZ).toNat)=some (.string (rdOf ByteArray.empty fS dZ))) (ds:=[]) #[false,false,false,false,false,false,false,false,false,false,false] (by kernel_rfl) rfl rfl ⟨(blk_cell bJ.out 0).trans rfl,(blk_cell bJ.out 1).trans rfl,(blk_cell bJ.out 2).trans rfl,(blk_cell bJ.out 3).trans rfl,(blk_cell bJ.out 4).trans rfl,(blk_cell bJ.out 5).trans rfl,(blk_cell bJ.out 6).trans rfl,(blk_cell bJ.out 7).trans rfl,(blk_cell bJ.out 8).trans rfl,(blk_cell bJ.out 9).trans rfl,(blk_cell bJ.out 10).trans rfl,(blk_cell bJ.out 11).trans rfl,(blk_cell bJ.out 12).trans rfl,(blk_cell bJ.out 13).trans rfl,yQ⟩ (fun hHeld=>?_);refine with_tabW spec_ChangedFields.tab8 spec_ChangedFields.bits8 (fun HT_ HW_=>?_);generalize wr.drew=w28 at fF gN bJ bK HB yQ hHeld ⊢;refine pu_ 1 (some 32) #[false,true,false,false,false,false,false,false,false,false,false] HT_.out ?_;refine pu_ 2 (some 33) #[false,true,true,false,false,false,false,false,false,false,false] HT_.out ?_;refine pu_ 3 (some 34) #[false,true,true,true,false,false,false,false,false,false,false] HT_.out ?_;refine ta1_ 0 (some 31) #[true,true,true,true,false,false,false,false,false,false,false] HT_.out HW_.out hHeld ?_;refine ta1_ 4 (some 35) #[true,true,true,true,true,false,false,false,false,false,false] HT_.out HW_.out hHeld ?_;refine on_ 5 (some 36) #[true,true,true,true,true,true,false,false,false,false,false] HT_.out (fun K hK=>?_);refine gs_ Tryz.func19 #[.agg #[.string aD,.int .i64 aA,.slice cK aN.length cL,.slice cH aQ.length cI,.string bB,.string bC,.string bD,.int .i64 aV,.int .i64 aY,.int .i64 bA,.bool aH,.int .i64 aI,.string aK,.string aM],.string (rdOf ByteArray.empty fS dZ)] ?_
         with_reducible refine (spec_l4Field.calls k2 aD aA _ _ aN _ _ aQ bB bC bD aV aY bA aH aI aK aM (rdOf ByteArray.empty fS dZ) PH a9C _ ?aE ?aG ?bU ?bV XO.out).mono ?_
         (case aE=>repeat (first|exact (Kd.C_below fJ.out HB.out)|(with_reducible refine Kd.C_alloc ?_ _)|(with_reducible refine Kd.C_drewN ?_ _)|(with_reducible refine Kd.C_drew ?_)))
         (case aG=>exact fK.out)
         (case bU=>repeat (first|exact (Kd.C_below gB.out HB.out)|(with_reducible refine Kd.C_alloc ?_ _)|(with_reducible refine Kd.C_drewN ?_ _)|(with_reducible refine Kd.C_drew ?_)))
         (case bV=>exact gC.out)
         rintro e Qr ⟨rfl,hb⟩;have HS14_:=(hb.cell (World.block_lt_of_cell? _ _ (hHeld.2.2.2.2.2.2.2.2.2.2.2.2.2.2))).trans (hHeld.2.2.2.2.2.2.2.2.2.2.2.2.2.2);refine ⟨_,rfl,?_⟩;replace fF:=am (Kd.R_below au101 hb);replace gN:=am (Kd.R_below au100 hb);replace bJ:=am (blk_below (g:=dF) au80 hb);replace bK:=am (blk_below (g:=dI) au81 hb);replace HB:=am (below_step au27 hb)
         (try clear hb)
         refine hK.out _ _ ⟨(blk_cell bJ.out 0).trans rfl,(blk_cell bJ.out 1).trans rfl,(blk_cell bJ.out 2).trans rfl,(blk_cell bJ.out 3).trans rfl,(blk_cell bJ.out 4).trans rfl,(blk_cell bJ.out 5).trans rfl,(blk_cell bJ.out 6).trans rfl,(blk_cell bJ.out 7).trans rfl,(blk_cell bJ.out 8).trans rfl,(blk_cell bJ.out 9).trans rfl,(blk_cell bJ.out 10).trans rfl,(blk_cell bJ.out 11).trans rfl,(blk_cell bJ.out 12).trans rfl,(blk_cell bJ.out 13).trans rfl,HS14_⟩ (fun hHeld=>?_);clear hK K;refine no_ (some 36) ?_;refine pu_ 6 (some 30) #[true,true,true,true,true,true,true,false,false,false,false] HT_.out ?_;refine pu_ 7 (some 37) #[true,true,true,true,true,true,true,true,false,false,false] HT_.out ?_;refine pu_ 8 (some 38) #[true,true,true,true,true,true,true,true,true,false,false] HT_.out ?_;refine pu_ 9 (some 9) #[true,true,true,true,true,true,true,true,true,true,false] HT_.out ?_;refine pu_ 10 (some 10) #[true,true,true,true,true,true,true,true,true,true,true] HT_.out ?_;refine done_ (done_of HT_.out (by kernel_rfl)) ?_
         try go_wp2
         replace fF:=am (Kd.R_drew fF.out);replace gN:=am (Kd.R_drew gN.out);replace bJ:=am (blk_drew bJ.out);replace bK:=am (blk_drew bK.out);replace HB:=am (below_drew1 HB.out);have Fo:0≤(dZ:Int):=od au103;have Fp:dZ<(fS.length:Int):=od au103;obtain ⟨U4,WA,yR⟩:=Kd.at_string (Kd.R_reads' gN.out).2.2 dZ Fo Fp
         obtain rfl:xF=U4:=(by injection WA)
         replace Fo:=eq_true Fo;replace Fp:=eq_true Fp;refine start_ (n:=11) (S:=fun w'=>w'.cell? ⟨dI,0,none⟩=some (.string cA)∧w'.cell? ⟨dI,1,none⟩=some (.int .i64 bT)∧w'.cell? ⟨dI,2,none⟩=some (.slice eI bR.length eJ)∧w'.cell? ⟨dI,3,none⟩=some (.slice eK bS.length eL)∧w'.cell? ⟨dI,4,none⟩=some (.string cD)∧w'.cell? ⟨dI,5,none⟩=some (.string cE)∧w'.cell? ⟨dI,6,none⟩=some (.string cF)∧w'.cell? ⟨dI,7,none⟩=some (.int .i64 bW)∧w'.cell? ⟨dI,8,none⟩=some (.int .i64 bX)∧w'.cell? ⟨dI,9,none⟩=some (.int .i64 bZ)∧w'.cell? ⟨dI,10,none⟩=some (.bool bM)∧w'.cell? ⟨dI,11,none⟩=some (.int .i64 bO)∧w'.cell? ⟨dI,12,none⟩=some (.string bP)∧w'.cell? ⟨dI,13,none⟩=some (.string bN)∧w'.cell? (xF.add (dZ).toNat)=some (.string (rdOf ByteArray.empty fS dZ))) (ds:=[]) #[false,false,false,false,false,false,false,false,false,false,false] (by kernel_rfl) rfl rfl ⟨(blk_cell bK.out 0).trans rfl,(blk_cell bK.out 1).trans rfl,(blk_cell bK.out 2).trans rfl,(blk_cell bK.out 3).trans rfl,(blk_cell bK.out 4).trans rfl,(blk_cell bK.out 5).trans rfl,(blk_cell bK.out 6).trans rfl,(blk_cell bK.out 7).trans rfl,(blk_cell bK.out 8).trans rfl,(blk_cell bK.out 9).trans rfl,(blk_cell bK.out 10).trans rfl,(blk_cell bK.out 11).trans rfl,(blk_cell bK.out 12).trans rfl,(blk_cell bK.out 13).trans rfl,yR⟩ (fun hHeld=>?_);refine with_tabW spec_ChangedFields.tab9 spec_ChangedFields.bits9 (fun HT_ HW_=>?_);generalize Qr.drew=w30 at fF gN bJ bK HB yR hHeld ⊢;refine pu_ 1 (some 41) #[false,true,false,false,false,false,false,false,false,false,false] HT_.out ?_;refine pu_ 2 (some 42) #[false,true,true,false,false,false,false,false,false,false,false] HT_.out ?_;refine pu_ 3 (some 43) #[false,true,true,true,false,false,false,false,false,false,false] HT_.out ?_;refine ta1_ 0 (some 40) #[true,true,true,true,false,false,false,false,false,false,false] HT_.out HW_.out hHeld ?_;refine ta1_ 4 (some 44) #[true,true,true,true,true,false,false,false,false,false,false] HT_.out HW_.out hHeld ?_;refine on_ 5 (some 45) #[true,true,true,true,true,true,false,false,false,false,false] HT_.out (fun K hK=>?_);refine gs_ Tryz.func19 #[.agg #[.string cA,.int .i64 bT,.slice eI bR.length eJ,.slice eK bS.length eL,.string cD,.string cE,.string cF,.int .i64 bW,.int .i64 bX,.int .i64 bZ,.bool bM,.int .i64 bO,.string bP,.string bN],.string (rdOf ByteArray.empty fS dZ)] ?_
         with_reducible refine (spec_l4Field.calls k2 cA bT _ _ bR _ _ bS cD cE cF bW bX bZ bM bO bP bN (rdOf ByteArray.empty fS dZ) U3 a9D _ ?aE ?aG ?bU ?bV XK.out).mono ?_
         (case aE=>repeat (first|exact (Kd.C_below nC.out HB.out)|(with_reducible refine Kd.C_alloc ?_ _)|(with_reducible refine Kd.C_drewN ?_ _)|(with_reducible refine Kd.C_drew ?_)))
         (case aG=>exact nD.out)
         (case bU=>repeat (first|exact (Kd.C_below oW.out HB.out)|(with_reducible refine Kd.C_alloc ?_ _)|(with_reducible refine Kd.C_drewN ?_ _)|(with_reducible refine Kd.C_drew ?_)))
         (case bV=>exact oX.out)
         rintro e w31 ⟨rfl,hb⟩;have HS14_:=(hb.cell (World.block_lt_of_cell? _ _ (hHeld.2.2.2.2.2.2.2.2.2.2.2.2.2.2))).trans (hHeld.2.2.2.2.2.2.2.2.2.2.2.2.2.2);refine ⟨_,rfl,?_⟩;replace fF:=am (Kd.R_below au101 hb);replace gN:=am (Kd.R_below au100 hb);replace bJ:=am (blk_below (g:=dF) au80 hb);replace bK:=am (blk_below (g:=dI) au81 hb);replace HB:=am (below_step au27 hb)
         (try clear hb)
         refine hK.out _ _ ⟨(blk_cell bK.out 0).trans rfl,(blk_cell bK.out 1).trans rfl,(blk_cell bK.out 2).trans rfl,(blk_cell bK.out 3).trans rfl,(blk_cell bK.out 4).trans rfl,(blk_cell bK.out 5).trans rfl,(blk_cell bK.out 6).trans rfl,(blk_cell bK.out 7).trans rfl,(blk_cell bK.out 8).trans rfl,(blk_cell bK.out 9).trans rfl,(blk_cell bK.out 10).trans rfl,(blk_cell bK.out 11).trans rfl,(blk_cell bK.out 12).trans rfl,(blk_cell bK.out 13).trans rfl,HS14_⟩ (fun hHeld=>?_);clear hK K;refine no_ (some 45) ?_;refine pu_ 6 (some 39) #[true,true,true,true,true,true,true,false,false,false,false] HT_.out ?_;refine pu_ 7 (some 46) #[true,true,true,true,true,true,true,true,false,false,false] HT_.out ?_;refine pu_ 8 (some 47) #[true,true,true,true,true,true,true,true,true,false,false] HT_.out ?_;refine pu_ 9 (some 11) #[true,true,true,true,true,true,true,true,true,true,false] HT_.out ?_;refine pu_ 10 (some 12) #[true,true,true,true,true,true,true,true,true,true,true] HT_.out ?_;refine done_ (done_of HT_.out (by kernel_rfl)) ?_;exact spec_ChangedFields.L1
        ·
         rw [if_neg kH] at H;have c26b0:=qf kH;have c26b1:=bu kH;by_cases mP:fZ.length<8796093022208
         ·
          rw [if_pos mP] at H;have U2:=am mP;clear mP
          obtain ⟨a8Z,Km⟩:∃ y_:List ByteArray,y_=(fZ++[rdOf ByteArray.empty fS dZ]):=⟨_,rfl⟩
          replace H:(spec_ChangedFields.l0 k2 a8Z fS (wrap64 (dZ+1)) aD aA aN aQ bB bC bD aV aY bA aH aI aK aM cA bT bR bS cD cE cF bW bX bZ bM bO bP bN)=some (r1,r2):=by first|(rw [Km];with_reducible exact H)|(have H2_:=(Option.bind_some _ _).symm.trans H;rw [Km];with_reducible exact H2_)|(have H2_:=(Option.bind_some _ _).symm.trans H;with_reducible exact H2_)|with_reducible exact H|(rw [Km];exact H)|exact H
          have acE:=am Km;clear Km;have H':=am H;clear H;obtain ⟨a6G,UZ,V0⟩:=Kd.R_slice gN.out;subst V0
          try go_wp2
          replace fF:=am (Kd.R_drew fF.out);replace gN:=am (Kd.R_drew gN.out);replace bJ:=am (blk_drew bJ.out);replace bK:=am (blk_drew bK.out);replace HB:=am (below_drew1 HB.out);have Fj:0≤(dZ:Int):=od au103;have Fl:dZ<(fS.length:Int):=od au103;obtain ⟨xF,Wz,yQ⟩:=Kd.at_string (Kd.R_reads' gN.out).2.2 dZ Fj Fl
          cases Wz
          replace Fj:=eq_true Fj;replace Fl:=eq_true Fl;refine start_ (n:=11) (S:=fun w'=>w'.cell? ⟨dF,0,none⟩=some (.string aD)∧w'.cell? ⟨dF,1,none⟩=some (.int .i64 aA)∧w'.cell? ⟨dF,2,none⟩=some (.slice cK aN.length cL)∧w'.cell? ⟨dF,3,none⟩=some (.slice cH aQ.length cI)∧w'.cell? ⟨dF,4,none⟩=some (.string bB)∧w'.cell? ⟨dF,5,none⟩=some (.string bC)∧w'.cell? ⟨dF,6,none⟩=some (.string bD)∧w'.cell? ⟨dF,7,none⟩=some (.int .i64 aV)∧w'.cell? ⟨dF,8,none⟩=some (.int .i64 aY)∧w'.cell? ⟨dF,9,none⟩=some (.int .i64 bA)∧w'.cell? ⟨dF,10,none⟩=some (.bool aH)∧w'.cell? ⟨dF,11,none⟩=some (.int .i64 aI)∧w'.cell? ⟨dF,12,none⟩=some (.string aK)∧w'.cell? ⟨dF,13,none⟩=some (.string aM)∧w'.cell? (xF.add (dZ).toNat)=some (.string (rdOf ByteArray.empty fS dZ))) (ds:=[]) #[false,false,false,false,false,false,false,false,false,false,false] (by kernel_rfl) rfl rfl ⟨(blk_cell bJ.out 0).trans rfl,(blk_cell bJ.out 1).trans rfl,(blk_cell bJ.out 2).trans rfl,(blk_cell bJ.out 3).trans rfl,(blk_cell bJ.out 4).trans rfl,(blk_cell bJ.out 5).trans rfl,(blk_cell bJ.out 6).trans rfl,(blk_cell bJ.out 7).trans rfl,(blk_cell bJ.out 8).trans rfl,(blk_cell bJ.out 9).trans rfl,(blk_cell bJ.out 10).trans rfl,(blk_cell bJ.out 11).trans rfl,(blk_cell bJ.out 12).trans rfl,(blk_cell bJ.out 13).trans rfl,yQ⟩ (fun hHeld=>?_);refine with_tabW spec_ChangedFields.tab8 spec_ChangedFields.bits8 (fun HT_ HW_=>?_);generalize wr.drew=w34 at fF gN bJ bK HB yQ hHeld ⊢;refine pu_ 1 (some 32) #[false,true,false,false,false,false,false,false,false,false,false] HT_.out ?_;refine pu_ 2 (some 33) #[false,true,true,false,false,false,false,false,false,false,false] HT_.out ?_;refine pu_ 3 (some 34) #[false,true,true,true,false,false,false,false,false,false,false] HT_.out ?_;refine ta1_ 0 (some 31) #[true,true,true,true,false,false,false,false,false,false,false] HT_.out HW_.out hHeld ?_;refine ta1_ 4 (some 35) #[true,true,true,true,true,false,false,false,false,false,false] HT_.out HW_.out hHeld ?_;refine on_ 5 (some 36) #[true,true,true,true,true,true,false,false,false,false,false] HT_.out (fun K hK=>?_);refine gs_ Tryz.func19 #[.agg #[.string aD,.int .i64 aA,.slice cK aN.length cL,.slice cH aQ.length cI,.string bB,.string bC,.string bD,.int .i64 aV,.int .i64 aY,.int .i64 bA,.bool aH,.int .i64 aI,.string aK,.string aM],.string (rdOf ByteArray.empty fS dZ)] ?_
          with_reducible refine (spec_l4Field.calls k2 aD aA _ _ aN _ _ aQ bB bC bD aV aY bA aH aI aK aM (rdOf ByteArray.empty fS dZ) PH a9C _ ?aE ?aG ?bU ?bV XO.out).mono ?_
          (case aE=>repeat (first|exact (Kd.C_below fJ.out HB.out)|(with_reducible refine Kd.C_alloc ?_ _)|(with_reducible refine Kd.C_drewN ?_ _)|(with_reducible refine Kd.C_drew ?_)))
          (case aG=>exact fK.out)
          (case bU=>repeat (first|exact (Kd.C_below gB.out HB.out)|(with_reducible refine Kd.C_alloc ?_ _)|(with_reducible refine Kd.C_drewN ?_ _)|(with_reducible refine Kd.C_drew ?_)))
          (case bV=>exact gC.out)
          rintro e Xf ⟨rfl,hb⟩;have HS14_:=(hb.cell (World.block_lt_of_cell? _ _ (hHeld.2.2.2.2.2.2.2.2.2.2.2.2.2.2))).trans (hHeld.2.2.2.2.2.2.2.2.2.2.2.2.2.2);refine ⟨_,rfl,?_⟩;replace fF:=am (Kd.R_below au101 hb);replace gN:=am (Kd.R_below au100 hb);replace bJ:=am (blk_below (g:=dF) au80 hb);replace bK:=am (blk_below (g:=dI) au81 hb);replace HB:=am (below_step au27 hb)
          (try clear hb)
          refine hK.out _ _ ⟨(blk_cell bJ.out 0).trans rfl,(blk_cell bJ.out 1).trans rfl,(blk_cell bJ.out 2).trans rfl,(blk_cell bJ.out 3).trans rfl,(blk_cell bJ.out 4).trans rfl,(blk_cell bJ.out 5).trans rfl,(blk_cell bJ.out 6).trans rfl,(blk_cell bJ.out 7).trans rfl,(blk_cell bJ.out 8).trans rfl,(blk_cell bJ.out 9).trans rfl,(blk_cell bJ.out 10).trans rfl,(blk_cell bJ.out 11).trans rfl,(blk_cell bJ.out 12).trans rfl,(blk_cell bJ.out 13).trans rfl,HS14_⟩ (fun hHeld=>?_);clear hK K;refine no_ (some 36) ?_;refine pu_ 6 (some 30) #[true,true,true,true,true,true,true,false,false,false,false] HT_.out ?_;refine pu_ 7 (some 37) #[true,true,true,true,true,true,true,true,false,false,false] HT_.out ?_;refine pu_ 8 (some 38) #[true,true,true,true,true,true,true,true,true,false,false] HT_.out ?_;refine pu_ 9 (some 9) #[true,true,true,true,true,true,true,true,true,true,false] HT_.out ?_;refine pu_ 10 (some 10) #[true,true,true,true,true,true,true,true,true,true,true] HT_.out ?_;refine done_ (done_of HT_.out (by kernel_rfl)) ?_
          try go_wp2
          replace fF:=am (Kd.R_drew fF.out);replace gN:=am (Kd.R_drew gN.out);replace bJ:=am (blk_drew bJ.out);replace bK:=am (blk_drew bK.out);replace HB:=am (below_drew1 HB.out);have Fo:0≤(dZ:Int):=od au103;have Fp:dZ<(fS.length:Int):=od au103;obtain ⟨U4,WA,yR⟩:=Kd.at_string (Kd.R_reads' gN.out).2.2 dZ Fo Fp
          obtain rfl:xF=U4:=(by injection WA)
          replace Fo:=eq_true Fo;replace Fp:=eq_true Fp;refine start_ (n:=11) (S:=fun w'=>w'.cell? ⟨dI,0,none⟩=some (.string cA)∧w'.cell? ⟨dI,1,none⟩=some (.int .i64 bT)∧w'.cell? ⟨dI,2,none⟩=some (.slice eI bR.length eJ)∧w'.cell? ⟨dI,3,none⟩=some (.slice eK bS.length eL)∧w'.cell? ⟨dI,4,none⟩=some (.string cD)∧w'.cell? ⟨dI,5,none⟩=some (.string cE)∧w'.cell? ⟨dI,6,none⟩=some (.string cF)∧w'.cell? ⟨dI,7,none⟩=some (.int .i64 bW)∧w'.cell? ⟨dI,8,none⟩=some (.int .i64 bX)∧w'.cell? ⟨dI,9,none⟩=some (.int .i64 bZ)∧w'.cell? ⟨dI,10,none⟩=some (.bool bM)∧w'.cell? ⟨dI,11,none⟩=some (.int .i64 bO)∧w'.cell? ⟨dI,12,none⟩=some (.string bP)∧w'.cell? ⟨dI,13,none⟩=some (.string bN)∧w'.cell? (xF.add (dZ).toNat)=some (.string (rdOf ByteArray.empty fS dZ))) (ds:=[]) #[false,false,false,false,false,false,false,false,false,false,false] (by kernel_rfl) rfl rfl ⟨(blk_cell bK.out 0).trans rfl,(blk_cell bK.out 1).trans rfl,(blk_cell bK.out 2).trans rfl,(blk_cell bK.out 3).trans rfl,(blk_cell bK.out 4).trans rfl,(blk_cell bK.out 5).trans rfl,(blk_cell bK.out 6).trans rfl,(blk_cell bK.out 7).trans rfl,(blk_cell bK.out 8).trans rfl,(blk_cell bK.out 9).trans rfl,(blk_cell bK.out 10).trans rfl,(blk_cell bK.out 11).trans rfl,(blk_cell bK.out 12).trans rfl,(blk_cell bK.out 13).trans rfl,yR⟩ (fun hHeld=>?_);refine with_tabW spec_ChangedFields.tab9 spec_ChangedFields.bits9 (fun HT_ HW_=>?_);generalize Xf.drew=w36 at fF gN bJ bK HB yR hHeld ⊢;refine pu_ 1 (some 41) #[false,true,false,false,false,false,false,false,false,false,false] HT_.out ?_;refine pu_ 2 (some 42) #[false,true,true,false,false,false,false,false,false,false,false] HT_.out ?_;refine pu_ 3 (some 43) #[false,true,true,true,false,false,false,false,false,false,false] HT_.out ?_;refine ta1_ 0 (some 40) #[true,true,true,true,false,false,false,false,false,false,false] HT_.out HW_.out hHeld ?_;refine ta1_ 4 (some 44) #[true,true,true,true,true,false,false,false,false,false,false] HT_.out HW_.out hHeld ?_;refine on_ 5 (some 45) #[true,true,true,true,true,true,false,false,false,false,false] HT_.out (fun K hK=>?_);refine gs_ Tryz.func19 #[.agg #[.string cA,.int .i64 bT,.slice eI bR.length eJ,.slice eK bS.length eL,.string cD,.string cE,.string cF,.int .i64 bW,.int .i64 bX,.int .i64 bZ,.bool bM,.int .i64 bO,.string bP,.string bN],.string (rdOf ByteArray.empty fS dZ)] ?_
          with_reducible refine (spec_l4Field.calls k2 cA bT _ _ bR _ _ bS cD cE cF bW bX bZ bM bO bP bN (rdOf ByteArray.empty fS dZ) U3 a9D _ ?aE ?aG ?bU ?bV XK.out).mono ?_
          (case aE=>repeat (first|exact (Kd.C_below nC.out HB.out)|(with_reducible refine Kd.C_alloc ?_ _)|(with_reducible refine Kd.C_drewN ?_ _)|(with_reducible refine Kd.C_drew ?_)))
          (case aG=>exact nD.out)
          (case bU=>repeat (first|exact (Kd.C_below oW.out HB.out)|(with_reducible refine Kd.C_alloc ?_ _)|(with_reducible refine Kd.C_drewN ?_ _)|(with_reducible refine Kd.C_drew ?_)))
          (case bV=>exact oX.out)
          rintro e w37 ⟨rfl,hb⟩;have HS14_:=(hb.cell (World.block_lt_of_cell? _ _ (hHeld.2.2.2.2.2.2.2.2.2.2.2.2.2.2))).trans (hHeld.2.2.2.2.2.2.2.2.2.2.2.2.2.2);refine ⟨_,rfl,?_⟩;replace fF:=am (Kd.R_below au101 hb);replace gN:=am (Kd.R_below au100 hb);replace bJ:=am (blk_below (g:=dF) au80 hb);replace bK:=am (blk_below (g:=dI) au81 hb);replace HB:=am (below_step au27 hb)
          (try clear hb)
          refine hK.out _ _ ⟨(blk_cell bK.out 0).trans rfl,(blk_cell bK.out 1).trans rfl,(blk_cell bK.out 2).trans rfl,(blk_cell bK.out 3).trans rfl,(blk_cell bK.out 4).trans rfl,(blk_cell bK.out 5).trans rfl,(blk_cell bK.out 6).trans rfl,(blk_cell bK.out 7).trans rfl,(blk_cell bK.out 8).trans rfl,(blk_cell bK.out 9).trans rfl,(blk_cell bK.out 10).trans rfl,(blk_cell bK.out 11).trans rfl,(blk_cell bK.out 12).trans rfl,(blk_cell bK.out 13).trans rfl,HS14_⟩ (fun hHeld=>?_);clear hK K;refine no_ (some 45) ?_;refine pu_ 6 (some 39) #[true,true,true,true,true,true,true,false,false,false,false] HT_.out ?_;refine pu_ 7 (some 46) #[true,true,true,true,true,true,true,true,false,false,false] HT_.out ?_;refine pu_ 8 (some 47) #[true,true,true,true,true,true,true,true,true,false,false] HT_.out ?_;refine pu_ 9 (some 11) #[true,true,true,true,true,true,true,true,true,true,false] HT_.out ?_;refine pu_ 10 (some 12) #[true,true,true,true,true,true,true,true,true,true,true] HT_.out ?_;refine done_ (done_of HT_.out (by kernel_rfl)) ?_;have U5:0≤(dZ:Int):=od au103;have U6:dZ<(fS.length:Int):=od au103;obtain ⟨acH,anN,a2V⟩:=Kd.at_string (Kd.R_reads' gN.out).2.2 dZ U5 U6
          obtain rfl:xF=acH:=(by injection anN)
          replace U5:=eq_true U5;replace U6:=eq_true U6;exact spec_ChangedFields.L1
         · rw [if_neg mP] at H;exact absurd H (by simp)
       · rw [if_neg kG] at H;exact absurd H (by simp)
      ·
       rw [if_neg fP] at H;have c22b0:=df fP;clear fP;have WB:=am H;clear H;obtain ⟨anO,anP,anQ⟩:=Kd.R_slice gN.out;subst anQ;have abK:=nQ.out;have abL:=nR.out;obtain ⟨a2W,a2X,a2Y,a2Z,a3A,a3B,a3C,a3D,a3E,a3F,WC,WE,WF,WG,a3G,a3H,a3I,a3J,a3K,a3L,a3M,a3N,a3O,a3P,WH,WI,WJ,WK⟩:=blkc14 bJ.out;obtain ⟨G6,G7,G8,G9,Mx,My,Mz,MA,MB,MC,IT,IU,IV,IW,Ga,Gb,Gc,Ge,MD,ME,MF,MG,MH,MI,IX,IY,IZ,J0⟩:=blkc14 bK.out
       go_upto_if 62 with (fail)
       go_cut [6] (fun v6 wc=>∃ (kq:Nat) (wB:List ByteArray),Aside0 (spec_ChangedFields.j2 kq wB aD aA aN aQ bB bC bD aV aY bA aH aI aK aM cA bT bR bS cD cE cF bW bX bZ bM bO bP bN=some (r1,r2))∧Aside0 (kq≤k2)∧Aside0 (Kd.R Kd.string 9 wc w.heap.size (fun _=>True) v6 wB)∧Aside0 (wc.heap[dF]?=some (.cells #[.string aD,.int .i64 aA,(.slice cK aN.length cL),(.slice cH aQ.length cI),.string bB,.string bC,.string bD,.int .i64 aV,.int .i64 aY,.int .i64 bA,.bool aH,.int .i64 aI,.string aK,.string aM] 28 (0,0)))∧Aside0 (wc.heap[dI]?=some (.cells #[.string cA,.int .i64 bT,(.slice eI bR.length eJ),(.slice eK bS.length eL),.string cD,.string cE,.string cF,.int .i64 bW,.int .i64 bX,.int .i64 bZ,.bool bM,.int .i64 bO,.string bP,.string bN] 28 (0,0)))∧Aside0 (Below w.heap.size w wc))
       case first =>
        have H:=WB.out;clear WB;by_cases CR:aM.toList=bN.toList
        ·
         rw [if_pos CR] at H;have c44b0:=qt CR;have c44b1:=bfz CR;clear CR
         (first|rw [c44b0]|(simp only [i64_w,i32_w];rw [c44b0])|skip)
         have H':=am H;clear H;exact spec_ChangedFields.L0
        ·
         rw [if_neg CR] at H;have c44b0:=qf CR;have c44b1:=bu CR
         (first|rw [c44b0]|(simp only [i64_w,i32_w];rw [c44b0])|skip)
         by_cases tT:fZ.length<8796093022208
         ·
          rw [if_pos tT] at H;have U7:=am tT;clear tT
          obtain ⟨a9E,Kn⟩:∃ y_:List ByteArray,y_=(fZ++[(⟨#[99,114,111,115,115]⟩:ByteArray)]):=⟨_,rfl⟩
          replace H:(spec_ChangedFields.j2 k2 a9E aD aA aN aQ bB bC bD aV aY bA aH aI aK aM cA bT bR bS cD cE cF bW bX bZ bM bO bP bN)=some (r1,r2):=by first|(rw [Kn];with_reducible exact H)|(have H2_:=(Option.bind_some _ _).symm.trans H;rw [Kn];with_reducible exact H2_)|(have H2_:=(Option.bind_some _ _).symm.trans H;with_reducible exact H2_)|with_reducible exact H|(rw [Kn];exact H)|exact H
          have acI:=am Kn;clear Kn;have H':=am H;clear H;go_wp2_with (first|((with_reducible refine gate_builtin (b:=.append) (xs:=#[.tmp 63,.tmp 64]) rfl ?_);at_builtin;refine Kd.R_append Kd.string (w0:=w) w.heap.size rfl (.tmp 63) (.tmp 64) 31 9 (.string ⟨#[]⟩) 16 rfl Tryz.underlying31 info9 rfl (by decide) (by omega) u6 fZ (⟨#[99,114,111,115,115]⟩:ByteArray) [.string (⟨#[99,114,111,115,115]⟩:ByteArray)] (fun k_=>some k_≠(.slice anO fS.length anP:Value).ownBlock) (fun _=>False) rfl rfl ?aP (fun _ hk=>hk.elim) ?aF ?aO ?aB ?aS ?aL ?_;(case aP=>exact rfl);(case aB=>exact au27);(case aF=>exact (fun k_ hk=>Kd.fresh' (Kd.R_lt au100) k_ hk));(case aO=>exact au101);(case aS=>exact (below_size au27));(case aL=>have:=U7.out;omega);intro aNb w46 ho hb hg hat;rw [← acI.out] at ho;have dS:=am (Kd.R_after (ok:=(fun _=>True)) au57 hg hat);have dT:=am (blk_grown (g:=dF) (o:=.cells #[.string aD,.int .i64 aA,.slice cK aN.length cL,.slice cH aQ.length cI,.string bB,.string bC,.string bD,.int .i64 aV,.int .i64 aY,.int .i64 bA,.bool aH,.int .i64 aI,.string aK,.string aM] 28 (0,0)) au80 hg (Kd.R_ne fF.out bJ.out (by decide)));have eG:=am (blk_grown (g:=dI) (o:=.cells #[.string cA,.int .i64 bT,.slice eI bR.length eJ,.slice eK bS.length eL,.string cD,.string cE,.string cF,.int .i64 bW,.int .i64 bX,.int .i64 bZ,.bool bM,.int .i64 bO,.string bP,.string bN] 28 (0,0)) au81 hg (Kd.R_ne fF.out bK.out (by decide)));have eQ:=am (hb);have ES:=am (ho);clear gN;clear bJ;clear bK;clear HB;clear fF;have gN:=dS;have bJ:=dT;have bK:=eG;have HB:=eQ;have acJ:=ES;clear dS dT eG eQ ES;clear ho hb hg hat));go_meet
          case rel=>exact ⟨_,(a9E),H',⟨by have:=Hg.out;have:=HK2.out;first|omega|exact Nat.le_refl _⟩,⟨by (with_reducible repeat (first|apply Kd.R_alloc|apply Kd.R_drewN|apply Kd.R_drew));exact Kd.R_mono acJ.out (fun _ hk=>trivial)⟩,⟨by (with_reducible repeat (first|refine blk_drewN ?_ _|refine blk_drew ?_|refine blk_alloc ?_ _));exact bJ.out⟩,⟨by (with_reducible repeat (first|refine blk_drewN ?_ _|refine blk_drew ?_|refine blk_alloc ?_ _));exact bK.out⟩,⟨by repeat (first|(with_reducible first|exact HB.out|apply below_alloc|apply pw_below_drewN|apply below_drew1|refine below_set ?_ nS.out|refine below_set ?_ pT.out)|exact HB.out)⟩⟩
         · rw [if_neg tT] at H;exact absurd H (by simp)
       case rest =>
        clear WB
        try clear c1
        try clear c2
        try clear p2
        try clear c3
        try clear c4
        try clear p6
        try clear p7
        try clear q7
        try clear Qb
        try clear fO
        try clear fP
        try clear c22b0
        try clear kG
        try clear kH
        try clear c26b0
        try clear c26b1
        try clear mP
        try clear c41
        try clear CR
        try clear c44b0
        try clear c44b1
        try clear tT
        try clear a2W a2X WC WE WF WG a2Y a2Z a3A a3B a3C a3D a3E a3F a3G a3H WH WI WJ WK a3I a3J a3K a3L a3M a3N a3O a3P
        try clear G6 G7 IT IU IV IW G8 G9 Mx My Mz MA MB MC Ga Gb IX IY IZ J0 Gc Ge MD ME MF MG MH MI
        try clear yQ
        try clear yR
        try clear a2V
        try clear Fj
        try clear Fo
        try clear U5
        try clear Fl
        try clear Fp
        try clear U6
        obtain ⟨kq,wB,HA,aNc,fF,bJ,bK,HB⟩:=hcut
        cases kq with
        | zero=>exact absurd HA.out (by simp [spec_ChangedFields.j2])
        | succ aNd =>
         have H:=HA.out;clear HA;simp only [spec_ChangedFields.j2] at H;by_cases An:aA=bT
         ·
          rw [if_pos An] at H;have c47b0:=qt An;have c47b1:=bfz An;clear An;by_cases PK:aD.toList=cA.toList
          · rw [if_pos PK] at H;have c48b0:=qt PK;have c48b1:=bfz PK;clear PK;simp only [Option.some.injEq,Prod.mk.injEq] at H;obtain ⟨rfl,rfl⟩:=H;have aLW:=nQ.out;have aLX:=nR.out;obtain ⟨a3Q,a3R,a3S,a3T,a3U,a3V,a3W,a3X,a3Y,a3Z,WL,WM,WN,WO,a4A,a4B,a4C,a4D,a4E,a4F,a4G,a4H,a4I,a4J,WP,WQ,WR,WS⟩:=blkc14 bJ.out;obtain ⟨R9,Ra,Rb,Rc,a4K,a4L,a4M,a4N,a4O,a4P,WT,WU,WV,WW,Re,Rf,Rh,Ri,a4Q,a4R,a4S,a4T,a4U,a4V,WX,WY,WZ,X0⟩:=blkc14 bK.out;exact spec_ChangedFields.L2
          ·
           rw [if_neg PK] at H;have c48b0:=qf PK;have c48b1:=bu PK;by_cases Ez:wB.length<8796093022208
           ·
            rw [if_pos Ez] at H;have acK:=am Ez;clear Ez
            obtain ⟨anR,Ko⟩:∃ y_:List ByteArray,y_=(wB++[(⟨#[107,101,121]⟩:ByteArray)]):=⟨_,rfl⟩
            replace H:(some (anR,true))=some (r1,r2):=by first|(rw [Ko];with_reducible exact H)|(have H2_:=(Option.bind_some _ _).symm.trans H;rw [Ko];with_reducible exact H2_)|(have H2_:=(Option.bind_some _ _).symm.trans H;with_reducible exact H2_)|with_reducible exact H|(rw [Ko];exact H)|exact H
            have acL:=am Ko;clear Ko;simp only [Option.some.injEq,Prod.mk.injEq] at H;obtain ⟨rfl,rfl⟩:=H;have aaQ:=nQ.out;have aaR:=nR.out;obtain ⟨Yt,Yu,Yv,Yw,aEI,aEJ,aEK,aEL,aEM,aEN,anS,anT,anU,anV,Yx,Yy,Yz,YA,aEO,aEP,aEQ,aER,aES,aET,anW,anX,anY,anZ⟩:=blkc14 bJ.out;obtain ⟨aEU,aEV,aEW,aEX,aEY,aEZ,aF0,aF1,aF2,aF3,aoA,aoB,aoC,aoD,aF4,aF5,aF6,aF7,aF8,aF9,aFa,aFb,aFc,aFd,aoE,aoF,aoG,aoH⟩:=blkc14 bK.out;go_wp2_with (first|((with_reducible refine gate_builtin (b:=.append) (xs:=#[.tmp 79,.tmp 80]) rfl ?_);at_builtin;refine Kd.R_append Kd.string (w0:=w) w.heap.size rfl (.tmp 79) (.tmp 80) 31 9 (.string ⟨#[]⟩) 16 rfl Tryz.underlying31 info9 rfl (by decide) (by omega) u6 wB (⟨#[107,101,121]⟩:ByteArray) [.string (⟨#[107,101,121]⟩:ByteArray)] (fun _=>True) (fun _=>False) rfl rfl ?aP (fun _ hk=>hk.elim) ?aF ?aO ?aB ?aS ?aL ?_;(case aP=>exact rfl);(case aB=>exact au27);(case aF=>exact (fun _ _=>trivial));(case aO=>exact au101);(case aS=>exact (below_size au27));(case aL=>have:=acK.out;omega);intro aNe w56 ho hb hg hat;rw [← acL.out] at ho;have dS:=am (blk_grown (g:=dF) (o:=.cells #[.string aD,.int .i64 aA,.slice cK aN.length cL,.slice cH aQ.length cI,.string bB,.string bC,.string bD,.int .i64 aV,.int .i64 aY,.int .i64 bA,.bool aH,.int .i64 aI,.string aK,.string aM] 28 (0,0)) au80 hg (Kd.R_ne fF.out bJ.out (by decide)));have dT:=am (blk_grown (g:=dI) (o:=.cells #[.string cA,.int .i64 bT,.slice eI bR.length eJ,.slice eK bS.length eL,.string cD,.string cE,.string cF,.int .i64 bW,.int .i64 bX,.int .i64 bZ,.bool bM,.int .i64 bO,.string bP,.string bN] 28 (0,0)) au81 hg (Kd.R_ne fF.out bK.out (by decide)));have eG:=am (hb);have eQ:=am (ho);clear bJ;clear bK;clear HB;clear fF;have bJ:=dS;have bK:=dT;have HB:=eG;have acM:=eQ;clear dS dT eG eQ;clear ho hb hg hat));go_ret2;exact ⟨_,by first|rfl|(simp [errW_none,errW_some] <;> rfl)|(simp [*,errW_none,errW_some] <;> rfl),by (with_reducible repeat (first|apply Kd.R_alloc|apply Kd.R_drewN|apply Kd.R_drew));exact acM.out,by repeat (first|(with_reducible first|exact HB.out|apply below_alloc|apply pw_below_drewN|apply below_drew1|refine below_set ?_ nS.out|refine below_set ?_ pT.out)|exact HB.out)⟩
           · rw [if_neg Ez] at H;exact absurd H (by simp)
         ·
          rw [if_neg An] at H;have c47b0:=qf An;have c47b1:=bu An;by_cases JQ:wB.length<8796093022208
          ·
           rw [if_pos JQ] at H;have N0:=am JQ;clear JQ
           obtain ⟨Bw,Kp⟩:∃ y_:List ByteArray,y_=(wB++[(⟨#[107,105,110,100]⟩:ByteArray)]):=⟨_,rfl⟩
           replace H:(if aD.toList=cA.toList then (some (Bw,true)) else (if Bw.length<8796093022208 then (some ((Bw++[(⟨#[107,101,121]⟩:ByteArray)]),true)) else (none)))=some (r1,r2):=by first|(rw [Kp];with_reducible exact H)|(have H2_:=(Option.bind_some _ _).symm.trans H;rw [Kp];with_reducible exact H2_)|(have H2_:=(Option.bind_some _ _).symm.trans H;with_reducible exact H2_)|with_reducible exact H|(rw [Kp];exact H)|exact H
           have XQ:=am Kp;clear Kp;by_cases PL:aD.toList=cA.toList
           · rw [if_pos PL] at H;have c58b0:=qt PL;have c58b1:=bfz PL;clear PL;simp only [Option.some.injEq,Prod.mk.injEq] at H;obtain ⟨rfl,rfl⟩:=H;have aLY:=nQ.out;have aLZ:=nR.out;obtain ⟨Zv,Zw,Zx,Zy,aFe,aFf,aFg,aFh,aFi,aFj,aoI,aoJ,aoK,aoL,Zz,ZA,ZB,ZC,aFk,aFl,aFm,aFn,aFo,aFp,aoM,aoN,aoO,aoP⟩:=blkc14 bJ.out;obtain ⟨QT,QU,QV,QW,ZU,ZV,ZW,ZX,ZY,ZZ,VB,VC,VD,VE,QX,QY,QZ,R0,a0A,a0B,a0C,a0D,a0E,a0F,VF,VG,VH,VI⟩:=blkc14 bK.out;exact spec_ChangedFields.L2
           ·
            rw [if_neg PL] at H;have c58b0:=qf PL;have c58b1:=bu PL;by_cases XS:Bw.length<8796093022208
            ·
             rw [if_pos XS] at H;have acN:=am XS;clear XS
             obtain ⟨aoQ,Kq⟩:∃ y_:List ByteArray,y_=(Bw++[(⟨#[107,101,121]⟩:ByteArray)]):=⟨_,rfl⟩
             replace H:(some (aoQ,true))=some (r1,r2):=by first|(rw [Kq];with_reducible exact H)|(have H2_:=(Option.bind_some _ _).symm.trans H;rw [Kq];with_reducible exact H2_)|(have H2_:=(Option.bind_some _ _).symm.trans H;with_reducible exact H2_)|with_reducible exact H|(rw [Kq];exact H)|exact H
             have acO:=am Kq;clear Kq;simp only [Option.some.injEq,Prod.mk.injEq] at H;obtain ⟨rfl,rfl⟩:=H;have aM0:=nQ.out;have aM1:=nR.out;obtain ⟨aFq,aFr,aFs,aFt,aFu,aFv,aFw,aFx,aFy,aFz,aoR,aoS,aoT,aoU,aFA,aFB,aFC,aFD,aFE,aFF,aFG,aFH,aFI,aFJ,aoV,aoW,aoX,aoY⟩:=blkc14 bJ.out;obtain ⟨aFK,aFL,aFM,aFN,aFO,aFP,aFQ,aFR,aFS,aFT,aoZ,apA,apB,apC,aFU,aFV,aFW,aFX,aFY,aFZ,aG0,aG1,aG2,aG3,apD,apE,apF,apG⟩:=blkc14 bK.out;go_wp2_with (first|((with_reducible refine gate_builtin (b:=.append) (xs:=#[.tmp 71,.tmp 72]) rfl ?_);at_builtin;refine Kd.R_append Kd.string (w0:=w) w.heap.size rfl (.tmp 71) (.tmp 72) 31 9 (.string ⟨#[]⟩) 16 rfl Tryz.underlying31 info9 rfl (by decide) (by omega) u6 wB (⟨#[107,105,110,100]⟩:ByteArray) [.string (⟨#[107,105,110,100]⟩:ByteArray)] (fun _=>True) (fun _=>False) rfl rfl ?aP (fun _ hk=>hk.elim) ?aF ?aO ?aB ?aS ?aL ?_;(case aP=>exact rfl);(case aB=>exact au27);(case aF=>exact (fun _ _=>trivial));(case aO=>exact au101);(case aS=>exact (below_size au27));(case aL=>have:=N0.out;omega);intro a9A w69 ho hb hg hat;rw [← XQ.out] at ho;have dS:=am (blk_grown (g:=dF) (o:=.cells #[.string aD,.int .i64 aA,.slice cK aN.length cL,.slice cH aQ.length cI,.string bB,.string bC,.string bD,.int .i64 aV,.int .i64 aY,.int .i64 bA,.bool aH,.int .i64 aI,.string aK,.string aM] 28 (0,0)) au80 hg (Kd.R_ne fF.out bJ.out (by decide)));have dT:=am (blk_grown (g:=dI) (o:=.cells #[.string cA,.int .i64 bT,.slice eI bR.length eJ,.slice eK bS.length eL,.string cD,.string cE,.string cF,.int .i64 bW,.int .i64 bX,.int .i64 bZ,.bool bM,.int .i64 bO,.string bP,.string bN] 28 (0,0)) au81 hg (Kd.R_ne fF.out bK.out (by decide)));have eG:=am (hb);have eQ:=am (ho);clear bJ;clear bK;clear HB;clear fF;have bJ:=dS;have bK:=dT;have HB:=eG;have Hb:=eQ;clear dS dT eG eQ;clear ho hb hg hat;obtain ⟨aG4,aG5,aG6,aG7,aG8,aG9,aGa,aGb,aGc,aGd,apH,apI,apJ,apK,aGe,aGf,aGg,aGh,aGi,aGj,aGk,aGl,aGm,aGn,apL,apM,apN,apO⟩:=blkc14 bJ.out;obtain ⟨aGo,aGp,aGq,aGr,aGs,aGt,aGu,aGv,aGw,aGx,apP,apQ,apR,apS,aGy,aGz,aGA,aGB,aGC,aGD,aGE,aGF,aGG,aGH,apT,apU,apV,apW⟩:=blkc14 bK.out)|((with_reducible refine gate_builtin (b:=.append) (xs:=#[.tmp 79,.tmp 80]) rfl ?_);at_builtin;refine Kd.R_append Kd.string (w0:=w) w.heap.size rfl (.tmp 79) (.tmp 80) 31 9 (.string ⟨#[]⟩) 16 rfl Tryz.underlying31 info9 rfl (by decide) (by omega) a9A Bw (⟨#[107,101,121]⟩:ByteArray) [.string (⟨#[107,101,121]⟩:ByteArray)] (fun _=>True) (fun _=>False) rfl rfl ?aP (fun _ hk=>hk.elim) ?aF ?aO ?aB ?aS ?aL ?_;(case aP=>exact rfl);(case aB=>exact au27);(case aF=>exact (fun _ _=>trivial));(case aO=>exact (by (with_reducible repeat (first|apply Kd.R_alloc|apply Kd.R_drewN|apply Kd.R_drew));exact Hb.out));(case aS=>exact (below_size au27));(case aL=>have:=acN.out;omega);intro aNf w72 ho hb hg hat;rw [← acO.out] at ho;have dS:=am (blk_grown (g:=dF) (o:=.cells #[.string aD,.int .i64 aA,.slice cK aN.length cL,.slice cH aQ.length cI,.string bB,.string bC,.string bD,.int .i64 aV,.int .i64 aY,.int .i64 bA,.bool aH,.int .i64 aI,.string aK,.string aM] 28 (0,0)) au80 hg (Kd.R_ne Hb.out bJ.out (by decide)));have dT:=am (blk_grown (g:=dI) (o:=.cells #[.string cA,.int .i64 bT,.slice eI bR.length eJ,.slice eK bS.length eL,.string cD,.string cE,.string cF,.int .i64 bW,.int .i64 bX,.int .i64 bZ,.bool bM,.int .i64 bO,.string bP,.string bN] 28 (0,0)) au81 hg (Kd.R_ne Hb.out bK.out (by decide)));have eG:=am (hb);have eQ:=am (ho);clear bJ;clear bK;clear HB;clear Hb;have bJ:=dS;have bK:=dT;have HB:=eG;have acP:=eQ;clear dS dT eG eQ;clear ho hb hg hat));go_ret2;exact ⟨_,by first|rfl|(simp [errW_none,errW_some] <;> rfl)|(simp [*,errW_none,errW_some] <;> rfl),by (with_reducible repeat (first|apply Kd.R_alloc|apply Kd.R_drewN|apply Kd.R_drew));exact acP.out,by repeat (first|(with_reducible first|exact HB.out|apply below_alloc|apply pw_below_drewN|apply below_drew1|refine below_set ?_ nS.out|refine below_set ?_ pT.out)|exact HB.out)⟩
            · rw [if_neg XS] at H;exact absurd H (by simp)
          · rw [if_neg JQ] at H;exact absurd H (by simp)
mutual
def impl_changedFields.l0:Nat→List ByteArray→Int→ByteArray→Int→List (S68)→List (S68)→ByteArray→ByteArray→ByteArray→Int→Int→Int→Bool→Int→ByteArray→ByteArray→ByteArray→Int→List (S68)→List (S68)→ByteArray→ByteArray→ByteArray→Int→Int→Int→Bool→Int→ByteArray→ByteArray→Option (List ByteArray)
 | 0,_,_,_,_,_,_,_,_,_,_,_,_,_,_,_,_,_,_,_,_,_,_,_,_,_,_,_,_,_,_=>none
 | k+1,x5,K4,rX,vS,yS,yT,yU,yV,yW,yX,yY,yZ,zA,zB,zC,vT,rY,vU,zE,zF,zG,zH,zI,zJ,zK,zL,zN,zO,zP,vV=>if K4<8 then (if 0≤K4 then ((impl_fieldText.f k rX vS yS yT yU yV yW yX yY yZ zA zB zC vT (rdOf ByteArray.empty fieldsL K4)).bind fun PM=>((impl_fieldText.f k rY vU zE zF zG zH zI zJ zK zL zN zO zP vV (rdOf ByteArray.empty fieldsL K4)).bind fun PN=>(if PM.toList=PN.toList then (impl_changedFields.l0 k x5 (wrap64 (K4+1)) rX vS yS yT yU yV yW yX yY yZ zA zB zC vT rY vU zE zF zG zH zI zJ zK zL zN zO zP vV) else (if x5.length<8796093022208 then (impl_changedFields.l0 k (x5++[rdOf ByteArray.empty fieldsL K4]) (wrap64 (K4+1)) rX vS yS yT yU yV yW yX yY yZ zA zB zC vT rY vU zE zF zG zH zI zJ zK zL zN zO zP vV) else (none))))) else (none)) else (if vT.toList=vV.toList then (impl_changedFields.j1 k x5 rX vS yS yT yU yV yW yX yY yZ zA zB zC vT rY vU zE zF zG zH zI zJ zK zL zN zO zP vV) else (if x5.length<8796093022208 then (impl_changedFields.j1 k (x5++[(⟨#[99,114,111,115,115]⟩:ByteArray)]) rX vS yS yT yU yV yW yX yY yZ zA zB zC vT rY vU zE zF zG zH zI zJ zK zL zN zO zP vV) else (none)))
def impl_changedFields.j1:Nat→List ByteArray→ByteArray→Int→List (S68)→List (S68)→ByteArray→ByteArray→ByteArray→Int→Int→Int→Bool→Int→ByteArray→ByteArray→ByteArray→Int→List (S68)→List (S68)→ByteArray→ByteArray→ByteArray→Int→Int→Int→Bool→Int→ByteArray→ByteArray→Option (List ByteArray)
 | 0,_,_,_,_,_,_,_,_,_,_,_,_,_,_,_,_,_,_,_,_,_,_,_,_,_,_,_,_,_=>none
 | k+1,x5,rX,vS,yS,yT,yU,yV,yW,yX,yY,yZ,zA,zB,zC,vT,rY,vU,zE,zF,zG,zH,zI,zJ,zK,zL,zN,zO,zP,vV=>if vS=vU then (if rX.toList=rY.toList then (some x5) else (if x5.length<8796093022208 then (some (x5++[(⟨#[107,101,121]⟩:ByteArray)])) else (none))) else (if x5.length<8796093022208 then ((some (x5++[(⟨#[107,105,110,100]⟩:ByteArray)]:List ByteArray)).bind fun Bz=>(if rX.toList=rY.toList then (some Bz) else (if Bz.length<8796093022208 then (some (Bz++[(⟨#[107,101,121]⟩:ByteArray)])) else (none)))) else (none))
end
def impl_changedFields.f (k:Nat) (aD:ByteArray) (aA:Int) (aN:List (S68)) (aQ:List (S68)) (bB:ByteArray) (bC:ByteArray) (bD:ByteArray) (aV:Int) (aY:Int) (bA:Int) (aH:Bool) (aI:Int) (aK:ByteArray) (aM:ByteArray) (cA:ByteArray) (bT:Int) (bR:List (S68)) (bS:List (S68)) (cD:ByteArray) (cE:ByteArray) (cF:ByteArray) (bW:Int) (bX:Int) (bZ:Int) (bM:Bool) (bO:Int) (bP:ByteArray) (bN:ByteArray):Option (List ByteArray):=impl_changedFields.l0 k (([]:List ByteArray)) 0 aD aA aN aQ bB bC bD aV aY bA aH aI aK aM cA bT bR bS cD cE cF bW bX bZ bM bO bP bN
theorem impl_changedFields.mono_l:∀ k,(∀ y0 y1 y2 y3 y4 y5 y6 y7 y8 y9 cV cW cX cY kD sX sZ tA tB tC tD tE tF tG tH tI tJ tK tL Fi,LeO (impl_changedFields.l0 k y0 y1 y2 y3 y4 y5 y6 y7 y8 y9 cV cW cX cY kD sX sZ tA tB tC tD tE tF tG tH tI tJ tK tL Fi) (impl_changedFields.l0 (k+1) y0 y1 y2 y3 y4 y5 y6 y7 y8 y9 cV cW cX cY kD sX sZ tA tB tC tD tE tF tG tH tI tJ tK tL Fi))∧(∀ y0 y1 y2 y3 y4 y5 y6 y7 y8 y9 cV cW cX cY kD sX sZ tA tB tC tD tE tF tG tH tI tJ tK tL,LeO (impl_changedFields.j1 k y0 y1 y2 y3 y4 y5 y6 y7 y8 y9 cV cW cX cY kD sX sZ tA tB tC tD tE tF tG tH tI tJ tK tL) (impl_changedFields.j1 (k+1) y0 y1 y2 y3 y4 y5 y6 y7 y8 y9 cV cW cX cY kD sX sZ tA tB tC tD tE tF tG tH tI tJ tK tL))
 | 0=>⟨fun _ _ _ _ _ _ _ _ _ _ _ _ _ _ _ _ _ _ _ _ _ _ _ _ _ _ _ _ _ _ r h=>by simp [impl_changedFields.l0] at h,fun _ _ _ _ _ _ _ _ _ _ _ _ _ _ _ _ _ _ _ _ _ _ _ _ _ _ _ _ _ r h=>by simp [impl_changedFields.j1] at h⟩
 | k+1=>by
  obtain ⟨ih0,ih1⟩:=impl_changedFields.mono_l k;refine ⟨?_,?_⟩
  ·
   intro y0 y1 y2 y3 y4 y5 y6 y7 y8 y9 cV cW cX cY kD sX sZ tA tB tC tD tE tF tG tH tI tJ tK tL Fi;unfold impl_changedFields.l0
   repeat' first
   | (with_reducible exact ih0 _ _ _ _ _ _ _ _ _ _ _ _ _ _ _ _ _ _ _ _ _ _ _ _ _ _ _ _ _ _)
   | (with_reducible exact ih1 _ _ _ _ _ _ _ _ _ _ _ _ _ _ _ _ _ _ _ _ _ _ _ _ _ _ _ _ _)
   | (with_reducible exact impl_fieldText.mono _ _ _ _ _ _ _ _ _ _ _ _ _ _ _ _)
   | (with_reducible exact LeO.refl _)
   | (with_reducible exact LeO.none _)
   | (with_reducible refine LeO.ite ?_ ?_)
   | (with_reducible refine LeO.bind ?_ (fun _=>?_))
   | exact ih0 _ _ _ _ _ _ _ _ _ _ _ _ _ _ _ _ _ _ _ _ _ _ _ _ _ _ _ _ _ _
   | exact ih1 _ _ _ _ _ _ _ _ _ _ _ _ _ _ _ _ _ _ _ _ _ _ _ _ _ _ _ _ _
   | exact impl_fieldText.mono _ _ _ _ _ _ _ _ _ _ _ _ _ _ _ _
   | exact LeO.none _
   | refine LeO.ite ?_ ?_
   | refine LeO.bind ?_ (fun _=>?_)
  ·
   intro y0 y1 y2 y3 y4 y5 y6 y7 y8 y9 cV cW cX cY kD sX sZ tA tB tC tD tE tF tG tH tI tJ tK tL;unfold impl_changedFields.j1
   repeat' first
   | (with_reducible exact ih0 _ _ _ _ _ _ _ _ _ _ _ _ _ _ _ _ _ _ _ _ _ _ _ _ _ _ _ _ _ _)
   | (with_reducible exact ih1 _ _ _ _ _ _ _ _ _ _ _ _ _ _ _ _ _ _ _ _ _ _ _ _ _ _ _ _ _)
   | (with_reducible exact impl_fieldText.mono _ _ _ _ _ _ _ _ _ _ _ _ _ _ _ _)
   | (with_reducible exact LeO.refl _)
   | (with_reducible exact LeO.none _)
   | (with_reducible refine LeO.ite ?_ ?_)
   | (with_reducible refine LeO.bind ?_ (fun _=>?_))
   | exact ih0 _ _ _ _ _ _ _ _ _ _ _ _ _ _ _ _ _ _ _ _ _ _ _ _ _ _ _ _ _ _
   | exact ih1 _ _ _ _ _ _ _ _ _ _ _ _ _ _ _ _ _ _ _ _ _ _ _ _ _ _ _ _ _
   | exact impl_fieldText.mono _ _ _ _ _ _ _ _ _ _ _ _ _ _ _ _
   | exact LeO.none _
   | refine LeO.ite ?_ ?_
   | refine LeO.bind ?_ (fun _=>?_)
theorem impl_changedFields.mono:∀ a0 a1 a2 a3 a4 a5 a6 a7 a8 a9 hJ hU hV hY nP AO AP AQ AR AU a20 a21 a22 a23 AV a25 AW AX k,LeO (impl_changedFields.f k a0 a1 a2 a3 a4 a5 a6 a7 a8 a9 hJ hU hV hY nP AO AP AQ AR AU a20 a21 a22 a23 AV a25 AW AX) (impl_changedFields.f (k+1) a0 a1 a2 a3 a4 a5 a6 a7 a8 a9 hJ hU hV hY nP AO AP AQ AR AU a20 a21 a22 a23 AV a25 AW AX):=by
 intro a0 a1 a2 a3 a4 a5 a6 a7 a8 a9 hJ hU hV hY nP AO AP AQ AR AU a20 a21 a22 a23 AV a25 AW AX k;obtain ⟨ih0,ih1⟩:=impl_changedFields.mono_l k;unfold impl_changedFields.f
 repeat' first
   | (with_reducible exact ih0 _ _ _ _ _ _ _ _ _ _ _ _ _ _ _ _ _ _ _ _ _ _ _ _ _ _ _ _ _ _)
   | (with_reducible exact ih1 _ _ _ _ _ _ _ _ _ _ _ _ _ _ _ _ _ _ _ _ _ _ _ _ _ _ _ _ _)
   | (with_reducible exact impl_fieldText.mono _ _ _ _ _ _ _ _ _ _ _ _ _ _ _ _)
   | (with_reducible exact LeO.refl _)
   | (with_reducible exact LeO.none _)
   | (with_reducible refine LeO.ite ?_ ?_)
   | (with_reducible refine LeO.bind ?_ (fun _=>?_))
   | exact ih0 _ _ _ _ _ _ _ _ _ _ _ _ _ _ _ _ _ _ _ _ _ _ _ _ _ _ _ _ _ _
   | exact ih1 _ _ _ _ _ _ _ _ _ _ _ _ _ _ _ _ _ _ _ _ _ _ _ _ _ _ _ _ _
   | exact impl_fieldText.mono _ _ _ _ _ _ _ _ _ _ _ _ _ _ _ _
   | exact LeO.none _
   | refine LeO.ite ?_ ?_
   | refine LeO.bind ?_ (fun _=>?_)
theorem impl_changedFields.L0 {P:Prop} (h:P:=by
  go_wp2_with (first|((with_reducible refine gate_dst (N:=9) rfl ?_);refine tab_event rfl rfl (tab_load0 (Kd.C_below GTfields.out au59) rfl) ?_)|((with_reducible refine gate_dst (N:=12) rfl ?_);refine tab_event rfl rfl (tab_index0 rfl rfl rfl (od au103) (od au103)) ?_)|((with_reducible refine gate_builtin (b:=.append) (xs:=#[.tmp 38,.tmp 39]) rfl ?_);at_builtin;refine Kd.R_append Kd.string (w0:=w) w.heap.size rfl (.tmp 38) (.tmp 39) 31 9 (.string ⟨#[]⟩) 16 rfl Tryz.underlying31 info9 rfl (by decide) (by omega) u5 wC (⟨#[107,105,110,100]⟩:ByteArray) [.string (⟨#[107,105,110,100]⟩:ByteArray)] (fun _=>True) (fun _=>False) rfl rfl ?aP (fun _ hk=>hk.elim) ?aF ?aO ?aB ?aS ?aL ?_;(case aP=>exact rfl);(case aB=>exact au28);(case aF=>exact (fun _ _=>trivial));(case aO=>exact au97);(case aS=>exact (below_size au28));(case aL=>have:=XT.out;omega);intro a9F w42 ho hb hg hat;rw [← XU.out] at ho;have dS:=am (blk_grown (g:=dN) (o:=.cells #[.string aD,.int .i64 aA,.slice cK aN.length cL,.slice cH aQ.length cI,.string bB,.string bC,.string bD,.int .i64 aV,.int .i64 aY,.int .i64 bA,.bool aH,.int .i64 aI,.string aK,.string aM] 28 (0,0)) au82 hg (Kd.R_ne fY.out bE.out (by decide)));have dT:=am (blk_grown (g:=dV) (o:=.cells #[.string cA,.int .i64 bT,.slice eI bR.length eJ,.slice eK bS.length eL,.string cD,.string cE,.string cF,.int .i64 bW,.int .i64 bX,.int .i64 bZ,.bool bM,.int .i64 bO,.string bP,.string bN] 28 (0,0)) au83 hg (Kd.R_ne fY.out bF.out (by decide)));have eG:=am (hb);have eQ:=am (ho);clear bE;clear bF;clear HB;clear fY;have bE:=dS;have bF:=dT;have HB:=eG;have Hc:=eQ;clear dS dT eG eQ;clear ho hb hg hat;obtain ⟨G6,G7,G8,G9,Mx,My,Mz,MA,MB,MC,IT,IU,IV,IW,Ga,Gb,Gc,Ge,MD,ME,MF,MG,MH,MI,IX,IY,IZ,J0⟩:=blkc14 bE.out;obtain ⟨Z7,Z8,Z9,Za,aGI,aGJ,aGK,aGL,aGM,aGN,apX,apY,apZ,aqA,Zb,Zc,Zd,Ze,aGO,aGP,aGQ,aGR,aGS,aGT,aqB,aqC,aqD,aqE⟩:=blkc14 bF.out));go_ret
  first|(exact ⟨_,by first|rfl|(simp [errW_none,errW_some] <;> rfl)|(simp [*,errW_none,errW_some] <;> rfl),by (with_reducible repeat (first|apply Kd.R_alloc|apply Kd.R_drewN|apply Kd.R_drew));exact Hc.out,by repeat (first|(with_reducible first|exact HB.out|apply below_alloc|apply pw_below_drewN|apply below_drew1|refine below_set ?_ sE.out|refine below_set ?_ vX.out)|exact HB.out)⟩)|(exact ⟨_,by first|rfl|(simp [errW_none,errW_some] <;> rfl)|(simp [*,errW_none,errW_some] <;> rfl),by (with_reducible repeat (first|apply Kd.R_alloc|apply Kd.R_drewN|apply Kd.R_drew));exact fY.out,by repeat (first|(with_reducible first|exact HB.out|apply below_alloc|apply pw_below_drewN|apply below_drew1|refine below_set ?_ sE.out|refine below_set ?_ vX.out)|exact HB.out)⟩)):P:=h
theorem impl_changedFields.L1 {P:Prop} (h:P:=by
  try go_wp2_with (first|((with_reducible refine gate_dst (N:=9) rfl ?_);refine tab_event rfl rfl (tab_load0 (Kd.C_below GTfields.out au59) rfl) ?_)|((with_reducible refine gate_dst (N:=12) rfl ?_);refine tab_event rfl rfl (tab_index0 rfl rfl rfl (od au103) (od au103)) ?_)|((with_reducible refine gate_builtin (b:=.append) (xs:=#[.tmp 20,.tmp 22]) rfl ?_);at_builtin;refine Kd.R_append Kd.string (w0:=w) w.heap.size rfl (.tmp 20) (.tmp 22) 31 9 (.string ⟨#[]⟩) 16 rfl Tryz.underlying31 info9 rfl (by decide) (by omega) u5 bH (rdOf ByteArray.empty fieldsL jN) [.string (rdOf ByteArray.empty fieldsL jN)] (fun _=>True) (fun _=>False) rfl rfl ?aP (fun _ hk=>hk.elim) ?aF ?aO ?aB ?aS ?aL ?_;(case aP=>exact rfl);(case aB=>exact au28);(case aF=>exact (fun _ _=>trivial));(case aO=>exact au97);(case aS=>exact (below_size au28));(case aL=>have:=acQ.out;omega);intro aNg Qh ho hb hg hat;rw [← acR.out] at ho;have dS:=am (blk_grown (g:=dN) (o:=.cells #[.string aD,.int .i64 aA,.slice cK aN.length cL,.slice cH aQ.length cI,.string bB,.string bC,.string bD,.int .i64 aV,.int .i64 aY,.int .i64 bA,.bool aH,.int .i64 aI,.string aK,.string aM] 28 (0,0)) au82 hg (Kd.R_ne fY.out bE.out (by decide)));have dT:=am (blk_grown (g:=dV) (o:=.cells #[.string cA,.int .i64 bT,.slice eI bR.length eJ,.slice eK bS.length eL,.string cD,.string cE,.string cF,.int .i64 bW,.int .i64 bX,.int .i64 bZ,.bool bM,.int .i64 bO,.string bP,.string bN] 28 (0,0)) au83 hg (Kd.R_ne fY.out bF.out (by decide)));have eG:=am (hb);have eQ:=am (ho);clear bE;clear bF;clear HB;clear fY;have bE:=dS;have bF:=dT;have HB:=eG;have acS:=eQ;clear dS dT eG eQ;clear ho hb hg hat))
  go_roundg k1
  case measure=>have:=HK1.out;omega
  case rel=>first|(exact ⟨(a9G),(wrap64 (jN+1)),au104,H',⟨by have:=HK1.out;omega⟩,⟨by (with_reducible repeat (first|apply Kd.R_alloc|apply Kd.R_drewN|apply Kd.R_drew));exact acS.out⟩,⟨by (with_reducible repeat (first|refine blk_drewN ?_ _|refine blk_drew ?_|refine blk_alloc ?_ _));exact bE.out⟩,⟨by (with_reducible repeat (first|refine blk_drewN ?_ _|refine blk_drew ?_|refine blk_alloc ?_ _));exact bF.out⟩,⟨by repeat (first|(with_reducible first|exact HB.out|apply below_alloc|apply pw_below_drewN|apply below_drew1|refine below_set ?_ sE.out|refine below_set ?_ vX.out)|exact HB.out)⟩⟩)|(exact ⟨(bH),(wrap64 (jN+1)),au104,H',⟨by have:=HK1.out;omega⟩,⟨by (with_reducible repeat (first|apply Kd.R_alloc|apply Kd.R_drewN|apply Kd.R_drew));exact fY.out⟩,⟨by (with_reducible repeat (first|refine blk_drewN ?_ _|refine blk_drew ?_|refine blk_alloc ?_ _));exact bE.out⟩,⟨by (with_reducible repeat (first|refine blk_drewN ?_ _|refine blk_drew ?_|refine blk_alloc ?_ _));exact bF.out⟩,⟨by repeat (first|(with_reducible first|exact HB.out|apply below_alloc|apply pw_below_drewN|apply below_drew1|refine below_set ?_ sE.out|refine below_set ?_ vX.out)|exact HB.out)⟩⟩)):P:=h
theorem impl_changedFields.L2 {P:Prop} (h:P:=by
  go_wp2_with (first|((with_reducible refine gate_dst (N:=9) rfl ?_);refine tab_event rfl rfl (tab_load0 (Kd.C_below GTfields.out au59) rfl) ?_)|((with_reducible refine gate_dst (N:=12) rfl ?_);refine tab_event rfl rfl (tab_index0 rfl rfl rfl (od au103) (od au103)) ?_)|((with_reducible refine gate_builtin (b:=.append) (xs:=#[.tmp 30,.tmp 31]) rfl ?_);at_builtin;refine Kd.R_append Kd.string (w0:=w) w.heap.size rfl (.tmp 30) (.tmp 31) 31 9 (.string ⟨#[]⟩) 16 rfl Tryz.underlying31 info9 rfl (by decide) (by omega) u5 bH (⟨#[99,114,111,115,115]⟩:ByteArray) [.string (⟨#[99,114,111,115,115]⟩:ByteArray)] (fun _=>True) (fun _=>False) rfl rfl ?aP (fun _ hk=>hk.elim) ?aF ?aO ?aB ?aS ?aL ?_;(case aP=>exact rfl);(case aB=>exact au28);(case aF=>exact (fun _ _=>trivial));(case aO=>exact au97);(case aS=>exact (below_size au28));(case aL=>have:=acT.out;omega);intro aNh w26 ho hb hg hat;rw [← acU.out] at ho;have dS:=am (blk_grown (g:=dN) (o:=.cells #[.string aD,.int .i64 aA,.slice cK aN.length cL,.slice cH aQ.length cI,.string bB,.string bC,.string bD,.int .i64 aV,.int .i64 aY,.int .i64 bA,.bool aH,.int .i64 aI,.string aK,.string aM] 28 (0,0)) au82 hg (Kd.R_ne fY.out bE.out (by decide)));have dT:=am (blk_grown (g:=dV) (o:=.cells #[.string cA,.int .i64 bT,.slice eI bR.length eJ,.slice eK bS.length eL,.string cD,.string cE,.string cF,.int .i64 bW,.int .i64 bX,.int .i64 bZ,.bool bM,.int .i64 bO,.string bP,.string bN] 28 (0,0)) au83 hg (Kd.R_ne fY.out bF.out (by decide)));have eG:=am (hb);have eQ:=am (ho);clear bE;clear bF;clear HB;clear fY;have bE:=dS;have bF:=dT;have HB:=eG;have acV:=eQ;clear dS dT eG eQ;clear ho hb hg hat));go_meet
  case rel=>first|(exact ⟨_,(a9H),H',⟨by have:=HK1.out;first|omega|exact Nat.le_refl _⟩,⟨by (with_reducible repeat (first|apply Kd.R_alloc|apply Kd.R_drewN|apply Kd.R_drew));exact acV.out⟩,⟨by (with_reducible repeat (first|refine blk_drewN ?_ _|refine blk_drew ?_|refine blk_alloc ?_ _));exact bE.out⟩,⟨by (with_reducible repeat (first|refine blk_drewN ?_ _|refine blk_drew ?_|refine blk_alloc ?_ _));exact bF.out⟩,⟨by repeat (first|(with_reducible first|exact HB.out|apply below_alloc|apply pw_below_drewN|apply below_drew1|refine below_set ?_ sE.out|refine below_set ?_ vX.out)|exact HB.out)⟩⟩)|(exact ⟨_,(bH),H',⟨by have:=HK1.out;first|omega|exact Nat.le_refl _⟩,⟨by (with_reducible repeat (first|apply Kd.R_alloc|apply Kd.R_drewN|apply Kd.R_drew));exact fY.out⟩,⟨by (with_reducible repeat (first|refine blk_drewN ?_ _|refine blk_drew ?_|refine blk_alloc ?_ _));exact bE.out⟩,⟨by (with_reducible repeat (first|refine blk_drewN ?_ _|refine blk_drew ?_|refine blk_alloc ?_ _));exact bF.out⟩,⟨by repeat (first|(with_reducible first|exact HB.out|apply below_alloc|apply pw_below_drewN|apply below_drew1|refine below_set ?_ sE.out|refine below_set ?_ vX.out)|exact HB.out)⟩⟩)):P:=h
theorem impl_changedFields.calls (k:Nat) (aD:ByteArray) (aA:Int) (cK:Option Addr) (cL:Nat) (aN:List (S68)) (cH:Option Addr) (cI:Nat) (aQ:List (S68)) (bB:ByteArray) (bC:ByteArray) (bD:ByteArray) (aV:Int) (aY:Int) (bA:Int) (aH:Bool) (aI:Int) (aK:ByteArray) (aM:ByteArray) (cA:ByteArray) (bT:Int) (eI:Option Addr) (eJ:Nat) (bR:List (S68)) (eK:Option Addr) (eL:Nat) (bS:List (S68)) (cD:ByteArray) (cE:ByteArray) (cF:ByteArray) (bW:Int) (bX:Int) (bZ:Int) (bM:Bool) (bO:Int) (bP:ByteArray) (bN:ByteArray) (r:List ByteArray) (w:World) {gF2:Bool} (hG:GL true gF2 true w) (gF:Kd.C k68 w cK aN.length aN) (gG:aN.length≤cL) (gH:Kd.C k68 w cH aQ.length aQ) (gI:aQ.length≤cI) (tM:Kd.C k68 w eI bR.length bR) (tN:bR.length≤eJ) (tP:Kd.C k68 w eK bS.length bS) (tQ:bS.length≤eL) (h:impl_changedFields.f k aD aA aN aQ bB bC bD aV aY bA aH aI aK aM cA bT bR bS cD cE cF bW bX bZ bM bO bP bN=some r) :
  Calls Tryz.prog 16 #[.agg #[.string aD,.int .i64 aA,.slice cK aN.length cL,.slice cH aQ.length cI,.string bB,.string bC,.string bD,.int .i64 aV,.int .i64 aY,.int .i64 bA,.bool aH,.int .i64 aI,.string aK,.string aM],.agg #[.string cA,.int .i64 bT,.slice eI bR.length eJ,.slice eK bS.length eL,.string cD,.string cE,.string cF,.int .i64 bW,.int .i64 bX,.int .i64 bZ,.bool bM,.int .i64 bO,.string bP,.string bN]] w fun e w'=>∃ gO:Value,e=.returned (gO)∧Kd.R Kd.string 9 w' w.heap.size (fun _=>True) gO r∧Below w.heap.size w w':=by
 have HG:=am hG;have GTfields:=am (C_fields hG);clear hG;have hu28:=Tryz.underlying28;have fJ:=am gF;have fK:=am gG;clear gF gG;have gB:=am gH;have gC:=am gI;clear gH gI;have nC:=am tM;have nD:=am tN;clear tM tN;have oW:=am tP;have oX:=am tQ;clear tP tQ;have HB:=am (Below.refl w.heap.size w);have H:(impl_changedFields.l0 k (([]:List ByteArray)) 0 aD aA aN aQ bB bC bD aV aY bA aH aI aK aM cA bT bR bS cD cE cF bW bX bZ bM bO bP bN)=some r:=h;clear h
 obtain ⟨a9I,Kr⟩:∃ y_:List ByteArray,y_=(([]:List ByteArray)):=⟨_,rfl⟩
 replace H:(impl_changedFields.l0 k a9I 0 aD aA aN aQ bB bC bD aV aY bA aH aI aK aM cA bT bR bS cD cE cF bW bX bZ bM bO bP bN)=some r:=by first|(rw [Kr];with_reducible exact H)|(have H2_:=(Option.bind_some _ _).symm.trans H;rw [Kr];with_reducible exact H2_)|(have H2_:=(Option.bind_some _ _).symm.trans H;with_reducible exact H2_)|with_reducible exact H|(rw [Kr];exact H)|exact H
 have XV:=am Kr;clear Kr;have H':=am H;clear H;go_enter Tryz.func16,Tryz.ntmps16;go_wp2_with (first|((with_reducible refine gate_dst (N:=9) rfl ?_);refine tab_event rfl rfl (tab_load0 (Kd.C_below GTfields.out au59) rfl) ?_)|((with_reducible refine gate_dst (N:=12) rfl ?_);refine tab_event rfl rfl (tab_index0 rfl rfl rfl (od au103) (od au103)) ?_)|((with_reducible refine gate_dst (N:=2) rfl ?_);refine box_event ?hg (N:=2) ?hd (cs:=#[.string aD,.int .i64 aA,.slice cK aN.length cL,.slice cH aQ.length cI,.string bB,.string bC,.string bD,.int .i64 aV,.int .i64 aY,.int .i64 bA,.bool aH,.int .i64 aI,.string aK,.string aM]) (t:=28) ?hr ?_;(case hd=>rfl);(case hg=>rfl);(case hr=>first|(go_simp;done)|(go_simp;rfl));intro dN hg w3 hbox hb;have bE:=am (hbox);have aM2:=am (bsz hg au59);have sE:=am (bsz hg au59);replace HB:=am (below_step au59 hb);clear hb hbox hg)|((with_reducible refine gate_dst (N:=3) rfl ?_);refine box_event ?hg (N:=3) ?hd (cs:=#[.string cA,.int .i64 bT,.slice eI bR.length eJ,.slice eK bS.length eL,.string cD,.string cE,.string cF,.int .i64 bW,.int .i64 bX,.int .i64 bZ,.bool bM,.int .i64 bO,.string bP,.string bN]) (t:=28) ?hr ?_;(case hd=>rfl);(case hg=>rfl);(case hr=>first|(go_simp;done)|(go_simp;rfl));intro dV hg w4 hbox hb;have bF:=am (hbox);have aM3:=am (bsz hg au51);have vX:=am (bsz hg au51);replace HB:=am (below_step au51 hb);have wG:=am (bne (g:=dN) hg au82);have wH:=am (ben (g:=dN) hg au82);replace bE:=am (blk_below (g:=dN) au82 hb);clear hb hbox hg)|((with_reducible refine gate_dst (N:=8) rfl ?_);refine Kd.R_lit Kd.string _ 9 ?hg (N:=8) ?hd (xs:=([]:List ByteArray)) (inner:=[]) (ok:=fun _=>True) (okp:=fun _=>True) ?hr ?hp (fun _ hk=>hk) trivial (Below.refl _ _) (Nat.le_refl _) (by simp) ?_;(case hd=>rfl);(case hg=>rfl);(case hr=>first|(go_simp;done)|(go_simp;rfl));(case hp=>exact (Reps.none _ _));intro aNi w5 ho6 hb hg_ hnew_;clear hg_ hnew_;(first|rw [← XV.out] at ho6|(simp only [Int.reduceToNat] at ho6;rw [← XV.out] at ho6));have acW:=am (Kd.R_lower ho6 (below_size au28));replace bE:=am (blk_below (g:=dN) au82 hb);replace bF:=am (blk_below (g:=dV) au83 hb);replace HB:=am (below_step au28 hb);clear hb ho6))
 go_loopg [5,10] k (fun kq v5 v10 w'=>∃ (bH:List ByteArray) (jN:Int),v10=.int .i64 jN∧Aside0 (impl_changedFields.l0 kq bH jN aD aA aN aQ bB bC bD aV aY bA aH aI aK aM cA bT bR bS cD cE cF bW bX bZ bM bO bP bN=some r)∧Aside0 (kq≤k)∧Aside0 (Kd.R Kd.string 9 w' w.heap.size (fun _=>True) v5 bH)∧Aside0 (w'.heap[dN]?=some (.cells #[.string aD,.int .i64 aA,(.slice cK aN.length cL),(.slice cH aQ.length cI),.string bB,.string bC,.string bD,.int .i64 aV,.int .i64 aY,.int .i64 bA,.bool aH,.int .i64 aI,.string aK,.string aM] 28 (0,0)))∧Aside0 (w'.heap[dV]?=some (.cells #[.string cA,.int .i64 bT,(.slice eI bR.length eJ),(.slice eK bS.length eL),.string cD,.string cE,.string cF,.int .i64 bW,.int .i64 bX,.int .i64 bZ,.bool bM,.int .i64 bO,.string bP,.string bN] 28 (0,0)))∧Aside0 (Below w.heap.size w w'))
 case atStart=>exact ⟨(a9I),(0),au104,H',⟨Nat.le_refl _⟩,⟨by (with_reducible repeat (first|apply Kd.R_alloc|apply Kd.R_drewN|apply Kd.R_drew));exact acW.out⟩,⟨by (with_reducible repeat (first|refine blk_drewN ?_ _|refine blk_drew ?_|refine blk_alloc ?_ _));exact bE.out⟩,⟨by (with_reducible repeat (first|refine blk_drewN ?_ _|refine blk_drew ?_|refine blk_alloc ?_ _));exact bF.out⟩,⟨by repeat (first|(with_reducible first|exact HB.out|apply below_alloc|apply pw_below_drewN|apply below_drew1|refine below_set ?_ sE.out|refine below_set ?_ vX.out)|exact HB.out)⟩⟩
 case round =>
  clear H'
  try clear c1
  try clear p2
  obtain ⟨bH,jN,rfl,HA,HK1,fY,bE,bF,HB⟩:=hrel
  cases gk with
  | zero=>exact absurd HA.out (by simp [impl_changedFields.l0])
  | succ k1 =>
   have H:=HA.out;clear HA;simp only [impl_changedFields.l0] at H;by_cases c7:jN<8
   ·
    rw [if_pos c7] at H;have c7b0:=dt c7;clear c7;by_cases c8:0≤jN
    ·
     rw [if_pos c8] at H;have c8b0:=dt c8;clear c8;replace H:=obz H;obtain ⟨PM,qP,H⟩:=H
     try dsimp only at H
     have A9:=am qP;clear qP;replace H:=obz H;obtain ⟨PN,kC,H⟩:=H
     try dsimp only at H
     have nO:=am kC;clear kC;by_cases cO:PM.toList=PN.toList
     ·
      rw [if_pos cO] at H;have c11b0:=qt cO;have c11b1:=bfz cO;clear cO;have H':=am H;clear H
      try go_wp2_with (first|((with_reducible refine gate_dst (N:=9) rfl ?_);refine tab_event rfl rfl (tab_load0 (Kd.C_below GTfields.out au59) rfl) ?_)|((with_reducible refine gate_dst (N:=12) rfl ?_);refine tab_event rfl rfl (tab_index0 rfl rfl rfl (od au103) (od au103)) ?_))
      replace fY:=am (Kd.R_drew fY.out);replace bE:=am (blk_drew bE.out);replace bF:=am (blk_drew bF.out);replace HB:=am (below_drew1 HB.out);refine start_ (n:=7) (S:=fun w'=>w'.cell? ⟨dN,0,none⟩=some (.string aD)∧w'.cell? ⟨dN,1,none⟩=some (.int .i64 aA)∧w'.cell? ⟨dN,2,none⟩=some (.slice cK aN.length cL)∧w'.cell? ⟨dN,3,none⟩=some (.slice cH aQ.length cI)∧w'.cell? ⟨dN,4,none⟩=some (.string bB)∧w'.cell? ⟨dN,5,none⟩=some (.string bC)∧w'.cell? ⟨dN,6,none⟩=some (.string bD)∧w'.cell? ⟨dN,7,none⟩=some (.int .i64 aV)∧w'.cell? ⟨dN,8,none⟩=some (.int .i64 aY)∧w'.cell? ⟨dN,9,none⟩=some (.int .i64 bA)∧w'.cell? ⟨dN,10,none⟩=some (.bool aH)∧w'.cell? ⟨dN,11,none⟩=some (.int .i64 aI)∧w'.cell? ⟨dN,12,none⟩=some (.string aK)∧w'.cell? ⟨dN,13,none⟩=some (.string aM)∧w'.cell? ⟨dV,0,none⟩=some (.string cA)∧w'.cell? ⟨dV,1,none⟩=some (.int .i64 bT)∧w'.cell? ⟨dV,2,none⟩=some (.slice eI bR.length eJ)∧w'.cell? ⟨dV,3,none⟩=some (.slice eK bS.length eL)∧w'.cell? ⟨dV,4,none⟩=some (.string cD)∧w'.cell? ⟨dV,5,none⟩=some (.string cE)∧w'.cell? ⟨dV,6,none⟩=some (.string cF)∧w'.cell? ⟨dV,7,none⟩=some (.int .i64 bW)∧w'.cell? ⟨dV,8,none⟩=some (.int .i64 bX)∧w'.cell? ⟨dV,9,none⟩=some (.int .i64 bZ)∧w'.cell? ⟨dV,10,none⟩=some (.bool bM)∧w'.cell? ⟨dV,11,none⟩=some (.int .i64 bO)∧w'.cell? ⟨dV,12,none⟩=some (.string bP)∧w'.cell? ⟨dV,13,none⟩=some (.string bN)) (ds:=[]) #[false,false,false,false,false,false,false] (by kernel_rfl) rfl rfl ⟨(blk_cell bE.out 0).trans rfl,(blk_cell bE.out 1).trans rfl,(blk_cell bE.out 2).trans rfl,(blk_cell bE.out 3).trans rfl,(blk_cell bE.out 4).trans rfl,(blk_cell bE.out 5).trans rfl,(blk_cell bE.out 6).trans rfl,(blk_cell bE.out 7).trans rfl,(blk_cell bE.out 8).trans rfl,(blk_cell bE.out 9).trans rfl,(blk_cell bE.out 10).trans rfl,(blk_cell bE.out 11).trans rfl,(blk_cell bE.out 12).trans rfl,(blk_cell bE.out 13).trans rfl,(blk_cell bF.out 0).trans rfl,(blk_cell bF.out 1).trans rfl,(blk_cell bF.out 2).trans rfl,(blk_cell bF.out 3).trans rfl,(blk_cell bF.out 4).trans rfl,(blk_cell bF.out 5).trans rfl,(blk_cell bF.out 6).trans rfl,(blk_cell bF.out 7).trans rfl,(blk_cell bF.out 8).trans rfl,(blk_cell bF.out 9).trans rfl,(blk_cell bF.out 10).trans rfl,(blk_cell bF.out 11).trans rfl,(blk_cell bF.out 12).trans rfl,(blk_cell bF.out 13).trans rfl⟩ (fun hHeld=>?_);generalize wr.drew=EX at fY bE bF HB hHeld ⊢;refine pure_ (i:=1) (N:=some 14) (v:=?_) (a':=?_) #[false,true,false,false,false,false,false] rfl rfl (by kernel_rfl) (fun _ _ _ h=>h) (Or.inl ⟨by rfl,?_⟩) ?_ ?_
      rotate_left
      ·
       intro w'
       go_simp
       with_reducible rfl
      rotate_left
      · simp only [Act.put,List.setIfInBounds_toArray,List.set_cons_zero,List.set_cons_succ,i64_w,i32_w];rfl
      refine pure_ (i:=4) (N:=some 17) (v:=?_) (a':=?_) #[false,true,false,false,true,false,false] rfl rfl (by kernel_rfl) (fun _ _ _ h=>h) (Or.inl ⟨by rfl,?_⟩) ?_ ?_
      rotate_left
      ·
       intro w'
       go_simp
       with_reducible rfl
      rotate_left
      · simp only [Act.put,List.setIfInBounds_toArray,List.set_cons_zero,List.set_cons_succ,i64_w,i32_w];rfl
      refine take_ (i:=0) (N:=some 13) (v:=?_) (a':=?_) #[true,true,false,false,true,false,false] rfl rfl (by kernel_rfl) (fun _ _ _ h=>h) (Or.inl ⟨by rfl,?_⟩) hHeld ?_ ?_
      rotate_left
      ·
       rintro w' ⟨s0,s1,s2,s3,s4,s5,s6,s7,s8,s9,wR,wT,wU,wV,X8,s15,s16,s17,s18,s19,s20,s21,s22,s23,s24,s25,s26,s27⟩
       go_simp
       with_reducible rfl
      rotate_left
      · simp only [Act.put,List.setIfInBounds_toArray,List.set_cons_zero,List.set_cons_succ,i64_w,i32_w];rfl
      refine take_ (i:=3) (N:=some 16) (v:=?_) (a':=?_) #[true,true,false,true,true,false,false] rfl rfl (by kernel_rfl) (fun _ _ _ h=>h) (Or.inl ⟨by rfl,?_⟩) hHeld ?_ ?_
      rotate_left
      ·
       rintro w' ⟨s0,s1,s2,s3,s4,s5,s6,s7,s8,s9,wR,wT,wU,wV,X8,s15,s16,s17,s18,s19,s20,s21,s22,s23,s24,s25,s26,s27⟩
       go_simp
       with_reducible rfl
      rotate_left
      · simp only [Act.put,List.setIfInBounds_toArray,List.set_cons_zero,List.set_cons_succ,i64_w,i32_w];rfl
      refine one_ (i:=2) (N:=some 15) #[true,true,true,true,true,false,false] rfl rfl (by kernel_rfl) (by decide) (fun K hK=>?_);refine gs_ Tryz.func34 #[.agg #[.string aD,.int .i64 aA,.slice cK aN.length cL,.slice cH aQ.length cI,.string bB,.string bC,.string bD,.int .i64 aV,.int .i64 aY,.int .i64 bA,.bool aH,.int .i64 aI,.string aK,.string aM],.string (rdOf ByteArray.empty fieldsL jN)] ?_
      with_reducible refine (impl_fieldText.calls (hG:=au6) k1 aD aA _ _ aN _ _ aQ bB bC bD aV aY bA aH aI aK aM (rdOf ByteArray.empty fieldsL jN) PM _ ?aE ?aG ?bU ?bV A9.out).mono ?_
      (case aE=>repeat (first|exact (Kd.C_below fJ.out HB.out)|(with_reducible refine Kd.C_alloc ?_ _)|(with_reducible refine Kd.C_drewN ?_ _)|(with_reducible refine Kd.C_drew ?_)))
      (case aG=>exact fK.out)
      (case bU=>repeat (first|exact (Kd.C_below gB.out HB.out)|(with_reducible refine Kd.C_alloc ?_ _)|(with_reducible refine Kd.C_drewN ?_ _)|(with_reducible refine Kd.C_drew ?_)))
      (case bV=>exact gC.out)
      rintro e Jq ⟨rfl,hb⟩;refine ⟨_,rfl,?_⟩;replace fY:=am (Kd.R_below au97 hb);replace bE:=am (blk_below (g:=dN) au82 hb);replace bF:=am (blk_below (g:=dV) au83 hb);replace HB:=am (below_step au28 hb)
      (try clear hb)
      refine hK.out _ _ ⟨(blk_cell bE.out 0).trans rfl,(blk_cell bE.out 1).trans rfl,(blk_cell bE.out 2).trans rfl,(blk_cell bE.out 3).trans rfl,(blk_cell bE.out 4).trans rfl,(blk_cell bE.out 5).trans rfl,(blk_cell bE.out 6).trans rfl,(blk_cell bE.out 7).trans rfl,(blk_cell bE.out 8).trans rfl,(blk_cell bE.out 9).trans rfl,(blk_cell bE.out 10).trans rfl,(blk_cell bE.out 11).trans rfl,(blk_cell bE.out 12).trans rfl,(blk_cell bE.out 13).trans rfl,(blk_cell bF.out 0).trans rfl,(blk_cell bF.out 1).trans rfl,(blk_cell bF.out 2).trans rfl,(blk_cell bF.out 3).trans rfl,(blk_cell bF.out 4).trans rfl,(blk_cell bF.out 5).trans rfl,(blk_cell bF.out 6).trans rfl,(blk_cell bF.out 7).trans rfl,(blk_cell bF.out 8).trans rfl,(blk_cell bF.out 9).trans rfl,(blk_cell bF.out 10).trans rfl,(blk_cell bF.out 11).trans rfl,(blk_cell bF.out 12).trans rfl,(blk_cell bF.out 13).trans rfl⟩ (fun hHeld=>?_);clear hK K;refine no_ (some 15) ?_;refine one_ (i:=5) (N:=some 18) #[true,true,true,true,true,true,false] rfl rfl (by kernel_rfl) (by decide) (fun K hK=>?_);refine gs_ Tryz.func34 #[.agg #[.string cA,.int .i64 bT,.slice eI bR.length eJ,.slice eK bS.length eL,.string cD,.string cE,.string cF,.int .i64 bW,.int .i64 bX,.int .i64 bZ,.bool bM,.int .i64 bO,.string bP,.string bN],.string (rdOf ByteArray.empty fieldsL jN)] ?_
      with_reducible refine (impl_fieldText.calls (hG:=au6) k1 cA bT _ _ bR _ _ bS cD cE cF bW bX bZ bM bO bP bN (rdOf ByteArray.empty fieldsL jN) PN _ ?aE ?aG ?bU ?bV nO.out).mono ?_
      (case aE=>repeat (first|exact (Kd.C_below nC.out HB.out)|(with_reducible refine Kd.C_alloc ?_ _)|(with_reducible refine Kd.C_drewN ?_ _)|(with_reducible refine Kd.C_drew ?_)))
      (case aG=>exact nD.out)
      (case bU=>repeat (first|exact (Kd.C_below oW.out HB.out)|(with_reducible refine Kd.C_alloc ?_ _)|(with_reducible refine Kd.C_drewN ?_ _)|(with_reducible refine Kd.C_drew ?_)))
      (case bV=>exact oX.out)
      rintro e QR ⟨rfl,hb⟩;refine ⟨_,rfl,?_⟩;replace fY:=am (Kd.R_below au97 hb);replace bE:=am (blk_below (g:=dN) au82 hb);replace bF:=am (blk_below (g:=dV) au83 hb);replace HB:=am (below_step au28 hb)
      (try clear hb)
      refine hK.out _ _ ⟨(blk_cell bE.out 0).trans rfl,(blk_cell bE.out 1).trans rfl,(blk_cell bE.out 2).trans rfl,(blk_cell bE.out 3).trans rfl,(blk_cell bE.out 4).trans rfl,(blk_cell bE.out 5).trans rfl,(blk_cell bE.out 6).trans rfl,(blk_cell bE.out 7).trans rfl,(blk_cell bE.out 8).trans rfl,(blk_cell bE.out 9).trans rfl,(blk_cell bE.out 10).trans rfl,(blk_cell bE.out 11).trans rfl,(blk_cell bE.out 12).trans rfl,(blk_cell bE.out 13).trans rfl,(blk_cell bF.out 0).trans rfl,(blk_cell bF.out 1).trans rfl,(blk_cell bF.out 2).trans rfl,(blk_cell bF.out 3).trans rfl,(blk_cell bF.out 4).trans rfl,(blk_cell bF.out 5).trans rfl,(blk_cell bF.out 6).trans rfl,(blk_cell bF.out 7).trans rfl,(blk_cell bF.out 8).trans rfl,(blk_cell bF.out 9).trans rfl,(blk_cell bF.out 10).trans rfl,(blk_cell bF.out 11).trans rfl,(blk_cell bF.out 12).trans rfl,(blk_cell bF.out 13).trans rfl⟩ (fun hHeld=>?_);clear hK K;refine no_ (some 18) ?_;refine pure_ (i:=6) (N:=some 19) (v:=?_) (a':=?_) #[true,true,true,true,true,true,true] rfl rfl (by kernel_rfl) (fun _ _ _ h=>h) (Or.inl ⟨by rfl,?_⟩) ?_ ?_
      rotate_left
      ·
       intro w'
       go_simp
       with_reducible rfl
      rotate_left
      · simp only [Act.put,List.setIfInBounds_toArray,List.set_cons_zero,List.set_cons_succ,i64_w,i32_w];rfl
      refine done_ (by kernel_rfl) ?_;exact impl_changedFields.L1
     ·
      rw [if_neg cO] at H;have c11b0:=qf cO;have c11b1:=bu cO;by_cases dJ:bH.length<8796093022208
      ·
       rw [if_pos dJ] at H;have acQ:=am dJ;clear dJ
       obtain ⟨a9G,Ks⟩:∃ y_:List ByteArray,y_=(bH++[rdOf ByteArray.empty fieldsL jN]):=⟨_,rfl⟩
       replace H:(impl_changedFields.l0 k1 a9G (wrap64 (jN+1)) aD aA aN aQ bB bC bD aV aY bA aH aI aK aM cA bT bR bS cD cE cF bW bX bZ bM bO bP bN)=some r:=by first|(rw [Ks];with_reducible exact H)|(have H2_:=(Option.bind_some _ _).symm.trans H;rw [Ks];with_reducible exact H2_)|(have H2_:=(Option.bind_some _ _).symm.trans H;with_reducible exact H2_)|with_reducible exact H|(rw [Ks];exact H)|exact H
       have acR:=am Ks;clear Ks;have H':=am H;clear H
       try go_wp2_with (first|((with_reducible refine gate_dst (N:=9) rfl ?_);refine tab_event rfl rfl (tab_load0 (Kd.C_below GTfields.out au59) rfl) ?_)|((with_reducible refine gate_dst (N:=12) rfl ?_);refine tab_event rfl rfl (tab_index0 rfl rfl rfl (od au103) (od au103)) ?_))
       replace fY:=am (Kd.R_drew fY.out);replace bE:=am (blk_drew bE.out);replace bF:=am (blk_drew bF.out);replace HB:=am (below_drew1 HB.out);refine start_ (n:=7) (S:=fun w'=>w'.cell? ⟨dN,0,none⟩=some (.string aD)∧w'.cell? ⟨dN,1,none⟩=some (.int .i64 aA)∧w'.cell? ⟨dN,2,none⟩=some (.slice cK aN.length cL)∧w'.cell? ⟨dN,3,none⟩=some (.slice cH aQ.length cI)∧w'.cell? ⟨dN,4,none⟩=some (.string bB)∧w'.cell? ⟨dN,5,none⟩=some (.string bC)∧w'.cell? ⟨dN,6,none⟩=some (.string bD)∧w'.cell? ⟨dN,7,none⟩=some (.int .i64 aV)∧w'.cell? ⟨dN,8,none⟩=some (.int .i64 aY)∧w'.cell? ⟨dN,9,none⟩=some (.int .i64 bA)∧w'.cell? ⟨dN,10,none⟩=some (.bool aH)∧w'.cell? ⟨dN,11,none⟩=some (.int .i64 aI)∧w'.cell? ⟨dN,12,none⟩=some (.string aK)∧w'.cell? ⟨dN,13,none⟩=some (.string aM)∧w'.cell? ⟨dV,0,none⟩=some (.string cA)∧w'.cell? ⟨dV,1,none⟩=some (.int .i64 bT)∧w'.cell? ⟨dV,2,none⟩=some (.slice eI bR.length eJ)∧w'.cell? ⟨dV,3,none⟩=some (.slice eK bS.length eL)∧w'.cell? ⟨dV,4,none⟩=some (.string cD)∧w'.cell? ⟨dV,5,none⟩=some (.string cE)∧w'.cell? ⟨dV,6,none⟩=some (.string cF)∧w'.cell? ⟨dV,7,none⟩=some (.int .i64 bW)∧w'.cell? ⟨dV,8,none⟩=some (.int .i64 bX)∧w'.cell? ⟨dV,9,none⟩=some (.int .i64 bZ)∧w'.cell? ⟨dV,10,none⟩=some (.bool bM)∧w'.cell? ⟨dV,11,none⟩=some (.int .i64 bO)∧w'.cell? ⟨dV,12,none⟩=some (.string bP)∧w'.cell? ⟨dV,13,none⟩=some (.string bN)) (ds:=[]) #[false,false,false,false,false,false,false] (by kernel_rfl) rfl rfl ⟨(blk_cell bE.out 0).trans rfl,(blk_cell bE.out 1).trans rfl,(blk_cell bE.out 2).trans rfl,(blk_cell bE.out 3).trans rfl,(blk_cell bE.out 4).trans rfl,(blk_cell bE.out 5).trans rfl,(blk_cell bE.out 6).trans rfl,(blk_cell bE.out 7).trans rfl,(blk_cell bE.out 8).trans rfl,(blk_cell bE.out 9).trans rfl,(blk_cell bE.out 10).trans rfl,(blk_cell bE.out 11).trans rfl,(blk_cell bE.out 12).trans rfl,(blk_cell bE.out 13).trans rfl,(blk_cell bF.out 0).trans rfl,(blk_cell bF.out 1).trans rfl,(blk_cell bF.out 2).trans rfl,(blk_cell bF.out 3).trans rfl,(blk_cell bF.out 4).trans rfl,(blk_cell bF.out 5).trans rfl,(blk_cell bF.out 6).trans rfl,(blk_cell bF.out 7).trans rfl,(blk_cell bF.out 8).trans rfl,(blk_cell bF.out 9).trans rfl,(blk_cell bF.out 10).trans rfl,(blk_cell bF.out 11).trans rfl,(blk_cell bF.out 12).trans rfl,(blk_cell bF.out 13).trans rfl⟩ (fun hHeld=>?_);generalize wr.drew=Ey at fY bE bF HB hHeld ⊢;refine pure_ (i:=1) (N:=some 14) (v:=?_) (a':=?_) #[false,true,false,false,false,false,false] rfl rfl (by kernel_rfl) (fun _ _ _ h=>h) (Or.inl ⟨by rfl,?_⟩) ?_ ?_
       rotate_left
       ·
        intro w'
        go_simp
        with_reducible rfl
       rotate_left
       · simp only [Act.put,List.setIfInBounds_toArray,List.set_cons_zero,List.set_cons_succ,i64_w,i32_w];rfl
       refine pure_ (i:=4) (N:=some 17) (v:=?_) (a':=?_) #[false,true,false,false,true,false,false] rfl rfl (by kernel_rfl) (fun _ _ _ h=>h) (Or.inl ⟨by rfl,?_⟩) ?_ ?_
       rotate_left
       ·
        intro w'
        go_simp
        with_reducible rfl
       rotate_left
       · simp only [Act.put,List.setIfInBounds_toArray,List.set_cons_zero,List.set_cons_succ,i64_w,i32_w];rfl
       refine take_ (i:=0) (N:=some 13) (v:=?_) (a':=?_) #[true,true,false,false,true,false,false] rfl rfl (by kernel_rfl) (fun _ _ _ h=>h) (Or.inl ⟨by rfl,?_⟩) hHeld ?_ ?_
       rotate_left
       ·
        rintro w' ⟨s0,s1,s2,s3,s4,s5,s6,s7,s8,s9,wR,wT,wU,wV,X8,s15,s16,s17,s18,s19,s20,s21,s22,s23,s24,s25,s26,s27⟩
        go_simp
        with_reducible rfl
       rotate_left
       · simp only [Act.put,List.setIfInBounds_toArray,List.set_cons_zero,List.set_cons_succ,i64_w,i32_w];rfl
       refine take_ (i:=3) (N:=some 16) (v:=?_) (a':=?_) #[true,true,false,true,true,false,false] rfl rfl (by kernel_rfl) (fun _ _ _ h=>h) (Or.inl ⟨by rfl,?_⟩) hHeld ?_ ?_
       rotate_left
       ·
        rintro w' ⟨s0,s1,s2,s3,s4,s5,s6,s7,s8,s9,wR,wT,wU,wV,X8,s15,s16,s17,s18,s19,s20,s21,s22,s23,s24,s25,s26,s27⟩
        go_simp
        with_reducible rfl
       rotate_left
       · simp only [Act.put,List.setIfInBounds_toArray,List.set_cons_zero,List.set_cons_succ,i64_w,i32_w];rfl
       refine one_ (i:=2) (N:=some 15) #[true,true,true,true,true,false,false] rfl rfl (by kernel_rfl) (by decide) (fun K hK=>?_);refine gs_ Tryz.func34 #[.agg #[.string aD,.int .i64 aA,.slice cK aN.length cL,.slice cH aQ.length cI,.string bB,.string bC,.string bD,.int .i64 aV,.int .i64 aY,.int .i64 bA,.bool aH,.int .i64 aI,.string aK,.string aM],.string (rdOf ByteArray.empty fieldsL jN)] ?_
       with_reducible refine (impl_fieldText.calls (hG:=au6) k1 aD aA _ _ aN _ _ aQ bB bC bD aV aY bA aH aI aK aM (rdOf ByteArray.empty fieldsL jN) PM _ ?aE ?aG ?bU ?bV A9.out).mono ?_
       (case aE=>repeat (first|exact (Kd.C_below fJ.out HB.out)|(with_reducible refine Kd.C_alloc ?_ _)|(with_reducible refine Kd.C_drewN ?_ _)|(with_reducible refine Kd.C_drew ?_)))
       (case aG=>exact fK.out)
       (case bU=>repeat (first|exact (Kd.C_below gB.out HB.out)|(with_reducible refine Kd.C_alloc ?_ _)|(with_reducible refine Kd.C_drewN ?_ _)|(with_reducible refine Kd.C_drew ?_)))
       (case bV=>exact gC.out)
       rintro e Ug ⟨rfl,hb⟩;refine ⟨_,rfl,?_⟩;replace fY:=am (Kd.R_below au97 hb);replace bE:=am (blk_below (g:=dN) au82 hb);replace bF:=am (blk_below (g:=dV) au83 hb);replace HB:=am (below_step au28 hb)
       (try clear hb)
       refine hK.out _ _ ⟨(blk_cell bE.out 0).trans rfl,(blk_cell bE.out 1).trans rfl,(blk_cell bE.out 2).trans rfl,(blk_cell bE.out 3).trans rfl,(blk_cell bE.out 4).trans rfl,(blk_cell bE.out 5).trans rfl,(blk_cell bE.out 6).trans rfl,(blk_cell bE.out 7).trans rfl,(blk_cell bE.out 8).trans rfl,(blk_cell bE.out 9).trans rfl,(blk_cell bE.out 10).trans rfl,(blk_cell bE.out 11).trans rfl,(blk_cell bE.out 12).trans rfl,(blk_cell bE.out 13).trans rfl,(blk_cell bF.out 0).trans rfl,(blk_cell bF.out 1).trans rfl,(blk_cell bF.out 2).trans rfl,(blk_cell bF.out 3).trans rfl,(blk_cell bF.out 4).trans rfl,(blk_cell bF.out 5).trans rfl,(blk_cell bF.out 6).trans rfl,(blk_cell bF.out 7).trans rfl,(blk_cell bF.out 8).trans rfl,(blk_cell bF.out 9).trans rfl,(blk_cell bF.out 10).trans rfl,(blk_cell bF.out 11).trans rfl,(blk_cell bF.out 12).trans rfl,(blk_cell bF.out 13).trans rfl⟩ (fun hHeld=>?_);clear hK K;refine no_ (some 15) ?_;refine one_ (i:=5) (N:=some 18) #[true,true,true,true,true,true,false] rfl rfl (by kernel_rfl) (by decide) (fun K hK=>?_);refine gs_ Tryz.func34 #[.agg #[.string cA,.int .i64 bT,.slice eI bR.length eJ,.slice eK bS.length eL,.string cD,.string cE,.string cF,.int .i64 bW,.int .i64 bX,.int .i64 bZ,.bool bM,.int .i64 bO,.string bP,.string bN],.string (rdOf ByteArray.empty fieldsL jN)] ?_
       with_reducible refine (impl_fieldText.calls (hG:=au6) k1 cA bT _ _ bR _ _ bS cD cE cF bW bX bZ bM bO bP bN (rdOf ByteArray.empty fieldsL jN) PN _ ?aE ?aG ?bU ?bV nO.out).mono ?_
       (case aE=>repeat (first|exact (Kd.C_below nC.out HB.out)|(with_reducible refine Kd.C_alloc ?_ _)|(with_reducible refine Kd.C_drewN ?_ _)|(with_reducible refine Kd.C_drew ?_)))
       (case aG=>exact nD.out)
       (case bU=>repeat (first|exact (Kd.C_below oW.out HB.out)|(with_reducible refine Kd.C_alloc ?_ _)|(with_reducible refine Kd.C_drewN ?_ _)|(with_reducible refine Kd.C_drew ?_)))
       (case bV=>exact oX.out)
       rintro e NO ⟨rfl,hb⟩;refine ⟨_,rfl,?_⟩;replace fY:=am (Kd.R_below au97 hb);replace bE:=am (blk_below (g:=dN) au82 hb);replace bF:=am (blk_below (g:=dV) au83 hb);replace HB:=am (below_step au28 hb)
       (try clear hb)
       refine hK.out _ _ ⟨(blk_cell bE.out 0).trans rfl,(blk_cell bE.out 1).trans rfl,(blk_cell bE.out 2).trans rfl,(blk_cell bE.out 3).trans rfl,(blk_cell bE.out 4).trans rfl,(blk_cell bE.out 5).trans rfl,(blk_cell bE.out 6).trans rfl,(blk_cell bE.out 7).trans rfl,(blk_cell bE.out 8).trans rfl,(blk_cell bE.out 9).trans rfl,(blk_cell bE.out 10).trans rfl,(blk_cell bE.out 11).trans rfl,(blk_cell bE.out 12).trans rfl,(blk_cell bE.out 13).trans rfl,(blk_cell bF.out 0).trans rfl,(blk_cell bF.out 1).trans rfl,(blk_cell bF.out 2).trans rfl,(blk_cell bF.out 3).trans rfl,(blk_cell bF.out 4).trans rfl,(blk_cell bF.out 5).trans rfl,(blk_cell bF.out 6).trans rfl,(blk_cell bF.out 7).trans rfl,(blk_cell bF.out 8).trans rfl,(blk_cell bF.out 9).trans rfl,(blk_cell bF.out 10).trans rfl,(blk_cell bF.out 11).trans rfl,(blk_cell bF.out 12).trans rfl,(blk_cell bF.out 13).trans rfl⟩ (fun hHeld=>?_);clear hK K;refine no_ (some 18) ?_;refine pure_ (i:=6) (N:=some 19) (v:=?_) (a':=?_) #[true,true,true,true,true,true,true] rfl rfl (by kernel_rfl) (fun _ _ _ h=>h) (Or.inl ⟨by rfl,?_⟩) ?_ ?_
       rotate_left
       ·
        intro w'
        go_simp
        with_reducible rfl
       rotate_left
       · simp only [Act.put,List.setIfInBounds_toArray,List.set_cons_zero,List.set_cons_succ,i64_w,i32_w];rfl
       refine done_ (by kernel_rfl) ?_;exact impl_changedFields.L1
      · rw [if_neg dJ] at H;exact absurd H (by simp)
    · rw [if_neg c8] at H;exact absurd H (by simp)
   ·
    rw [if_neg c7] at H;have c7b0:=df c7;clear c7;have IH:=am H;clear H;have aM4:=wG.out;have aM5:=wH.out;obtain ⟨uS,uT,uU,uV,Gw,Gx,Gy,Gz,GA,GB,E4,E5,E6,E7,uW,uX,uY,uZ,GC,GD,GE,GF,GG,GH,E8,E9,Ea,Eb⟩:=blkc14 bE.out;obtain ⟨D9,Da,Db,Dc,T7,Ta,Tb,Tc,Td,Te,PO,PP,PQ,PR,Dd,De,Df,Dg,Tf,Tg,Ti,Tj,Tk,Tl,PS,PT,PU,PV⟩:=blkc14 bF.out
    go_upto_if 29 with (fail)
    go_cut [5] (fun v5 wc=>∃ (kq:Nat) (wC:List ByteArray),Aside0 (impl_changedFields.j1 kq wC aD aA aN aQ bB bC bD aV aY bA aH aI aK aM cA bT bR bS cD cE cF bW bX bZ bM bO bP bN=some r)∧Aside0 (kq≤k1)∧Aside0 (Kd.R Kd.string 9 wc w.heap.size (fun _=>True) v5 wC)∧Aside0 (wc.heap[dN]?=some (.cells #[.string aD,.int .i64 aA,(.slice cK aN.length cL),(.slice cH aQ.length cI),.string bB,.string bC,.string bD,.int .i64 aV,.int .i64 aY,.int .i64 bA,.bool aH,.int .i64 aI,.string aK,.string aM] 28 (0,0)))∧Aside0 (wc.heap[dV]?=some (.cells #[.string cA,.int .i64 bT,(.slice eI bR.length eJ),(.slice eK bS.length eL),.string cD,.string cE,.string cF,.int .i64 bW,.int .i64 bX,.int .i64 bZ,.bool bM,.int .i64 bO,.string bP,.string bN] 28 (0,0)))∧Aside0 (Below w.heap.size w wc))
    case first =>
     have H:=IH.out;clear IH;by_cases nB:aM.toList=bN.toList
     ·
      rw [if_pos nB] at H;have c24b0:=qt nB;have c24b1:=bfz nB;clear nB
      (first|rw [c24b0]|(simp only [i64_w,i32_w];rw [c24b0])|skip)
      have H':=am H;clear H;exact impl_changedFields.L2
     ·
      rw [if_neg nB] at H;have c24b0:=qf nB;have c24b1:=bu nB
      (first|rw [c24b0]|(simp only [i64_w,i32_w];rw [c24b0])|skip)
      by_cases pR:bH.length<8796093022208
      ·
       rw [if_pos pR] at H;have acT:=am pR;clear pR
       obtain ⟨a9H,Kt⟩:∃ y_:List ByteArray,y_=(bH++[(⟨#[99,114,111,115,115]⟩:ByteArray)]):=⟨_,rfl⟩
       replace H:(impl_changedFields.j1 k1 a9H aD aA aN aQ bB bC bD aV aY bA aH aI aK aM cA bT bR bS cD cE cF bW bX bZ bM bO bP bN)=some r:=by first|(rw [Kt];with_reducible exact H)|(have H2_:=(Option.bind_some _ _).symm.trans H;rw [Kt];with_reducible exact H2_)|(have H2_:=(Option.bind_some _ _).symm.trans H;with_reducible exact H2_)|with_reducible exact H|(rw [Kt];exact H)|exact H
       have acU:=am Kt;clear Kt;have H':=am H;clear H;exact impl_changedFields.L2
      · rw [if_neg pR] at H;exact absurd H (by simp)
    case rest =>
     clear IH
     try clear c1
     try clear c2
     try clear p2
     try clear c3
     try clear p6
     try clear c7
     try clear c7b0
     try clear c8
     try clear c8b0
     try clear cO
     try clear c11b0
     try clear c11b1
     try clear dJ
     try clear dB
     try clear gT
     try clear nB
     try clear c24b0
     try clear c24b1
     try clear pR
     try clear uS uT E4 E5 E6 E7 uU uV Gw Gx Gy Gz GA GB uW uX E8 E9 Ea Eb uY uZ GC GD GE GF GG GH
     try clear D9 Da PO PP PQ PR Db Dc T7 Ta Tb Tc Td Te Dd De PS PT PU PV Df Dg Tf Tg Ti Tj Tk Tl
     try clear p2
     obtain ⟨kq,wC,HA,alP,fY,bE,bF,HB⟩:=hcut
     cases kq with
     | zero=>exact absurd HA.out (by simp [impl_changedFields.j1])
     | succ TW =>
      have H:=HA.out;clear HA;simp only [impl_changedFields.j1] at H;by_cases nG:aA=bT
      ·
       rw [if_pos nG] at H;have c27b0:=qt nG;have c27b1:=bfz nG;clear nG;by_cases kY:aD.toList=cA.toList
       · rw [if_pos kY] at H;have c28b0:=qt kY;have c28b1:=bfz kY;clear kY;obtain rfl:=ojz H;have abC:=wG.out;have abD:=wH.out;obtain ⟨tY,tZ,uA,uB,GW,GX,GY,GZ,H0,H1,Ek,El,Em,En,uC,uD,uE,uF,H2,H3,H4,H5,H6,H7,Eo,Ep,Er,Es⟩:=blkc14 bE.out;obtain ⟨BR,BS,BU,BV,Ml,Mm,Mn,Mo,Mp,Mq,II,IJ,IK,IL,BW,BX,BZ,C0,Mr,Ms,Mt,Mu,Mv,Mw,IM,IP,IQ,IR⟩:=blkc14 bF.out;exact impl_changedFields.L0
       ·
        rw [if_neg kY] at H;have c28b0:=qf kY;have c28b1:=bu kY;by_cases mP:wC.length<8796093022208
        ·
         rw [if_pos mP] at H;have U2:=am mP;clear mP
         obtain ⟨aqF,Ku⟩:∃ y_:List ByteArray,y_=(wC++[(⟨#[107,101,121]⟩:ByteArray)]):=⟨_,rfl⟩
         replace H:(some aqF)=some r:=by first|(rw [Ku];with_reducible exact H)|(have H2_:=(Option.bind_some _ _).symm.trans H;rw [Ku];with_reducible exact H2_)|(have H2_:=(Option.bind_some _ _).symm.trans H;with_reducible exact H2_)|with_reducible exact H|(rw [Ku];exact H)|exact H
         have acX:=am Ku;clear Ku;obtain rfl:=ojz H;have aM6:=wG.out;have aM7:=wH.out;obtain ⟨C1,C2,C3,C4,LV,LW,LX,LY,LZ,M0,Ip,Iq,Ir,It,C5,C6,C7,C8,M1,M2,M3,M4,M5,M6,Iu,Iv,Iw,Ix⟩:=blkc14 bE.out;obtain ⟨FT,FU,FV,FW,S8,S9,Sa,Sb,Sc,Sd,OW,OX,OY,OZ,FX,FY,FZ,G0,Se,Sf,Sg,Si,Sj,Sk,P0,P1,P2,P3⟩:=blkc14 bF.out;go_wp2_with (first|((with_reducible refine gate_dst (N:=9) rfl ?_);refine tab_event rfl rfl (tab_load0 (Kd.C_below GTfields.out au59) rfl) ?_)|((with_reducible refine gate_dst (N:=12) rfl ?_);refine tab_event rfl rfl (tab_index0 rfl rfl rfl (od au103) (od au103)) ?_)|((with_reducible refine gate_builtin (b:=.append) (xs:=#[.tmp 46,.tmp 47]) rfl ?_);at_builtin;refine Kd.R_append Kd.string (w0:=w) w.heap.size rfl (.tmp 46) (.tmp 47) 31 9 (.string ⟨#[]⟩) 16 rfl Tryz.underlying31 info9 rfl (by decide) (by omega) u5 wC (⟨#[107,101,121]⟩:ByteArray) [.string (⟨#[107,101,121]⟩:ByteArray)] (fun _=>True) (fun _=>False) rfl rfl ?aP (fun _ hk=>hk.elim) ?aF ?aO ?aB ?aS ?aL ?_;(case aP=>exact rfl);(case aB=>exact au28);(case aF=>exact (fun _ _=>trivial));(case aO=>exact au97);(case aS=>exact (below_size au28));(case aL=>have:=U2.out;omega);intro aNj w36 ho hb hg hat;rw [← acX.out] at ho;have dS:=am (blk_grown (g:=dN) (o:=.cells #[.string aD,.int .i64 aA,.slice cK aN.length cL,.slice cH aQ.length cI,.string bB,.string bC,.string bD,.int .i64 aV,.int .i64 aY,.int .i64 bA,.bool aH,.int .i64 aI,.string aK,.string aM] 28 (0,0)) au82 hg (Kd.R_ne fY.out bE.out (by decide)));have dT:=am (blk_grown (g:=dV) (o:=.cells #[.string cA,.int .i64 bT,.slice eI bR.length eJ,.slice eK bS.length eL,.string cD,.string cE,.string cF,.int .i64 bW,.int .i64 bX,.int .i64 bZ,.bool bM,.int .i64 bO,.string bP,.string bN] 28 (0,0)) au83 hg (Kd.R_ne fY.out bF.out (by decide)));have eG:=am (hb);have eQ:=am (ho);clear bE;clear bF;clear HB;clear fY;have bE:=dS;have bF:=dT;have HB:=eG;have acY:=eQ;clear dS dT eG eQ;clear ho hb hg hat));go_ret;exact ⟨_,by first|rfl|(simp [errW_none,errW_some] <;> rfl)|(simp [*,errW_none,errW_some] <;> rfl),by (with_reducible repeat (first|apply Kd.R_alloc|apply Kd.R_drewN|apply Kd.R_drew));exact acY.out,by repeat (first|(with_reducible first|exact HB.out|apply below_alloc|apply pw_below_drewN|apply below_drew1|refine below_set ?_ sE.out|refine below_set ?_ vX.out)|exact HB.out)⟩
        · rw [if_neg mP] at H;exact absurd H (by simp)
      ·
       rw [if_neg nG] at H;have c27b0:=qf nG;have c27b1:=bu nG;by_cases Cb:wC.length<8796093022208
       ·
        rw [if_pos Cb] at H;have XT:=am Cb;clear Cb
        obtain ⟨Bz,Kv⟩:∃ y_:List ByteArray,y_=(wC++[(⟨#[107,105,110,100]⟩:ByteArray)]):=⟨_,rfl⟩
        replace H:(if aD.toList=cA.toList then (some Bz) else (if Bz.length<8796093022208 then (some (Bz++[(⟨#[107,101,121]⟩:ByteArray)])) else (none)))=some r:=by first|(rw [Kv];with_reducible exact H)|(have H2_:=(Option.bind_some _ _).symm.trans H;rw [Kv];with_reducible exact H2_)|(have H2_:=(Option.bind_some _ _).symm.trans H;with_reducible exact H2_)|with_reducible exact H|(rw [Kv];exact H)|exact H
        have XU:=am Kv;clear Kv;by_cases kW:aD.toList=cA.toList
        · rw [if_pos kW] at H;have c38b0:=qt kW;have c38b1:=bfz kW;clear kW;obtain rfl:=ojz H;have abE:=wG.out;have abF:=wH.out;obtain ⟨aGU,aGV,aGW,aGX,aGY,aGZ,aH0,aH1,aH2,aH3,aqG,aqH,aqI,aqJ,aH4,aH5,aH6,aH7,aH8,aH9,aHa,aHb,aHc,aHd,aqK,aqL,aqM,aqN⟩:=blkc14 bE.out;obtain ⟨YZ,Z0,Z1,Z2,aHe,aHf,aHg,aHh,aHi,aHj,aqO,aqP,aqQ,aqR,Z3,Z4,Z5,Z6,aHk,aHl,aHm,aHn,aHo,aHp,aqS,aqT,aqU,aqV⟩:=blkc14 bF.out;exact impl_changedFields.L0
        ·
         rw [if_neg kW] at H;have c38b0:=qf kW;have c38b1:=bu kW;by_cases tT:Bz.length<8796093022208
         ·
          rw [if_pos tT] at H;have U7:=am tT;clear tT
          obtain ⟨aqW,Kw⟩:∃ y_:List ByteArray,y_=(Bz++[(⟨#[107,101,121]⟩:ByteArray)]):=⟨_,rfl⟩
          replace H:(some aqW)=some r:=by first|(rw [Kw];with_reducible exact H)|(have H2_:=(Option.bind_some _ _).symm.trans H;rw [Kw];with_reducible exact H2_)|(have H2_:=(Option.bind_some _ _).symm.trans H;with_reducible exact H2_)|with_reducible exact H|(rw [Kw];exact H)|exact H
          have acZ:=am Kw;clear Kw;obtain rfl:=ojz H;have aM8:=wG.out;have aM9:=wH.out;obtain ⟨aHq,aHr,aHs,aHt,aHu,aHv,aHw,aHx,aHy,aHz,aqX,aqY,aqZ,arA,aHA,aHB,aHC,aHD,aHE,aHF,aHG,aHH,aHI,aHJ,arB,arC,arD,arE⟩:=blkc14 bE.out;obtain ⟨aHK,aHL,aHM,aHN,aHO,aHP,aHQ,aHR,aHS,aHT,arF,arG,arH,arI,aHU,aHV,aHW,aHX,aHY,aHZ,aI0,aI1,aI2,aI3,arJ,arK,arL,arM⟩:=blkc14 bF.out;go_wp2_with (first|((with_reducible refine gate_dst (N:=9) rfl ?_);refine tab_event rfl rfl (tab_load0 (Kd.C_below GTfields.out au59) rfl) ?_)|((with_reducible refine gate_dst (N:=12) rfl ?_);refine tab_event rfl rfl (tab_index0 rfl rfl rfl (od au103) (od au103)) ?_)|((with_reducible refine gate_builtin (b:=.append) (xs:=#[.tmp 38,.tmp 39]) rfl ?_);at_builtin;refine Kd.R_append Kd.string (w0:=w) w.heap.size rfl (.tmp 38) (.tmp 39) 31 9 (.string ⟨#[]⟩) 16 rfl Tryz.underlying31 info9 rfl (by decide) (by omega) u5 wC (⟨#[107,105,110,100]⟩:ByteArray) [.string (⟨#[107,105,110,100]⟩:ByteArray)] (fun _=>True) (fun _=>False) rfl rfl ?aP (fun _ hk=>hk.elim) ?aF ?aO ?aB ?aS ?aL ?_;(case aP=>exact rfl);(case aB=>exact au28);(case aF=>exact (fun _ _=>trivial));(case aO=>exact au97);(case aS=>exact (below_size au28));(case aL=>have:=XT.out;omega);intro a9F w49 ho hb hg hat;rw [← XU.out] at ho;have dS:=am (blk_grown (g:=dN) (o:=.cells #[.string aD,.int .i64 aA,.slice cK aN.length cL,.slice cH aQ.length cI,.string bB,.string bC,.string bD,.int .i64 aV,.int .i64 aY,.int .i64 bA,.bool aH,.int .i64 aI,.string aK,.string aM] 28 (0,0)) au82 hg (Kd.R_ne fY.out bE.out (by decide)));have dT:=am (blk_grown (g:=dV) (o:=.cells #[.string cA,.int .i64 bT,.slice eI bR.length eJ,.slice eK bS.length eL,.string cD,.string cE,.string cF,.int .i64 bW,.int .i64 bX,.int .i64 bZ,.bool bM,.int .i64 bO,.string bP,.string bN] 28 (0,0)) au83 hg (Kd.R_ne fY.out bF.out (by decide)));have eG:=am (hb);have eQ:=am (ho);clear bE;clear bF;clear HB;clear fY;have bE:=dS;have bF:=dT;have HB:=eG;have Hc:=eQ;clear dS dT eG eQ;clear ho hb hg hat;obtain ⟨a3Q,a3R,a3S,a3T,a3U,a3V,a3W,a3X,a3Y,a3Z,WL,WM,WN,WO,a4A,a4B,a4C,a4D,a4E,a4F,a4G,a4H,a4I,a4J,WP,WQ,WR,WS⟩:=blkc14 bE.out;obtain ⟨R9,Ra,Rb,Rc,a4K,a4L,a4M,a4N,a4O,a4P,WT,WU,WV,WW,Re,Rf,Rh,Ri,a4Q,a4R,a4S,a4T,a4U,a4V,WX,WY,WZ,X0⟩:=blkc14 bF.out)|((with_reducible refine gate_builtin (b:=.append) (xs:=#[.tmp 46,.tmp 47]) rfl ?_);at_builtin;refine Kd.R_append Kd.string (w0:=w) w.heap.size rfl (.tmp 46) (.tmp 47) 31 9 (.string ⟨#[]⟩) 16 rfl Tryz.underlying31 info9 rfl (by decide) (by omega) a9F Bz (⟨#[107,101,121]⟩:ByteArray) [.string (⟨#[107,101,121]⟩:ByteArray)] (fun _=>True) (fun _=>False) rfl rfl ?aP (fun _ hk=>hk.elim) ?aF ?aO ?aB ?aS ?aL ?_;(case aP=>exact rfl);(case aB=>exact au28);(case aF=>exact (fun _ _=>trivial));(case aO=>exact (by (with_reducible repeat (first|apply Kd.R_alloc|apply Kd.R_drewN|apply Kd.R_drew));exact Hc.out));(case aS=>exact (below_size au28));(case aL=>have:=U7.out;omega);intro aNk w52 ho hb hg hat;rw [← acZ.out] at ho;have dS:=am (blk_grown (g:=dN) (o:=.cells #[.string aD,.int .i64 aA,.slice cK aN.length cL,.slice cH aQ.length cI,.string bB,.string bC,.string bD,.int .i64 aV,.int .i64 aY,.int .i64 bA,.bool aH,.int .i64 aI,.string aK,.string aM] 28 (0,0)) au82 hg (Kd.R_ne Hc.out bE.out (by decide)));have dT:=am (blk_grown (g:=dV) (o:=.cells #[.string cA,.int .i64 bT,.slice eI bR.length eJ,.slice eK bS.length eL,.string cD,.string cE,.string cF,.int .i64 bW,.int .i64 bX,.int .i64 bZ,.bool bM,.int .i64 bO,.string bP,.string bN] 28 (0,0)) au83 hg (Kd.R_ne Hc.out bF.out (by decide)));have eG:=am (hb);have eQ:=am (ho);clear bE;clear bF;clear HB;clear Hc;have bE:=dS;have bF:=dT;have HB:=eG;have adA:=eQ;clear dS dT eG eQ;clear ho hb hg hat));go_ret;exact ⟨_,by first|rfl|(simp [errW_none,errW_some] <;> rfl)|(simp [*,errW_none,errW_some] <;> rfl),by (with_reducible repeat (first|apply Kd.R_alloc|apply Kd.R_drewN|apply Kd.R_drew));exact adA.out,by repeat (first|(with_reducible first|exact HB.out|apply below_alloc|apply pw_below_drewN|apply below_drew1|refine below_set ?_ sE.out|refine below_set ?_ vX.out)|exact HB.out)⟩
         · rw [if_neg tT] at H;exact absurd H (by simp)
       · rw [if_neg Cb] at H;exact absurd H (by simp)
def impl_ChangedFields.f (k:Nat) (aD:ByteArray) (aA:Int) (aN:List (S68)) (aQ:List (S68)) (bB:ByteArray) (bC:ByteArray) (bD:ByteArray) (aV:Int) (aY:Int) (bA:Int) (aH:Bool) (aI:Int) (aK:ByteArray) (aM:ByteArray) (cA:ByteArray) (bT:Int) (bR:List (S68)) (bS:List (S68)) (cD:ByteArray) (cE:ByteArray) (cF:ByteArray) (bW:Int) (bX:Int) (bZ:Int) (bM:Bool) (bO:Int) (bP:ByteArray) (bN:ByteArray):Option (List ByteArray × Bool):=(impl_IsValidEntry.f k aD aA aN aQ bB bC bD aV aY bA aH aI aK aM).bind fun PW=>(if PW=true then ((impl_IsValidEntry.f k cA bT bR bS cD cE cF bW bX bZ bM bO bP bN).bind fun PX=>(if PX=true then ((impl_changedFields.f k aD aA aN aQ bB bC bD aV aY bA aH aI aK aM cA bT bR bS cD cE cF bW bX bZ bM bO bP bN).bind fun PY=>(some (PY,true))) else (some (([]:List ByteArray),false)))) else (some (([]:List ByteArray),false)))
theorem impl_ChangedFields.mono:∀ a0 a1 a2 a3 a4 a5 a6 a7 a8 a9 hJ hU hV hY nP AO AP AQ AR AU a20 a21 a22 a23 AV a25 AW AX k,LeO (impl_ChangedFields.f k a0 a1 a2 a3 a4 a5 a6 a7 a8 a9 hJ hU hV hY nP AO AP AQ AR AU a20 a21 a22 a23 AV a25 AW AX) (impl_ChangedFields.f (k+1) a0 a1 a2 a3 a4 a5 a6 a7 a8 a9 hJ hU hV hY nP AO AP AQ AR AU a20 a21 a22 a23 AV a25 AW AX):=by
 intro a0 a1 a2 a3 a4 a5 a6 a7 a8 a9 hJ hU hV hY nP AO AP AQ AR AU a20 a21 a22 a23 AV a25 AW AX k;unfold impl_ChangedFields.f
 repeat' first
   | (with_reducible exact impl_IsValidEntry.mono _ _ _ _ _ _ _ _ _ _ _ _ _ _ _)
   | (with_reducible exact impl_changedFields.mono _ _ _ _ _ _ _ _ _ _ _ _ _ _ _ _ _ _ _ _ _ _ _ _ _ _ _ _ _)
   | (with_reducible exact LeO.refl _)
   | (with_reducible exact LeO.none _)
   | (with_reducible refine LeO.ite ?_ ?_)
   | (with_reducible refine LeO.bind ?_ (fun _=>?_))
   | exact impl_IsValidEntry.mono _ _ _ _ _ _ _ _ _ _ _ _ _ _ _
   | exact impl_changedFields.mono _ _ _ _ _ _ _ _ _ _ _ _ _ _ _ _ _ _ _ _ _ _ _ _ _ _ _ _ _
   | exact LeO.none _
   | refine LeO.ite ?_ ?_
   | refine LeO.bind ?_ (fun _=>?_)
theorem impl_ChangedFields.calls (k:Nat) (aD:ByteArray) (aA:Int) (cK:Option Addr) (cL:Nat) (aN:List (S68)) (cH:Option Addr) (cI:Nat) (aQ:List (S68)) (bB:ByteArray) (bC:ByteArray) (bD:ByteArray) (aV:Int) (aY:Int) (bA:Int) (aH:Bool) (aI:Int) (aK:ByteArray) (aM:ByteArray) (cA:ByteArray) (bT:Int) (eI:Option Addr) (eJ:Nat) (bR:List (S68)) (eK:Option Addr) (eL:Nat) (bS:List (S68)) (cD:ByteArray) (cE:ByteArray) (cF:ByteArray) (bW:Int) (bX:Int) (bZ:Int) (bM:Bool) (bO:Int) (bP:ByteArray) (bN:ByteArray) (r1:List ByteArray) (r2:Bool) (w:World) {gF2:Bool} (hG:GL true gF2 true w) (gF:Kd.C k68 w cK aN.length aN) (gG:aN.length≤cL) (gH:Kd.C k68 w cH aQ.length aQ) (gI:aQ.length≤cI) (tM:Kd.C k68 w eI bR.length bR) (tN:bR.length≤eJ) (tP:Kd.C k68 w eK bS.length bS) (tQ:bS.length≤eL) (h:impl_ChangedFields.f k aD aA aN aQ bB bC bD aV aY bA aH aI aK aM cA bT bR bS cD cE cF bW bX bZ bM bO bP bN=some (r1,r2)) :
  Calls Tryz.prog 6 #[.agg #[.string aD,.int .i64 aA,.slice cK aN.length cL,.slice cH aQ.length cI,.string bB,.string bC,.string bD,.int .i64 aV,.int .i64 aY,.int .i64 bA,.bool aH,.int .i64 aI,.string aK,.string aM],.agg #[.string cA,.int .i64 bT,.slice eI bR.length eJ,.slice eK bS.length eL,.string cD,.string cE,.string cF,.int .i64 bW,.int .i64 bX,.int .i64 bZ,.bool bM,.int .i64 bO,.string bP,.string bN]] w fun e w'=>∃ gO:Value,e=.returned (.tuple #[gO,.bool r2])∧Kd.R Kd.string 9 w' w.heap.size (fun _=>True) gO r1∧Below w.heap.size w w':=by
 have HG:=am hG;clear hG;have hu28:=Tryz.underlying28;have fJ:=am gF;have fK:=am gG;clear gF gG;have gB:=am gH;have gC:=am gI;clear gH gI;have nC:=am tM;have nD:=am tN;clear tM tN;have oW:=am tP;have oX:=am tQ;clear tP tQ;have HB:=am (Below.refl w.heap.size w);have H:((impl_IsValidEntry.f k aD aA aN aQ bB bC bD aV aY bA aH aI aK aM).bind fun PW=>(if PW=true then ((impl_IsValidEntry.f k cA bT bR bS cD cE cF bW bX bZ bM bO bP bN).bind fun PX=>(if PX=true then ((impl_changedFields.f k aD aA aN aQ bB bC bD aV aY bA aH aI aK aM cA bT bR bS cD cE cF bW bX bZ bM bO bP bN).bind fun PY=>(some (PY,true))) else (some (([]:List ByteArray),false)))) else (some (([]:List ByteArray),false))))=some (r1,r2):=h;clear h;replace H:=obz H;obtain ⟨PW,dR,H⟩:=H
 try dsimp only at H
 have A3:=am dR;clear dR;by_cases c4:PW=true
 ·
  subst c4;replace H:=(if_pos rfl).symm.trans H;replace H:=obz H;obtain ⟨PX,nI,H⟩:=H
  try dsimp only at H
  have A5:=am nI;clear nI;by_cases c6:PX=true
  ·
   subst c6;replace H:=(if_pos rfl).symm.trans H;replace H:=obz H;obtain ⟨PY,kP,H⟩:=H
   try dsimp only at H
   have A7:=am kP;clear kP;simp only [Option.some.injEq,Prod.mk.injEq] at H;obtain ⟨rfl,rfl⟩:=H;go_enter Tryz.func6,Tryz.ntmps6;go_wp2_with (first|((with_reducible refine gate_dst (N:=2) rfl ?_);refine box_event ?hg (N:=2) ?hd (cs:=#[.string aD,.int .i64 aA,.slice cK aN.length cL,.slice cH aQ.length cI,.string bB,.string bC,.string bD,.int .i64 aV,.int .i64 aY,.int .i64 bA,.bool aH,.int .i64 aI,.string aK,.string aM]) (t:=28) ?hr ?_;(case hd=>rfl);(case hg=>rfl);(case hr=>first|(go_simp;done)|(go_simp;rfl));intro kS hg w8 hbox hb;have lC:=am (hbox);have XW:=am (bsz hg au59);have Dy:=am (bsz hg au59);replace HB:=am (below_step au59 hb);clear hb hbox hg)|((with_reducible refine gate_dst (N:=3) rfl ?_);refine box_event ?hg (N:=3) ?hd (cs:=#[.string cA,.int .i64 bT,.slice eI bR.length eJ,.slice eK bS.length eL,.string cD,.string cE,.string cF,.int .i64 bW,.int .i64 bX,.int .i64 bZ,.bool bM,.int .i64 bO,.string bP,.string bN]) (t:=28) ?hr ?_;(case hd=>rfl);(case hg=>rfl);(case hr=>first|(go_simp;done)|(go_simp;rfl));intro Bh hg w9 hbox hb;have pU:=am (hbox);have XX:=am (bsz hg au52);have Fz:=am (bsz hg au52);replace HB:=am (below_step au52 hb);have wI:=am (bne (g:=kS) hg au84);have wJ:=am (ben (g:=kS) hg au84);replace lC:=am (blk_below (g:=kS) au84 hb);clear hb hbox hg;have Xq:=wI.out;have Xr:=wJ.out;obtain ⟨jQ,jR,jS,jT,CW,CX,CY,CZ,D1,D2,AC,AD,AE,AF,jU,jV,jW,jX,D3,D4,D5,D6,D7,D8,AG,AH,AI,AJ⟩:=blkc14 lC.out)|((with_reducible refine gate_callee (f:=15) rfl ?_);refine goesL_ (some 7) rfl rfl Tryz.func15 (by kernel_rfl) rfl #[.agg #[.string aD,.int .i64 aA,.slice cK aN.length cL,.slice cH aQ.length cI,.string bB,.string bC,.string bD,.int .i64 aV,.int .i64 aY,.int .i64 bA,.bool aH,.int .i64 aI,.string aK,.string aM]] rfl au58 ?_;(with_reducible refine (impl_IsValidEntry.calls (hG:=au6) k aD aA _ _ aN _ _ aQ bB bC bD aV aY bA aH aI aK aM true _ ?aE ?aG ?bU ?bV A3.out).mono ?_);(case aE=>repeat (first|exact (Kd.C_below fJ.out HB.out)|(with_reducible refine Kd.C_alloc ?_ _)|(with_reducible refine Kd.C_drewN ?_ _)|(with_reducible refine Kd.C_drew ?_)));(case aG=>exact fK.out);(case bU=>repeat (first|exact (Kd.C_below gB.out HB.out)|(with_reducible refine Kd.C_alloc ?_ _)|(with_reducible refine Kd.C_drewN ?_ _)|(with_reducible refine Kd.C_drew ?_)));(case bV=>exact gC.out);rintro e EX ⟨rfl,hb⟩;refine ⟨_,rfl,?_⟩;replace lC:=am (blk_below (g:=kS) au84 hb);replace pU:=am (blk_below (g:=Bh) au85 hb);replace HB:=am (below_step au29 hb);(try clear hb);obtain ⟨qR,qS,qT,qU,Gg,Gh,Gi,Gj,Gk,Gm,DV,DW,DX,DY,qV,qW,qX,qY,Gn,Gp,Gq,Gr,Gs,Gt,DZ,E0,E1,E2⟩:=blkc14 pU.out)|(go_at_call 15;(with_reducible refine (impl_IsValidEntry.calls (hG:=au6) k cA bT _ _ bR _ _ bS cD cE cF bW bX bZ bM bO bP bN true _ ?aE ?aG ?bU ?bV A5.out).mono ?_);(case aE=>repeat (first|exact (Kd.C_below nC.out HB.out)|(with_reducible refine Kd.C_alloc ?_ _)|(with_reducible refine Kd.C_drewN ?_ _)|(with_reducible refine Kd.C_drew ?_)));(case aG=>exact nD.out);(case bU=>repeat (first|exact (Kd.C_below oW.out HB.out)|(with_reducible refine Kd.C_alloc ?_ _)|(with_reducible refine Kd.C_drewN ?_ _)|(with_reducible refine Kd.C_drew ?_)));(case bV=>exact oX.out);rintro e QR ⟨rfl,hb⟩;replace lC:=am (blk_below (g:=kS) au84 hb);replace pU:=am (blk_below (g:=Bh) au85 hb);replace HB:=am (below_step au29 hb);(try clear hb);obtain ⟨lQ,lR,lS,lT,CF,CG,CH,CI,CJ,CK,Au,Av,Aw,Ax,lU,lV,lW,lX,CL,CM,CN,CO,CP,CQ,Ay,Az,AA,AB⟩:=blkc14 lC.out;obtain ⟨Ck,Cl,Cm,Cn,aI4,aI5,aI6,aI7,aI8,aI9,arN,arO,arP,arQ,Co,Cp,Cq,Cr,aIa,aIb,aIc,aId,aIe,aIf,arR,arS,arT,arU⟩:=blkc14 pU.out)|((with_reducible refine gate_callee (f:=16) rfl ?_);refine goesL_ (some 16) rfl rfl Tryz.func16 (by kernel_rfl) rfl #[.agg #[.string aD,.int .i64 aA,.slice cK aN.length cL,.slice cH aQ.length cI,.string bB,.string bC,.string bD,.int .i64 aV,.int .i64 aY,.int .i64 bA,.bool aH,.int .i64 aI,.string aK,.string aM],.agg #[.string cA,.int .i64 bT,.slice eI bR.length eJ,.slice eK bS.length eL,.string cD,.string cE,.string cF,.int .i64 bW,.int .i64 bX,.int .i64 bZ,.bool bM,.int .i64 bO,.string bP,.string bN]] rfl au58 ?_;(with_reducible refine (impl_changedFields.calls (hG:=au6) k aD aA _ _ aN _ _ aQ bB bC bD aV aY bA aH aI aK aM cA bT _ _ bR _ _ bS cD cE cF bW bX bZ bM bO bP bN PY _ ?aE ?aG ?bU ?bV ?fG ?adB ?adC ?adD A7.out).mono ?_);(case aE=>repeat (first|exact (Kd.C_below fJ.out HB.out)|(with_reducible refine Kd.C_alloc ?_ _)|(with_reducible refine Kd.C_drewN ?_ _)|(with_reducible refine Kd.C_drew ?_)));(case aG=>exact fK.out);(case bU=>repeat (first|exact (Kd.C_below gB.out HB.out)|(with_reducible refine Kd.C_alloc ?_ _)|(with_reducible refine Kd.C_drewN ?_ _)|(with_reducible refine Kd.C_drew ?_)));(case bV=>exact gC.out);(case fG=>repeat (first|exact (Kd.C_below nC.out HB.out)|(with_reducible refine Kd.C_alloc ?_ _)|(with_reducible refine Kd.C_drewN ?_ _)|(with_reducible refine Kd.C_drew ?_)));(case adB=>exact nD.out);(case adC=>repeat (first|exact (Kd.C_below oW.out HB.out)|(with_reducible refine Kd.C_alloc ?_ _)|(with_reducible refine Kd.C_drewN ?_ _)|(with_reducible refine Kd.C_drew ?_)));(case adD=>exact oX.out);rintro e Ug ⟨aNl,rfl,ho0,hb⟩;refine ⟨_,rfl,?_⟩;have adE:=am (Kd.R_lower ho0 (below_size au29));replace lC:=am (blk_below (g:=kS) au84 hb);replace pU:=am (blk_below (g:=Bh) au85 hb);replace HB:=am (below_step au29 hb);(try clear hb);(try clear ho0)));go_ret2;exact ⟨_,by first|rfl|(simp [errW_none,errW_some] <;> rfl)|(simp [*,errW_none,errW_some] <;> rfl),by (with_reducible repeat (first|apply Kd.R_alloc|apply Kd.R_drewN|apply Kd.R_drew));exact adE.out,by repeat (first|(with_reducible first|exact HB.out|apply below_alloc|apply pw_below_drewN|apply below_drew1|refine below_set ?_ Dy.out|refine below_set ?_ Fz.out)|exact HB.out)⟩
  · replace c6:=Bool.eq_false_iff.mpr c6;subst c6;replace H:=(if_neg (show ¬ (false=true) by decide)).symm.trans H;simp only [Option.some.injEq,Prod.mk.injEq] at H;obtain ⟨rfl,rfl⟩:=H;go_enter Tryz.func6,Tryz.ntmps6;go_wp2_with (first|((with_reducible refine gate_dst (N:=2) rfl ?_);refine box_event ?hg (N:=2) ?hd (cs:=#[.string aD,.int .i64 aA,.slice cK aN.length cL,.slice cH aQ.length cI,.string bB,.string bC,.string bD,.int .i64 aV,.int .i64 aY,.int .i64 bA,.bool aH,.int .i64 aI,.string aK,.string aM]) (t:=28) ?hr ?_;(case hd=>rfl);(case hg=>rfl);(case hr=>first|(go_simp;done)|(go_simp;rfl));intro kS hg NO hbox hb;have lC:=am (hbox);have XW:=am (bsz hg au59);have Dy:=am (bsz hg au59);replace HB:=am (below_step au59 hb);clear hb hbox hg)|((with_reducible refine gate_dst (N:=3) rfl ?_);refine box_event ?hg (N:=3) ?hd (cs:=#[.string cA,.int .i64 bT,.slice eI bR.length eJ,.slice eK bS.length eL,.string cD,.string cE,.string cF,.int .i64 bW,.int .i64 bX,.int .i64 bZ,.bool bM,.int .i64 bO,.string bP,.string bN]) (t:=28) ?hr ?_;(case hd=>rfl);(case hg=>rfl);(case hr=>first|(go_simp;done)|(go_simp;rfl));intro Bh hg Qh hbox hb;have pU:=am (hbox);have XX:=am (bsz hg au52);have Fz:=am (bsz hg au52);replace HB:=am (below_step au52 hb);have wI:=am (bne (g:=kS) hg au84);have wJ:=am (ben (g:=kS) hg au84);replace lC:=am (blk_below (g:=kS) au84 hb);clear hb hbox hg;have aMa:=wI.out;have aMb:=wJ.out;obtain ⟨BH,BI,BJ,BK,Lz,LA,LB,LC,LD,LE,Ig,Ih,Ii,Ij,BL,BM,BN,BO,LF,LG,LH,LJ,LK,LL,Ik,Il,Im,Io⟩:=blkc14 lC.out)|((with_reducible refine gate_callee (f:=15) rfl ?_);refine goesL_ (some 7) rfl rfl Tryz.func15 (by kernel_rfl) rfl #[.agg #[.string aD,.int .i64 aA,.slice cK aN.length cL,.slice cH aQ.length cI,.string bB,.string bC,.string bD,.int .i64 aV,.int .i64 aY,.int .i64 bA,.bool aH,.int .i64 aI,.string aK,.string aM]] rfl au58 ?_;(with_reducible refine (impl_IsValidEntry.calls (hG:=au6) k aD aA _ _ aN _ _ aQ bB bC bD aV aY bA aH aI aK aM true _ ?aE ?aG ?bU ?bV A3.out).mono ?_);(case aE=>repeat (first|exact (Kd.C_below fJ.out HB.out)|(with_reducible refine Kd.C_alloc ?_ _)|(with_reducible refine Kd.C_drewN ?_ _)|(with_reducible refine Kd.C_drew ?_)));(case aG=>exact fK.out);(case bU=>repeat (first|exact (Kd.C_below gB.out HB.out)|(with_reducible refine Kd.C_alloc ?_ _)|(with_reducible refine Kd.C_drewN ?_ _)|(with_reducible refine Kd.C_drew ?_)));(case bV=>exact gC.out);rintro e Ur ⟨rfl,hb⟩;refine ⟨_,rfl,?_⟩;replace lC:=am (blk_below (g:=kS) au84 hb);replace pU:=am (blk_below (g:=Bh) au85 hb);replace HB:=am (below_step au29 hb);(try clear hb);obtain ⟨D9,Da,Db,Dc,T7,Ta,Tb,Tc,Td,Te,PO,PP,PQ,PR,Dd,De,Df,Dg,Tf,Tg,Ti,Tj,Tk,Tl,PS,PT,PU,PV⟩:=blkc14 pU.out)|(go_at_call 15;(with_reducible refine (impl_IsValidEntry.calls (hG:=au6) k cA bT _ _ bR _ _ bS cD cE cF bW bX bZ bM bO bP bN false _ ?aE ?aG ?bU ?bV A5.out).mono ?_);(case aE=>repeat (first|exact (Kd.C_below nC.out HB.out)|(with_reducible refine Kd.C_alloc ?_ _)|(with_reducible refine Kd.C_drewN ?_ _)|(with_reducible refine Kd.C_drew ?_)));(case aG=>exact nD.out);(case bU=>repeat (first|exact (Kd.C_below oW.out HB.out)|(with_reducible refine Kd.C_alloc ?_ _)|(with_reducible refine Kd.C_drewN ?_ _)|(with_reducible refine Kd.C_drew ?_)));(case bV=>exact oX.out);rintro e ND ⟨rfl,hb⟩;replace lC:=am (blk_below (g:=kS) au84 hb);replace pU:=am (blk_below (g:=Bh) au85 hb);replace HB:=am (below_step au29 hb);(try clear hb)));go_ret2;exact ⟨_,by first|rfl|(simp [errW_none,errW_some] <;> rfl)|(simp [*,errW_none,errW_some] <;> rfl),by first|exact Kd.R_nil _ _ _ _ _|exact Kd.N_nil _ _ _ _ _|exact Kd.V_nil _ _ _ _ _|exact Kd.Q_nil _ _ _ _ _|exact Kd.S_nil _ _ _ _ _,by repeat (first|(with_reducible first|exact HB.out|apply below_alloc|apply pw_below_drewN|apply below_drew1|refine below_set ?_ Dy.out|refine below_set ?_ Fz.out)|exact HB.out)⟩
 · replace c4:=Bool.eq_false_iff.mpr c4;subst c4;replace H:=(if_neg (show ¬ (false=true) by decide)).symm.trans H;simp only [Option.some.injEq,Prod.mk.injEq] at H;obtain ⟨rfl,rfl⟩:=H;go_enter Tryz.func6,Tryz.ntmps6;go_wp2_with (first|((with_reducible refine gate_dst (N:=2) rfl ?_);refine box_event ?hg (N:=2) ?hd (cs:=#[.string aD,.int .i64 aA,.slice cK aN.length cL,.slice cH aQ.length cI,.string bB,.string bC,.string bD,.int .i64 aV,.int .i64 aY,.int .i64 bA,.bool aH,.int .i64 aI,.string aK,.string aM]) (t:=28) ?hr ?_;(case hd=>rfl);(case hg=>rfl);(case hr=>first|(go_simp;done)|(go_simp;rfl));intro kS hg Un hbox hb;have lC:=am (hbox);have XW:=am (bsz hg au59);have Dy:=am (bsz hg au59);replace HB:=am (below_step au59 hb);clear hb hbox hg)|((with_reducible refine gate_dst (N:=3) rfl ?_);refine box_event ?hg (N:=3) ?hd (cs:=#[.string cA,.int .i64 bT,.slice eI bR.length eJ,.slice eK bS.length eL,.string cD,.string cE,.string cF,.int .i64 bW,.int .i64 bX,.int .i64 bZ,.bool bM,.int .i64 bO,.string bP,.string bN]) (t:=28) ?hr ?_;(case hd=>rfl);(case hg=>rfl);(case hr=>first|(go_simp;done)|(go_simp;rfl));intro Bh hg w26 hbox hb;have pU:=am (hbox);have XX:=am (bsz hg au52);have Fz:=am (bsz hg au52);replace HB:=am (below_step au52 hb);have wI:=am (bne (g:=kS) hg au84);have wJ:=am (ben (g:=kS) hg au84);replace lC:=am (blk_below (g:=kS) au84 hb);clear hb hbox hg;have aaM:=wI.out;have aaN:=wJ.out;obtain ⟨xP,xQ,xR,xS,GI,GJ,GK,GM,GN,GO,Ec,Ed,Ee,Ef,xT,xU,xV,xW,GP,GQ,GR,GT,GU,GV,Eg,Eh,Ei,Ej⟩:=blkc14 lC.out)|((with_reducible refine gate_callee (f:=15) rfl ?_);refine goesL_ (some 7) rfl rfl Tryz.func15 (by kernel_rfl) rfl #[.agg #[.string aD,.int .i64 aA,.slice cK aN.length cL,.slice cH aQ.length cI,.string bB,.string bC,.string bD,.int .i64 aV,.int .i64 aY,.int .i64 bA,.bool aH,.int .i64 aI,.string aK,.string aM]] rfl au58 ?_;(with_reducible refine (impl_IsValidEntry.calls (hG:=au6) k aD aA _ _ aN _ _ aQ bB bC bD aV aY bA aH aI aK aM false _ ?aE ?aG ?bU ?bV A3.out).mono ?_);(case aE=>repeat (first|exact (Kd.C_below fJ.out HB.out)|(with_reducible refine Kd.C_alloc ?_ _)|(with_reducible refine Kd.C_drewN ?_ _)|(with_reducible refine Kd.C_drew ?_)));(case aG=>exact fK.out);(case bU=>repeat (first|exact (Kd.C_below gB.out HB.out)|(with_reducible refine Kd.C_alloc ?_ _)|(with_reducible refine Kd.C_drewN ?_ _)|(with_reducible refine Kd.C_drew ?_)));(case bV=>exact gC.out);rintro e Qr ⟨rfl,hb⟩;refine ⟨_,rfl,?_⟩;replace lC:=am (blk_below (g:=kS) au84 hb);replace pU:=am (blk_below (g:=Bh) au85 hb);replace HB:=am (below_step au29 hb);(try clear hb)));go_ret2;exact ⟨_,by first|rfl|(simp [errW_none,errW_some] <;> rfl)|(simp [*,errW_none,errW_some] <;> rfl),by first|exact Kd.R_nil _ _ _ _ _|exact Kd.N_nil _ _ _ _ _|exact Kd.V_nil _ _ _ _ _|exact Kd.Q_nil _ _ _ _ _|exact Kd.S_nil _ _ _ _ _,by repeat (first|(with_reducible first|exact HB.out|apply below_alloc|apply pw_below_drewN|apply below_drew1|refine below_set ?_ Dy.out|refine below_set ?_ Fz.out)|exact HB.out)⟩
end Go.Proofs.YtcbhlghofihjcaaGreatDoor.G

namespace Go.Proofs.YtcbhlghofihjcaaGreatDoor.G
open Go.RowKit Go.Proofs.YtcbhlghofihjcaaGreatDoor.Gl Go.Proofs.YtcbhlghofihjcaaGreatDoorW.PrintWords Go.Proofs.YtcbhlghofihjcaaGreatDoorW.PrintLast Go.Proofs.YtcbhlghofihjcaaGreatDoor.B Go.Proofs.YtcbhlghofihjcaaGreatDoor.Opn
set_option linter.unusedVariables false
set_option linter.unusedSimpArgs false
theorem chg_shift {α:Type} {f:Nat→Option α} {v:α} (h:Ev (fun k=>f (k+1)) v):Ev f v:=Ev.step (f:=fun k=>f (k+1)) (fun _=>rfl) h
def difL (f g:ByteArray→ByteArray) (ns:List ByteArray):List ByteArray:=ns.filter (fun a=>!decide ((f a).toList=(g a).toList))
def lastL (kd kd':Int) (K K':ByteArray):List ByteArray:=(if kd=kd' then [] else [(⟨#[107,105,110,100]⟩:ByteArray)])++(if K.toList=K'.toList then [] else [(⟨#[107,101,121]⟩:ByteArray)])
def endL (X X':ByteArray) (kd kd':Int) (K K':ByteArray):List ByteArray:=(if X.toList=X'.toList then [] else [(⟨#[99,114,111,115,115]⟩:ByteArray)])++lastL kd kd' K K'
theorem tail_s (K:ByteArray) (kd:Int) (A E:List S68) (T C Pb:ByteArray) (y m d:Int) (c:Bool) (v:Int) (Pg X:ByteArray) (K':ByteArray) (kd':Int) (A' E':List S68) (T' C' Pb':ByteArray) (y' m' d':Int) (c':Bool) (v':Int) (Pg' X':ByteArray) (out:List ByteArray) (ho:out.length≤9):Ev (fun k=>spec_ChangedFields.j2 k out K kd A E T C Pb y m d c v Pg X K' kd' A' E' T' C' Pb' y' m' d' c' v' Pg' X') (out++lastL kd kd' K K',true):=by
  apply chg_shift;simp only [spec_ChangedFields.j2];by_cases a:kd=kd'
  · by_cases b:K.toList=K'.toList
    · exact ev_pos a (ev_pos b (ev_eq (Ev.now _) (by unfold lastL;rw [if_pos a,if_pos b];simp)))
    · exact ev_pos a (ev_neg b (ev_pos (by omega) (ev_eq (Ev.now _) (by unfold lastL;rw [if_pos a,if_neg b];simp))))
  · refine ev_neg a (ev_pos (by omega) (ev_bind0 rfl ?_))
    by_cases b:K.toList=K'.toList
    · exact ev_pos b (ev_eq (Ev.now _) (by unfold lastL;rw [if_neg a,if_pos b];simp))
    · exact ev_neg b (ev_pos (by rw [List.length_append,List.length_singleton];omega) (ev_eq (Ev.now _) (by unfold lastL;rw [if_neg a,if_neg b];simp)))
theorem tail_i (K:ByteArray) (kd:Int) (A E:List S68) (T C Pb:ByteArray) (y m d:Int) (c:Bool) (v:Int) (Pg X:ByteArray) (K':ByteArray) (kd':Int) (A' E':List S68) (T' C' Pb':ByteArray) (y' m' d':Int) (c':Bool) (v':Int) (Pg' X':ByteArray) (out:List ByteArray) (ho:out.length≤9):Ev (fun k=>impl_changedFields.j1 k out K kd A E T C Pb y m d c v Pg X K' kd' A' E' T' C' Pb' y' m' d' c' v' Pg' X') (out++lastL kd kd' K K'):=by
  apply chg_shift;simp only [impl_changedFields.j1];by_cases a:kd=kd'
  · by_cases b:K.toList=K'.toList
    · exact ev_pos a (ev_pos b (ev_eq (Ev.now _) (by unfold lastL;rw [if_pos a,if_pos b];simp)))
    · exact ev_pos a (ev_neg b (ev_pos (by omega) (ev_eq (Ev.now _) (by unfold lastL;rw [if_pos a,if_neg b];simp))))
  · refine ev_neg a (ev_pos (by omega) (ev_bind0 rfl ?_))
    by_cases b:K.toList=K'.toList
    · exact ev_pos b (ev_eq (Ev.now _) (by unfold lastL;rw [if_neg a,if_pos b];simp))
    · exact ev_neg b (ev_pos (by rw [List.length_append,List.length_singleton];omega) (ev_eq (Ev.now _) (by unfold lastL;rw [if_neg a,if_neg b];simp)))
theorem flds_len:fieldsL.length=8:=rfl
theorem flds_in (i:Nat) (hi:i<fieldsL.length):L fieldsL[i]∈fld8:=by
  have h:∀ a∈fieldsL,L a∈fld8:=by decide
  exact h _ (List.getElem_mem hi)
theorem chg_loop (K:ByteArray) (kd:Int) (A E:List S68) (T C Pb:ByteArray) (y m d:Int) (c:Bool) (v:Int) (Pg X:ByteArray) (K':ByteArray) (kd':Int) (A' E':List S68) (T' C' Pb':ByteArray) (y' m' d':Int) (c':Bool) (v':Int) (Pg' X':ByteArray) (f g:ByteArray→ByteArray)
    (hf:∀ a,L a∈fld8→Ev (fun k=>spec_l4Field.f k K kd A E T C Pb y m d c v Pg X a) (f a,true)∧Ev (fun k=>impl_fieldText.f k K kd A E T C Pb y m d c v Pg X a) (f a))
    (hg:∀ a,L a∈fld8→Ev (fun k=>spec_l4Field.f k K' kd' A' E' T' C' Pb' y' m' d' c' v' Pg' X' a) (g a,true)∧Ev (fun k=>impl_fieldText.f k K' kd' A' E' T' C' Pb' y' m' d' c' v' Pg' X' a) (g a)) (q:Nat) :
    ∀ (i:Nat) (out:List ByteArray),out.length≤i→i≤8→8-i=q→Ev (fun k=>spec_ChangedFields.l0 k out fieldsL (i:Int) K kd A E T C Pb y m d c v Pg X K' kd' A' E' T' C' Pb' y' m' d' c' v' Pg' X') ((out++difL f g (fieldsL.drop i))++endL X X' kd kd' K K',true)∧Ev (fun k=>impl_changedFields.l0 k out (i:Int) K kd A E T C Pb y m d c v Pg X K' kd' A' E' T' C' Pb' y' m' d' c' v' Pg' X') ((out++difL f g (fieldsL.drop i))++endL X X' kd kd' K K'):=by
  have hlen:=flds_len
  induction q with
  | zero =>
    intro i out ho h1 hd
    have hi:i=8:=by omega
    subst hi
    have e:out++difL f g (fieldsL.drop 8)=out:=by
      rw [List.drop_of_length_le (by omega)];simp [difL]
    rw [e];refine ⟨?_,?_⟩
    · apply chg_shift
      simp only [spec_ChangedFields.l0];refine ev_neg (by omega) ?_;by_cases a:X.toList=X'.toList
      · exact ev_pos a (ev_eq (tail_s K kd A E T C Pb y m d c v Pg X K' kd' A' E' T' C' Pb' y' m' d' c' v' Pg' X' out (by omega)) (by unfold endL;rw [if_pos a];rfl))
      · exact ev_neg a (ev_pos (by omega) (ev_eq (tail_s K kd A E T C Pb y m d c v Pg X K' kd' A' E' T' C' Pb' y' m' d' c' v' Pg' X' _ (by rw [List.length_append,List.length_singleton];omega)) (by unfold endL;rw [if_neg a];simp)))
    · apply chg_shift
      simp only [impl_changedFields.l0];refine ev_neg (by omega) ?_;by_cases a:X.toList=X'.toList
      · exact ev_pos a (ev_eq (tail_i K kd A E T C Pb y m d c v Pg X K' kd' A' E' T' C' Pb' y' m' d' c' v' Pg' X' out (by omega)) (by unfold endL;rw [if_pos a];rfl))
      · exact ev_neg a (ev_pos (by omega) (ev_eq (tail_i K kd A E T C Pb y m d c v Pg X K' kd' A' E' T' C' Pb' y' m' d' c' v' Pg' X' _ (by rw [List.length_append,List.length_singleton];omega)) (by unfold endL;rw [if_neg a];simp)))
  | succ q ih =>
    intro i out ho h1 hd
    have hi:i<fieldsL.length:=by omega
    have hw:wrap64 ((i:Int)+1)=((i+1:Nat):Int):=by rw [w64 (by omega) (by omega)];rfl
    have hr:rdOf ByteArray.empty fieldsL (i:Int)=fieldsL[i]:=by unfold rdOf;rw [show ((i:Int)).toNat=i by omega,List.getD_eq_getElem?_getD,List.getElem?_eq_getElem hi];rfl
    obtain ⟨sf,jf⟩:=hf _ (flds_in i hi);obtain ⟨sg,jg⟩:=hg _ (flds_in i hi);rw [List.drop_eq_getElem_cons hi];generalize fieldsL[i]=a at hr sf jf sg jg
    have ed:difL f g (a :: fieldsL.drop (i+1))=(if (f a).toList=(g a).toList then [] else [a])++difL f g (fieldsL.drop (i+1)):=by
      unfold difL;rw [List.filter_cons];by_cases e:(f a).toList=(g a).toList
      · rw [if_pos e,dt e];rfl
      · rw [if_neg e,df e];rfl
    rw [ed]
    have g1:(i:Int)<(fieldsL.length:Int):=by omega
    have g2:(0:Int)≤(i:Int):=by omega
    have g3:out.length<8796093022208:=by omega
    have g4:(i:Int)<8:=by omega
    by_cases e:(f a).toList=(g a).toList
    · rw [if_pos e,List.nil_append]
      obtain ⟨s1,i1⟩:=ih (i+1) out (by omega) (by omega) (by omega);refine ⟨?_,?_⟩
      · apply chg_shift
        simp only [spec_ChangedFields.l0,hr,hw];exact ev_pos g1 (ev_pos g2 (Ev.bind sf (Ev.bind sg (ev_pos e s1))))
      · apply chg_shift
        simp only [impl_changedFields.l0,hr,hw];exact ev_pos g4 (ev_pos g2 (Ev.bind jf (Ev.bind jg (ev_pos e i1))))
    · rw [if_neg e,← List.append_assoc]
      obtain ⟨s1,i1⟩:=ih (i+1) (out++[a]) (by rw [List.length_append,List.length_singleton];omega) (by omega) (by omega);refine ⟨?_,?_⟩
      · apply chg_shift
        simp only [spec_ChangedFields.l0,hr,hw];exact ev_pos g1 (ev_pos g2 (Ev.bind sf (Ev.bind sg (ev_neg e (ev_pos g3 s1)))))
      · apply chg_shift
        simp only [impl_changedFields.l0,hr,hw];exact ev_pos g4 (ev_pos g2 (Ev.bind jf (Ev.bind jg (ev_neg e (ev_pos g3 i1)))))
def chgL (f g:ByteArray→ByteArray) (X X':ByteArray) (kd kd':Int) (K K':ByteArray):List ByteArray:=difL f g fieldsL++endL X X' kd kd' K K'
theorem end_len (X X':ByteArray) (kd kd':Int) (K K':ByteArray):(endL X X' kd kd' K K').length≤3:=by
  unfold endL lastL
  split <;> split <;> split <;> simp
theorem chgL_len (f g:ByteArray→ByteArray) (X X':ByteArray) (kd kd':Int) (K K':ByteArray):(chgL f g X X' kd kd' K K').length≤11:=by
  have h1:=end_len X X' kd kd' K K'
  have h2:(difL f g fieldsL).length≤8:=by
    have:=List.length_filter_le (fun a=>!decide ((f a).toList=(g a).toList)) fieldsL;rw [flds_len] at this;exact this
  unfold chgL;rw [List.length_append];omega
theorem chg_ev (K:ByteArray) (kd:Int) (A E:List S68) (T C Pb:ByteArray) (y m d:Int) (c:Bool) (v:Int) (Pg X:ByteArray) (K':ByteArray) (kd':Int) (A' E':List S68) (T' C' Pb':ByteArray) (y' m' d':Int) (c':Bool) (v':Int) (Pg' X':ByteArray) (f g:ByteArray→ByteArray) (b b':Bool)
    (hs:Ev (fun k=>spec_l4Entry.f k K kd A E T C Pb y m d c v Pg X) b) (hi:Ev (fun k=>impl_IsValidEntry.f k K kd A E T C Pb y m d c v Pg X) b) (hs':Ev (fun k=>spec_l4Entry.f k K' kd' A' E' T' C' Pb' y' m' d' c' v' Pg' X') b') (hi':Ev (fun k=>impl_IsValidEntry.f k K' kd' A' E' T' C' Pb' y' m' d' c' v' Pg' X') b')
    (hf:b=true→b'=true→∀ a,L a∈fld8→Ev (fun k=>spec_l4Field.f k K kd A E T C Pb y m d c v Pg X a) (f a,true)∧Ev (fun k=>impl_fieldText.f k K kd A E T C Pb y m d c v Pg X a) (f a))
    (hg:b=true→b'=true→∀ a,L a∈fld8→Ev (fun k=>spec_l4Field.f k K' kd' A' E' T' C' Pb' y' m' d' c' v' Pg' X' a) (g a,true)∧Ev (fun k=>impl_fieldText.f k K' kd' A' E' T' C' Pb' y' m' d' c' v' Pg' X' a) (g a)) :
    Ev (fun k=>spec_ChangedFields.f k K kd A E T C Pb y m d c v Pg X K' kd' A' E' T' C' Pb' y' m' d' c' v' Pg' X') (if b=true∧b'=true then (chgL f g X X' kd kd' K K',true) else ([],false))∧Ev (fun k=>impl_ChangedFields.f k K kd A E T C Pb y m d c v Pg X K' kd' A' E' T' C' Pb' y' m' d' c' v' Pg' X') (if b=true∧b'=true then (chgL f g X X' kd kd' K K',true) else ([],false)):=by
  have no:Ev (fun k=>spec_ChangedFields.j0 k ([]:List ByteArray) true K kd A E T C Pb y m d c v Pg X K' kd' A' E' T' C' Pb' y' m' d' c' v' Pg' X') ([],false):=by
    apply chg_shift;simp only [spec_ChangedFields.j0];exact ev_pos trivial (Ev.now _)
  unfold spec_ChangedFields.f impl_ChangedFields.f
  cases b with
  | false =>
    rw [if_neg (fun x=>by cases x.1)];exact ⟨ev_bind0 rfl (Ev.bind hs (ev_neg (by simp) no)),Ev.bind hi (ev_neg (by simp) (Ev.now _))⟩
  | true =>
    cases b' with
    | false =>
      rw [if_neg (fun x=>by cases x.2)];exact ⟨ev_bind0 rfl (Ev.bind hs (ev_pos rfl (Ev.bind hs' no))),Ev.bind hi (ev_pos rfl (Ev.bind hi' (ev_neg (by simp) (Ev.now _))))⟩
    | true =>
      rw [if_pos ⟨rfl,rfl⟩];obtain ⟨s,i⟩:=chg_loop K kd A E T C Pb y m d c v Pg X K' kd' A' E' T' C' Pb' y' m' d' c' v' Pg' X' f g (hf rfl rfl) (hg rfl rfl) 8 0 [] (by simp) (by omega) rfl;rw [List.drop_zero,List.nil_append] at s i;refine ⟨ev_bind0 rfl (Ev.bind hs (ev_pos rfl (Ev.bind hs' ?_))),Ev.bind hi (ev_pos rfl (Ev.bind hi' (ev_pos rfl (Ev.bind (a:=chgL f g X X' kd kd' K K') ?_ (Ev.now _)))))⟩
      · apply chg_shift
        simp only [spec_ChangedFields.j0];exact ev_neg (by simp) (ev_bind0 rfl s)
      · unfold impl_changedFields.f
        exact i
end Go.Proofs.YtcbhlghofihjcaaGreatDoor.G

namespace Go.Proofs.YtcbhlghofihjcaaGreatDoor.G
open Go.RowKit Go.Proofs.YtcbhlghofihjcaaGreatDoorW.PrintWords Go.Proofs.YtcbhlghofihjcaaGreatDoorW.PrintLast Go.Proofs.YtcbhlghofihjcaaGreatDoor.B
set_option linter.unusedVariables false
set_option linter.unusedSimpArgs false
theorem dec_app (l r:List UInt8):∀ acc,Lib.decFrom acc (l++r)=(Lib.decFrom acc l).bind fun a=>Lib.decFrom a r:=by
  induction l with
  | nil=>intro acc;rfl
  | cons b l ih =>
    intro acc;simp only [List.cons_append,Lib.decFrom]
    cases Lib.digitVal b with
    | none=>rfl
    | some d=>exact ih _
theorem dig_val (d:Nat) (h:d<10):Lib.digitVal (UInt8.ofNat (48+d))=some d:=by
  have e:(UInt8.ofNat (48+d)).toNat=48+d:=by simp;omega
  unfold Lib.digitVal;rw [e,if_pos ⟨by omega,by omega⟩]
  congr 1;omega
theorem dec_digits (n:Nat):∀ u,u≤n→Lib.decFrom 0 (Lib.decDigits u)=some u:=by
  induction n with
  | zero =>
    intro u hu;rw [Lib.decDigits_one (by omega)];simp only [Lib.decFrom];rw [dig_val u (by omega)];simp
  | succ n ih =>
    intro u hu;by_cases h:u<10
    · rw [Lib.decDigits_one h]
      simp only [Lib.decFrom];rw [dig_val u h];simp
    · rw [show Lib.decDigits u=Lib.decDigits (u / 10)++[UInt8.ofNat (48+u % 10)] by rw [Lib.decDigits,dif_neg h],dec_app,ih (u / 10) (by omega)]
      simp only [Option.bind_some,Lib.decFrom];rw [dig_val (u % 10) (by omega)]
      show some (u / 10*10+u % 10)=some u
      congr 1;omega
theorem dec_pos (u:Nat):1≤(Lib.decDigits u).length:=by
  by_cases h1:u<10
  · rw [Lib.decDigits_one h1];simp
  · rw [show Lib.decDigits u=Lib.decDigits (u / 10)++[UInt8.ofNat (48+u % 10)] by rw [Lib.decDigits,dif_neg h1],List.length_append,List.length_singleton]
    omega
def zer (d:Nat) (l:List UInt8):List UInt8:=List.replicate d 48++l
def padB (w:Nat) (n:Int):ByteArray:=mkB (zer (w-(Lib.itoa n).length) (Lib.itoa n))
theorem zer_up (d:Nat) (l:List UInt8):zer d (48 :: l)=zer (d+1) l:=by
  unfold zer;rw [List.replicate_succ'];simp
theorem pad_loopV (w:Nat) (hw:w≤10) (d:Nat):∀ t:ByteArray,w-t.size=d→t.size≤1000→Ev (fun k=>spec_l3Pad.l0 k (w:Int) t) (mkB (zer d (L t))):=by
  induction d with
  | zero =>
    intro t h ht;refine Ev.step (f:=fun _=>some t) (fun k=>?_) (ev_eq (Ev.now _) (by simp [zer,mk_L]));simp only [spec_l3Pad.l0];rw [if_neg (by omega)]
  | succ d ih =>
    intro t h ht
    have hs:((⟨#[48]⟩:ByteArray)++t).size=1+t.size:=by rw [size_append];rfl
    have hL:L ((⟨#[48]⟩:ByteArray)++t)=48 :: L t:=by rw [L_append];rfl
    have:=ih ((⟨#[48]⟩:ByteArray)++t) (by omega) (by omega);rw [hL,zer_up] at this;refine Ev.step (fun k=>?_) this;simp only [spec_l3Pad.l0];rw [if_pos (by omega),if_pos (by omega)]
theorem pad_evV (n:Int) (w:Nat) (h0:0≤n) (h1:n≤1000000) (hw:w≤10):Ev (fun k=>spec_l3Pad.f k n (w:Int)) (padB w n)∧Ev (fun k=>impl_digits.f k n (w:Int)) (padB w n):=by
  have hl:=Lib.itoa_length_le n (by omega) (by omega)
  have hz:(mkB (Lib.itoa n)).size=(Lib.itoa n).length:=by rw [size_mk]
  have hu:=pad_loopV w hw (w-(Lib.itoa n).length) (mkB (Lib.itoa n)) (by rw [hz]) (by omega);rw [L_mk] at hu;refine ⟨?_,?_⟩
  · unfold spec_l3Pad.f
    exact Ev.bind (num_ev n (by omega) (by omega)) hu
  · have hi:strconv_Itoa.f n=some (mkB (Lib.itoa n)):=by
      unfold strconv_Itoa.f;rw [if_pos ⟨by omega,by omega⟩];rfl
    unfold impl_digits.f;exact ev_bind0 hi (Ev.congr (fun k=>pad_same k _ _) hu)
def valS (acc:Int):List UInt8→Int
  | []=>acc
  | b :: l=>valS (10*acc+(b.toNat:Int)-48) l
theorem dec_val (l:List UInt8):∀ (a m:Nat),Lib.decFrom a l=some m→valS (a:Int) l=(m:Int):=by
  induction l with
  | nil=>intro a m h;simp only [Lib.decFrom,Option.some.injEq] at h;subst h;rfl
  | cons b l ih =>
    intro a m h;unfold Lib.decFrom at h;by_cases c:48≤b.toNat∧b.toNat≤57
    · have hd:Lib.digitVal b=some (b.toNat-48):=if_pos c
      rw [hd] at h;have:=ih _ m h;rw [← this]
      show valS (10*(a:Int)+(b.toNat:Int)-48) l=valS ((a*10+(b.toNat-48):Nat):Int) l
      congr 1
      omega
    · have hd:Lib.digitVal b=none:=if_neg c
      rw [hd] at h
      cases h
theorem dec_zer (d:Nat) (l:List UInt8):Lib.decFrom 0 (zer d l)=Lib.decFrom 0 l:=by
  induction d with
  | zero=>rfl
  | succ d ih =>
    have:zer (d+1) l=48 :: zer d l:=by simp [zer,List.replicate_succ]
    rw [this,← ih];rfl
theorem pad_dec (w n:Nat):Lib.decFrom 0 (L (padB w (n:Int)))=some n:=by
  unfold padB;rw [L_mk,dec_zer]
  have e:Lib.itoa (n:Int)=Lib.decDigits n:=by unfold Lib.itoa;rw [if_neg (by omega)];rfl
  rw [e];exact dec_digits n n (Nat.le_refl n)
theorem pad_val (w n:Nat):valS 0 (L (padB w (n:Int)))=(n:Int):=dec_val _ 0 n (pad_dec w n)
def txtD (y m d:Int) (c:Bool):ByteArray :=
  mkB ((if c=true then [99] else [])++L (padB 4 y)++(if m>0 then 45 :: L (padB 2 m) else [])++(if d>0 then 45 :: L (padB 2 d) else []))
theorem padB_size (w:Nat) (n:Int) (h0:0≤n) (h1:n≤1000000) (hw:w≤10):(padB w n).size≤31:=by
  have hl:=Lib.itoa_length_le n (by omega) (by omega);unfold padB zer;rw [size_mk,List.length_append,List.length_replicate];omega
theorem impl_txt (y m d:Int) (c:Bool) (hy:1≤y∧y≤2999) (hm:0≤m∧m≤12) (hd:0≤d∧d≤31):Ev (fun k=>impl_formatDate.f k y m d c) (txtD y m d c):=by
  have iY:=(pad_evV y 4 (by omega) (by omega) (by omega)).2;have iM:=(pad_evV m 2 (by omega) (by omega) (by omega)).2;have iD:=(pad_evV d 2 (by omega) (by omega) (by omega)).2;have zY:=padB_size 4 y (by omega) (by omega) (by omega);have zM:=padB_size 2 m (by omega) (by omega) (by omega);have zD:=padB_size 2 d (by omega) (by omega) (by omega);have e1:=sz1 45 (padB 2 m);have e1':=sz1 45 (padB 2 d)
  have rest:∀ x:ByteArray,x.size≤60→Ev (fun k=>impl_formatDate.j0 k x y m d c) (mkB (L x++(if m>0 then 45 :: L (padB 2 m) else [])++(if d>0 then 45 :: L (padB 2 d) else []))):=by
    intro x hx
    have xm:(x++((⟨#[45]⟩:ByteArray)++padB 2 m)).size=x.size+(1+(padB 2 m).size):=by rw [size_append,e1]
    have h45:L (⟨#[45]⟩:ByteArray)=[45]:=rfl;by_cases cm:m>0
    · by_cases cd:d>0
      · refine ev_eq (Ev.step (f:=fun k=>(impl_digits.f k m 2).bind fun Fq=>(if 1+Fq.size≤9223372036854775807 then (if x.size+((⟨#[45]⟩:ByteArray)++Fq).size≤9223372036854775807 then ((impl_digits.f k d 2).bind fun X1=>(if 1+X1.size≤9223372036854775807 then (if (x++((⟨#[45]⟩:ByteArray)++Fq)).size+((⟨#[45]⟩:ByteArray)++X1).size≤9223372036854775807 then (some ((x++((⟨#[45]⟩:ByteArray)++Fq))++((⟨#[45]⟩:ByteArray)++X1))) else none) else none)) else none) else none)) (fun k=>by simp only [impl_formatDate.j0];rw [if_pos cm];simp only [if_pos cd]) (Ev.bind iM (ev_pos (by omega) (ev_pos (by omega) (Ev.bind iD (ev_pos (by omega) (ev_pos (by omega) (Ev.now _)))))))) ?_
        rw [if_pos cm,if_pos cd];exact L_inj (by rw [L_append,L_append,L_append,L_append,L_mk,h45];simp)
      · refine ev_eq (Ev.step (f:=fun k=>(impl_digits.f k m 2).bind fun Fq=>(if 1+Fq.size≤9223372036854775807 then (if x.size+((⟨#[45]⟩:ByteArray)++Fq).size≤9223372036854775807 then (some (x++((⟨#[45]⟩:ByteArray)++Fq))) else none) else none)) (fun k=>by simp only [impl_formatDate.j0];rw [if_pos cm];simp only [if_neg cd]) (Ev.bind iM (ev_pos (by omega) (ev_pos (by omega) (Ev.now _))))) ?_
        rw [if_pos cm,if_neg cd];exact L_inj (by rw [L_append,L_append,L_mk,h45];simp)
    · by_cases cd:d>0
      · refine ev_eq (Ev.step (f:=fun k=>(impl_digits.f k d 2).bind fun X2=>(if 1+X2.size≤9223372036854775807 then (if x.size+((⟨#[45]⟩:ByteArray)++X2).size≤9223372036854775807 then (some (x++((⟨#[45]⟩:ByteArray)++X2))) else none) else none)) (fun k=>by simp only [impl_formatDate.j0];rw [if_neg cm,if_pos cd]) (Ev.bind iD (ev_pos (by omega) (ev_pos (by omega) (Ev.now _))))) ?_
        rw [if_neg cm,if_pos cd];exact L_inj (by rw [L_append,L_append,L_mk,h45];simp)
      · refine ev_eq (Ev.step (f:=fun _=>some x) (fun k=>by simp only [impl_formatDate.j0];rw [if_neg cm,if_neg cd]) (Ev.now _)) ?_
        rw [if_neg cm,if_neg cd];exact L_inj (by rw [L_mk];simp)
  unfold impl_formatDate.f;refine ev_neg (by omega) (Ev.bind iY ?_)
  cases c with
  | true =>
    refine ev_pos rfl (ev_pos (by omega) (ev_eq (rest _ (by rw [sz1];omega)) ?_));have h99:L (⟨#[99]⟩:ByteArray)=[99]:=rfl;rw [L_append,h99];rfl
  | false=>exact ev_neg (by simp) (rest _ (by omega))
theorem spec_txt (y m d:Int) (c:Bool) (hy:1≤y∧y≤2999) (hm:0≤m∧m≤12) (hd:0≤d∧d≤31):Ev (fun k=>spec_l3Text.f k y m d c) (txtD y m d c):=by
  obtain ⟨v,h1,h2⟩:=date_text y m d c hy hm hd;rw [ev_uniq (impl_txt y m d c hy hm hd) h2];exact h1
theorem spl_app2 (b:UInt8) (X Y:List UInt8):spl b (X++b :: Y)=spl b X++spl b Y:=by
  induction X with
  | nil=>rw [List.nil_append,spl_cons,if_pos rfl];rfl
  | cons c X ih =>
    rw [List.cons_append,spl_cons,spl_cons,ih];by_cases h:c=b
    · rw [if_pos h,if_pos h];rfl
    · rw [if_neg h,if_neg h]
      cases hs:spl b X with
      | nil=>exact absurd hs (spl_ne b X)
      | cons p q=>rfl
theorem spl_free2 (b:UInt8) (l:List UInt8) (h:∀ x∈l,x≠b):spl b l=[l]:=spl_none b l (fun k e=>h b (List.mem_of_getElem? e) rfl)
def IsQ (s:ByteArray) (y m d:Int) (c:Bool):Prop:=y≠0∧goodD y m d c=true∧txtD y m d c=s
def partsQ (s:ByteArray):List ByteArray:=(spl 45 (L s)).map mkB
def cirQ (s:ByteArray):Bool:=decide (1≤s.size∧bt s 0=99)
def restQ (s:ByteArray):ByteArray:=if cirQ s=true then s.extract 1 s.size else s
theorem dec_dig {l:List UInt8} {m:Nat} (h:Lib.decFrom 0 l=some m):∀ x∈l,48≤x.toNat∧x.toNat≤57:=by
  intro x hx;obtain ⟨i,hi⟩:=List.mem_iff_getElem?.1 hx;obtain ⟨d,hd⟩:=Lib.digit_of_decFrom l 0 m h i x hi;unfold Lib.digitVal at hd;by_cases c:48≤x.toNat∧x.toNat≤57
  · exact c
  · rw [if_neg c] at hd;cases hd
theorem pad_dig (w n:Nat):∀ x∈L (padB w (n:Int)),48≤x.toNat∧x.toNat≤57:=dec_dig (pad_dec w n)
theorem pad_free (w n:Nat) (b:UInt8) (hb:b.toNat<48∨57<b.toNat):∀ x∈L (padB w (n:Int)),x≠b:=by
  intro x hx e;have:=pad_dig w n x hx;rw [e] at this;omega
theorem itoa_dec (n:Nat):Lib.itoa (n:Int)=Lib.decDigits n:=by unfold Lib.itoa;rw [if_neg (by omega)];rfl
theorem pad_len (w n:Nat):(L (padB w (n:Int))).length=max w (Lib.decDigits n).length:=by
  unfold padB zer;rw [L_mk,List.length_append,List.length_replicate,itoa_dec];omega
theorem pad_pos (w n:Nat):1≤(L (padB w (n:Int))).length:=by
  have:=dec_pos n;rw [pad_len];omega
def ptsD (y m d:Int):List ByteArray:=if m>0 then (if d>0 then [padB 4 y,padB 2 m,padB 2 d] else [padB 4 y,padB 2 m]) else [padB 4 y]
theorem good_md {y m d:Int} {c:Bool} (h:goodD y m d c=true) (hy:y≠0) (hm:¬ m>0):d=0∧m=0:=by
  have hb:=good_bds h hy
  have e:m=0:=by omega
  unfold goodD at h;rw [if_neg (fun z=>hy z.1),if_neg (fun z=>z ⟨hb.1,hb.2.1,hb.2.2.1,hb.2.2.2.1⟩),if_pos e] at h;exact ⟨od h,e⟩
theorem txt_core (y m d:Nat):spl 45 (L (padB 4 (y:Int))++45 :: L (padB 2 (m:Int))++45 :: L (padB 2 (d:Int)))=[L (padB 4 (y:Int)),L (padB 2 (m:Int)),L (padB 2 (d:Int))]:=by
  have h45:(45:UInt8).toNat<48∨57<(45:UInt8).toNat:=by decide
  rw [List.append_assoc,List.cons_append,spl_app2,spl_app2,spl_free2 45 _ (pad_free 4 y 45 h45),spl_free2 45 _ (pad_free 2 m 45 h45),spl_free2 45 _ (pad_free 2 d 45 h45)];rfl
theorem txt_core2 (y m:Nat):spl 45 (L (padB 4 (y:Int))++45 :: L (padB 2 (m:Int)))=[L (padB 4 (y:Int)),L (padB 2 (m:Int))]:=by
  have h45:(45:UInt8).toNat<48∨57<(45:UInt8).toNat:=by decide
  rw [spl_app2,spl_free2 45 _ (pad_free 4 y 45 h45),spl_free2 45 _ (pad_free 2 m 45 h45)];rfl
theorem txt_core1 (y:Nat):spl 45 (L (padB 4 (y:Int)))=[L (padB 4 (y:Int))]:=spl_free2 45 _ (pad_free 4 y 45 (by decide))
theorem txt_mid {y m d:Int} {c:Bool} (h:goodD y m d c=true) (hy:y≠0):spl 45 (L (padB 4 y)++(if m>0 then 45 :: L (padB 2 m) else [])++(if d>0 then 45 :: L (padB 2 d) else []))=(ptsD y m d).map L:=by
  have hb:=good_bds h hy
  obtain ⟨y',rfl⟩:∃ y':Nat,y=(y':Int):=⟨y.toNat,by omega⟩
  obtain ⟨m',rfl⟩:∃ y':Nat,m=(y':Int):=⟨m.toNat,by omega⟩
  obtain ⟨d',rfl⟩:∃ y':Nat,d=(y':Int):=⟨d.toNat,by omega⟩
  unfold ptsD;by_cases cm:(m':Int)>0
  · by_cases cd:(d':Int)>0
    · rw [if_pos cm,if_pos cd,if_pos cm,if_pos cd];exact txt_core y' m' d'
    · rw [if_pos cm,if_neg cd,if_pos cm,if_neg cd,List.append_nil];exact txt_core2 y' m'
  · have:=good_md h hy cm
    rw [if_neg cm,if_neg (by omega),if_neg cm,List.append_nil,List.append_nil];exact txt_core1 y'
theorem txt_parts {s:ByteArray} {y m d:Int} {c:Bool} (h:IsQ s y m d c):cirQ s=c∧partsQ (restQ s)=ptsD y m d:=by
  obtain ⟨hy,hg,rfl⟩:=h;have hb:=good_bds hg hy
  have hL:L (txtD y m d c)=(if c=true then [99] else [])++(L (padB 4 y)++(if m>0 then 45 :: L (padB 2 m) else [])++(if d>0 then 45 :: L (padB 2 d) else [])):=by
    unfold txtD;rw [L_mk];simp
  have hmid:=txt_mid hg hy
  have back:∀ l:List ByteArray,(l.map L).map mkB=l:=by
    intro l;rw [List.map_map]
    have:(mkB∘L)=id:=by funext x;exact mk_L x
    rw [this,List.map_id]
  cases c with
  | true =>
    rw [if_pos rfl,List.cons_append,List.nil_append] at hL
    have hz:1≤(txtD y m d true).size:=by rw [← L_len,hL,List.length_cons];omega
    have h0:bt (txtD y m d true) 0=99:=by
      have:=bt_getD (txtD y m d true) 0 (by omega);rw [show ((0:Nat):Int)=0 from rfl] at this;rw [this,hL];rfl
    have hc:cirQ (txtD y m d true)=true:=dt ⟨hz,h0⟩;refine ⟨hc,?_⟩;unfold partsQ restQ;rw [if_pos hc,L_extract,hL];simp only [List.drop_succ_cons,List.drop_zero];rw [List.take_of_length_le (by rw [← L_len,hL,List.length_cons];omega),hmid,back]
  | false =>
    rw [if_neg (by simp),List.nil_append] at hL
    obtain ⟨y',rfl⟩:∃ y':Nat,y=(y':Int):=⟨y.toNat,by omega⟩
    have hp:=pad_pos 4 y'
    have h0:bt (txtD y' m d false) 0≠99:=by
      have hz:0<(txtD y' m d false).size:=by rw [← L_len,hL,List.length_append,List.length_append];omega
      have:=bt_getD (txtD y' m d false) 0 hz;rw [show ((0:Nat):Int)=0 from rfl] at this;rw [this,hL]
      cases hq:L (padB 4 (y':Int)) with
      | nil=>rw [hq] at hp;simp at hp
      | cons b r =>
        have:=pad_dig 4 y' b (by rw [hq];exact List.mem_cons_self)
        show ((b.toNat:Nat):Int)≠99
        omega
    have hc:cirQ (txtD y' m d false)=false:=df (fun x=>h0 x.2);refine ⟨hc,?_⟩;unfold partsQ restQ;rw [hc,if_neg (by simp),hL,hmid,back]
theorem padB_inj (w:Nat) {a b:Int} (h1:0≤a) (h2:0≤b) (e:padB w a=padB w b):a=b:=by
  obtain ⟨a',rfl⟩:∃ y':Nat,a=(y':Int):=⟨a.toNat,by omega⟩
  obtain ⟨b',rfl⟩:∃ y':Nat,b=(y':Int):=⟨b.toNat,by omega⟩
  have h:=pad_val w a';rw [e,pad_val] at h;exact h.symm
theorem pts_val (y m d:Int) (hy:0≤y) (hm:0≤m) (hd:0≤d):(ptsD y m d).map (fun p=>valS 0 (L p))=if m>0 then (if d>0 then [y,m,d] else [y,m]) else [y]:=by
  obtain ⟨y',rfl⟩:∃ y':Nat,y=(y':Int):=⟨y.toNat,by omega⟩
  obtain ⟨m',rfl⟩:∃ y':Nat,m=(y':Int):=⟨m.toNat,by omega⟩
  obtain ⟨d',rfl⟩:∃ y':Nat,d=(y':Int):=⟨d.toNat,by omega⟩
  unfold ptsD
  split
  · split
    · simp only [List.map_cons,List.map_nil,pad_val]
    · simp only [List.map_cons,List.map_nil,pad_val]
  · simp only [List.map_cons,List.map_nil,pad_val]
theorem date_inj {y m d:Int} {c:Bool} {y' m' d':Int} {c':Bool} (h:goodD y m d c=true) (h':goodD y' m' d' c'=true) (hy:y≠0) (hy':y'≠0) (e:txtD y m d c=txtD y' m' d' c'):y=y'∧m=m'∧d=d'∧c=c':=by
  obtain ⟨c1,p1⟩:=txt_parts (s:=txtD y m d c) ⟨hy,h,rfl⟩;obtain ⟨c2,p2⟩:=txt_parts (s:=txtD y m d c) ⟨hy',h',e.symm⟩;have b:=good_bds h hy;have b':=good_bds h' hy';have k1:=good_md h hy;have k2:=good_md h' hy';have e2:=congrArg (List.map (fun p=>valS 0 (L p))) (p1.symm.trans p2);rw [pts_val y m d (by omega) (by omega) (by omega),pts_val y' m' d' (by omega) (by omega) (by omega)] at e2
  have key:y=y'∧m=m'∧d=d':=by
    by_cases a1:m>0
    · by_cases a2:d>0
      · by_cases a3:m'>0
        · by_cases a4:d'>0
          · rw [if_pos a1,if_pos a2,if_pos a3,if_pos a4] at e2;simp at e2;omega
          · rw [if_pos a1,if_pos a2,if_pos a3,if_neg a4] at e2;simp at e2
        · rw [if_pos a1,if_pos a2,if_neg a3] at e2;simp at e2
      · by_cases a3:m'>0
        · by_cases a4:d'>0
          · rw [if_pos a1,if_neg a2,if_pos a3,if_pos a4] at e2;simp at e2
          · rw [if_pos a1,if_neg a2,if_pos a3,if_neg a4] at e2;simp at e2;omega
        · rw [if_pos a1,if_neg a2,if_neg a3] at e2;simp at e2
    · have z1:=k1 a1
      by_cases a3:m'>0
      · by_cases a4:d'>0
        · rw [if_neg a1,if_pos a3,if_pos a4] at e2;simp at e2
        · rw [if_neg a1,if_pos a3,if_neg a4] at e2;simp at e2
      · have z2:=k2 a3
        rw [if_neg a1,if_neg a3] at e2;simp at e2;omega
  exact ⟨key.1,key.2.1,key.2.2,c1.symm.trans c2⟩
theorem date_ne {y m d:Int} {c:Bool} (h:goodD y m d c=true) (hy:y≠0):txtD y m d c≠(⟨#[]⟩:ByteArray):=by
  intro e;have b:=good_bds h hy
  obtain ⟨y',rfl⟩:∃ y':Nat,y=(y':Int):=⟨y.toNat,by omega⟩
  have hp:=pad_pos 4 y';have hl:=congrArg (fun s=>(L s).length) e;have h0:(L (⟨#[]⟩:ByteArray)).length=0:=rfl;unfold txtD at hl;simp only [L_mk,List.length_append,h0] at hl;omega
def dtx (y m d:Int) (c:Bool):ByteArray:=if y=0 then (⟨#[]⟩:ByteArray) else txtD y m d c
theorem good_zero {m d:Int} {c:Bool} (h:goodD 0 m d c=true):m=0∧d=0∧c=false:=by
  unfold goodD at h;by_cases a:(0:Int)=0∧m=0∧d=0∧c=false
  · exact ⟨a.2.1,a.2.2.1,a.2.2.2⟩
  · rw [if_neg a,if_pos (by omega)] at h;cases h
theorem dtx_inj {y m d:Int} {c:Bool} {y' m' d':Int} {c':Bool} (h:goodD y m d c=true) (h':goodD y' m' d' c'=true) (e:dtx y m d c=dtx y' m' d' c'):y=y'∧m=m'∧d=d'∧c=c':=by
  unfold dtx at e;by_cases a:y=0
  · by_cases b:y'=0
    · subst a b
      have z1:=good_zero h;have z2:=good_zero h';exact ⟨rfl,z1.1.trans z2.1.symm,z1.2.1.trans z2.2.1.symm,z1.2.2.trans z2.2.2.symm⟩
    · rw [if_pos a,if_neg b] at e;exact absurd e.symm (date_ne h' b)
  · by_cases b:y'=0
    · rw [if_neg a,if_pos b] at e;exact absurd e (date_ne h a)
    · rw [if_neg a,if_neg b] at e;exact date_inj h h' a b e
def vtx (v:Int):ByteArray:=if v=0 then (⟨#[]⟩:ByteArray) else mkB (Lib.itoa v)
theorem itoa_pad (v:Int):mkB (Lib.itoa v)=padB 0 v:=by
  unfold padB zer;rw [Nat.zero_sub];rfl
theorem itoa_ne (v:Int) (h0:0≤v):mkB (Lib.itoa v)≠(⟨#[]⟩:ByteArray):=by
  intro e
  obtain ⟨n,rfl⟩:∃ y':Nat,v=(y':Int):=⟨v.toNat,by omega⟩
  have hp:=pad_pos 0 n;rw [← itoa_pad,e] at hp;exact absurd hp (by decide)
theorem vtx_inj {v v':Int} (h:0≤v) (h':0≤v') (e:vtx v=vtx v'):v=v':=by
  unfold vtx at e;by_cases a:v=0
  · by_cases b:v'=0
    · omega
    · rw [if_pos a,if_neg b] at e;exact absurd e.symm (itoa_ne v' h')
  · by_cases b:v'=0
    · rw [if_neg a,if_pos b] at e;exact absurd e (itoa_ne v h)
    · rw [if_neg a,if_neg b,itoa_pad,itoa_pad] at e;exact padB_inj 0 h h' e
theorem spl_app (b:UInt8) (X Y:List UInt8):spl b (X++b :: Y)=spl b X++spl b Y:=by
  induction X with
  | nil=>rw [List.nil_append,spl_cons,if_pos rfl];rfl
  | cons c X ih =>
    rw [List.cons_append,spl_cons,spl_cons,ih];by_cases h:c=b
    · rw [if_pos h,if_pos h];rfl
    · rw [if_neg h,if_neg h]
      cases hs:spl b X with
      | nil=>exact absurd hs (spl_ne b X)
      | cons p q=>rfl
theorem spl_free (b:UInt8) (l:List UInt8) (h:∀ x∈l,x≠b):spl b l=[l]:=spl_none b l (fun k e=>h b (List.mem_of_getElem? e) rfl)
theorem join_two (b:UInt8) (x y:List UInt8) (ls:List (List UInt8)):Lib.join (x :: y :: ls) [b]=x++b :: Lib.join (y :: ls) [b]:=by
  rw [Lib.join_cons,Lib.join_cons];simp [Lib.joinTail]
theorem spl_join (b:UInt8) (ls:List (List UInt8)):∀ x:List UInt8,(∀ y∈x,y≠b)→(∀ l∈ls,∀ y∈l,y≠b)→spl b (Lib.join (x :: ls) [b])=x :: ls:=by
  induction ls with
  | nil=>intro x hx _;rw [Lib.join_one];exact spl_free b x hx
  | cons y ls ih =>
    intro x hx h;rw [join_two,spl_app,spl_free b x hx,ih y (h y (by simp)) (fun l hl=>h l (by simp [hl]))];rfl
theorem join_spl (b:UInt8) (l:List UInt8):Lib.join (spl b l) [b]=l:=by
  induction l with
  | nil=>rfl
  | cons c l ih =>
    rw [spl_cons]
    cases hs:spl b l with
    | nil=>exact absurd hs (spl_ne b l)
    | cons p q =>
      rw [hs] at ih;by_cases h:c=b
      · rw [if_pos h,join_two,ih,h];rfl
      · rw [if_neg h]
        show Lib.join (([c]++p) :: q) [b]=_
        rw [Lib.join_cons,List.append_assoc,← Lib.join_cons,ih];rfl
theorem occ_free (A X:List UInt8) (h:∀ x∈A,x≠44):Lib.NoOcc (A++X) [44,32] A.length:=by
  intro j hj;unfold Lib.occAt;rw [List.drop_append_of_le_length (by omega)]
  cases hd:A.drop j with
  | nil=>have:=congrArg List.length hd;simp at this;omega
  | cons a r =>
    have ha:a∈A:=List.mem_of_mem_drop (by rw [hd];simp)
    show ((44 == a) && _)=false
    rw [beq_false_of_ne (fun e=>h a ha e.symm)];rfl
theorem index2_hit (A B:List UInt8) (h:∀ x∈A,x≠44):Lib.index (A++44 :: 32 :: B) [44,32]=A.length :=
  Lib.index_hit (occ_free A _ h) (by simp) (by unfold Lib.occAt;rw [List.drop_left];rfl)
theorem index2_none (A:List UInt8) (h:∀ x∈A,x≠44):Lib.index A [44,32]=-1:=by
  refine Lib.index_none (fun j hj=>?_);by_cases c:j<A.length
  · have:=occ_free A [] h j c
    rwa [List.append_nil] at this
  · unfold Lib.occAt
    rw [List.drop_of_length_le (by omega)];rfl
def sepC:ByteArray:=⟨#[44,32]⟩
theorem sepC_L:sepC.data.toList=[44,32]:=rfl
theorem sepC_size:sepC.size=2:=rfl
def splA (s:ByteArray):List ByteArray:=Lib.splitB sepC 0 (Lib.countB s sepC) s
theorem splA_none (s:ByteArray) (h:∀ x∈L s,x≠44):splA s=[s]:=by
  have hi:Lib.indexB s sepC=-1:=by unfold Lib.indexB;rw [sepC_L];exact index2_none (L s) h
  unfold splA;exact Lib.splitB_miss _ _ _ _ hi
theorem splA_hit (s:ByteArray) (A B:List UInt8) (h:∀ x∈A,x≠44) (e:L s=A++44 :: 32 :: B):splA s=mkB A :: splA (mkB B):=by
  have hi:Lib.indexB s sepC=(A.length:Nat):=by
    unfold Lib.indexB;rw [sepC_L]
    show Lib.index (L s) [44,32]=_
    rw [e];exact index2_hit A B h
  have hc:=Lib.countB_hit s sepC A.length (by rw [sepC_size];omega) hi
  have hx:s.extract (A.length+sepC.size) s.size=mkB B:=by
    apply L_inj;rw [L_extract,L_mk,e,sepC_size,← List.drop_drop,List.drop_left];simp only [List.drop_succ_cons,List.drop_zero];have:=congrArg List.length e;rw [L_len] at this;simp at this;exact List.take_of_length_le (by omega)
  have ha:s.extract 0 (A.length+0)=mkB A:=by
    apply L_inj;rw [L_extract,L_mk,e,List.drop_zero,Nat.add_zero,Nat.sub_zero,List.take_left]
  unfold splA;rw [hc,Nat.add_comm 1,Lib.splitB_hit _ _ _ _ _ hi,hx,ha]
abbrev Rd:=List ByteArray × ByteArray × ByteArray × ByteArray × Bool
def none5:Rd:=(([]:List ByteArray),(⟨#[]⟩:ByteArray),(⟨#[]⟩:ByteArray),(⟨#[]⟩:ByteArray),false)
def finP (s:ByteArray) (G:List ByteArray) (P F S:ByteArray):Rd:=if goodN G P F S=true then (if (invD G P F S).toList=s.toList then (G,P,F,S,true) else none5) else none5
def prt (ps:List ByteArray) (i:Nat):ByteArray:=ps.getD i ByteArray.empty
def famW (p:ByteArray):ByteArray:=(wordsOf p).getLastD ByteArray.empty
def parW (p:ByteArray):ByteArray:=mkB (Lib.join ((wordsOf p).dropLast.map L) [32])
theorem wordsOf_L (p:ByteArray):(wordsOf p).map L=spl 32 (L p):=by
  unfold wordsOf;rw [List.map_map]
  have:(L∘mkB)=id:=by funext x;exact L_mk x
  rw [this,List.map_id]
theorem part_size {P:ByteArray} (h:partD P=true):P.size≤26:=by
  unfold partD at h;rw [Bool.or_eq_true] at h
  rcases h with h|h
  · have:=od h;omega
  · rw [Bool.and_eq_true] at h
    have h2:=od h.2;have e:=join_spl 32 (L P);rw [← wordsOf_L] at e
    have hb:∀ x∈(wordsOf P).map L,x.length≤12:=fun x hx=>by
      obtain ⟨y,hy,rfl⟩:=List.mem_map.1 hx;have h1:=List.all_eq_true.1 h.1 y hy;rw [Bool.and_eq_true] at h1;have:=inD_iff.1 h1.1;rw [L_len];omega
    have hl:(Lib.join ((wordsOf P).map L) [32]).length≤26:=by
      revert hb h2
      generalize (wordsOf P)=ws;intro h2 hb
      match ws,h2 with
      | [],_=>simp [Lib.join_nil]
      | [a],_=>have:=hb (L a) (by simp);show (Lib.join [L a] [32]).length≤26;rw [Lib.join_one];omega
      | [a,b],_ =>
        have h1:=hb (L a) (by simp);have h2:=hb (L b) (by simp);simp only [List.map_cons,List.map_nil];rw [join_two,Lib.join_one,List.length_append,List.length_cons];omega
      | a :: b :: c :: r,h=>simp at h
    rw [e,L_len] at hl;exact hl
structure Gd (G:List ByteArray) (P F S:ByteArray):Prop where
  g3:G.length≤3
  gw:∀ x∈G,wordD x=true
  p:partD P=true
  f:wordD F=true
  s:S.size=0∨wordD S=true
theorem gd_of {G:List ByteArray} {P F S:ByteArray} (h:goodN G P F S=true):Gd G P F S:=by
  unfold goodN restD sufD at h;simp only [Bool.and_eq_true,Bool.or_eq_true,decide_eq_true_eq] at h;obtain ⟨h1,h2,h3,h4,h5⟩:=h;refine ⟨h2,fun x hx=>?_,h3,?_,h5⟩
  · have:=List.all_eq_true.1 h1 x hx
    unfold greatD at this;rw [Bool.and_eq_true] at this;exact this.1
  · unfold greatD at h4
    rw [Bool.and_eq_true] at h4;exact h4.1
theorem bytes_le {G:List ByteArray} (h:∀ x∈G,x.size≤12):bytesS G≤12*G.length:=by
  induction G with
  | nil=>exact Nat.le_refl _
  | cons a G ih =>
    have h1:=ih (fun x hx=>h x (by simp [hx]));have h2:=h a (by simp);rw [bytesS_cons,List.length_cons];omega
def implG (ps:List ByteArray):List ByteArray:=if 1<ps.length∧(prt ps 1).size≠0 then wordsOf (prt ps 1) else []
def implS (ps:List ByteArray):ByteArray:=if 2<ps.length then prt ps 2 else (⟨#[]⟩:ByteArray)
def implR (s:ByteArray):Rd:=if 3<(splA s).length∨200<s.size then none5 else finP s (implG (splA s)) (parW (prt (splA s) 0)) (famW (prt (splA s) 0)) (implS (splA s))
theorem le_rng2 {c:Int} (h:leD c=true):65≤c∧c≤122:=by
  unfold leD upD loD at h;simp only [Bool.or_eq_true,Bool.and_eq_true,decide_eq_true_eq] at h;omega
theorem wl_at2 (s:ByteArray) (d:Nat):∀ i j:Nat,wlD s d i=true→i≤j→j<i+d→okD s j=true:=by
  induction d with
  | zero=>intro i j h h1 h2;omega
  | succ d ih =>
    intro i j h h1 h2;unfold wlD at h;rw [Bool.and_eq_true] at h;by_cases e:j=i
    · rw [e];exact h.1
    · exact ih (i+1) j h.2 (by omega) (by omega)
theorem word_bytes {w:ByteArray} (h:wordD w=true):∀ x∈L w,x≠44∧x≠32:=by
  intro x hx;obtain ⟨j,hj,rfl⟩:=List.getElem_of_mem hx
  have hj':j<w.size:=by rw [← L_len];exact hj
  have hb:=bt_get w j hj'
  have key:65≤bt w (j:Int)∨bt w (j:Int)=45∨bt w (j:Int)=39:=by
    unfold wordD at h;simp only [Bool.and_eq_true] at h;obtain ⟨_,⟨h1,_⟩,h3⟩:=h;by_cases c:j=0
    · subst c;exact Or.inl (le_rng2 h1).1
    · have:=wl_at2 w _ 1 j h3 (by omega) (by omega)
      unfold okD at this;simp only [Bool.or_eq_true,Bool.and_eq_true,decide_eq_true_eq] at this
      rcases this with h|⟨h,_⟩
      · exact Or.inl (le_rng2 h).1
      · exact Or.inr h
  have e44:(44:UInt8).toNat=44:=rfl;have e32:(32:UInt8).toNat=32:=rfl
  constructor
  · intro e
    have:=congrArg UInt8.toNat e;omega
  · intro e
    have:=congrArg UInt8.toNat e;omega
theorem spl_mem2 (b:UInt8) (q:UInt8→Prop) (l:List UInt8):(∀ p∈spl b l,∀ x∈p,q x)→∀ x∈l,q x∨x=b:=by
  induction l with
  | nil=>intro _ x hx;cases hx
  | cons c cs ih =>
    intro h x hx;rw [spl_cons] at h;by_cases e:c=b
    · rw [if_pos e] at h
      rcases List.mem_cons.1 hx with rfl|hx
      · exact Or.inr e
      · exact ih (fun p hp=>h p (List.mem_cons_of_mem _ hp)) x hx
    · rw [if_neg e] at h
      cases hs:spl b cs with
      | nil=>exact absurd hs (spl_ne b cs)
      | cons p ps =>
        rw [hs] at h ih;have h1:=h ([c]++p) (List.mem_cons_self)
        rcases List.mem_cons.1 hx with rfl|hx
        · exact Or.inl (h1 _ (by simp))
        · refine ih (fun r hr=>?_) x hx
          rcases List.mem_cons.1 hr with rfl|hr
          · exact fun z hz=>h1 z (by simp [hz])
          · exact h r (List.mem_cons_of_mem _ hr)
theorem part_words {P:ByteArray} (h:partD P=true) (h0:P.size≠0):(∀ w∈wordsOf P,1≤w.size)∧∀ x∈L P,x≠44:=by
  unfold partD at h;rw [Bool.or_eq_true,decide_eq_true_eq] at h
  rcases h with h|h
  · exact absurd h h0
  · rw [Bool.and_eq_true] at h
    refine ⟨fun w hw=>?_,fun x hx=>?_⟩
    · have h1:=List.all_eq_true.1 h.1 w hw
      rw [Bool.and_eq_true] at h1;exact (inD_iff.1 h1.1).1
    · have hall:=spl_mem2 32 (fun x=>loD (x.toNat:Int)=true) (L P) (fun p hp x hx=>by
        have h1:=List.all_eq_true.1 h.1 (mkB p) (List.mem_map.2 ⟨p,hp,rfl⟩);rw [Bool.and_eq_true] at h1
        exact List.all_eq_true.1 h1.2 x (by rw [List.drop_zero,L_mk];exact hx)) x hx
      rcases hall with h2|h2
      · intro e;subst e;revert h2;decide
      · subst h2;decide
theorem joinD_L (l:List ByteArray) (h:∀ x∈l,1≤x.size):L (joinD l)=Lib.join (l.map L) [32]:=by
  have:=join_filter l;rw [filter_all h] at this;exact this.symm
theorem L_two (P F:ByteArray) (hF:1≤F.size):L (joinD [P,F])=if P.size=0 then L F else L P++32 :: L F:=by
  have e:joinD [P,F]=glu (glu ByteArray.empty P) F:=rfl;have e0:glu ByteArray.empty P=P:=L_inj (by rw [L_glu,if_neg (fun x=>x.1 rfl)];rfl);rw [e,e0,L_glu];by_cases h:P.size=0
  · rw [if_neg (fun x=>x.1 h),if_pos h,L_nil h];rfl
  · rw [if_pos ⟨h,by omega⟩,if_neg h]
section full
variable {G:List ByteArray} {P F S:ByteArray} (g:Gd G P F S)
include g
theorem A_free:∀ x∈L (joinD [P,F]),x≠44:=by
  have hF:=word_in g.f;intro x hx;rw [L_two P F hF.1] at hx;by_cases h:P.size=0
  · rw [if_pos h] at hx;exact (word_bytes g.f x hx).1
  · rw [if_neg h] at hx
    rcases List.mem_append.1 hx with hx|hx
    · exact (part_words g.p h).2 x hx
    · rcases List.mem_cons.1 hx with rfl|hx
      · decide
      · exact (word_bytes g.f x hx).1
theorem A_words:wordsOf (joinD [P,F])=(if P.size=0 then [] else wordsOf P)++[F]:=by
  have hF:=word_in g.f;have hf:=spl_free 32 (L F) (fun x hx=>(word_bytes g.f x hx).2);unfold wordsOf;rw [L_two P F hF.1];by_cases h:P.size=0
  · rw [if_pos h,if_pos h,hf];simp [mk_L]
  · rw [if_neg h,if_neg h,spl_app,hf,List.map_append];simp [mk_L]
theorem A_fam:famW (joinD [P,F])=F:=by
  unfold famW;rw [A_words g];simp
theorem A_par:parW (joinD [P,F])=P:=by
  unfold parW;rw [A_words g,List.dropLast_concat];by_cases h:P.size=0
  · rw [if_pos h]
    apply L_inj;rw [L_mk,L_nil h];rfl
  · rw [if_neg h,wordsOf_L,join_spl,mk_L]
theorem G_pos:∀ x∈G,1≤x.size:=fun x hx=>(word_in (g.gw x hx)).1
theorem B_L:L (joinD G)=Lib.join (G.map L) [32]:=joinD_L G (G_pos g)
theorem B_free:∀ x∈L (joinD G),x≠44:=by
  rw [B_L g];have hw:=g.gw;clear g
  revert hw
  induction G with
  | nil=>intro _ x hx;simp [Lib.join_nil] at hx
  | cons a G ih =>
    intro hw x hx
    cases G with
    | nil=>rw [List.map_cons,List.map_nil,Lib.join_one] at hx;exact (word_bytes (hw a (by simp)) x hx).1
    | cons b G =>
      rw [List.map_cons,List.map_cons,join_two] at hx
      rcases List.mem_append.1 hx with hx|hx
      · exact (word_bytes (hw a (by simp)) x hx).1
      · rcases List.mem_cons.1 hx with rfl|hx
        · decide
        · exact ih (fun y hy=>hw y (by simp [hy])) x (by rw [List.map_cons];exact hx)
theorem B_words (h:G≠[]):wordsOf (joinD G)=G:=by
  unfold wordsOf;rw [B_L g]
  cases G with
  | nil=>exact absurd rfl h
  | cons a G =>
    rw [List.map_cons,spl_join 32 (G.map L) (L a) (fun y hy=>(word_bytes (g.gw a (by simp)) y hy).2) (fun l hl y hy=>by
      obtain ⟨w,hw,rfl⟩:=List.mem_map.1 hl
      exact (word_bytes (g.gw w (by simp [hw])) y hy).2),← List.map_cons,List.map_map]
    have:(mkB∘L)=id:=by funext x;exact mk_L x
    rw [this,List.map_id]
theorem B_nil:(joinD G).size=0 ↔ G=[]:=by
  constructor
  · intro h
    cases G with
    | nil=>rfl
    | cons a G =>
      have h1:=B_L g;rw [L_nil h,List.map_cons,Lib.join_cons] at h1;have h2:=congrArg List.length h1;rw [List.length_append,L_len] at h2;have:=G_pos g a (by simp);simp at h2;omega
  · intro h;subst h;rfl
omit g in
theorem inv_L:L (invD G P F S)=if G=[]∧S.size=0 then L (joinD [P,F]) else if S.size=0 then L (joinD [P,F])++44 :: 32 :: L (joinD G) else L (joinD [P,F])++44 :: 32 :: (L (joinD G)++44 :: 32 :: L S):=by
  unfold invD tailI;have hg:G.length>0 ↔ G≠[]:=List.length_pos_iff;by_cases c:G=[]∧S.size=0
  · rw [if_pos c,if_neg (fun x=>x.elim (fun y=>hg.1 y c.1) (fun y=>y c.2))]
  · have hc:G.length>0∨S.size≠0:=by
      by_cases h:G=[]
      · exact Or.inr (fun e=>c ⟨h,e⟩)
      · exact Or.inl (hg.2 h)
    rw [if_neg c,if_pos hc];by_cases h:S.size=0
    · rw [if_pos h,if_pos h];simp only [L_append,List.append_assoc];rfl
    · rw [if_neg h,if_neg h];simp only [L_append,List.append_assoc];rfl
theorem S_free:∀ x∈L S,x≠44:=by
  intro x hx
  rcases g.s with h|h
  · rw [L_nil h] at hx;cases hx
  · exact (word_bytes h x hx).1
theorem inv_size:(invD G P F S).size≤200:=by
  have h1:=joinD_size [P,F];have h2:sumB [P,F]=P.size+1+(F.size+1+0):=rfl;have h3:=joinD_size G;have h4:=sumB_bulk G;have h5:=bytes_le (G:=G) (fun x hx=>(word_in (g.gw x hx)).2);have h6:=part_size g.p;have h7:=word_in g.f
  have h8 : S.size ≤ 12 := by rcases g.s with h | h
                              · omega
                              · exact (word_in h).2
  have h9:=g.g3;unfold bulkS at h4;have hl:=congrArg List.length (inv_L (G:=G) (P:=P) (F:=F) (S:=S));rw [L_len] at hl;rw [hl]
  split
  · rw [L_len];omega
  · split
    · simp only [List.length_append,List.length_cons,L_len];omega
    · simp only [List.length_append,List.length_cons,L_len];omega
omit g in
theorem fin_yes (hg:goodN G P F S=true):finP (invD G P F S) G P F S=(G,P,F,S,true):=by
  unfold finP;rw [if_pos hg,if_pos rfl]
theorem impl_yesP (hg:goodN G P F S=true):implR (invD G P F S)=(G,P,F,S,true):=by
  have hz:=inv_size g;have hA:=A_free g;have hB:=B_free g;have hL:=inv_L (G:=G) (P:=P) (F:=F) (S:=S);unfold implR;by_cases c:G=[]∧S.size=0
  · rw [if_pos c] at hL
    have e:invD G P F S=joinD [P,F]:=L_inj hL
    have hs:splA (invD G P F S)=[joinD [P,F]]:=by rw [e];exact splA_none _ hA
    rw [hs,if_neg (fun x=>x.elim (by simp) (by omega))]
    have e1:implG [joinD [P,F]]=G:=by rw [c.1];exact if_neg (by simp)
    have e2:implS [joinD [P,F]]=S:=by unfold implS;rw [if_neg (by simp)];apply L_inj;rw [L_nil c.2]
    rw [e1,e2,show prt [joinD [P,F]] 0=joinD [P,F] from rfl,A_par g,A_fam g];exact fin_yes hg
  · rw [if_neg c] at hL
    by_cases h:S.size=0
    · rw [if_pos h] at hL
      have hG:G≠[]:=fun e=>c ⟨e,h⟩
      have hs:splA (invD G P F S)=[joinD [P,F],joinD G]:=by
        rw [splA_hit _ _ _ hA hL,mk_L,mk_L,splA_none _ hB]
      rw [hs,if_neg (fun x=>x.elim (by simp) (by omega))]
      have e1:implG [joinD [P,F],joinD G]=G:=by
        unfold implG;rw [if_pos ⟨by simp,fun e=>hG ((B_nil g).1 e)⟩];exact B_words g hG
      have e2:implS [joinD [P,F],joinD G]=S:=by unfold implS;rw [if_neg (by simp)];apply L_inj;rw [L_nil h]
      rw [e1,e2,show prt [joinD [P,F],joinD G] 0=joinD [P,F] from rfl,A_par g,A_fam g];exact fin_yes hg
    · rw [if_neg h] at hL
      have hs:splA (invD G P F S)=[joinD [P,F],joinD G,S]:=by
        rw [splA_hit _ _ _ hA hL,mk_L,splA_hit _ _ _ hB (L_mk _),mk_L,mk_L,splA_none _ (S_free g)]
      rw [hs,if_neg (fun x=>x.elim (by simp) (by omega))]
      have e1:implG [joinD [P,F],joinD G,S]=G:=by
        unfold implG;by_cases e:G=[]
        · rw [if_neg (fun x=>x.2 ((B_nil g).2 e)),e]
        · rw [if_pos ⟨by simp,fun x=>e ((B_nil g).1 x)⟩];exact B_words g e
      have e2:implS [joinD [P,F],joinD G,S]=S:=by unfold implS;rw [if_pos (by simp)];rfl
      rw [e1,e2,show prt [joinD [P,F],joinD G,S] 0=joinD [P,F] from rfl,A_par g,A_fam g];exact fin_yes hg
end full
theorem inv_inj {G:List ByteArray} {P F S:ByteArray} {G':List ByteArray} {P' F' S':ByteArray} (h:goodN G P F S=true) (h':goodN G' P' F' S'=true) (e:invD G P F S=invD G' P' F' S'):(G,P,F,S,true)=(G',P',F',S',true):=by
  rw [← impl_yesP (gd_of h) h,← impl_yesP (gd_of h') h',e]
abbrev NmS:=S68
theorem word59 {w:ByteArray} (h:wordD w=true):∀ x∈L w,x≠59:=by
  intro x hx;obtain ⟨j,hj,rfl⟩:=List.getElem_of_mem hx
  have hj':j<w.size:=by rw [← L_len];exact hj
  have hb:=bt_get w j hj'
  have key:65≤bt w (j:Int)∨bt w (j:Int)=45∨bt w (j:Int)=39:=by
    unfold wordD at h;simp only [Bool.and_eq_true] at h;obtain ⟨_,⟨h1,_⟩,h3⟩:=h;by_cases c:j=0
    · subst c;exact Or.inl (le_rng2 h1).1
    · have:=wl_at2 w _ 1 j h3 (by omega) (by omega)
      unfold okD at this;simp only [Bool.or_eq_true,Bool.and_eq_true,decide_eq_true_eq] at this
      rcases this with h|⟨h,_⟩
      · exact Or.inl (le_rng2 h).1
      · exact Or.inr h
  have e59:(59:UInt8).toNat=59:=rfl;intro e;have:=congrArg UInt8.toNat e;omega
theorem part59 {P:ByteArray} (h:partD P=true) (h0:P.size≠0):∀ x∈L P,x≠59:=by
  unfold partD at h;rw [Bool.or_eq_true,decide_eq_true_eq] at h
  rcases h with h|h
  · exact absurd h h0
  · rw [Bool.and_eq_true] at h
    intro x hx
    have hall:=spl_mem2 32 (fun x=>loD (x.toNat:Int)=true) (L P) (fun p hp x hx=>by
      have h1:=List.all_eq_true.1 h.1 (mkB p) (List.mem_map.2 ⟨p,hp,rfl⟩);rw [Bool.and_eq_true] at h1
      exact List.all_eq_true.1 h1.2 x (by rw [List.drop_zero,L_mk];exact hx)) x hx
    rcases hall with h2|h2
    · intro e;subst e;revert h2;decide
    · subst h2;decide
theorem join_mem (b:UInt8) (ls:List (List UInt8)):∀ x∈Lib.join ls [b],x=b∨∃ l∈ls,x∈l:=by
  induction ls with
  | nil=>intro x hx;simp [Lib.join_nil] at hx
  | cons y ls ih =>
    intro x hx
    cases ls with
    | nil=>rw [Lib.join_one] at hx;exact Or.inr ⟨y,by simp,hx⟩
    | cons z ls =>
      rw [join_two] at hx
      rcases List.mem_append.1 hx with hx|hx
      · exact Or.inr ⟨y,by simp,hx⟩
      · rcases List.mem_cons.1 hx with rfl|hx
        · exact Or.inl rfl
        · rcases ih x hx with h|⟨l,hl,h⟩
          · exact Or.inl h
          · exact Or.inr ⟨l,List.mem_cons_of_mem _ hl,h⟩
theorem inv59 {G:List ByteArray} {P F S:ByteArray} (g:Gd G P F S):∀ x∈L (invD G P F S),x≠59:=by
  have hF:=word_in g.f
  have hA:∀ x∈L (joinD [P,F]),x≠59:=fun x hx=>by
    rw [L_two P F hF.1] at hx;by_cases h:P.size=0
    · rw [if_pos h] at hx;exact word59 g.f x hx
    · rw [if_neg h] at hx
      rcases List.mem_append.1 hx with hx|hx
      · exact part59 g.p h x hx
      · rcases List.mem_cons.1 hx with rfl|hx
        · decide
        · exact word59 g.f x hx
  have hB:∀ x∈L (joinD G),x≠59:=fun x hx=>by
    rw [B_L g] at hx
    rcases join_mem 32 _ x hx with rfl|⟨l,hl,hx⟩
    · decide
    · obtain ⟨w,hw,rfl⟩:=List.mem_map.1 hl
      exact word59 (g.gw w hw) x hx
  have hS:∀ x∈L S,x≠59:=fun x hx=>by
    rcases g.s with h|h
    · rw [L_nil h] at hx;cases hx
    · exact word59 h x hx
  have hc:∀ (X Y:List UInt8),(∀ x∈X,x≠59)→(∀ x∈Y,x≠59)→∀ x∈X++44 :: 32 :: Y,x≠59:=fun X Y h1 h2 x hx=>by
    rcases List.mem_append.1 hx with hx|hx
    · exact h1 x hx
    · rcases List.mem_cons.1 hx with rfl|hx
      · decide
      · rcases List.mem_cons.1 hx with rfl|hx
        · decide
        · exact h2 x hx
  rw [inv_L (G:=G) (P:=P) (F:=F) (S:=S)]
  split
  · exact hA
  · split
    · exact hc _ _ hA hB
    · exact hc _ _ hA (hc _ _ hB hS)
theorem iv59 {x:NmS} (h:goodS x=true):∀ b∈L (ivS x),b≠59:=inv59 (gd_of h)
theorem iv_ne {x:NmS} (h:goodS x=true):L (ivS x)≠[]:=by
  have g:=gd_of h;have hF:=(word_in g.f).1;unfold ivS;rw [inv_L (G:=x.f0) (P:=x.f1) (F:=x.f2) (S:=x.f3)]
  have hA:L (joinD [x.f1,x.f2])≠[]:=by
    rw [L_two x.f1 x.f2 hF]
    split
    · intro e
      have:=congrArg List.length e;rw [L_len,List.length_nil] at this;omega
    · simp
  split
  · exact hA
  · split
    · simp
    · simp
theorem iv_inj {x y:NmS} (h:goodS x=true) (h':goodS y=true) (e:ivS x=ivS y):x=y:=by
  have:=inv_inj (G:=x.f0) (P:=x.f1) (F:=x.f2) (S:=x.f3) (G':=y.f0) (P':=y.f1) (F':=y.f2) (S':=y.f3) h h' e
  cases x;cases y
  simp only [Prod.mk.injEq] at this;obtain ⟨h1,h2,h3,h4,_⟩:=this;subst h1 h2 h3 h4;rfl
theorem spl_jt (ls:List (List UInt8)):∀ a:List UInt8,(∀ b∈a,b≠59)→(∀ l∈ls,∀ b∈l,b≠59)→spl 59 (Lib.join (a :: ls) [59,32])=a :: ls.map (fun l=>32 :: l):=by
  induction ls with
  | nil=>intro a ha _;rw [Lib.join_one];exact spl_free 59 _ ha
  | cons y r ih =>
    intro a ha hl
    have e:Lib.join (a :: y :: r) [59,32]=a++59 :: Lib.join ((32 :: y) :: r) [59,32]:=by
      rw [Lib.join_cons,Lib.join_cons];simp [Lib.joinTail]
    have h32:∀ b∈(32 :: y:List UInt8),b≠59:=fun b hb=>by
      rcases List.mem_cons.1 hb with rfl|hb
      · decide
      · exact hl y (by simp) b hb
    rw [e,spl_app,spl_free 59 _ ha,ih (32 :: y) h32 (fun l h=>hl l (by simp [h]))];rfl
theorem map_same {f:NmS→List UInt8} (r:List NmS):∀ r':List NmS,(∀ x∈r,∀ y∈r',f x=f y→x=y)→r.map f=r'.map f→r=r':=by
  induction r with
  | nil=>intro r' _ e;cases r' with
    | nil=>rfl
    | cons y r'=>cases e
  | cons x r ih=>intro r' h e;cases r' with
    | nil=>cases e
    | cons y r' =>
      rw [List.map_cons,List.map_cons] at e
      injection e with e1 e2
      rw [h x (by simp) y (by simp) e1,ih r' (fun a ha b hb=>h a (by simp [ha]) b (by simp [hb])) e2]
theorem nt_inj {A A':List NmS} (h:∀ x∈A,goodS x=true) (h':∀ x∈A',goodS x=true) (e:ntD A=ntD A'):A=A':=by
  unfold ntD at e;have e1:=congrArg L e;rw [L_mk,L_mk] at e1
  cases A with
  | nil=>cases A' with
    | nil=>rfl
    | cons y r' =>
      rw [List.map_cons,Lib.join_cons,List.map_nil,Lib.join_nil] at e1;exact absurd (List.append_eq_nil_iff.1 e1.symm).1 (iv_ne (h' y (by simp)))
  | cons x r=>cases A' with
    | nil =>
      rw [List.map_cons,Lib.join_cons,List.map_nil,Lib.join_nil] at e1;exact absurd (List.append_eq_nil_iff.1 e1).1 (iv_ne (h x (by simp)))
    | cons y r' =>
      have e2:=congrArg (spl 59) e1;rw [List.map_cons,List.map_cons,spl_jt _ _ (iv59 (h x (by simp))) (fun l hl=>by obtain ⟨z,hz,rfl⟩:=List.mem_map.1 hl;exact iv59 (h z (by simp [hz]))),spl_jt _ _ (iv59 (h' y (by simp))) (fun l hl=>by obtain ⟨z,hz,rfl⟩:=List.mem_map.1 hl;exact iv59 (h' z (by simp [hz])))] at e2
      injection e2 with e3 e4
      rw [iv_inj (h x (by simp)) (h' y (by simp)) (L_inj e3)];rw [List.map_map,List.map_map] at e4;rw [map_same (f:=(fun l=>32 :: l)∘fun x=>L (ivS x)) r r' (fun a ha b hb e5=>iv_inj (h a (by simp [ha])) (h' b (by simp [hb])) (L_inj (by injection e5))) e4]
end Go.Proofs.YtcbhlghofihjcaaGreatDoor.G

namespace Go.Proofs.YtcbhlghofihjcaaGreatDoor.G
open Go.RowKit Go.Proofs.YtcbhlghofihjcaaGreatDoor.Gl Go.Proofs.YtcbhlghofihjcaaGreatDoorW.PrintWords Go.Proofs.YtcbhlghofihjcaaGreatDoorW.PrintLast Go.Proofs.YtcbhlghofihjcaaGreatDoor.B Go.Proofs.YtcbhlghofihjcaaGreatDoor.Opn
set_option linter.unusedVariables false
set_option linter.unusedSimpArgs false
def txtF (A E:List S68) (T C Pb:ByteArray) (y m d:Int) (c:Bool) (v:Int) (Pg a:ByteArray):ByteArray :=
  if L a=[97,117,116,104,111,114,115] then ntD A else if L a=[101,100,105,116,111,114,115] then ntD E else if L a=[116,105,116,108,101] then T else if L a=[99,111,110,116,97,105,110,101,114] then C else if L a=[112,117,98,108,105,115,104,101,114] then Pb else if L a=[100,97,116,101] then dtx y m d c else if L a=[118,111,108,117,109,101] then vtx v else Pg
theorem field_V (K:ByteArray) (kd:Int) (A E:List S68) (T C Pb:ByteArray) (y m d:Int) (c:Bool) (v:Int) (Pg X:ByteArray) (a:ByteArray) (hA:NOk A) (hE:NOk E) (hg:goodD y m d c=true) (hv:0≤v∧v≤9999) (ha:L a∈fld8) :
    Ev (fun k=>spec_l4Field.f k K kd A E T C Pb y m d c v Pg X a) (txtF A E T C Pb y m d c v Pg a,true)∧Ev (fun k=>impl_fieldText.f k K kd A E T C Pb y m d c v Pg X a) (txtF A E T C Pb y m d c v Pg a):=by
  unfold fld8 at ha;unfold spec_l4Field.f impl_fieldText.f;have tl:=toList_L a;by_cases c1:a.toList=([97,117,116,104,111,114,115]:List UInt8)
  · have e:txtF A E T C Pb y m d c v Pg a=ntD A:=by unfold txtF;rw [← tl];rw [if_pos c1]
    rw [e];exact ⟨ev_pos c1 (Ev.bind (spec_nt A hA) (Ev.now _)),ev_pos c1 (Ev.bind (impl_nt A hA) (Ev.now _))⟩
  by_cases c2:a.toList=([101,100,105,116,111,114,115]:List UInt8)
  · have e:txtF A E T C Pb y m d c v Pg a=ntD E:=by unfold txtF;rw [← tl];rw [if_neg c1,if_pos c2]
    rw [e];exact ⟨ev_neg c1 (ev_pos c2 (Ev.bind (spec_nt E hE) (Ev.now _))),ev_neg c1 (ev_pos c2 (Ev.bind (impl_nt E hE) (Ev.now _)))⟩
  by_cases c3:a.toList=([116,105,116,108,101]:List UInt8)
  · have e:txtF A E T C Pb y m d c v Pg a=T:=by unfold txtF;rw [← tl];rw [if_neg c1,if_neg c2,if_pos c3]
    rw [e];exact ⟨ev_neg c1 (ev_neg c2 (ev_pos c3 (Ev.now _))),ev_neg c1 (ev_neg c2 (ev_pos c3 (Ev.now _)))⟩
  by_cases c4:a.toList=([99,111,110,116,97,105,110,101,114]:List UInt8)
  · have e:txtF A E T C Pb y m d c v Pg a=C:=by unfold txtF;rw [← tl];rw [if_neg c1,if_neg c2,if_neg c3,if_pos c4]
    rw [e];exact ⟨ev_neg c1 (ev_neg c2 (ev_neg c3 (ev_pos c4 (Ev.now _)))),ev_neg c1 (ev_neg c2 (ev_neg c3 (ev_pos c4 (Ev.now _))))⟩
  by_cases c5:a.toList=([112,117,98,108,105,115,104,101,114]:List UInt8)
  · have e:txtF A E T C Pb y m d c v Pg a=Pb:=by unfold txtF;rw [← tl];rw [if_neg c1,if_neg c2,if_neg c3,if_neg c4,if_pos c5]
    rw [e];exact ⟨ev_neg c1 (ev_neg c2 (ev_neg c3 (ev_neg c4 (ev_pos c5 (Ev.now _))))),ev_neg c1 (ev_neg c2 (ev_neg c3 (ev_neg c4 (ev_pos c5 (Ev.now _)))))⟩
  by_cases c6:a.toList=([100,97,116,101]:List UInt8)
  · have e:txtF A E T C Pb y m d c v Pg a=dtx y m d c:=by unfold txtF;rw [← tl];rw [if_neg c1,if_neg c2,if_neg c3,if_neg c4,if_neg c5,if_pos c6]
    rw [e]
    have n8:¬ a.toList=([112,97,103,101,115]:List UInt8):=by rw [c6];decide
    by_cases y0:y=0
    · rw [show dtx y m d c=(⟨#[]⟩:ByteArray) from if_pos y0]
      exact ⟨ev_neg c1 (ev_neg c2 (ev_neg c3 (ev_neg c4 (ev_neg c5 (ev_neg n8 (ev_pos c6 (ev_pos y0 (Ev.now _)))))))),ev_neg c1 (ev_neg c2 (ev_neg c3 (ev_neg c4 (ev_neg c5 (ev_pos c6 (ev_neg (by omega) (Ev.now _)))))))⟩
    · rw [show dtx y m d c=txtD y m d c from if_neg y0]
      have hb:=good_bds hg y0;have sv:=spec_txt y m d c ⟨hb.1,hb.2.1⟩ ⟨hb.2.2.1,hb.2.2.2.1⟩ hb.2.2.2.2;have iv:=impl_txt y m d c ⟨hb.1,hb.2.1⟩ ⟨hb.2.2.1,hb.2.2.2.1⟩ hb.2.2.2.2;exact ⟨ev_neg c1 (ev_neg c2 (ev_neg c3 (ev_neg c4 (ev_neg c5 (ev_neg n8 (ev_pos c6 (ev_neg y0 (Ev.bind sv (Ev.now _))))))))),ev_neg c1 (ev_neg c2 (ev_neg c3 (ev_neg c4 (ev_neg c5 (ev_pos c6 (ev_pos (by omega) (Ev.bind iv (Ev.now _))))))))⟩
  by_cases c7:a.toList=([118,111,108,117,109,101]:List UInt8)
  · have e:txtF A E T C Pb y m d c v Pg a=vtx v:=by unfold txtF;rw [← tl];rw [if_neg c1,if_neg c2,if_neg c3,if_neg c4,if_neg c5,if_neg c6,if_pos c7]
    rw [e]
    have n8:¬ a.toList=([112,97,103,101,115]:List UInt8):=by rw [c7];decide
    by_cases v0:v=0
    · rw [show vtx v=(⟨#[]⟩:ByteArray) from if_pos v0]
      exact ⟨ev_neg c1 (ev_neg c2 (ev_neg c3 (ev_neg c4 (ev_neg c5 (ev_neg n8 (ev_neg c6 (ev_pos c7 (ev_pos v0 (Ev.now _))))))))),ev_neg c1 (ev_neg c2 (ev_neg c3 (ev_neg c4 (ev_neg c5 (ev_neg c6 (ev_pos c7 (ev_neg (by omega) (Ev.now _))))))))⟩
    · rw [show vtx v=mkB (Lib.itoa v) from if_neg v0]
      have hi:strconv_Itoa.f v=some (mkB (Lib.itoa v)):=by
        unfold strconv_Itoa.f;rw [if_pos ⟨by omega,by omega⟩];rfl
      exact ⟨ev_neg c1 (ev_neg c2 (ev_neg c3 (ev_neg c4 (ev_neg c5 (ev_neg n8 (ev_neg c6 (ev_pos c7 (ev_neg v0 (Ev.bind (num_ev v (by omega) (by omega)) (Ev.now _)))))))))),ev_neg c1 (ev_neg c2 (ev_neg c3 (ev_neg c4 (ev_neg c5 (ev_neg c6 (ev_pos c7 (ev_pos (by omega) (ev_bind0 hi (Ev.now _)))))))))⟩
  by_cases c8:a.toList=([112,97,103,101,115]:List UInt8)
  · have e:txtF A E T C Pb y m d c v Pg a=Pg:=by unfold txtF;rw [← tl];rw [if_neg c1,if_neg c2,if_neg c3,if_neg c4,if_neg c5,if_neg c6,if_neg c7]
    rw [e];exact ⟨ev_neg c1 (ev_neg c2 (ev_neg c3 (ev_neg c4 (ev_neg c5 (ev_pos c8 (Ev.now _)))))),ev_neg c1 (ev_neg c2 (ev_neg c3 (ev_neg c4 (ev_neg c5 (ev_neg c6 (ev_neg c7 (ev_pos c8 (Ev.now _))))))))⟩
  · exfalso
    rw [toList_L] at c1 c2 c3 c4 c5 c6 c7 c8;simp only [List.mem_cons,List.not_mem_nil,or_false] at ha
    rcases ha with h|h|h|h|h|h|h|h
    · exact c1 h
    · exact c2 h
    · exact c3 h
    · exact c4 h
    · exact c5 h
    · exact c6 h
    · exact c7 h
    · exact c8 h
theorem ent_inj {K:ByteArray} {kd:Int} {A E:List S68} {T C Pb:ByteArray} {y m d:Int} {c:Bool} {v:Int} {Pg X:ByteArray} {K':ByteArray} {kd':Int} {A' E':List S68} {T' C' Pb':ByteArray} {y' m' d':Int} {c':Bool} {v':Int} {Pg' X':ByteArray}
    (g:entD K kd A E T C Pb y m d c v Pg X=true) (g':entD K' kd' A' E' T' C' Pb' y' m' d' c' v' Pg' X'=true) (h:∀ a∈fieldsL,(txtF A E T C Pb y m d c v Pg a).toList=(txtF A' E' T' C' Pb' y' m' d' c' v' Pg' a).toList) :
    A=A'∧E=E'∧T=T'∧C=C'∧Pb=Pb'∧(y=y'∧m=m'∧d=d'∧c=c')∧v=v'∧Pg=Pg':=by
  unfold entD headE tailE at g g';simp only [Bool.and_eq_true] at g g'
  have hv:0≤v:=by
    have:=g.2.2.1.2;unfold volD at this;simp at this;omega
  have hv':0≤v':=by
    have:=g'.2.2.1.2;unfold volD at this;simp at this;omega
  have h1:ntD A=ntD A':=by
    have:=toList_eq_iff.1 (h (⟨#[97,117,116,104,111,114,115]⟩:ByteArray) (by unfold fieldsL;simp));unfold txtF at this;have el:L (⟨#[97,117,116,104,111,114,115]⟩:ByteArray)=[97,117,116,104,111,114,115]:=rfl;rw [el] at this
    simpa using this
  have h2:ntD E=ntD E':=by
    have:=toList_eq_iff.1 (h (⟨#[101,100,105,116,111,114,115]⟩:ByteArray) (by unfold fieldsL;simp));unfold txtF at this;have el:L (⟨#[101,100,105,116,111,114,115]⟩:ByteArray)=[101,100,105,116,111,114,115]:=rfl;rw [el] at this
    simpa using this
  have h3:T=T':=by
    have:=toList_eq_iff.1 (h (⟨#[116,105,116,108,101]⟩:ByteArray) (by unfold fieldsL;simp));unfold txtF at this;have el:L (⟨#[116,105,116,108,101]⟩:ByteArray)=[116,105,116,108,101]:=rfl;rw [el] at this
    simpa using this
  have h4:C=C':=by
    have:=toList_eq_iff.1 (h (⟨#[99,111,110,116,97,105,110,101,114]⟩:ByteArray) (by unfold fieldsL;simp));unfold txtF at this;have el:L (⟨#[99,111,110,116,97,105,110,101,114]⟩:ByteArray)=[99,111,110,116,97,105,110,101,114]:=rfl;rw [el] at this
    simpa using this
  have h5:Pb=Pb':=by
    have:=toList_eq_iff.1 (h (⟨#[112,117,98,108,105,115,104,101,114]⟩:ByteArray) (by unfold fieldsL;simp));unfold txtF at this;have el:L (⟨#[112,117,98,108,105,115,104,101,114]⟩:ByteArray)=[112,117,98,108,105,115,104,101,114]:=rfl;rw [el] at this
    simpa using this
  have h6:dtx y m d c=dtx y' m' d' c':=by
    have:=toList_eq_iff.1 (h (⟨#[100,97,116,101]⟩:ByteArray) (by unfold fieldsL;simp));unfold txtF at this;have el:L (⟨#[100,97,116,101]⟩:ByteArray)=[100,97,116,101]:=rfl;rw [el] at this
    simpa using this
  have h7:vtx v=vtx v':=by
    have:=toList_eq_iff.1 (h (⟨#[118,111,108,117,109,101]⟩:ByteArray) (by unfold fieldsL;simp));unfold txtF at this;have el:L (⟨#[118,111,108,117,109,101]⟩:ByteArray)=[118,111,108,117,109,101]:=rfl;rw [el] at this
    simpa using this
  have h8:Pg=Pg':=by
    have:=toList_eq_iff.1 (h (⟨#[112,97,103,101,115]⟩:ByteArray) (by unfold fieldsL;simp));unfold txtF at this;have el:L (⟨#[112,97,103,101,115]⟩:ByteArray)=[112,97,103,101,115]:=rfl;rw [el] at this
    simpa using this
  exact ⟨nt_inj (list_good g.1.2.2.1).2 (list_good g'.1.2.2.1).2 h1,nt_inj (list_good g.1.2.2.2).2 (list_good g'.1.2.2.2).2 h2,h3,h4,h5,dtx_inj g.2.2.1.1 g'.2.2.1.1 h6,vtx_inj hv hv' h7,h8⟩
theorem difL_nil (f g:ByteArray→ByteArray) (ns:List ByteArray):difL f g ns=[] ↔ ∀ a∈ns,(f a).toList=(g a).toList:=by
  unfold difL;rw [List.filter_eq_nil_iff];exact ⟨fun h a ha=>by simpa using h a ha,fun h a ha=>by simpa using h a ha⟩
theorem difL_comm (f g:ByteArray→ByteArray) (ns:List ByteArray):difL f g ns=difL g f ns:=by
  unfold difL
  congr 1
  funext a
  by_cases e:(f a).toList=(g a).toList
  · rw [dt e,dt e.symm]
  · rw [df e,df (fun x=>e x.symm)]
theorem ite_comm {α:Type} {p q:Prop} [Decidable p] [Decidable q] (h:p ↔ q) (a b:α):(if p then a else b)=if q then a else b:=by
  by_cases c:p
  · rw [if_pos c,if_pos (h.1 c)]
  · rw [if_neg c,if_neg (fun x=>c (h.2 x))]
theorem chgL_comm (f g:ByteArray→ByteArray) (X X':ByteArray) (kd kd':Int) (K K':ByteArray):chgL f g X X' kd kd' K K'=chgL g f X' X kd' kd K' K:=by
  unfold chgL endL lastL;rw [difL_comm,ite_comm (p:=X.toList=X'.toList) (q:=X'.toList=X.toList) eq_comm,ite_comm (p:=kd=kd') (q:=kd'=kd) eq_comm,ite_comm (p:=K.toList=K'.toList) (q:=K'.toList=K.toList) eq_comm]
theorem chgL_nil (f g:ByteArray→ByteArray) (X X':ByteArray) (kd kd':Int) (K K':ByteArray):chgL f g X X' kd kd' K K'=[] ↔ (∀ a∈fieldsL,(f a).toList=(g a).toList)∧X=X'∧kd=kd'∧K=K':=by
  unfold chgL endL lastL;rw [List.append_eq_nil_iff,List.append_eq_nil_iff,List.append_eq_nil_iff,difL_nil]
  have h1:∀ {p:Prop} [Decidable p] (x:ByteArray),(if p then ([]:List ByteArray) else [x])=[] ↔ p:=by
    intro p _ x;by_cases c:p
    · rw [if_pos c];exact ⟨fun _=>c,fun _=>rfl⟩
    · rw [if_neg c];exact ⟨fun h=>(by cases h),fun h=>absurd h c⟩
  rw [h1,h1,h1,toList_eq_iff,toList_eq_iff]
end Go.Proofs.YtcbhlghofihjcaaGreatDoor.G

namespace Go.Proofs.YtcbhlghofihjcaaGreatDoor.G
open Go.RowKit Go.Proofs.YtcbhlghofihjcaaGreatDoorW.PrintWords Go.Proofs.YtcbhlghofihjcaaGreatDoorW.PrintLast Go.Proofs.YtcbhlghofihjcaaGreatDoorW.PrintMore
open Go.Proofs.YtcbhlghofihjcaaGreatDoor.Gl Go.Proofs.YtcbhlghofihjcaaGreatDoor.Ext
attribute [local go_sem] max2_int min2_int max_two min_two max_three min_three max_four min_four   -- for this text's walks alone
set_option linter.unusedVariables false
set_option linter.unusedSimpArgs false
def laws_vTexts.l0:Nat→List ByteArray→List ByteArray→Int→Option (Bool)
 | 0,_,_,_=>none
 | k+1,x0,x1,x5=>if x5<(x0.length:Int) then (if 0≤x5 then (if x5<(x1.length:Int) then (if (rdOf ByteArray.empty x0 x5).toList=(rdOf ByteArray.empty x1 x5).toList then (laws_vTexts.l0 k x0 x1 (wrap64 (x5+1))) else (some false)) else (none)) else (none)) else (some true)
def laws_vTexts.f (k:Nat) (l0:List ByteArray) (l1:List ByteArray):Option (Bool):=if (l0.length:Int)=(l1.length:Int) then (laws_vTexts.l0 k l0 l1 0) else (some false)
theorem laws_vTexts.mono_l:∀ k,(∀ y0 y1 y2,LeO (laws_vTexts.l0 k y0 y1 y2) (laws_vTexts.l0 (k+1) y0 y1 y2))
 | 0=>fun _ _ _ r h=>by simp [laws_vTexts.l0] at h
 | k+1=>by
  have ih0:=laws_vTexts.mono_l k
  ·
   intro y0 y1 y2;unfold laws_vTexts.l0
   repeat' first
   | (with_reducible exact ih0 _ _ _)
   | (with_reducible exact LeO.refl _)
   | (with_reducible exact LeO.none _)
   | (with_reducible refine LeO.ite ?_ ?_)
   | (with_reducible refine LeO.bind ?_ (fun _=>?_))
   | exact ih0 _ _ _
   | exact LeO.none _
   | refine LeO.ite ?_ ?_
   | refine LeO.bind ?_ (fun _=>?_)
theorem laws_vTexts.mono:∀ a0 a1 k,LeO (laws_vTexts.f k a0 a1) (laws_vTexts.f (k+1) a0 a1):=by
 intro a0 a1 k;have ih0:=laws_vTexts.mono_l k;unfold laws_vTexts.f
 repeat' first
   | (with_reducible exact ih0 _ _ _)
   | (with_reducible exact LeO.refl _)
   | (with_reducible exact LeO.none _)
   | (with_reducible refine LeO.ite ?_ ?_)
   | (with_reducible refine LeO.bind ?_ (fun _=>?_))
   | exact ih0 _ _ _
   | exact LeO.none _
   | refine LeO.ite ?_ ?_
   | refine LeO.bind ?_ (fun _=>?_)
theorem laws_vTexts.calls (k:Nat) (A0:Option Addr) (c0:Nat) (l0:List ByteArray) (A1:Option Addr) (c1:Nat) (l1:List ByteArray) (r:Bool) (w:World) (dW:Kd.C Kd.string w A0 l0.length l0) (fT:l0.length≤c0) (zQ:Kd.C Kd.string w A1 l1.length l1) (EC:l1.length≤c1) (h:laws_vTexts.f k l0 l1=some r) :
  Calls Tryz.prog 8 #[.slice A0 l0.length c0,.slice A1 l1.length c1] w fun e w'=>e=.returned (.bool r)∧Drawn0 w w':=by
 have iQ:=am dW;have zX:=am fT;clear dW fT;have qO:=am zQ;have HC1:=am EC;clear zQ EC;have H:(if (l0.length:Int)=(l1.length:Int) then (laws_vTexts.l0 k l0 l1 0) else (some false))=some r:=h;clear h;by_cases c3:(l0.length:Int)=(l1.length:Int)
 ·
  rw [if_pos c3] at H;have c3b0:=qt c3;have c3b1:=bfz c3
  have c3b2:(l0.length == l1.length)=true:=by first|simpa using c3|(simp at c3 ⊢;omega)
  clear c3;have H':=am H;clear H;go_enter Tryz.func8,Tryz.ntmps8;go_wp2
  repeat (go_quiet (fail);try go_wp2)
  go_loopg [5] k (fun kq v5 w'=>∃ (bH:Int),v5=.int .i64 bH∧Aside0 (laws_vTexts.l0 kq l0 l1 bH=some r)∧Aside0 (kq≤k)∧Drawn0 w w')
  case atStart=>exact ⟨(0),au104,H',⟨Nat.le_refl _⟩,by repeat (first|exact Drawn0.refl _|apply Drawn0.step)⟩
  case round =>
   clear H'
   try clear c1
   try clear p2
   try clear c3
   try clear c3b0
   try clear c3b1
   try clear c3b2
   obtain ⟨bH,rfl,HA,HK1,⟨m1,rfl⟩⟩:=hrel
   cases gk with
   | zero=>exact absurd HA.out (by simp [laws_vTexts.l0])
   | succ k1 =>
    have H:=HA.out;clear HA;simp only [laws_vTexts.l0] at H;by_cases c4:bH<(l0.length:Int)
    ·
     rw [if_pos c4] at H;have c4b0:=dt c4;clear c4;by_cases c5:0≤bH
     ·
      rw [if_pos c5] at H;have c5b0:=dt c5;clear c5;by_cases c6:bH<(l1.length:Int)
      ·
       rw [if_pos c6] at H;have c6b0:=dt c6;clear c6;by_cases c7:(rdOf ByteArray.empty l0 bH).toList=(rdOf ByteArray.empty l1 bH).toList
       ·
        rw [if_pos c7] at H;have c7b0:=qt c7;have c7b1:=bfz c7;clear c7;have H':=am H;clear H;have J5:0≤(bH:Int):=od au103;have J6:bH<(l0.length:Int):=od au103;obtain ⟨adF,X3,a4W⟩:=Kd.at_string iQ.out bH J5 J6
        cases X3
        replace J5:=eq_true J5;replace J6:=eq_true J6;have J7:0≤(bH:Int):=od au103;have J8:bH<(l1.length:Int):=od au103;obtain ⟨adG,X4,a4X⟩:=Kd.at_string qO.out bH J7 J8
        cases X4
        replace J7:=eq_true J7;replace J8:=eq_true J8;go_wp2
        repeat (go_quiet (fail);try go_wp2)
        go_roundg k1
        case measure=>have:=HK1.out;omega
        case rel=>exact ⟨(wrap64 (bH+1)),au104,H',⟨by have:=HK1.out;omega⟩,by repeat (first|exact Drawn0.refl _|apply Drawn0.step)⟩
       ·
        rw [if_neg c7] at H;have c7b0:=qf c7;have c7b1:=bu c7;obtain rfl:=ojz H;have J5:0≤(bH:Int):=od au103;have J6:bH<(l0.length:Int):=od au103;obtain ⟨adF,X3,a4W⟩:=Kd.at_string iQ.out bH J5 J6
        cases X3
        replace J5:=eq_true J5;replace J6:=eq_true J6;have J7:0≤(bH:Int):=od au103;have J8:bH<(l1.length:Int):=od au103;obtain ⟨adG,X4,a4X⟩:=Kd.at_string qO.out bH J7 J8
        cases X4
        replace J7:=eq_true J7;replace J8:=eq_true J8;go_wp2
        repeat (go_quiet (fail);try go_wp2)
        go_ret;exact ax1
      · rw [if_neg c6] at H;exact absurd H (by simp)
     · rw [if_neg c5] at H;exact absurd H (by simp)
    ·
     rw [if_neg c4] at H;have c4b0:=df c4;clear c4;obtain rfl:=ojz H;go_wp2
     repeat (go_quiet (fail);try go_wp2)
     go_ret;exact ax1
 ·
  rw [if_neg c3] at H;have c3b0:=qf c3;have c3b1:=bu c3
  have c3b2:(l0.length == l1.length)=false:=by first|simpa using c3|(simp at c3 ⊢;omega)
  obtain rfl:=ojz H;go_enter Tryz.func8,Tryz.ntmps8;go_wp2
  repeat (go_quiet (fail);try go_wp2)
  go_ret;exact ax1
def laws_vName.f (k:Nat) (bI:List ByteArray) (aA:ByteArray) (aX:ByteArray) (aZ:ByteArray) (AY:List ByteArray) (bT:ByteArray) (J9:ByteArray) (MM:ByteArray):Option (Bool):=(laws_vTexts.f k bI AY).bind fun PZ=>(if PZ=true then (if aA.toList=bT.toList then (if aX.toList=J9.toList then (some (aZ.toList == MM.toList)) else (some false)) else (some false)) else (some false))
theorem laws_vName.mono:∀ a0 a1 a2 a3 a4 a5 a6 a7 k,LeO (laws_vName.f k a0 a1 a2 a3 a4 a5 a6 a7) (laws_vName.f (k+1) a0 a1 a2 a3 a4 a5 a6 a7):=by
 intro a0 a1 a2 a3 a4 a5 a6 a7 k;unfold laws_vName.f
 repeat' first
   | (with_reducible exact laws_vTexts.mono _ _ _)
   | (with_reducible exact LeO.refl _)
   | (with_reducible exact LeO.none _)
   | (with_reducible refine LeO.ite ?_ ?_)
   | (with_reducible refine LeO.bind ?_ (fun _=>?_))
   | exact laws_vTexts.mono _ _ _
   | exact LeO.none _
   | refine LeO.ite ?_ ?_
   | refine LeO.bind ?_ (fun _=>?_)
theorem laws_vName.L0 {P:Prop} (h:P:=by
  go_enter Tryz.func43,Tryz.ntmps43;go_wp2_with (first|((with_reducible refine gate_dst (N:=2) rfl ?_);refine box_event ?hg (N:=2) ?hd (cs:=#[.slice fQ bI.length fR,.string aA,.string aX,.string aZ]) (t:=68) ?hr ?_;(case hd=>rfl);(case hg=>rfl);(case hr=>first|(go_simp;done)|(go_simp;rfl));intro U8 hg EX hbox hb;have Tn:=am (hbox);have aMc:=am (bsz hg au59);have Xc:=am (bsz hg au59);replace HB:=am (below_step au59 hb);clear hb hbox hg)|((with_reducible refine gate_dst (N:=3) rfl ?_);refine box_event ?hg (N:=3) ?hd (cs:=#[.slice U9 AY.length Ua,.string bT,.string J9,.string MM]) (t:=68) ?hr ?_;(case hd=>rfl);(case hg=>rfl);(case hr=>first|(go_simp;done)|(go_simp;rfl));intro aMd hg Jq hbox hb;have adH:=am (hbox);have aMe:=am (bsz hg au53);have adI:=am (bsz hg au53);replace HB:=am (below_step au53 hb);have Uu:=am (bne (g:=U8) hg au86);have Uv:=am (ben (g:=U8) hg au86);replace Tn:=am (blk_below (g:=U8) au86 hb);clear hb hbox hg;have aMf:=Uu.out;have aMg:=Uv.out;obtain ⟨lQ,lR,lS,lT,lU,lV,lW,lX⟩:=blkc4 Tn.out;obtain ⟨Ck,Cl,Cm,Cn,Co,Cp,Cq,Cr⟩:=blkc4 adH.out)|((with_reducible refine gate_callee (f:=8) rfl ?_);refine goesL_ (some 9) rfl rfl Tryz.func8 (by kernel_rfl) rfl #[.slice fQ bI.length fR,.slice U9 AY.length Ua] rfl au58 ?_;(with_reducible refine (laws_vTexts.calls k _ _ bI _ _ AY _ _ ?aE ?aG ?bU ?bV A3.out).mono ?_);(case aE=>repeat (first|exact (Kd.C_below kR.out HB.out)|(with_reducible refine Kd.C_alloc ?_ _)|(with_reducible refine Kd.C_drewN ?_ _)|(with_reducible refine Kd.C_drew ?_)));(case aG=>exact pV.out);(case bU=>repeat (first|exact (Kd.C_below adJ.out HB.out)|(with_reducible refine Kd.C_alloc ?_ _)|(with_reducible refine Kd.C_drewN ?_ _)|(with_reducible refine Kd.C_drew ?_)));(case bV=>exact adK.out);rintro e w' ⟨rfl,⟨nd,rfl⟩⟩;refine ⟨_,rfl,?_⟩));go_ret
  exact ⟨by first|rfl|(simp [errW_none,errW_some] <;> rfl)|(simp [*,errW_none,errW_some] <;> rfl),by repeat (first|(with_reducible first|exact HB.out|apply below_alloc|apply pw_below_drewN|apply below_drew1|refine below_set ?_ Xc.out|refine below_set ?_ adI.out)|exact HB.out)⟩):P:=h
theorem laws_vName.calls (k:Nat) (fQ:Option Addr) (fR:Nat) (bI:List ByteArray) (aA:ByteArray) (aX:ByteArray) (aZ:ByteArray) (U9:Option Addr) (Ua:Nat) (AY:List ByteArray) (bT:ByteArray) (J9:ByteArray) (MM:ByteArray) (r:Bool) (w:World) (iR:Kd.C Kd.string w fQ bI.length bI) (iT:bI.length≤fR) (XY:Kd.C Kd.string w U9 AY.length AY) (XZ:AY.length≤Ua) (h:laws_vName.f k bI aA aX aZ AY bT J9 MM=some r) :
  Calls Tryz.prog 43 #[.agg #[.slice fQ bI.length fR,.string aA,.string aX,.string aZ],.agg #[.slice U9 AY.length Ua,.string bT,.string J9,.string MM]] w fun e w'=>e=.returned (.bool r)∧Below w.heap.size w w':=by
 have hu68:=Tryz.underlying68;have kR:=am iR;have pV:=am iT;clear iR iT;have adJ:=am XY;have adK:=am XZ;clear XY XZ;have HB:=am (Below.refl w.heap.size w);have H:((laws_vTexts.f k bI AY).bind fun PZ=>(if PZ=true then (if aA.toList=bT.toList then (if aX.toList=J9.toList then (some (aZ.toList == MM.toList)) else (some false)) else (some false)) else (some false)))=some r:=h;clear h;replace H:=obz H;obtain ⟨PZ,dR,H⟩:=H
 try dsimp only at H
 have A3:=am dR;clear dR;by_cases c4:PZ=true
 ·
  subst c4;replace H:=(if_pos rfl).symm.trans H;by_cases c5:aA.toList=bT.toList
  ·
   rw [if_pos c5] at H;have c5b0:=qt c5;have c5b1:=bfz c5;clear c5;by_cases c6:aX.toList=J9.toList
   · rw [if_pos c6] at H;have c6b0:=qt c6;have c6b1:=bfz c6;clear c6;obtain rfl:=ojz H;exact laws_vName.L0
   · rw [if_neg c6] at H;have c6b0:=qf c6;have c6b1:=bu c6;obtain rfl:=ojz H;exact laws_vName.L0
  · rw [if_neg c5] at H;have c5b0:=qf c5;have c5b1:=bu c5;obtain rfl:=ojz H;exact laws_vName.L0
 · replace c4:=Bool.eq_false_iff.mpr c4;subst c4;replace H:=(if_neg (show ¬ (false=true) by decide)).symm.trans H;obtain rfl:=ojz H;exact laws_vName.L0
end Go.Proofs.YtcbhlghofihjcaaGreatDoor.G
