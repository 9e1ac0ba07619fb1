/- Texts of this session for the law FnExactDropEntry, put together by a program (merge.py): each ends with its namespace; conditions stand with each theorem. -/
import Derived.Test.YteagahcbffgjpaaGreatDoorKFnExactDropEntry2
import Derived.Test.YteagahcbffgjpaaGreatDoorKFnExactDropEntry5
import Derived.Test.YteagahcbffgjpaaGreatDoorKFnExactDropEntry4
namespace Go.Proofs.YteagahcbffgjpaaGreatDoor.G
open Go.RowKit Go.Proofs.YteagahcbffgjpaaGreatDoorW.PrintWords Go.Proofs.YteagahcbffgjpaaGreatDoorW.PrintLast Go.Proofs.YteagahcbffgjpaaGreatDoorW.PrintMore
open Go.Proofs.YteagahcbffgjpaaGreatDoor.Gl Go.Proofs.YteagahcbffgjpaaGreatDoor.Ext
attribute [local go_sem] max2_int min2_int max_two min_two max_three min_three max_four min_four   -- for this text's walks alone
set_option linter.unusedVariables false
set_option linter.unusedSimpArgs false
def laws_eqEntry.f (k:Nat) (aJ:ByteArray) (aH:Int) (bJ:List (S69)) (bM:List (S69)) (aX:ByteArray) (bB:ByteArray) (bE:ByteArray) (bN:Int) (bO:Int) (bQ:Int) (bF:Bool) (bI:Int) (bD:ByteArray) (bL:ByteArray) (nI:ByteArray) (iB:Int) (vM:List (S69)) (vN:List (S69)) (Jy:ByteArray) (Jz:ByteArray) (JA:ByteArray) (E8:Int) (E9:Int) (Ea:Int) (xB:Bool) (CU:Int) (CV:ByteArray) (CW:ByteArray):Option (Bool):=if aJ.toList=nI.toList then (if aH=iB then ((laws_eqNameS.f k bJ vM).bind fun R9=>(if R9=true then ((laws_eqNameS.f k bM vN).bind fun Ra=>(if Ra=true then (if aX.toList=Jy.toList then (if bB.toList=Jz.toList then (if bE.toList=JA.toList then ((laws_eqDate.f bN bO bQ bF E8 E9 Ea xB).bind fun Rb=>(if Rb=true then (if bI=CU then (if bD.toList=CV.toList then (if bL.toList=CW.toList then (some true) else (some false)) else (some false)) else (some false)) else (some false))) else (some false)) else (some false)) else (some false)) else (some false))) else (some false))) else (some false)) else (some false)
theorem laws_eqEntry.mono:∀ a0 a1 a2 a3 a4 a5 a6 a7 a8 a9 iG iH iI iJ QA a15 a16 a17 a18 a19 a20 a21 a22 a23 a24 a25 a26 a27 k,LeO (laws_eqEntry.f k a0 a1 a2 a3 a4 a5 a6 a7 a8 a9 iG iH iI iJ QA a15 a16 a17 a18 a19 a20 a21 a22 a23 a24 a25 a26 a27) (laws_eqEntry.f (k+1) a0 a1 a2 a3 a4 a5 a6 a7 a8 a9 iG iH iI iJ QA a15 a16 a17 a18 a19 a20 a21 a22 a23 a24 a25 a26 a27):=by
 intro a0 a1 a2 a3 a4 a5 a6 a7 a8 a9 iG iH iI iJ QA a15 a16 a17 a18 a19 a20 a21 a22 a23 a24 a25 a26 a27 k;unfold laws_eqEntry.f
 repeat' first
   | (with_reducible exact laws_eqNameS.mono _ _ _)
   | (with_reducible exact LeO.refl _)
   | (with_reducible exact LeO.none _)
   | (with_reducible refine LeO.ite ?_ ?_)
   | (with_reducible refine LeO.bind ?_ (fun _=>?_))
   | exact laws_eqNameS.mono _ _ _
   | exact LeO.none _
   | refine LeO.ite ?_ ?_
   | refine LeO.bind ?_ (fun _=>?_)
set_option maxHeartbeats 8000000 in
set_option maxRecDepth 100000 in
theorem laws_eqEntry.calls (k:Nat) (aJ:ByteArray) (aH:Int) (dD:Option Addr) (dE:Nat) (bJ:List (S69)) (dF:Option Addr) (dG:Nat) (bM:List (S69)) (aX:ByteArray) (bB:ByteArray) (bE:ByteArray) (bN:Int) (bO:Int) (bQ:Int) (bF:Bool) (bI:Int) (bD:ByteArray) (bL:ByteArray) (nI:ByteArray) (iB:Int) (a4F:Option Addr) (a4G:Nat) (vM:List (S69)) (a4H:Option Addr) (a4I:Nat) (vN:List (S69)) (Jy:ByteArray) (Jz:ByteArray) (JA:ByteArray) (E8:Int) (E9:Int) (Ea:Int) (xB:Bool) (CU:Int) (CV:ByteArray) (CW:ByteArray) (w:World) (fY:Kd.C k69 w dD bJ.length bJ) (eZ:bJ.length≤dE) (fZ:Kd.C k69 w dF bM.length bM) (fA:bM.length≤dG) (agK:Kd.C k69 w a4F vM.length vM) (Et:vM.length≤a4G) (agL:Kd.C k69 w a4H vN.length vN) (Eu:vN.length≤a4I) (h:laws_eqEntry.f k aJ aH bJ bM aX bB bE bN bO bQ bF bI bD bL nI iB vM vN Jy Jz JA E8 E9 Ea xB CU CV CW=some true) :
  Calls Tryz.prog 31 #[.agg #[.string aJ,.int .i64 aH,.slice dD bJ.length dE,.slice dF bM.length dG,.string aX,.string bB,.string bE,.int .i64 bN,.int .i64 bO,.int .i64 bQ,.bool bF,.int .i64 bI,.string bD,.string bL],.agg #[.string nI,.int .i64 iB,.slice a4F vM.length a4G,.slice a4H vN.length a4I,.string Jy,.string Jz,.string JA,.int .i64 E8,.int .i64 E9,.int .i64 Ea,.bool xB,.int .i64 CU,.string CV,.string CW]] w fun e w'=>e=.returned (.bool true)∧Below w.heap.size w w':=by
 have hu42:=Tryz.underlying42;have hu40:=Tryz.underlying40;have gQ:=am fY;have gR:=am eZ;clear fY eZ;have jC:=am fZ;have jD:=am fA;clear fZ fA;have aEo:=am agK;have aEp:=am Et;clear agK Et;have aEq:=am agL;have aEr:=am Eu;clear agL Eu;have HB:=am (Below.refl w.heap.size w);have H:(if aJ.toList=nI.toList then (if aH=iB then ((laws_eqNameS.f k bJ vM).bind fun R9=>(if R9=true then ((laws_eqNameS.f k bM vN).bind fun Ra=>(if Ra=true then (if aX.toList=Jy.toList then (if bB.toList=Jz.toList then (if bE.toList=JA.toList then ((laws_eqDate.f bN bO bQ bF E8 E9 Ea xB).bind fun Rb=>(if Rb=true then (if bI=CU then (if bD.toList=CV.toList then (if bL.toList=CW.toList then (some true) else (some false)) else (some false)) else (some false)) else (some false))) else (some false)) else (some false)) else (some false)) else (some false))) else (some false))) else (some false)) else (some false))=some true:=h;clear h;by_cases c3:aJ.toList=nI.toList
 ·
  rw [if_pos c3] at H;have c3b0:=qt c3;have c3b1:=bf c3;clear c3;by_cases c4:aH=iB
  ·
   rw [if_pos c4] at H;have c4b0:=qt c4;have c4b1:=bf c4;clear c4;replace H:=ob H;obtain ⟨R9,wR,H⟩:=H
   try dsimp only at H
   have A5:=am wR;clear wR;by_cases c6:R9=true
   ·
    subst c6;replace H:=(if_pos rfl).symm.trans H;replace H:=ob H;obtain ⟨Ra,jY,H⟩:=H
    try dsimp only at H
    have A7:=am jY;clear jY;by_cases c8:Ra=true
    ·
     subst c8;replace H:=(if_pos rfl).symm.trans H;by_cases c9:aX.toList=Jy.toList
     ·
      rw [if_pos c9] at H;have c9b0:=qt c9;have c9b1:=bf c9;clear c9;by_cases c10:bB.toList=Jz.toList
      ·
       rw [if_pos c10] at H;have c10b0:=qt c10;have c10b1:=bf c10;clear c10;by_cases cI:bE.toList=JA.toList
       ·
        rw [if_pos cI] at H;have c11b0:=qt cI;have c11b1:=bf cI;clear cI;replace H:=ob H;obtain ⟨Rb,oQ,H⟩:=H
        try dsimp only at H
        have uT:=am oQ;clear oQ;by_cases cV:Rb=true
        ·
         subst cV;replace H:=(if_pos rfl).symm.trans H;by_cases dB:bI=CU
         ·
          rw [if_pos dB] at H;have c14b0:=qt dB;have c14b1:=bf dB;clear dB;by_cases cX:bD.toList=CV.toList
          ·
           rw [if_pos cX] at H;have c15b0:=qt cX;have c15b1:=bf cX;clear cX;by_cases fM:bL.toList=CW.toList
           · rw [if_pos fM] at H;have c16b0:=qt fM;have c16b1:=bf fM;clear fM;clear H;go_enter Tryz.func31,Tryz.ntmps31;go_wp2_with (first|((with_reducible refine gate_dst (N:=2) rfl ?_);refine box_event ?hg (N:=2) ?hd (cs:=#[.string aJ,.int .i64 aH,.slice dD bJ.length dE,.slice dF bM.length dG,.string aX,.string bB,.string bE,.int .i64 bN,.int .i64 bO,.int .i64 bQ,.bool bF,.int .i64 bI,.string bD,.string bL]) (t:=42) ?hr ?_;(case hd=>rfl);(case hg=>rfl);(case hr=>first|(go_simp;done)|(go_simp;rfl));intro Hi hg oP hbox hb;have rQ:=am (hbox);have aXv:=am (bsz hg au46);have a1O:=am (bsz hg au46);replace HB:=am (below_step au46 hb);clear hb hbox hg)|((with_reducible refine gate_dst (N:=3) rfl ?_);refine box_event ?hg (N:=3) ?hd (cs:=#[.string nI,.int .i64 iB,.slice a4F vM.length a4G,.slice a4H vN.length a4I,.string Jy,.string Jz,.string JA,.int .i64 E8,.int .i64 E9,.int .i64 Ea,.bool xB,.int .i64 CU,.string CV,.string CW]) (t:=42) ?hr ?_;(case hd=>rfl);(case hg=>rfl);(case hr=>first|(go_simp;done)|(go_simp;rfl));intro a4J hg nW hbox hb;have wP:=am (hbox);have aXw:=am (bsz hg au35);have aeL:=am (bsz hg au35);replace HB:=am (below_step au35 hb);have a6Y:=am (bne (g:=Hi) hg au71);have a6Z:=am (ben (g:=Hi) hg au71);replace rQ:=am (blk_below (g:=Hi) au71 hb);clear hb hbox hg;have aDF:=a6Y.out;have aDG:=a6Z.out;obtain ⟨L3,L4,L5,L6,XL,XM,XN,XO,XP,XQ,QB,QC,QD,QE,L8,L9,La,Lb,XR,XS,XT,XU,XV,XW,QF,QG,QH,QI⟩:=blkc14 rQ.out;obtain ⟨Lc,Ld,Le,Lf,Tu,Tv,Tw,Tx,Ty,Tz,OJ,OK,OL,OM,Lg,Lh,Li,Lj,TA,TB,TC,TD,TE,TF,ON,OO,OP,OQ⟩:=blkc14 wP.out)|((with_reducible refine gate_callee (f:=50) rfl ?_);refine goesL_ (some 19) rfl rfl Tryz.func50 (by kernel_rfl) rfl #[.slice dD bJ.length dE,.slice a4F vM.length a4G] rfl au45 ?_;(with_reducible refine (laws_eqNameS.calls k _ _ bJ _ _ vM _ ?aU ?aV ?dY ?dZ A5.out).mono ?_);(case aU=>repeat (first|exact (Kd.C_below gQ.out HB.out)|(with_reducible refine Kd.C_alloc ?_ _)|(with_reducible refine Kd.C_drewN ?_ _)|(with_reducible refine Kd.C_drew ?_)));(case aV=>exact gR.out);(case dY=>repeat (first|exact (Kd.C_below aEo.out HB.out)|(with_reducible refine Kd.C_alloc ?_ _)|(with_reducible refine Kd.C_drewN ?_ _)|(with_reducible refine Kd.C_drew ?_)));(case dZ=>exact aEp.out);rintro e w22 ⟨rfl,hb⟩;refine ⟨_,rfl,?_⟩;replace rQ:=am (blk_below (g:=Hi) au71 hb);replace wP:=am (blk_below (g:=a4J) au72 hb);replace HB:=am (below_step au17 hb);(try clear hb);obtain ⟨LU,alW,alX,alY,alZ,amA,amB,amC,amD,amE,abP,abQ,abR,abS,LV,amF,amG,amH,amI,amJ,amK,amL,amM,amN,abT,abU,abV,abW⟩:=blkc14 rQ.out;obtain ⟨tB,tC,tD,tE,Fa,Fb,Fc,Fe,Ff,Fg,BX,BZ,C0,C1,tF,tG,tH,tI,Fh,Fi,Fj,Fl,Fo,Fp,C2,C3,C4,C5⟩:=blkc14 wP.out)|((with_reducible refine gate_callee (f:=50) rfl ?_);refine goesL_ (some 25) rfl rfl Tryz.func50 (by kernel_rfl) rfl #[.slice dF bM.length dG,.slice a4H vN.length a4I] rfl au45 ?_;(with_reducible refine (laws_eqNameS.calls k _ _ bM _ _ vN _ ?aU ?aV ?dY ?dZ A7.out).mono ?_);(case aU=>repeat (first|exact (Kd.C_below jC.out HB.out)|(with_reducible refine Kd.C_alloc ?_ _)|(with_reducible refine Kd.C_drewN ?_ _)|(with_reducible refine Kd.C_drew ?_)));(case aV=>exact jD.out);(case dY=>repeat (first|exact (Kd.C_below aEq.out HB.out)|(with_reducible refine Kd.C_alloc ?_ _)|(with_reducible refine Kd.C_drewN ?_ _)|(with_reducible refine Kd.C_drew ?_)));(case dZ=>exact aEr.out);rintro e w25 ⟨rfl,hb⟩;refine ⟨_,rfl,?_⟩;replace rQ:=am (blk_below (g:=Hi) au71 hb);replace wP:=am (blk_below (g:=a4J) au72 hb);replace HB:=am (below_step au17 hb);(try clear hb);obtain ⟨TG,TH,TI,TJ,TK,TL,TM,TN,TP,TQ,OS,OT,OU,OV,TR,TS,TT,TU,TV,TW,TX,TY,TZ,U0,OW,OX,OY,OZ⟩:=blkc14 rQ.out;obtain ⟨aQc,aQd,aQe,aQf,aQg,aQh,aQi,aQj,aQk,aQl,aIq,aIr,aIs,aIt,aQm,aQn,aQo,aQp,aQq,aQr,aQs,aQt,aQu,aQv,aIu,aIv,aIw,aIx⟩:=blkc14 wP.out)|((with_reducible refine gate_callee (f:=51) rfl ?_);refine goesL_ (some 46) rfl rfl Tryz.func51 (by kernel_rfl) rfl #[.agg #[.int .i64 bN,.int .i64 bO,.int .i64 bQ,.bool bF],.agg #[.int .i64 E8,.int .i64 E9,.int .i64 Ea,.bool xB]] rfl au45 ?_;(with_reducible refine (laws_eqDate.calls bN bO bQ bF E8 E9 Ea xB _ uT.out).mono ?_);rintro e w28 ⟨rfl,hb⟩;refine ⟨_,rfl,?_⟩;replace rQ:=am (blk_below (g:=Hi) au71 hb);replace wP:=am (blk_below (g:=a4J) au72 hb);replace HB:=am (below_step au17 hb);(try clear hb);obtain ⟨LW,Yx,Yy,Yz,YA,YB,YC,YD,YE,YF,Rc,Re,Rf,Rh,LX,YG,YH,YI,YJ,YK,YL,YM,YN,YO,Ri,Rj,Rk,Rl⟩:=blkc14 rQ.out;obtain ⟨xX,xY,xZ,yA,Fx,Fy,Fz,FA,FB,FC,C6,C7,C8,C9,yB,yC,yD,yE,FD,FE,FF,FG,FH,FI,Ca,Cb,Cc,Cd⟩:=blkc14 wP.out));go_ret;exact ⟨by first|rfl|(simp [errW_none,errW_some] <;> rfl)|(simp [*,errW_none,errW_some] <;> rfl),by repeat (first|(with_reducible first|exact HB.out|apply below_alloc|apply pw_below_drewN|apply below_drew1|refine below_set ?_ a1O.out|refine below_set ?_ aeL.out)|exact HB.out)⟩
           · rw [if_neg fM] at H;have c16b0:=qf fM;have c16b1:=bu fM;exact absurd H (by simp)
          · rw [if_neg cX] at H;have c15b0:=qf cX;have c15b1:=bu cX;exact absurd H (by simp)
         · rw [if_neg dB] at H;have c14b0:=qf dB;have c14b1:=bu dB;exact absurd H (by simp)
        · replace cV:=Bool.eq_false_iff.mpr cV;subst cV;replace H:=(if_neg (show ¬ (false=true) by decide)).symm.trans H;exact absurd H (by simp)
       · rw [if_neg cI] at H;have c11b0:=qf cI;have c11b1:=bu cI;exact absurd H (by simp)
      · rw [if_neg c10] at H;have c10b0:=qf c10;have c10b1:=bu c10;exact absurd H (by simp)
     · rw [if_neg c9] at H;have c9b0:=qf c9;have c9b1:=bu c9;exact absurd H (by simp)
    · replace c8:=Bool.eq_false_iff.mpr c8;subst c8;replace H:=(if_neg (show ¬ (false=true) by decide)).symm.trans H;exact absurd H (by simp)
   · replace c6:=Bool.eq_false_iff.mpr c6;subst c6;replace H:=(if_neg (show ¬ (false=true) by decide)).symm.trans H;exact absurd H (by simp)
  · rw [if_neg c4] at H;have c4b0:=qf c4;have c4b1:=bu c4;exact absurd H (by simp)
 · rw [if_neg c3] at H;have c3b0:=qf c3;have c3b1:=bu c3;exact absurd H (by simp)
end Go.Proofs.YteagahcbffgjpaaGreatDoor.G
-- TRUE ALONE

namespace Go.Proofs.YteagahcbffgjpaaGreatDoor.G
open Go.RowKit Go.Proofs.YteagahcbffgjpaaGreatDoorW.PrintWords Go.Proofs.YteagahcbffgjpaaGreatDoorW.PrintLast Go.Proofs.YteagahcbffgjpaaGreatDoorW.PrintMore
open Go.Proofs.YteagahcbffgjpaaGreatDoor.Gl Go.Proofs.YteagahcbffgjpaaGreatDoor.Ext
attribute [local go_sem] max2_int min2_int max_two min_two max_three min_three max_four min_four   -- for this text's walks alone
set_option linter.unusedVariables false
set_option linter.unusedSimpArgs false
def laws_eqEntryS.l0:Nat→List (S42)→List (S42)→Int→Option (Bool)
 | 0,_,_,_=>none
 | k+1,x0,x1,x5=>if x5<(x0.length:Int) then (if 0≤x5 then (if x5<(x1.length:Int) then ((laws_eqEntry.f k ((rd_T42 x0 x5).f0) ((rd_T42 x0 x5).f1) ((rd_T42 x0 x5).f2) ((rd_T42 x0 x5).f3) ((rd_T42 x0 x5).f4) ((rd_T42 x0 x5).f5) ((rd_T42 x0 x5).f6) ((rd_T42 x0 x5).f7.f0) ((rd_T42 x0 x5).f7.f1) ((rd_T42 x0 x5).f7.f2) ((rd_T42 x0 x5).f7.f3) ((rd_T42 x0 x5).f8) ((rd_T42 x0 x5).f9) ((rd_T42 x0 x5).f10) ((rd_T42 x1 x5).f0) ((rd_T42 x1 x5).f1) ((rd_T42 x1 x5).f2) ((rd_T42 x1 x5).f3) ((rd_T42 x1 x5).f4) ((rd_T42 x1 x5).f5) ((rd_T42 x1 x5).f6) ((rd_T42 x1 x5).f7.f0) ((rd_T42 x1 x5).f7.f1) ((rd_T42 x1 x5).f7.f2) ((rd_T42 x1 x5).f7.f3) ((rd_T42 x1 x5).f8) ((rd_T42 x1 x5).f9) ((rd_T42 x1 x5).f10)).bind fun acF=>(if acF=true then (laws_eqEntryS.l0 k x0 x1 (wrap64 (x5+1))) else (some false))) else (none)) else (none)) else (some true)
def laws_eqEntryS.f (k:Nat) (l0:List (S42)) (l1:List (S42)):Option (Bool):=if (l0.length:Int)=(l1.length:Int) then (laws_eqEntryS.l0 k l0 l1 0) else (some false)
theorem laws_eqEntryS.mono_l:∀ k,(∀ y0 y1 y2,LeO (laws_eqEntryS.l0 k y0 y1 y2) (laws_eqEntryS.l0 (k+1) y0 y1 y2))
 | 0=>fun _ _ _ r h=>by simp [laws_eqEntryS.l0] at h
 | k+1=>by
  have ih0:=laws_eqEntryS.mono_l k
  ·
   intro y0 y1 y2;unfold laws_eqEntryS.l0
   repeat' first
   | (with_reducible exact ih0 _ _ _)
   | (with_reducible exact laws_eqEntry.mono _ _ _ _ _ _ _ _ _ _ _ _ _ _ _ _ _ _ _ _ _ _ _ _ _ _ _ _ _)
   | (with_reducible exact LeO.refl _)
   | (with_reducible exact LeO.none _)
   | (with_reducible refine LeO.ite ?_ ?_)
   | (with_reducible refine LeO.bind ?_ (fun _=>?_))
   | exact ih0 _ _ _
   | exact laws_eqEntry.mono _ _ _ _ _ _ _ _ _ _ _ _ _ _ _ _ _ _ _ _ _ _ _ _ _ _ _ _ _
   | exact LeO.none _
   | refine LeO.ite ?_ ?_
   | refine LeO.bind ?_ (fun _=>?_)
theorem laws_eqEntryS.mono:∀ a0 a1 k,LeO (laws_eqEntryS.f k a0 a1) (laws_eqEntryS.f (k+1) a0 a1):=by
 intro a0 a1 k;have ih0:=laws_eqEntryS.mono_l k;unfold laws_eqEntryS.f
 repeat' first
   | (with_reducible exact ih0 _ _ _)
   | (with_reducible exact laws_eqEntry.mono _ _ _ _ _ _ _ _ _ _ _ _ _ _ _ _ _ _ _ _ _ _ _ _ _ _ _ _ _)
   | (with_reducible exact LeO.refl _)
   | (with_reducible exact LeO.none _)
   | (with_reducible refine LeO.ite ?_ ?_)
   | (with_reducible refine LeO.bind ?_ (fun _=>?_))
   | exact ih0 _ _ _
   | exact laws_eqEntry.mono _ _ _ _ _ _ _ _ _ _ _ _ _ _ _ _ _ _ _ _ _ _ _ _ _ _ _ _ _
   | exact LeO.none _
   | refine LeO.ite ?_ ?_
   | refine LeO.bind ?_ (fun _=>?_)
def laws_eqEntryS.T6:Bool × List (List Nat × List Nat):=(true,[([],[]),([],[]),([0,1],[0,1]),([2],[2]),([],[]),([],[]),([4,5],[4,5]),([6],[6]),([3,7],[3,7]),([8],[8])])
def laws_eqEntryS.B6:List Nat:=[0,0,3,7,0,0,48,112,255,511]
theorem laws_eqEntryS.tab6:rtab .any (opsOf Tryz.f19 6)=laws_eqEntryS.T6:=by kernel_rfl
theorem laws_eqEntryS.bits6:waitsOk laws_eqEntryS.T6.2 laws_eqEntryS.B6=true:=by kernel_rfl
set_option maxHeartbeats 8000000 in
set_option maxRecDepth 100000 in
theorem laws_eqEntryS.calls (k:Nat) (A0:Option Addr) (c0:Nat) (l0:List (S42)) (A1:Option Addr) (c1:Nat) (l1:List (S42)) (w:World) (dH:Kd.C k42 w A0 l0.length l0) (cP:l0.length≤c0) (IB:Kd.C k42 w A1 l1.length l1) (dK:l1.length≤c1) (h:laws_eqEntryS.f k l0 l1=some true) :
  Calls Tryz.prog 19 #[.slice A0 l0.length c0,.slice A1 l1.length c1] w fun e w'=>e=.returned (.bool true)∧Below w.heap.size w w':=by
 obtain ⟨r,hr_⟩:∃ r,r=true:=⟨true,rfl⟩
 rw [← hr_] at h ⊢;have HRT:=am hr_;clear hr_;have hu42:=Tryz.underlying42;have cW:=am dH;have mM:=am cP;clear dH cP;have IE:=am IB;have HC1:=am dK;clear IB dK;have HB:=am (Below.refl w.heap.size w);have H:(if (l0.length:Int)=(l1.length:Int) then (laws_eqEntryS.l0 k l0 l1 0) else (some false))=some r:=h;clear h;by_cases c3:(l0.length:Int)=(l1.length:Int)
 ·
  rw [if_pos c3] at H;have c3b0:=qt c3;have c3b1:=bf c3
  have c3b2:(l0.length == l1.length)=true:=by first|simpa using c3|(simp at c3 ⊢;omega)
  clear c3;have H':=am H;clear H;go_enter Tryz.func19,Tryz.ntmps19;go_wp2
  go_loopg [5] k (fun kq v5 w'=>∃ (aC:Int),v5=.int .i64 aC∧Aside0 (laws_eqEntryS.l0 kq l0 l1 aC=some r)∧Aside0 (kq≤k)∧Aside0 (Below w.heap.size w w'))
  case atStart=>exact ⟨(0),au88,H',⟨Nat.le_refl _⟩,⟨by repeat (first|(with_reducible first|exact HB.out|apply below_alloc|apply pw_below_drewN|apply below_drew1)|exact HB.out)⟩⟩
  case round =>
   clear H'
   try clear c1
   try clear p2
   try clear c3
   try clear c3b0
   try clear c3b1
   try clear c3b2
   obtain ⟨aC,rfl,HA,HK1,HB⟩:=hrel
   cases gk with
   | zero=>exact absurd HA.out (by simp [laws_eqEntryS.l0])
   | succ k1 =>
    have H:=HA.out;clear HA;simp only [laws_eqEntryS.l0] at H;by_cases c4:aC<(l0.length:Int)
    ·
     rw [if_pos c4] at H;have c4b0:=dt c4;clear c4;by_cases c5:0≤aC
     ·
      rw [if_pos c5] at H;have c5b0:=dt c5;clear c5;by_cases c6:aC<(l1.length:Int)
      ·
       rw [if_pos c6] at H;have c6b0:=dt c6;clear c6;replace H:=ob H;obtain ⟨acF,jY,H⟩:=H
       try dsimp only at H
       have A7:=am jY;clear jY;by_cases c8:acF=true
       ·
        subst c8;replace H:=(if_pos rfl).symm.trans H;have H':=am H;clear H
        try go_wp2
        replace HB:=am (below_drew1 HB.out);have acG:0≤(aC:Int):=od au87;have acH:aC<(l0.length:Int):=od au87;obtain ⟨eP,a7A,a7B,a7C,a7D,aIy,Hj,Hk,Hl,Hm,Hn,Ho,Hp,Hq,Hr,Hs,CX,CY,CZ,D1,YP,YQ,YR,YS⟩:=at_T42 cW.out aC acG acH;have Rm:=D1;have Rn:=CZ;have Ro:=CY;have Rp:=CX;have YT:=Hs;have YU:=Hr;have YV:=Hq;have YW:=Hp;have YX:=Ho;have YY:=Hn;have YZ:=Hm;have Z0:=Hl;have Z1:=Hk;have Z2:=Hj
        cases aIy
        replace Hj:=bcl HB.out Hj;replace Hk:=bcl HB.out Hk;replace Hl:=bcl HB.out Hl;replace Hm:=bcl HB.out Hm;replace Hn:=bcl HB.out Hn;replace Ho:=bcl HB.out Ho;replace Hp:=bcl HB.out Hp;replace Hq:=bcl HB.out Hq;replace Hr:=bcl HB.out Hr;replace Hs:=bcl HB.out Hs;replace CX:=bcl HB.out CX;replace CY:=bcl HB.out CY;replace CZ:=bcl HB.out CZ;replace D1:=bcl HB.out D1;have Z3:=am YQ;have amY:=am YP;clear YQ YP;have Z4:=am YS;have amZ:=am YR;clear YS YR;replace acG:=eq_true acG;replace acH:=eq_true acH;have acI:0≤(aC:Int):=od au87;have acJ:aC<(l1.length:Int):=od au87;obtain ⟨eQ,a7E,a7F,a7G,a7H,aIz,Ht,Hu,Hv,Hw,Hy,Hz,HD,HF,HJ,HU,D2,D3,D4,D5,Z5,Z6,Z7,Z8⟩:=at_T42 IE.out aC acI acJ;have Rq:=D5;have Rs:=D4;have Rt:=D3;have Ru:=D2;have Z9:=HU;have Za:=HJ;have Zb:=HF;have Zc:=HD;have Zd:=Hz;have Ze:=Hy;have Zf:=Hw;have Zg:=Hv;have Zh:=Hu;have Zi:=Ht
        cases aIz
        replace Ht:=bcl HB.out Ht;replace Hu:=bcl HB.out Hu;replace Hv:=bcl HB.out Hv;replace Hw:=bcl HB.out Hw;replace Hy:=bcl HB.out Hy;replace Hz:=bcl HB.out Hz;replace HD:=bcl HB.out HD;replace HF:=bcl HB.out HF;replace HJ:=bcl HB.out HJ;replace HU:=bcl HB.out HU;replace D2:=bcl HB.out D2;replace D3:=bcl HB.out D3;replace D4:=bcl HB.out D4;replace D5:=bcl HB.out D5;have Zj:=am Z6;have anA:=am Z5;clear Z6 Z5;have Zk:=am Z8;have anB:=am Z7;clear Z8 Z7;replace acI:=eq_true acI;replace acJ:=eq_true acJ;refine start_ (n:=10) (S:=fun w'=>w'.cell? (eP.add ((aC).toNat*14))=some (.string ((rd_T42 l0 aC).f0))∧w'.cell? ⟨(eP.add ((aC).toNat*14)).block,(eP.add ((aC).toNat*14)).off+1,none⟩=some (.int .i64 ((rd_T42 l0 aC).f1))∧w'.cell? ⟨(eP.add ((aC).toNat*14)).block,(eP.add ((aC).toNat*14)).off+2,none⟩=some (.slice a7A ((rd_T42 l0 aC).f2).length a7B)∧w'.cell? ⟨(eP.add ((aC).toNat*14)).block,(eP.add ((aC).toNat*14)).off+3,none⟩=some (.slice a7C ((rd_T42 l0 aC).f3).length a7D)∧w'.cell? ⟨(eP.add ((aC).toNat*14)).block,(eP.add ((aC).toNat*14)).off+4,none⟩=some (.string ((rd_T42 l0 aC).f4))∧w'.cell? ⟨(eP.add ((aC).toNat*14)).block,(eP.add ((aC).toNat*14)).off+5,none⟩=some (.string ((rd_T42 l0 aC).f5))∧w'.cell? ⟨(eP.add ((aC).toNat*14)).block,(eP.add ((aC).toNat*14)).off+6,none⟩=some (.string ((rd_T42 l0 aC).f6))∧w'.cell? ⟨(eP.add ((aC).toNat*14)).block,(eP.add ((aC).toNat*14)).off+7,none⟩=some (.int .i64 ((rd_T42 l0 aC).f7.f0))∧w'.cell? ⟨(eP.add ((aC).toNat*14)).block,(eP.add ((aC).toNat*14)).off+8,none⟩=some (.int .i64 ((rd_T42 l0 aC).f7.f1))∧w'.cell? ⟨(eP.add ((aC).toNat*14)).block,(eP.add ((aC).toNat*14)).off+9,none⟩=some (.int .i64 ((rd_T42 l0 aC).f7.f2))∧w'.cell? ⟨(eP.add ((aC).toNat*14)).block,(eP.add ((aC).toNat*14)).off+10,none⟩=some (.bool ((rd_T42 l0 aC).f7.f3))∧w'.cell? ⟨(eP.add ((aC).toNat*14)).block,(eP.add ((aC).toNat*14)).off+11,none⟩=some (.int .i64 ((rd_T42 l0 aC).f8))∧w'.cell? ⟨(eP.add ((aC).toNat*14)).block,(eP.add ((aC).toNat*14)).off+12,none⟩=some (.string ((rd_T42 l0 aC).f9))∧w'.cell? ⟨(eP.add ((aC).toNat*14)).block,(eP.add ((aC).toNat*14)).off+13,none⟩=some (.string ((rd_T42 l0 aC).f10))∧w'.cell? (eQ.add ((aC).toNat*14))=some (.string ((rd_T42 l1 aC).f0))∧w'.cell? ⟨(eQ.add ((aC).toNat*14)).block,(eQ.add ((aC).toNat*14)).off+1,none⟩=some (.int .i64 ((rd_T42 l1 aC).f1))∧w'.cell? ⟨(eQ.add ((aC).toNat*14)).block,(eQ.add ((aC).toNat*14)).off+2,none⟩=some (.slice a7E ((rd_T42 l1 aC).f2).length a7F)∧w'.cell? ⟨(eQ.add ((aC).toNat*14)).block,(eQ.add ((aC).toNat*14)).off+3,none⟩=some (.slice a7G ((rd_T42 l1 aC).f3).length a7H)∧w'.cell? ⟨(eQ.add ((aC).toNat*14)).block,(eQ.add ((aC).toNat*14)).off+4,none⟩=some (.string ((rd_T42 l1 aC).f4))∧w'.cell? ⟨(eQ.add ((aC).toNat*14)).block,(eQ.add ((aC).toNat*14)).off+5,none⟩=some (.string ((rd_T42 l1 aC).f5))∧w'.cell? ⟨(eQ.add ((aC).toNat*14)).block,(eQ.add ((aC).toNat*14)).off+6,none⟩=some (.string ((rd_T42 l1 aC).f6))∧w'.cell? ⟨(eQ.add ((aC).toNat*14)).block,(eQ.add ((aC).toNat*14)).off+7,none⟩=some (.int .i64 ((rd_T42 l1 aC).f7.f0))∧w'.cell? ⟨(eQ.add ((aC).toNat*14)).block,(eQ.add ((aC).toNat*14)).off+8,none⟩=some (.int .i64 ((rd_T42 l1 aC).f7.f1))∧w'.cell? ⟨(eQ.add ((aC).toNat*14)).block,(eQ.add ((aC).toNat*14)).off+9,none⟩=some (.int .i64 ((rd_T42 l1 aC).f7.f2))∧w'.cell? ⟨(eQ.add ((aC).toNat*14)).block,(eQ.add ((aC).toNat*14)).off+10,none⟩=some (.bool ((rd_T42 l1 aC).f7.f3))∧w'.cell? ⟨(eQ.add ((aC).toNat*14)).block,(eQ.add ((aC).toNat*14)).off+11,none⟩=some (.int .i64 ((rd_T42 l1 aC).f8))∧w'.cell? ⟨(eQ.add ((aC).toNat*14)).block,(eQ.add ((aC).toNat*14)).off+12,none⟩=some (.string ((rd_T42 l1 aC).f9))∧w'.cell? ⟨(eQ.add ((aC).toNat*14)).block,(eQ.add ((aC).toNat*14)).off+13,none⟩=some (.string ((rd_T42 l1 aC).f10))) (ds:=[]) #[false,false,false,false,false,false,false,false,false,false] (by kernel_rfl) rfl rfl ⟨(bcl HB.out Z2),(bcl HB.out Z1),(bcl HB.out Z0),(bcl HB.out YZ),(bcl HB.out YY),(bcl HB.out YX),(bcl HB.out YW),(bcl HB.out YV),(bcl HB.out YU),(bcl HB.out YT),(bcl HB.out Rp),(bcl HB.out Ro),(bcl HB.out Rn),(bcl HB.out Rm),(bcl HB.out Zi),(bcl HB.out Zh),(bcl HB.out Zg),(bcl HB.out Zf),(bcl HB.out Ze),(bcl HB.out Zd),(bcl HB.out Zc),(bcl HB.out Zb),(bcl HB.out Za),(bcl HB.out Z9),(bcl HB.out Ru),(bcl HB.out Rt),(bcl HB.out Rs),(bcl HB.out Rq)⟩ (fun hHeld=>?_);refine with_tabW laws_eqEntryS.tab6 laws_eqEntryS.bits6 (fun HT_ HW_=>?_);generalize wr.drew=w9 at HB Z3 Z4 Zj Zk Hj Hk CX CY CZ D1 Hl Hm Hn Ho Hp Hq Hr Hs Ht Hu D2 D3 D4 D5 Hv Hw Hy Hz HD HF HJ HU hHeld ⊢;refine pu_ 0 (some 17) #[true,false,false,false,false,false,false,false,false,false] HT_.out ?_;refine pu_ 1 (some 18) #[true,true,false,false,false,false,false,false,false,false] HT_.out ?_;refine pu_ 2 (some 19) #[true,true,true,false,false,false,false,false,false,false] HT_.out ?_;refine pu_ 4 (some 21) #[true,true,true,false,true,false,false,false,false,false] HT_.out ?_;refine pu_ 5 (some 22) #[true,true,true,false,true,true,false,false,false,false] HT_.out ?_;refine pu_ 6 (some 23) #[true,true,true,false,true,true,true,false,false,false] HT_.out ?_;refine ta5_ 3 (some 20) #[true,true,true,true,true,true,true,false,false,false] HT_.out HW_.out hHeld ?_;refine ta5_ 7 (some 24) #[true,true,true,true,true,true,true,true,false,false] HT_.out HW_.out hHeld ?_;refine on_ 8 (some 25) #[true,true,true,true,true,true,true,true,true,false] HT_.out (fun K hK=>?_);refine gs_ Tryz.func31 #[.agg #[.string ((rd_T42 l0 aC).f0),.int .i64 ((rd_T42 l0 aC).f1),.slice a7A ((rd_T42 l0 aC).f2).length a7B,.slice a7C ((rd_T42 l0 aC).f3).length a7D,.string ((rd_T42 l0 aC).f4),.string ((rd_T42 l0 aC).f5),.string ((rd_T42 l0 aC).f6),.int .i64 ((rd_T42 l0 aC).f7.f0),.int .i64 ((rd_T42 l0 aC).f7.f1),.int .i64 ((rd_T42 l0 aC).f7.f2),.bool ((rd_T42 l0 aC).f7.f3),.int .i64 ((rd_T42 l0 aC).f8),.string ((rd_T42 l0 aC).f9),.string ((rd_T42 l0 aC).f10)],.agg #[.string ((rd_T42 l1 aC).f0),.int .i64 ((rd_T42 l1 aC).f1),.slice a7E ((rd_T42 l1 aC).f2).length a7F,.slice a7G ((rd_T42 l1 aC).f3).length a7H,.string ((rd_T42 l1 aC).f4),.string ((rd_T42 l1 aC).f5),.string ((rd_T42 l1 aC).f6),.int .i64 ((rd_T42 l1 aC).f7.f0),.int .i64 ((rd_T42 l1 aC).f7.f1),.int .i64 ((rd_T42 l1 aC).f7.f2),.bool ((rd_T42 l1 aC).f7.f3),.int .i64 ((rd_T42 l1 aC).f8),.string ((rd_T42 l1 aC).f9),.string ((rd_T42 l1 aC).f10)]] ?_
        with_reducible refine (laws_eqEntry.calls k1 ((rd_T42 l0 aC).f0) ((rd_T42 l0 aC).f1) _ _ ((rd_T42 l0 aC).f2) _ _ ((rd_T42 l0 aC).f3) ((rd_T42 l0 aC).f4) ((rd_T42 l0 aC).f5) ((rd_T42 l0 aC).f6) ((rd_T42 l0 aC).f7.f0) ((rd_T42 l0 aC).f7.f1) ((rd_T42 l0 aC).f7.f2) ((rd_T42 l0 aC).f7.f3) ((rd_T42 l0 aC).f8) ((rd_T42 l0 aC).f9) ((rd_T42 l0 aC).f10) ((rd_T42 l1 aC).f0) ((rd_T42 l1 aC).f1) _ _ ((rd_T42 l1 aC).f2) _ _ ((rd_T42 l1 aC).f3) ((rd_T42 l1 aC).f4) ((rd_T42 l1 aC).f5) ((rd_T42 l1 aC).f6) ((rd_T42 l1 aC).f7.f0) ((rd_T42 l1 aC).f7.f1) ((rd_T42 l1 aC).f7.f2) ((rd_T42 l1 aC).f7.f3) ((rd_T42 l1 aC).f8) ((rd_T42 l1 aC).f9) ((rd_T42 l1 aC).f10) _ ?aU ?aV ?dY ?dZ ?aEs ?aEt ?aEu ?aEv A7.out).mono ?_
        (case aU=>repeat (first|exact (Kd.C_below Z3.out HB.out)|(with_reducible refine Kd.C_alloc ?_ _)|(with_reducible refine Kd.C_drewN ?_ _)|(with_reducible refine Kd.C_drew ?_)))
        (case aV=>exact amY.out)
        (case dY=>repeat (first|exact (Kd.C_below Z4.out HB.out)|(with_reducible refine Kd.C_alloc ?_ _)|(with_reducible refine Kd.C_drewN ?_ _)|(with_reducible refine Kd.C_drew ?_)))
        (case dZ=>exact amZ.out)
        (case aEs=>repeat (first|exact (Kd.C_below Zj.out HB.out)|(with_reducible refine Kd.C_alloc ?_ _)|(with_reducible refine Kd.C_drewN ?_ _)|(with_reducible refine Kd.C_drew ?_)))
        (case aEt=>exact anA.out)
        (case aEu=>repeat (first|exact (Kd.C_below Zk.out HB.out)|(with_reducible refine Kd.C_alloc ?_ _)|(with_reducible refine Kd.C_drewN ?_ _)|(with_reducible refine Kd.C_drew ?_)))
        (case aEv=>exact anB.out)
        rintro e mN ⟨rfl,hb⟩;refine ⟨_,rfl,?_⟩;replace HB:=am (below_step au46 hb)
        (try clear hb)
        refine hK.out _ _ ⟨(bcl HB.out Z2),(bcl HB.out Z1),(bcl HB.out Z0),(bcl HB.out YZ),(bcl HB.out YY),(bcl HB.out YX),(bcl HB.out YW),(bcl HB.out YV),(bcl HB.out YU),(bcl HB.out YT),(bcl HB.out Rp),(bcl HB.out Ro),(bcl HB.out Rn),(bcl HB.out Rm),(bcl HB.out Zi),(bcl HB.out Zh),(bcl HB.out Zg),(bcl HB.out Zf),(bcl HB.out Ze),(bcl HB.out Zd),(bcl HB.out Zc),(bcl HB.out Zb),(bcl HB.out Za),(bcl HB.out Z9),(bcl HB.out Ru),(bcl HB.out Rt),(bcl HB.out Rs),(bcl HB.out Rq)⟩ (fun hHeld=>?_);clear hK K;refine no_ (some 25) ?_;refine pu_ 9 (some 26) #[true,true,true,true,true,true,true,true,true,true] HT_.out ?_;refine done_ (done_of HT_.out (by kernel_rfl)) ?_
        try go_wp2
        go_roundg k1
        case measure=>have:=HK1.out;omega
        case rel=>exact ⟨(wrap64 (aC+1)),au88,H',⟨by have:=HK1.out;omega⟩,⟨by repeat (first|(with_reducible first|exact HB.out|apply below_alloc|apply pw_below_drewN|apply below_drew1)|exact HB.out)⟩⟩
       · replace c8:=Bool.eq_false_iff.mpr c8;subst c8;replace H:=(if_neg (show ¬ (false=true) by decide)).symm.trans H;exact absurd ((ojz H).trans HRT.out) (by simp)
      · rw [if_neg c6] at H;exact absurd H (by simp)
     · rw [if_neg c5] at H;exact absurd H (by simp)
    · rw [if_neg c4] at H;have c4b0:=df c4;clear c4;obtain rfl:=ojz H;go_wp2;go_ret;exact ax1
 ·
  rw [if_neg c3] at H;have c3b0:=qf c3;have c3b1:=bu c3
  have c3b2:(l0.length == l1.length)=false:=by first|simpa using c3|(simp at c3 ⊢;omega)
  exact absurd ((ojz H).trans HRT.out) (by simp)
end Go.Proofs.YteagahcbffgjpaaGreatDoor.G
-- TRUE ALONE

namespace Go.Proofs.YteagahcbffgjpaaGreatDoor.G
open Go.RowKit Go.Proofs.YteagahcbffgjpaaGreatDoorW.PrintWords Go.Proofs.YteagahcbffgjpaaGreatDoorW.PrintLast Go.Proofs.YteagahcbffgjpaaGreatDoorW.PrintMore
open Go.Proofs.YteagahcbffgjpaaGreatDoor.Gl Go.Proofs.YteagahcbffgjpaaGreatDoor.Ext
attribute [local go_sem] max2_int min2_int max_two min_two max_three min_three max_four min_four   -- for this text's walks alone
set_option linter.unusedVariables false
set_option linter.unusedSimpArgs false
def laws_eqLibrary.f (k:Nat) (aA:List (S42)) (gU:List (S42)):Option (Bool):=(laws_eqEntryS.f k aA gU).bind fun Rv=>(if Rv=true then (some true) else (some false))
theorem laws_eqLibrary.mono:∀ a0 a1 k,LeO (laws_eqLibrary.f k a0 a1) (laws_eqLibrary.f (k+1) a0 a1):=by
 intro a0 a1 k;unfold laws_eqLibrary.f
 repeat' first
   | (with_reducible exact laws_eqEntryS.mono _ _ _)
   | (with_reducible exact LeO.refl _)
   | (with_reducible exact LeO.none _)
   | (with_reducible refine LeO.ite ?_ ?_)
   | (with_reducible refine LeO.bind ?_ (fun _=>?_))
   | exact laws_eqEntryS.mono _ _ _
   | exact LeO.none _
   | refine LeO.ite ?_ ?_
   | refine LeO.bind ?_ (fun _=>?_)
set_option maxHeartbeats 8000000 in
set_option maxRecDepth 100000 in
theorem laws_eqLibrary.calls (k:Nat) (bH:Option Addr) (bA:Nat) (aA:List (S42)) (rG:Option Addr) (rH:Nat) (gU:List (S42)) (w:World) (cE:Kd.C k42 w bH aA.length aA) (cA:aA.length≤bA) (Kx:Kd.C k42 w rG gU.length gU) (rR:gU.length≤rH) (h:laws_eqLibrary.f k aA gU=some true) :
  Calls Tryz.prog 8 #[.agg #[.slice bH aA.length bA],.agg #[.slice rG gU.length rH]] w fun e w'=>e=.returned (.bool true)∧Below w.heap.size w w':=by
 have hu28:=Tryz.underlying28;have cM:=am cE;have eO:=am cA;clear cE cA;have a4B:=am Kx;have a4C:=am rR;clear Kx rR;have HB:=am (Below.refl w.heap.size w);have H:((laws_eqEntryS.f k aA gU).bind fun Rv=>(if Rv=true then (some true) else (some false)))=some true:=h;clear h;replace H:=ob H;obtain ⟨Rv,dL,H⟩:=H
 try dsimp only at H
 have A3:=am dL;clear dL;by_cases c4:Rv=true
 · subst c4;have H1:(some true)=some true:=rfl;clear H;have H:=H1;clear H1;clear H;go_enter Tryz.func8,Tryz.ntmps8;go_wp2_with (first|((with_reducible refine gate_dst (N:=2) rfl ?_);refine box_event ?hg (N:=2) ?hd (cs:=#[.slice bH aA.length bA]) (t:=28) ?hr ?_;(case hd=>rfl);(case hg=>rfl);(case hr=>first|(go_simp;done)|(go_simp;rfl));intro Ky hg w5 hbox hb;have JZ:=am (hbox);have aXx:=am (bsz hg au46);have a1R:=am (bsz hg au46);replace HB:=am (below_step au46 hb);clear hb hbox hg)|((with_reducible refine gate_dst (N:=3) rfl ?_);refine box_event ?hg (N:=3) ?hd (cs:=#[.slice rG gU.length rH]) (t:=28) ?hr ?_;(case hd=>rfl);(case hg=>rfl);(case hr=>first|(go_simp;done)|(go_simp;rfl));intro agM hg w6 hbox hb;have Nb:=am (hbox);have aXy:=am (bsz hg au36);have agN:=am (bsz hg au36);replace HB:=am (below_step au36 hb);have a7I:=am (bne (g:=Ky) hg au73);have a7J:=am (ben (g:=Ky) hg au73);replace JZ:=am (blk_below (g:=Ky) au73 hb);clear hb hbox hg;have ayB:=a7I.out;have ayC:=a7J.out;have QO:w6.cell? ⟨Ky,0,none⟩=some (.slice bH aA.length bA):=(blk_cell JZ.out 0).trans rfl;have QP:=blk_frozen JZ.out 0;have zB:w6.cell? ⟨agM,0,none⟩=some (.slice rG gU.length rH):=(blk_cell Nb.out 0).trans rfl;have zC:=blk_frozen Nb.out 0)|((with_reducible refine gate_callee (f:=19) rfl ?_);refine goesL_ (some 9) rfl rfl Tryz.func19 (by kernel_rfl) rfl #[.slice bH aA.length bA,.slice rG gU.length rH] rfl au45 ?_;(with_reducible refine (laws_eqEntryS.calls k _ _ aA _ _ gU _ ?aU ?aV ?dY ?dZ A3.out).mono ?_);(case aU=>repeat (first|exact (Kd.C_below cM.out HB.out)|(with_reducible refine Kd.C_alloc ?_ _)|(with_reducible refine Kd.C_drewN ?_ _)|(with_reducible refine Kd.C_drew ?_)));(case aV=>exact eO.out);(case dY=>repeat (first|exact (Kd.C_below a4B.out HB.out)|(with_reducible refine Kd.C_alloc ?_ _)|(with_reducible refine Kd.C_drewN ?_ _)|(with_reducible refine Kd.C_drew ?_)));(case dZ=>exact a4C.out);rintro e mN ⟨rfl,hb⟩;refine ⟨_,rfl,?_⟩;replace JZ:=am (blk_below (g:=Ky) au73 hb);replace Nb:=am (blk_below (g:=agM) (by (with_reducible repeat (first|refine blk_drewN ?_ _|refine blk_drew ?_|refine blk_alloc ?_ _));exact Nb.out) hb);replace HB:=am (below_step (by repeat (first|(with_reducible first|exact HB.out|apply below_alloc|apply pw_below_drewN|apply below_drew1|refine below_set ?_ a1R.out|refine below_set ?_ agN.out)|exact HB.out)) hb);(try clear hb)));go_ret;exact ⟨by first|rfl|(simp [errW_none,errW_some] <;> rfl)|(simp [*,errW_none,errW_some] <;> rfl),by repeat (first|(with_reducible first|exact HB.out|apply below_alloc|apply pw_below_drewN|apply below_drew1|refine below_set ?_ a1R.out|refine below_set ?_ agN.out)|exact HB.out)⟩
 · replace c4:=Bool.eq_false_iff.mpr c4;subst c4;replace H:=(if_neg (show ¬ (false=true) by decide)).symm.trans H;exact absurd H (by simp)
end Go.Proofs.YteagahcbffgjpaaGreatDoor.G
-- TRUE ALONE

namespace Go.Proofs.YteagahcbffgjpaaGreatDoor.G
open Go.RowKit Go.Proofs.YteagahcbffgjpaaGreatDoorW.PrintWords Go.Proofs.YteagahcbffgjpaaGreatDoorW.PrintLast Go.Proofs.YteagahcbffgjpaaGreatDoorW.PrintMore
open Go.Proofs.YteagahcbffgjpaaGreatDoor.Gl Go.Proofs.YteagahcbffgjpaaGreatDoor.Ext
attribute [local go_sem] max2_int min2_int max_two min_two max_three min_three max_four min_four   -- for this text's walks alone
set_option linter.unusedVariables false
set_option linter.unusedSimpArgs false
def laws_markLibrary.f (l0:List S42) (a1:Int):Option Int:=if 0≤a1∧a1+cntE l0≤4611686018427387904 then some (a1+cntE l0) else none
set_option maxHeartbeats 8000000 in
set_option maxRecDepth 100000 in
theorem laws_markLibrary.calls {P:Nat→Prop} {base:Nat} {A:Option Addr} {c:Nat} {l0:List S42} {w1:World} (hq:Kd.R k42 42 w1 base P (.slice A l0.length c) l0) (a1 r:Int) (w:World) (ho:Kd.R k42 42 w base P (.slice A l0.length c) l0) (hbs:base≤w.heap.size) (h:laws_markLibrary.f l0 a1=some r) :
  Calls Tryz.prog 9 #[.agg #[.slice A l0.length c],.int .i64 a1] w fun e w'=>e=.returned (.int .i64 r)∧Below base w w'∧Sim P w w':=by
 unfold laws_markLibrary.f at h;by_cases hl:0≤a1∧a1+cntE l0≤4611686018427387904
 ·
  rw [if_pos hl] at h;obtain rfl:=ojz h;have HR:=am ho;have HL:=am hl;have HBS:=am hbs;have hu:=Tryz.underlying28;clear ho h hl hbs hq;go_enter Tryz.func9,Tryz.ntmps9
  go_wp2_with (first
   | ((with_reducible refine gate_dst (N:=2) rfl ?_);refine box_event ?hg (N:=2) ?hd (cs:=#[.slice A l0.length c]) (t:=28) ?hr ?_;(case hd=>rfl);(case hg=>rfl);(case hr=>first|(go_simp;done)|(go_simp;rfl));intro gb hg w3 hbox hb;have HB1:=am (hb.mono HBS.out);have HS1:=am ((Sim.refl P w).below hb);have IE:=am (Kd.R_below HR.out hb);have hz:w3.cell? ⟨gb,0,none⟩=some (.slice A l0.length c):=(blk_cell hbox 0).trans rfl;clear hb hbox hg)
   | ((with_reducible refine gate_callee (f:=20) rfl ?_);refine goesL_ (some 8) rfl rfl Tryz.func20 (by kernel_rfl) rfl #[.slice A l0.length c,.int .i64 a1] rfl au85 ?_;(refine (markE_w base P _ l0 a1 _ HL.out.1 HL.out.2 (by (with_reducible repeat (first|apply Kd.R_alloc|apply Kd.R_drewN|apply Kd.R_drew));exact IE.out)).mono ?_);rintro e w5 ⟨rfl,hs,hb⟩;refine ⟨_,rfl,?_⟩;have HB2:=am ((show Below base w _ from by repeat (first|exact HB1.out|apply pw_below_drewN|apply below_drew1|apply below_alloc)).trans hb);have HS2:=am ((show Sim P w _ from by repeat (first|exact HS1.out|apply Sim.drewN|apply Sim.drew|apply Sim.alloc)).trans hs);clear hs hb))
  go_ret;exact ⟨rfl,by repeat (first|exact HB2.out|apply pw_below_drewN|apply below_drew1|apply below_alloc),(show Sim P w _ from by repeat (first|exact HS2.out|apply Sim.drewN|apply Sim.drew|apply Sim.alloc))⟩
 · rw [if_neg hl] at h;cases h
def spec_l1In.f (a0:Int) (a1:Int) (a2:Int):Option (Bool):=if a0 ≥ a1 then (some (decide (a0≤a2))) else (some false)
set_option maxHeartbeats 8000000 in
set_option maxRecDepth 100000 in
theorem spec_l1In.calls (a0:Int) (a1:Int) (a2:Int) (r:Bool) (w:World) (h:spec_l1In.f a0 a1 a2=some r) :
  Calls Tryz.prog 37 #[.int .i64 a0,.int .i64 a1,.int .i64 a2] w fun e w'=>e=.returned (.bool r)∧Drawn0 w w':=by
 have H:(if a0 ≥ a1 then (some (decide (a0≤a2))) else (some false))=some r:=h;clear h;by_cases c4:a0 ≥ a1
 · rw [if_pos c4] at H;have c4b0:=dt c4;clear c4;obtain rfl:=ojz H;go_enter Tryz.func37,Tryz.ntmps37;go_wp2;go_ret;exact ax0
 · rw [if_neg c4] at H;have c4b0:=df c4;clear c4;obtain rfl:=ojz H;go_enter Tryz.func37,Tryz.ntmps37;go_wp2;go_ret;exact ax0
def spec_l2Lower.f (a0:Int):Option (Bool):=if a0 ≥ 97 then (some (decide (a0≤122))) else (some false)
set_option maxHeartbeats 8000000 in
set_option maxRecDepth 100000 in
theorem spec_l2Lower.calls (a0:Int) (r:Bool) (w:World) (h:spec_l2Lower.f a0=some r) :
  Calls Tryz.prog 55 #[.int .u8 a0] w fun e w'=>e=.returned (.bool r)∧Drawn0 w w':=by
 have H:(if a0 ≥ 97 then (some (decide (a0≤122))) else (some false))=some r:=h;clear h;by_cases c2:a0 ≥ 97
 · rw [if_pos c2] at H;have c2b0:=dt c2;clear c2;obtain rfl:=ojz H;go_enter Tryz.func55,Tryz.ntmps55;go_wp2;go_ret;exact ax0
 · rw [if_neg c2] at H;have c2b0:=df c2;clear c2;obtain rfl:=ojz H;go_enter Tryz.func55,Tryz.ntmps55;go_wp2;go_ret;exact ax0
mutual
def spec_l4Key.j0:Nat→ByteArray→Bool→Option (Bool)
 | 0,_,_=>none
 | k+1,x0,xN=>if xN=true then (some false) else (spec_l4Key.l0 k x0 0)
def spec_l4Key.l0:Nat→ByteArray→Int→Option (Bool)
 | 0,_,_=>none
 | k+1,x0,x3=>if x3<(x0.size:Int) then (if 0≤x3 then ((spec_l2Lower.f (bt x0 x3)).bind fun acK=>(if acK=true then (spec_l4Key.l0 k x0 (wrap64 (x3+1))) else (if (bt x0 x3)<48 then (some false) else (if (bt x0 x3)>57 then (some false) else (spec_l4Key.l0 k x0 (wrap64 (x3+1))))))) else (none)) else (some true)
end
def spec_l4Key.f (k:Nat) (a0:ByteArray):Option (Bool):=(spec_l1In.f (a0.size:Int) 1 10).bind fun Rw=>(if Rw=true then (if 0<(a0.size:Int) then ((spec_l2Lower.f (bt a0 0)).bind fun LY=>(spec_l4Key.j0 k a0 (!LY))) else (none)) else (spec_l4Key.j0 k a0 true))
theorem spec_l4Key.mono_l:∀ k,(∀ y0 y1,LeO (spec_l4Key.j0 k y0 y1) (spec_l4Key.j0 (k+1) y0 y1))∧(∀ y0 y1,LeO (spec_l4Key.l0 k y0 y1) (spec_l4Key.l0 (k+1) y0 y1))
 | 0=>⟨fun _ _ r h=>by simp [spec_l4Key.j0] at h,fun _ _ r h=>by simp [spec_l4Key.l0] at h⟩
 | k+1=>by
  obtain ⟨ih0,ih1⟩:=spec_l4Key.mono_l k;refine ⟨?_,?_⟩
  ·
   intro y0 y1;unfold spec_l4Key.j0
   repeat' first
   | (with_reducible exact ih0 _ _)
   | (with_reducible exact ih1 _ _)
   | (with_reducible exact LeO.refl _)
   | (with_reducible exact LeO.none _)
   | (with_reducible refine LeO.ite ?_ ?_)
   | (with_reducible refine LeO.bind ?_ (fun _=>?_))
   | exact ih0 _ _
   | exact ih1 _ _
   | exact LeO.none _
   | refine LeO.ite ?_ ?_
   | refine LeO.bind ?_ (fun _=>?_)
  ·
   intro y0 y1;unfold spec_l4Key.l0
   repeat' first
   | (with_reducible exact ih0 _ _)
   | (with_reducible exact ih1 _ _)
   | (with_reducible exact LeO.refl _)
   | (with_reducible exact LeO.none _)
   | (with_reducible refine LeO.ite ?_ ?_)
   | (with_reducible refine LeO.bind ?_ (fun _=>?_))
   | exact ih0 _ _
   | exact ih1 _ _
   | exact LeO.none _
   | refine LeO.ite ?_ ?_
   | refine LeO.bind ?_ (fun _=>?_)
theorem spec_l4Key.mono:∀ a0 k,LeO (spec_l4Key.f k a0) (spec_l4Key.f (k+1) a0):=by
 intro a0 k;obtain ⟨ih0,ih1⟩:=spec_l4Key.mono_l k;unfold spec_l4Key.f
 repeat' first
   | (with_reducible exact ih0 _ _)
   | (with_reducible exact ih1 _ _)
   | (with_reducible exact LeO.refl _)
   | (with_reducible exact LeO.none _)
   | (with_reducible refine LeO.ite ?_ ?_)
   | (with_reducible refine LeO.bind ?_ (fun _=>?_))
   | exact ih0 _ _
   | exact ih1 _ _
   | exact LeO.none _
   | refine LeO.ite ?_ ?_
   | refine LeO.bind ?_ (fun _=>?_)
set_option maxRecDepth 100000 in
theorem spec_l4Key.L0 {P:Prop} (h:P:=by
  go_wp2_with (first|((with_reducible refine gate_callee (f:=55) rfl ?_);refine goesL_ (some 23) rfl rfl Tryz.func55 (by kernel_rfl) rfl #[.int .u8 (bt a0 aM)] rfl au45 ?_;(with_reducible refine (spec_l2Lower.calls (bt a0 aM) _ _ uT.out).mono ?_);rintro e w' ⟨rfl,⟨nd,rfl⟩⟩;refine ⟨_,rfl,?_⟩;have jX:0≤(aM:Int):=od au87;have iU:aM<(a0.size:Int):=od au87;have BM:=bt_at a0 aM;replace jX:=eq_true jX;replace iU:=eq_true iU;have MG:0≤(aM:Int):=od au87;have MH:aM<(a0.size:Int):=od au87;have azP:=bt_at a0 aM;replace MG:=eq_true MG;replace MH:=eq_true MH));go_ret
  exact ax0):P:=h
set_option maxHeartbeats 8000000 in
set_option maxRecDepth 100000 in
theorem spec_l4Key.calls (k:Nat) (a0:ByteArray) (r:Bool) (w:World) (h:spec_l4Key.f k a0=some r) :
  Calls Tryz.prog 36 #[.string a0] w fun e w'=>e=.returned (.bool r)∧Drawn0 w w':=by
 have H:((spec_l1In.f (a0.size:Int) 1 10).bind fun Rw=>(if Rw=true then (if 0<(a0.size:Int) then ((spec_l2Lower.f (bt a0 0)).bind fun LY=>(spec_l4Key.j0 k a0 (!LY))) else (none)) else (spec_l4Key.j0 k a0 true)))=some r:=h;clear h;have hJ:=am H;clear H;go_enter Tryz.func36,Tryz.ntmps36
 go_upto_region 1 with (fail)
 go_cut [13] (fun v13 wc=>∃ (kq:Nat) (cY:Bool),v13=.bool cY∧Aside0 (spec_l4Key.j0 kq a0 cY=some r)∧Aside0 (kq≤k)∧Drawn0 w wc)
 case first =>
  have H:=hJ.out;clear hJ;replace H:=ob H;obtain ⟨Rw,dL,H⟩:=H
  try dsimp only at H
  have A3:=am dL;clear dL;by_cases c4:Rw=true
  ·
   subst c4;replace H:=(if_pos rfl).symm.trans H;by_cases c5:0<(a0.size:Int)
   ·
    rw [if_pos c5] at H;have c5b0:=dt c5;have c5b1:decide (0<a0.size)=true:=dt (by omega);clear c5
    (first|rw [c5b0]|(simp only [i64_w,i32_w];rw [c5b0])|skip)
    replace H:=ob H;obtain ⟨LY,jY,H⟩:=H
    try dsimp only at H
    have A7:=am jY;clear jY;have H':=am H;clear H;go_wp2_with (first|((with_reducible refine gate_callee (f:=37) rfl ?_);refine goesL_ (some 6) rfl rfl Tryz.func37 (by kernel_rfl) rfl #[.int .i64 (a0.size:Int),.int .i64 1,.int .i64 10] rfl au45 ?_;(with_reducible refine (spec_l1In.calls (a0.size:Int) 1 10 _ _ A3.out).mono ?_);rintro e w' ⟨rfl,⟨nd,rfl⟩⟩;refine ⟨_,rfl,?_⟩;have p6:0≤(0:Int):=(by omega);have q6:0<a0.size:=(by have:(0:Int)<(a0.size:Int):=od au87;omega);have qN:∀ h:0<a0.size,((a0[0]'h).toNat:Int)=bt a0 0:=bt_at a0 0;clear p6;have Ke:(0<(a0.size:Int))=True:=eq_true (od au87);replace q6:=eq_true q6)|(go_at_call 55;(with_reducible refine (spec_l2Lower.calls (bt a0 0) LY _ A7.out).mono ?_);rintro e w' ⟨rfl,⟨nd,rfl⟩⟩));go_meet
    case rel=>exact ⟨_,(!LY),au88,H',⟨by first|omega|exact Nat.le_refl _⟩,by repeat (first|exact Drawn0.refl _|apply Drawn0.step)⟩
   · rw [if_neg c5] at H;exact absurd H (by simp)
  ·
   replace c4:=Bool.eq_false_iff.mpr c4;subst c4;replace H:=(if_neg (show ¬ (false=true) by decide)).symm.trans H;have H':=am H;clear H;go_wp2_with (first|((with_reducible refine gate_callee (f:=37) rfl ?_);refine goesL_ (some 6) rfl rfl Tryz.func37 (by kernel_rfl) rfl #[.int .i64 (a0.size:Int),.int .i64 1,.int .i64 10] rfl au45 ?_;(with_reducible refine (spec_l1In.calls (a0.size:Int) 1 10 _ _ A3.out).mono ?_);rintro e w' ⟨rfl,⟨nd,rfl⟩⟩;refine ⟨_,rfl,?_⟩));go_meet
   case rel=>exact ⟨_,(true),au88,H',⟨by first|omega|exact Nat.le_refl _⟩,by repeat (first|exact Drawn0.refl _|apply Drawn0.step)⟩
 case rest =>
  clear hJ
  try clear p2
  try clear c3
  try clear c4
  try clear c5
  try clear c5b0
  try clear c5b1
  try clear p6
  try clear q6
  try clear qN
  try clear Ke
  try clear p6
  try clear q6
  obtain ⟨kq,cY,rfl,HA,hO,⟨mc1,rfl⟩⟩:=hcut
  cases kq with
  | zero=>exact absurd HA.out (by simp [spec_l4Key.j0])
  | succ eY =>
   have H:=HA.out;clear HA;simp only [spec_l4Key.j0] at H;by_cases c8:cY=true
   · subst c8;replace H:=(if_pos rfl).symm.trans H;obtain rfl:=ojz H;exact spec_l4Key.L0
   ·
    replace c8:=Bool.eq_false_iff.mpr c8;subst c8;replace H:=(if_neg (show ¬ (false=true) by decide)).symm.trans H;have H':=am H;clear H;go_wp2
    go_loopg [3] eY (fun kq v3 w'=>∃ (aM:Int),v3=.int .i64 aM∧Aside0 (spec_l4Key.l0 kq a0 aM=some r)∧Aside0 (kq≤eY)∧Drawn0 w w')
    case atStart=>exact ⟨(0),au88,H',⟨Nat.le_refl _⟩,by repeat (first|exact Drawn0.refl _|apply Drawn0.step)⟩
    case round =>
     clear H'
     try clear c1
     try clear p2
     try clear c3
     try clear c4
     try clear c5
     try clear c5b0
     try clear c5b1
     try clear p6
     try clear q6
     try clear qN
     try clear Ke
     try clear c8
     try clear p2
     try clear p6
     try clear q6
     obtain ⟨aM,rfl,HA,HK2,⟨m2,rfl⟩⟩:=hrel
     cases gk with
     | zero=>exact absurd HA.out (by simp [spec_l4Key.l0])
     | succ k2 =>
      have H:=HA.out;clear HA;simp only [spec_l4Key.l0] at H;by_cases c9:aM<(a0.size:Int)
      ·
       rw [if_pos c9] at H;have c9b0:=dt c9;clear c9;by_cases c10:0≤aM
       ·
        rw [if_pos c10] at H;have c10b0:=dt c10;clear c10;replace H:=ob H;obtain ⟨acK,oQ,H⟩:=H
        try dsimp only at H
        have uT:=am oQ;clear oQ;by_cases cV:acK=true
        ·
         subst cV;replace H:=(if_pos rfl).symm.trans H;have H':=am H;clear H;have lB:0≤(aM:Int):=od au87;have jZ:aM<(a0.size:Int):=od au87;have oO:=bt_at a0 aM;replace lB:=eq_true lB;replace jZ:=eq_true jZ;go_wp2_with (first|((with_reducible refine gate_callee (f:=55) rfl ?_);refine goesL_ (some 23) rfl rfl Tryz.func55 (by kernel_rfl) rfl #[.int .u8 (bt a0 aM)] rfl au45 ?_;(with_reducible refine (spec_l2Lower.calls (bt a0 aM) _ _ uT.out).mono ?_);rintro e w' ⟨rfl,⟨nd,rfl⟩⟩;refine ⟨_,rfl,?_⟩))
         go_roundg k2
         case measure=>have:=hO.out;have:=HK2.out;omega
         case rel=>exact ⟨(wrap64 (aM+1)),au88,H',⟨by have:=hO.out;have:=HK2.out;omega⟩,by repeat (first|exact Drawn0.refl _|apply Drawn0.step)⟩
        ·
         replace cV:=Bool.eq_false_iff.mpr cV;subst cV;replace H:=(if_neg (show ¬ (false=true) by decide)).symm.trans H;by_cases cX:(bt a0 aM)<48
         · rw [if_pos cX] at H;have c15b0:=dt cX;clear cX;obtain rfl:=ojz H;have lB:0≤(aM:Int):=od au87;have jZ:aM<(a0.size:Int):=od au87;have oO:=bt_at a0 aM;replace lB:=eq_true lB;replace jZ:=eq_true jZ;go_wp2_with (first|((with_reducible refine gate_callee (f:=55) rfl ?_);refine goesL_ (some 23) rfl rfl Tryz.func55 (by kernel_rfl) rfl #[.int .u8 (bt a0 aM)] rfl au45 ?_;(with_reducible refine (spec_l2Lower.calls (bt a0 aM) _ _ uT.out).mono ?_);rintro e w' ⟨rfl,⟨nd,rfl⟩⟩;refine ⟨_,rfl,?_⟩;have jX:0≤(aM:Int):=od au87;have iU:aM<(a0.size:Int):=od au87;have BM:=bt_at a0 aM;replace jX:=eq_true jX;replace iU:=eq_true iU));go_ret;exact ax0
         ·
          rw [if_neg cX] at H;have c15b0:=df cX;clear cX;by_cases mO:(bt a0 aM)>57
          · rw [if_pos mO] at H;have c17b0:=dt mO;clear mO;obtain rfl:=ojz H;have lB:0≤(aM:Int):=od au87;have jZ:aM<(a0.size:Int):=od au87;have oO:=bt_at a0 aM;replace lB:=eq_true lB;replace jZ:=eq_true jZ;exact spec_l4Key.L0
          ·
           rw [if_neg mO] at H;have c17b0:=df mO;clear mO;have H':=am H;clear H;have lB:0≤(aM:Int):=od au87;have jZ:aM<(a0.size:Int):=od au87;have oO:=bt_at a0 aM;replace lB:=eq_true lB;replace jZ:=eq_true jZ;go_wp2_with (first|((with_reducible refine gate_callee (f:=55) rfl ?_);refine goesL_ (some 23) rfl rfl Tryz.func55 (by kernel_rfl) rfl #[.int .u8 (bt a0 aM)] rfl au45 ?_;(with_reducible refine (spec_l2Lower.calls (bt a0 aM) _ _ uT.out).mono ?_);rintro e w' ⟨rfl,⟨nd,rfl⟩⟩;refine ⟨_,rfl,?_⟩;have jX:0≤(aM:Int):=od au87;have iU:aM<(a0.size:Int):=od au87;have BM:=bt_at a0 aM;replace jX:=eq_true jX;replace iU:=eq_true iU;have MG:0≤(aM:Int):=od au87;have MH:aM<(a0.size:Int):=od au87;have azP:=bt_at a0 aM;replace MG:=eq_true MG;replace MH:=eq_true MH))
           go_roundg k2
           case measure=>have:=hO.out;have:=HK2.out;omega
           case rel=>exact ⟨(wrap64 (aM+1)),au88,H',⟨by have:=hO.out;have:=HK2.out;omega⟩,by repeat (first|exact Drawn0.refl _|apply Drawn0.step)⟩
       · rw [if_neg c10] at H;exact absurd H (by simp)
      · rw [if_neg c9] at H;have c9b0:=df c9;clear c9;obtain rfl:=ojz H;exact spec_l4Key.L0
def spec_l2Upper.f (a0:Int):Option (Bool):=if a0 ≥ 65 then (some (decide (a0≤90))) else (some false)
set_option maxHeartbeats 8000000 in
set_option maxRecDepth 100000 in
theorem spec_l2Upper.calls (a0:Int) (r:Bool) (w:World) (h:spec_l2Upper.f a0=some r) :
  Calls Tryz.prog 70 #[.int .u8 a0] w fun e w'=>e=.returned (.bool r)∧Drawn0 w w':=by
 have H:(if a0 ≥ 65 then (some (decide (a0≤90))) else (some false))=some r:=h;clear h;by_cases c2:a0 ≥ 65
 · rw [if_pos c2] at H;have c2b0:=dt c2;clear c2;obtain rfl:=ojz H;go_enter Tryz.func70,Tryz.ntmps70;go_wp2;go_ret;exact ax0
 · rw [if_neg c2] at H;have c2b0:=df c2;clear c2;obtain rfl:=ojz H;go_enter Tryz.func70,Tryz.ntmps70;go_wp2;go_ret;exact ax0
def spec_l2Letter.f (a0:Int):Option (Bool):=(spec_l2Upper.f a0).bind fun Rx=>(if Rx=true then (some true) else ((spec_l2Lower.f a0).bind fun Ry=>(some Ry)))
set_option maxHeartbeats 8000000 in
set_option maxRecDepth 100000 in
theorem spec_l2Letter.calls (a0:Int) (r:Bool) (w:World) (h:spec_l2Letter.f a0=some r) :
  Calls Tryz.prog 81 #[.int .u8 a0] w fun e w'=>e=.returned (.bool r)∧Drawn0 w w':=by
 have H:((spec_l2Upper.f a0).bind fun Rx=>(if Rx=true then (some true) else ((spec_l2Lower.f a0).bind fun Ry=>(some Ry))))=some r:=h;clear h;replace H:=ob H;obtain ⟨Rx,fC,H⟩:=H
 try dsimp only at H
 have A2:=am fC;clear fC;by_cases c3:Rx=true
 · subst c3;replace H:=(if_pos rfl).symm.trans H;obtain rfl:=ojz H;go_enter Tryz.func81,Tryz.ntmps81;go_wp2_with (first|((with_reducible refine gate_callee (f:=70) rfl ?_);refine goesL_ (some 4) rfl rfl Tryz.func70 (by kernel_rfl) rfl #[.int .u8 a0] rfl au45 ?_;(with_reducible refine (spec_l2Upper.calls a0 true _ A2.out).mono ?_);rintro e w' ⟨rfl,⟨nd,rfl⟩⟩;refine ⟨_,rfl,?_⟩));go_ret;exact ax0
 ·
  replace c3:=Bool.eq_false_iff.mpr c3;subst c3;replace H:=(if_neg (show ¬ (false=true) by decide)).symm.trans H;replace H:=ob H;obtain ⟨Ry,oL,H⟩:=H
  try dsimp only at H
  have A4:=am oL;clear oL;obtain rfl:=ojz H;go_enter Tryz.func81,Tryz.ntmps81;go_wp2_with (first|((with_reducible refine gate_callee (f:=70) rfl ?_);refine goesL_ (some 4) rfl rfl Tryz.func70 (by kernel_rfl) rfl #[.int .u8 a0] rfl au45 ?_;(with_reducible refine (spec_l2Upper.calls a0 false _ A2.out).mono ?_);rintro e w' ⟨rfl,⟨nd,rfl⟩⟩;refine ⟨_,rfl,?_⟩)|(go_at_call 55;(with_reducible refine (spec_l2Lower.calls a0 Ry _ A4.out).mono ?_);rintro e w' ⟨rfl,⟨nd,rfl⟩⟩));go_ret;exact ax0
mutual
def spec_l2Word.j0:Nat→ByteArray→Bool→Option (Bool)
 | 0,_,_=>none
 | k+1,x0,x22=>if x22=true then (some false) else (spec_l2Word.l0 k x0 1)
def spec_l2Word.l0:Nat→ByteArray→Int→Option (Bool)
 | 0,_,_=>none
 | k+1,x0,x3=>if x3<(x0.size:Int) then (if 0≤x3 then ((spec_l2Letter.f (bt x0 x3)).bind fun acL=>(if acL=true then (spec_l2Word.l0 k x0 (wrap64 (x3+1))) else (if (bt x0 x3)=45 then (if 0≤(wrap64 (x3-1)) then (if (wrap64 (x3-1))<(x0.size:Int) then ((spec_l2Letter.f (bt x0 (wrap64 (x3-1)))).bind fun Rz=>(if Rz=true then (spec_l2Word.l0 k x0 (wrap64 (x3+1))) else (some false))) else (none)) else (none)) else (if (bt x0 x3)=39 then (if 0≤(wrap64 (x3-1)) then (if (wrap64 (x3-1))<(x0.size:Int) then ((spec_l2Letter.f (bt x0 (wrap64 (x3-1)))).bind fun RA=>(if RA=true then (spec_l2Word.l0 k x0 (wrap64 (x3+1))) else (some false))) else (none)) else (none)) else (some false))))) else (none)) else (some true)
end
def spec_l2Word.f (k:Nat) (a0:ByteArray):Option (Bool):=(spec_l1In.f (a0.size:Int) 1 12).bind fun RB=>(if RB=true then (if 0<(a0.size:Int) then ((spec_l2Letter.f (bt a0 0)).bind fun t119=>(if t119=true then (if 0≤(wrap64 ((a0.size:Int)-1)) then (if (wrap64 ((a0.size:Int)-1))<(a0.size:Int) then ((spec_l2Letter.f (bt a0 (wrap64 ((a0.size:Int)-1)))).bind fun Eb=>(spec_l2Word.j0 k a0 (!Eb))) else (none)) else (none)) else (spec_l2Word.j0 k a0 true))) else (none)) else (spec_l2Word.j0 k a0 true))
theorem spec_l2Word.mono_l:∀ k,(∀ y0 y1,LeO (spec_l2Word.j0 k y0 y1) (spec_l2Word.j0 (k+1) y0 y1))∧(∀ y0 y1,LeO (spec_l2Word.l0 k y0 y1) (spec_l2Word.l0 (k+1) y0 y1))
 | 0=>⟨fun _ _ r h=>by simp [spec_l2Word.j0] at h,fun _ _ r h=>by simp [spec_l2Word.l0] at h⟩
 | k+1=>by
  obtain ⟨ih0,ih1⟩:=spec_l2Word.mono_l k;refine ⟨?_,?_⟩
  ·
   intro y0 y1;unfold spec_l2Word.j0
   repeat' first
   | (with_reducible exact ih0 _ _)
   | (with_reducible exact ih1 _ _)
   | (with_reducible exact LeO.refl _)
   | (with_reducible exact LeO.none _)
   | (with_reducible refine LeO.ite ?_ ?_)
   | (with_reducible refine LeO.bind ?_ (fun _=>?_))
   | exact ih0 _ _
   | exact ih1 _ _
   | exact LeO.none _
   | refine LeO.ite ?_ ?_
   | refine LeO.bind ?_ (fun _=>?_)
  ·
   intro y0 y1;unfold spec_l2Word.l0
   repeat' first
   | (with_reducible exact ih0 _ _)
   | (with_reducible exact ih1 _ _)
   | (with_reducible exact LeO.refl _)
   | (with_reducible exact LeO.none _)
   | (with_reducible refine LeO.ite ?_ ?_)
   | (with_reducible refine LeO.bind ?_ (fun _=>?_))
   | exact ih0 _ _
   | exact ih1 _ _
   | exact LeO.none _
   | refine LeO.ite ?_ ?_
   | refine LeO.bind ?_ (fun _=>?_)
theorem spec_l2Word.mono:∀ a0 k,LeO (spec_l2Word.f k a0) (spec_l2Word.f (k+1) a0):=by
 intro a0 k;obtain ⟨ih0,ih1⟩:=spec_l2Word.mono_l k;unfold spec_l2Word.f
 repeat' first
   | (with_reducible exact ih0 _ _)
   | (with_reducible exact ih1 _ _)
   | (with_reducible exact LeO.refl _)
   | (with_reducible exact LeO.none _)
   | (with_reducible refine LeO.ite ?_ ?_)
   | (with_reducible refine LeO.bind ?_ (fun _=>?_))
   | exact ih0 _ _
   | exact ih1 _ _
   | exact LeO.none _
   | refine LeO.ite ?_ ?_
   | refine LeO.bind ?_ (fun _=>?_)
set_option maxRecDepth 100000 in
theorem spec_l2Word.L0 {P:Prop} (h:P:=by
  go_wp2_with (first|((with_reducible refine gate_callee (f:=81) rfl ?_);refine goesL_ (some 32) rfl rfl Tryz.func81 (by kernel_rfl) rfl #[.int .u8 (bt a0 aM)] rfl au45 ?_;(with_reducible refine (spec_l2Letter.calls (bt a0 aM) _ _ qR.out).mono ?_);rintro e w' ⟨rfl,⟨nd,rfl⟩⟩;refine ⟨_,rfl,?_⟩;have hU:0≤(aM:Int):=od au87;have gW:aM<(a0.size:Int):=od au87;have xH:=bt_at a0 aM;replace hU:=eq_true hU;replace gW:=eq_true gW;have p28:0≤(aM:Int):=od au87;have qS:aM<(a0.size:Int):=od au87;have Oc:=bt_at a0 aM;replace p28:=eq_true p28;replace qS:=eq_true qS;have p33:0≤((fF):Int):=od au87;have DR:(fF)<(a0.size:Int):=od au87;have a8E:=bt_at a0 (fF);replace p33:=eq_true p33;replace DR:=eq_true DR)|(go_at_call 81;(with_reducible refine (spec_l2Letter.calls (bt a0 (fF)) _ _ A34.out).mono ?_);rintro e w' ⟨rfl,⟨nd,rfl⟩⟩));go_ret
  first|(exact ⟨by first|rfl|(simp;done)|(simp only [← oS] <;> (first|rfl|simp))|(simp [*];done),by repeat (first|exact Drawn0.refl _|apply Drawn0.step)⟩)|(exact ax0)):P:=h
set_option maxHeartbeats 8000000 in
set_option maxRecDepth 100000 in
theorem spec_l2Word.calls (k:Nat) (a0:ByteArray) (r:Bool) (w:World) (h:spec_l2Word.f k a0=some r) :
  Calls Tryz.prog 69 #[.string a0] w fun e w'=>e=.returned (.bool r)∧Drawn0 w w':=by
 have H:((spec_l1In.f (a0.size:Int) 1 12).bind fun RB=>(if RB=true then (if 0<(a0.size:Int) then ((spec_l2Letter.f (bt a0 0)).bind fun t119=>(if t119=true then (if 0≤(wrap64 ((a0.size:Int)-1)) then (if (wrap64 ((a0.size:Int)-1))<(a0.size:Int) then ((spec_l2Letter.f (bt a0 (wrap64 ((a0.size:Int)-1)))).bind fun Eb=>(spec_l2Word.j0 k a0 (!Eb))) else (none)) else (none)) else (spec_l2Word.j0 k a0 true))) else (none)) else (spec_l2Word.j0 k a0 true)))=some r:=h;clear h;have hJ:=am H;clear H;go_enter Tryz.func69,Tryz.ntmps69
 go_upto_region 1 with (fail)
 go_cut [22] (fun v22 wc=>∃ (kq:Nat) (rS:Bool),v22=.bool rS∧Aside0 (spec_l2Word.j0 kq a0 rS=some r)∧Aside0 (kq≤k)∧Drawn0 w wc)
 case first =>
  have H:=hJ.out;clear hJ;replace H:=ob H;obtain ⟨RB,dL,H⟩:=H
  try dsimp only at H
  have A3:=am dL;clear dL;by_cases c4:RB=true
  ·
   subst c4;replace H:=(if_pos rfl).symm.trans H;by_cases c5:0<(a0.size:Int)
   ·
    rw [if_pos c5] at H;have c5b0:=dt c5;have c5b1:decide (0<a0.size)=true:=dt (by omega);clear c5
    (first|rw [c5b0]|(simp only [i64_w,i32_w];rw [c5b0])|skip)
    replace H:=ob H;obtain ⟨t119,jY,H⟩:=H
    try dsimp only at H
    have A7:=am jY;clear jY;by_cases c8:t119=true
    ·
     subst c8;replace H:=(if_pos rfl).symm.trans H
     obtain ⟨IJ,RD⟩:∃ j_:Int,(wrap64 ((a0.size:Int)-1))=j_:=⟨_,rfl⟩
     replace H:(if 0≤(IJ) then (if (IJ)<(a0.size:Int) then ((spec_l2Letter.f (bt a0 (IJ))).bind fun Eb=>(spec_l2Word.j0 k a0 (!Eb))) else (none)) else (none))=some r:=by first|(rw [RD] at H;exact H)|(simp only [RD] at H ⊢;exact H)
     (try rw [RD] at A3)
     (try rw [RD] at A7)
     have hji9w:(IntKind.i64.wrap ((a0.size:Int)-1))=IJ:=(i64_w _).trans RD;by_cases c10:0≤(IJ)
     ·
      rw [if_pos c10] at H;have c10b0:=dt c10;clear c10;by_cases cI:(IJ)<(a0.size:Int)
      ·
       rw [if_pos cI] at H;have c11b0:=dt cI;clear cI;replace H:=ob H;obtain ⟨Eb,uW,H⟩:=H
       try dsimp only at H
       have Kf:=am uW;clear uW;have H':=am H;clear H;go_wp2_with (first|((with_reducible refine gate_callee (f:=37) rfl ?_);refine goesL_ (some 6) rfl rfl Tryz.func37 (by kernel_rfl) rfl #[.int .i64 (a0.size:Int),.int .i64 1,.int .i64 12] rfl au45 ?_;(with_reducible refine (spec_l1In.calls (a0.size:Int) 1 12 _ _ A3.out).mono ?_);rintro e w' ⟨rfl,⟨nd,rfl⟩⟩;refine ⟨_,rfl,?_⟩;have p6:0≤(0:Int):=(by omega);have q6:0<a0.size:=(by have:(0:Int)<(a0.size:Int):=od au87;omega);have qN:∀ h:0<a0.size,((a0[0]'h).toNat:Int)=bt a0 0:=bt_at a0 0;clear p6;have Ke:(0<(a0.size:Int))=True:=eq_true (od au87);replace q6:=eq_true q6)|(go_at_call 81;(with_reducible refine (spec_l2Letter.calls (bt a0 0) _ _ A7.out).mono ?_);rintro e w' ⟨rfl,⟨nd,rfl⟩⟩;have wX:0≤((IJ):Int):=od au87;have rM:(IJ)<(a0.size:Int):=od au87;have rI:=bt_at a0 (IJ);replace wX:=eq_true wX;replace rM:=eq_true rM)|(go_at_call 81;(with_reducible refine (spec_l2Letter.calls (bt a0 (IJ)) Eb _ Kf.out).mono ?_);rintro e w' ⟨rfl,⟨nd,rfl⟩⟩));go_meet
       case rel=>exact ⟨_,(!Eb),au88,H',⟨by first|omega|exact Nat.le_refl _⟩,by repeat (first|exact Drawn0.refl _|apply Drawn0.step)⟩
      · rw [if_neg cI] at H;exact absurd H (by simp)
     · rw [if_neg c10] at H;exact absurd H (by simp)
    ·
     replace c8:=Bool.eq_false_iff.mpr c8;subst c8;replace H:=(if_neg (show ¬ (false=true) by decide)).symm.trans H;have H':=am H;clear H;go_wp2_with (first|((with_reducible refine gate_callee (f:=37) rfl ?_);refine goesL_ (some 6) rfl rfl Tryz.func37 (by kernel_rfl) rfl #[.int .i64 (a0.size:Int),.int .i64 1,.int .i64 12] rfl au45 ?_;(with_reducible refine (spec_l1In.calls (a0.size:Int) 1 12 _ _ A3.out).mono ?_);rintro e w' ⟨rfl,⟨nd,rfl⟩⟩;refine ⟨_,rfl,?_⟩;have p6:0≤(0:Int):=(by omega);have q6:0<a0.size:=(by have:(0:Int)<(a0.size:Int):=od au87;omega);have qN:∀ h:0<a0.size,((a0[0]'h).toNat:Int)=bt a0 0:=bt_at a0 0;clear p6;have Ke:(0<(a0.size:Int))=True:=eq_true (od au87);replace q6:=eq_true q6)|(go_at_call 81;(with_reducible refine (spec_l2Letter.calls (bt a0 0) _ _ A7.out).mono ?_);rintro e w' ⟨rfl,⟨nd,rfl⟩⟩));go_meet
     case rel=>exact ⟨_,(true),au88,H',⟨by first|omega|exact Nat.le_refl _⟩,by repeat (first|exact Drawn0.refl _|apply Drawn0.step)⟩
   · rw [if_neg c5] at H;exact absurd H (by simp)
  ·
   replace c4:=Bool.eq_false_iff.mpr c4;subst c4;replace H:=(if_neg (show ¬ (false=true) by decide)).symm.trans H;have H':=am H;clear H;go_wp2_with (first|((with_reducible refine gate_callee (f:=37) rfl ?_);refine goesL_ (some 6) rfl rfl Tryz.func37 (by kernel_rfl) rfl #[.int .i64 (a0.size:Int),.int .i64 1,.int .i64 12] rfl au45 ?_;(with_reducible refine (spec_l1In.calls (a0.size:Int) 1 12 _ _ A3.out).mono ?_);rintro e w' ⟨rfl,⟨nd,rfl⟩⟩;refine ⟨_,rfl,?_⟩));go_meet
   case rel=>exact ⟨_,(true),au88,H',⟨by first|omega|exact Nat.le_refl _⟩,by repeat (first|exact Drawn0.refl _|apply Drawn0.step)⟩
 case rest =>
  clear hJ
  try clear c1
  try clear p1
  try clear q1
  try clear xL
  try clear p2
  try clear c3
  try clear c4
  try clear c5
  try clear c5b0
  try clear c5b1
  try clear c6
  try clear p6
  try clear q6
  try clear qN
  try clear Ke
  try clear c8
  try clear c10
  try clear c10b0
  try clear cI
  try clear c11b0
  try clear wX
  try clear rM
  try clear rI
  try clear wX
  try clear p6
  try clear rM
  try clear q6
  obtain ⟨kq,rS,rfl,HA,hO,⟨mc1,rfl⟩⟩:=hcut
  cases kq with
  | zero=>exact absurd HA.out (by simp [spec_l2Word.j0])
  | succ eY =>
   have H:=HA.out;clear HA;simp only [spec_l2Word.j0] at H;by_cases dB:rS=true
   · subst dB;replace H:=(if_pos rfl).symm.trans H;obtain rfl:=ojz H;exact spec_l2Word.L0
   ·
    replace dB:=Bool.eq_false_iff.mpr dB;subst dB;replace H:=(if_neg (show ¬ (false=true) by decide)).symm.trans H;have H':=am H;clear H;go_wp2
    go_loopg [3] eY (fun kq v3 w'=>∃ (aM:Int),v3=.int .i64 aM∧Aside0 (spec_l2Word.l0 kq a0 aM=some r)∧Aside0 (kq≤eY)∧Drawn0 w w')
    case atStart=>exact ⟨(1),au88,H',⟨Nat.le_refl _⟩,by repeat (first|exact Drawn0.refl _|apply Drawn0.step)⟩
    case round =>
     clear H'
     try clear c1
     try clear p1
     try clear q1
     try clear xL
     try clear p2
     try clear c3
     try clear c4
     try clear c5
     try clear c5b0
     try clear c5b1
     try clear c6
     try clear p6
     try clear q6
     try clear qN
     try clear Ke
     try clear c8
     try clear c10
     try clear c10b0
     try clear cI
     try clear c11b0
     try clear wX
     try clear rM
     try clear rI
     try clear dB
     try clear p1
     try clear wX
     try clear p2
     try clear p6
     try clear q1
     try clear rM
     try clear q6
     obtain ⟨aM,rfl,HA,HK2,⟨m2,rfl⟩⟩:=hrel
     cases gk with
     | zero=>exact absurd HA.out (by simp [spec_l2Word.l0])
     | succ k2 =>
      have H:=HA.out;clear HA;simp only [spec_l2Word.l0] at H;by_cases cX:aM<(a0.size:Int)
      ·
       rw [if_pos cX] at H;have c15b0:=dt cX;clear cX;by_cases fM:0≤aM
       ·
        rw [if_pos fM] at H;have c16b0:=dt fM;clear fM;replace H:=ob H;obtain ⟨acL,Od,H⟩:=H
        try dsimp only at H
        have qR:=am Od;clear Od;by_cases nX:acL=true
        ·
         subst nX;replace H:=(if_pos rfl).symm.trans H;have H':=am H;clear H;have fT:0≤(aM:Int):=od au87;have fU:aM<(a0.size:Int):=od au87;have uX:=bt_at a0 aM;replace fT:=eq_true fT;replace fU:=eq_true fU;go_wp2_with (first|((with_reducible refine gate_callee (f:=81) rfl ?_);refine goesL_ (some 32) rfl rfl Tryz.func81 (by kernel_rfl) rfl #[.int .u8 (bt a0 aM)] rfl au45 ?_;(with_reducible refine (spec_l2Letter.calls (bt a0 aM) _ _ qR.out).mono ?_);rintro e w' ⟨rfl,⟨nd,rfl⟩⟩;refine ⟨_,rfl,?_⟩))
         go_roundg k2
         case measure=>have:=hO.out;have:=HK2.out;omega
         case rel=>exact ⟨(wrap64 (aM+1)),au88,H',⟨by have:=hO.out;have:=HK2.out;omega⟩,by repeat (first|exact Drawn0.refl _|apply Drawn0.step)⟩
        ·
         replace nX:=Bool.eq_false_iff.mpr nX;subst nX;replace H:=(if_neg (show ¬ (false=true) by decide)).symm.trans H;by_cases rN:(bt a0 aM)=45
         ·
          rw [if_pos rN] at H;have c21b0:=qt rN;have c21b1:=bf rN;clear rN
          obtain ⟨fG,qL⟩:∃ j_:Int,(wrap64 (aM-1))=j_:=⟨_,rfl⟩
          replace H:(if 0≤(fG) then (if (fG)<(a0.size:Int) then ((spec_l2Letter.f (bt a0 (fG))).bind fun Rz=>(if Rz=true then (spec_l2Word.l0 k2 a0 (wrap64 (aM+1))) else (some false))) else (none)) else (none))=some r:=by first|(rw [qL] at H;exact H)|(simp only [qL] at H ⊢;exact H)
          (try rw [qL] at qR)
          have hji22w:(IntKind.i64.wrap (aM-1))=fG:=(i64_w _).trans qL;by_cases pA:0≤(fG)
          ·
           rw [if_pos pA] at H;have c23b0:=dt pA;clear pA;by_cases iL:(fG)<(a0.size:Int)
           ·
            rw [if_pos iL] at H;have c24b0:=dt iL;clear iL;replace H:=ob H;obtain ⟨Rz,Oe,H⟩:=H
            try dsimp only at H
            have A26:=am Oe;clear Oe;by_cases qT:Rz=true
            ·
             subst qT;replace H:=(if_pos rfl).symm.trans H;have H':=am H;clear H;have fT:0≤(aM:Int):=od au87;have fU:aM<(a0.size:Int):=od au87;have uX:=bt_at a0 aM;replace fT:=eq_true fT;replace fU:=eq_true fU;go_wp2_with (first|((with_reducible refine gate_callee (f:=81) rfl ?_);refine goesL_ (some 32) rfl rfl Tryz.func81 (by kernel_rfl) rfl #[.int .u8 (bt a0 aM)] rfl au45 ?_;(with_reducible refine (spec_l2Letter.calls (bt a0 aM) _ _ qR.out).mono ?_);rintro e w' ⟨rfl,⟨nd,rfl⟩⟩;refine ⟨_,rfl,?_⟩;have hU:0≤(aM:Int):=od au87;have gW:aM<(a0.size:Int):=od au87;have xH:=bt_at a0 aM;replace hU:=eq_true hU;replace gW:=eq_true gW;have p25:0≤((fG):Int):=od au87;have DT:(fG)<(a0.size:Int):=od au87;have a8G:=bt_at a0 (fG);replace p25:=eq_true p25;replace DT:=eq_true DT)|(go_at_call 81;(with_reducible refine (spec_l2Letter.calls (bt a0 (fG)) _ _ A26.out).mono ?_);rintro e w' ⟨rfl,⟨nd,rfl⟩⟩))
             go_roundg k2
             case measure=>have:=hO.out;have:=HK2.out;omega
             case rel=>exact ⟨(wrap64 (aM+1)),au88,H',⟨by have:=hO.out;have:=HK2.out;omega⟩,by repeat (first|exact Drawn0.refl _|apply Drawn0.step)⟩
            · replace qT:=Bool.eq_false_iff.mpr qT;subst qT;replace H:=(if_neg (show ¬ (false=true) by decide)).symm.trans H;obtain rfl:=ojz H;have fT:0≤(aM:Int):=od au87;have fU:aM<(a0.size:Int):=od au87;have uX:=bt_at a0 aM;replace fT:=eq_true fT;replace fU:=eq_true fU;go_wp2_with (first|((with_reducible refine gate_callee (f:=81) rfl ?_);refine goesL_ (some 32) rfl rfl Tryz.func81 (by kernel_rfl) rfl #[.int .u8 (bt a0 aM)] rfl au45 ?_;(with_reducible refine (spec_l2Letter.calls (bt a0 aM) _ _ qR.out).mono ?_);rintro e w' ⟨rfl,⟨nd,rfl⟩⟩;refine ⟨_,rfl,?_⟩;have hU:0≤(aM:Int):=od au87;have gW:aM<(a0.size:Int):=od au87;have xH:=bt_at a0 aM;replace hU:=eq_true hU;replace gW:=eq_true gW;have p25:0≤((fG):Int):=od au87;have DT:(fG)<(a0.size:Int):=od au87;have a8G:=bt_at a0 (fG);replace p25:=eq_true p25;replace DT:=eq_true DT)|(go_at_call 81;(with_reducible refine (spec_l2Letter.calls (bt a0 (fG)) _ _ A26.out).mono ?_);rintro e w' ⟨rfl,⟨nd,rfl⟩⟩));go_ret;exact ax2
           · rw [if_neg iL] at H;exact absurd H (by simp)
          · rw [if_neg pA] at H;exact absurd H (by simp)
         ·
          rw [if_neg rN] at H;have c21b0:=qf rN;have c21b1:=bu rN;by_cases uY:(bt a0 aM)=39
          ·
           rw [if_pos uY] at H;have c29b0:=qt uY;have c29b1:=bf uY;clear uY
           obtain ⟨fF,oS⟩:∃ j_:Int,(wrap64 (aM-1))=j_:=⟨_,rfl⟩
           replace H:(if 0≤(fF) then (if (fF)<(a0.size:Int) then ((spec_l2Letter.f (bt a0 (fF))).bind fun RA=>(if RA=true then (spec_l2Word.l0 k2 a0 (wrap64 (aM+1))) else (some false))) else (none)) else (none))=some r:=by first|(rw [oS] at H;exact H)|(simp only [oS] at H ⊢;exact H)
           (try rw [oS] at qR)
           have hji30w:(IntKind.i64.wrap (aM-1))=fF:=(i64_w _).trans oS;by_cases wY:0≤(fF)
           ·
            rw [if_pos wY] at H;have c31b0:=dt wY;clear wY;by_cases mW:(fF)<(a0.size:Int)
            ·
             rw [if_pos mW] at H;have c32b0:=dt mW;clear mW;replace H:=ob H;obtain ⟨RA,Of,H⟩:=H
             try dsimp only at H
             have A34:=am Of;clear Of;by_cases Kg:RA=true
             ·
              subst Kg;replace H:=(if_pos rfl).symm.trans H;have H':=am H;clear H;have fT:0≤(aM:Int):=od au87;have fU:aM<(a0.size:Int):=od au87;have uX:=bt_at a0 aM;replace fT:=eq_true fT;replace fU:=eq_true fU;go_wp2_with (first|((with_reducible refine gate_callee (f:=81) rfl ?_);refine goesL_ (some 32) rfl rfl Tryz.func81 (by kernel_rfl) rfl #[.int .u8 (bt a0 aM)] rfl au45 ?_;(with_reducible refine (spec_l2Letter.calls (bt a0 aM) _ _ qR.out).mono ?_);rintro e w' ⟨rfl,⟨nd,rfl⟩⟩;refine ⟨_,rfl,?_⟩;have hU:0≤(aM:Int):=od au87;have gW:aM<(a0.size:Int):=od au87;have xH:=bt_at a0 aM;replace hU:=eq_true hU;replace gW:=eq_true gW;have p28:0≤(aM:Int):=od au87;have qS:aM<(a0.size:Int):=od au87;have Oc:=bt_at a0 aM;replace p28:=eq_true p28;replace qS:=eq_true qS;have p33:0≤((fF):Int):=od au87;have DR:(fF)<(a0.size:Int):=od au87;have a8E:=bt_at a0 (fF);replace p33:=eq_true p33;replace DR:=eq_true DR)|(go_at_call 81;(with_reducible refine (spec_l2Letter.calls (bt a0 (fF)) _ _ A34.out).mono ?_);rintro e w' ⟨rfl,⟨nd,rfl⟩⟩))
              go_roundg k2
              case measure=>have:=hO.out;have:=HK2.out;omega
              case rel=>exact ⟨(wrap64 (aM+1)),au88,H',⟨by have:=hO.out;have:=HK2.out;omega⟩,by repeat (first|exact Drawn0.refl _|apply Drawn0.step)⟩
             · replace Kg:=Bool.eq_false_iff.mpr Kg;subst Kg;replace H:=(if_neg (show ¬ (false=true) by decide)).symm.trans H;obtain rfl:=ojz H;have fT:0≤(aM:Int):=od au87;have fU:aM<(a0.size:Int):=od au87;have uX:=bt_at a0 aM;replace fT:=eq_true fT;replace fU:=eq_true fU;exact spec_l2Word.L0
            · rw [if_neg mW] at H;exact absurd H (by simp)
           · rw [if_neg wY] at H;exact absurd H (by simp)
          · rw [if_neg uY] at H;have c29b0:=qf uY;have c29b1:=bu uY;obtain rfl:=ojz H;have fT:0≤(aM:Int):=od au87;have fU:aM<(a0.size:Int):=od au87;have uX:=bt_at a0 aM;replace fT:=eq_true fT;replace fU:=eq_true fU;go_wp2_with (first|((with_reducible refine gate_callee (f:=81) rfl ?_);refine goesL_ (some 32) rfl rfl Tryz.func81 (by kernel_rfl) rfl #[.int .u8 (bt a0 aM)] rfl au45 ?_;(with_reducible refine (spec_l2Letter.calls (bt a0 aM) _ _ qR.out).mono ?_);rintro e w' ⟨rfl,⟨nd,rfl⟩⟩;refine ⟨_,rfl,?_⟩;have hU:0≤(aM:Int):=od au87;have gW:aM<(a0.size:Int):=od au87;have xH:=bt_at a0 aM;replace hU:=eq_true hU;replace gW:=eq_true gW;have p28:0≤(aM:Int):=od au87;have qS:aM<(a0.size:Int):=od au87;have Oc:=bt_at a0 aM;replace p28:=eq_true p28;replace qS:=eq_true qS));go_ret;exact ax0
       · rw [if_neg fM] at H;exact absurd H (by simp)
      · rw [if_neg cX] at H;have c15b0:=df cX;clear cX;obtain rfl:=ojz H;exact spec_l2Word.L0
def spec_l1Split.l0:Nat→ByteArray→Int→List ByteArray→Int→Int→Option (List ByteArray)
 | 0,_,_,_,_,_=>none
 | k+1,x0,x1,x5,x6,x7=>if x7<(x0.size:Int) then (if 0≤x7 then (if (bt x0 x7)=x1 then (if 0≤x6 then (if x6≤x7 then (if x7≤(x0.size:Int) then (if x5.length<8796093022208 then (spec_l1Split.l0 k x0 x1 (x5++[x0.extract (x6:Int).toNat (x7:Int).toNat]) (wrap64 (x7+1)) (wrap64 (x7+1))) else (none)) else (none)) else (none)) else (none)) else (spec_l1Split.l0 k x0 x1 x5 x6 (wrap64 (x7+1)))) else (none)) else (if 0≤x6 then (if x6≤(x0.size:Int) then (if x5.length<8796093022208 then (some (x5++[x0.extract (x6:Int).toNat x0.size])) else (none)) else (none)) else (none))
def spec_l1Split.f (k:Nat) (a0:ByteArray) (a1:Int):Option (List ByteArray):=spec_l1Split.l0 k a0 a1 (([]:List ByteArray)) 0 0
theorem spec_l1Split.mono_l:∀ k,(∀ y0 y1 y2 y3 y4,LeO (spec_l1Split.l0 k y0 y1 y2 y3 y4) (spec_l1Split.l0 (k+1) y0 y1 y2 y3 y4))
 | 0=>fun _ _ _ _ _ r h=>by simp [spec_l1Split.l0] at h
 | k+1=>by
  have ih0:=spec_l1Split.mono_l k
  ·
   intro y0 y1 y2 y3 y4;unfold spec_l1Split.l0
   repeat' first
   | (with_reducible exact ih0 _ _ _ _ _)
   | (with_reducible exact LeO.refl _)
   | (with_reducible exact LeO.none _)
   | (with_reducible refine LeO.ite ?_ ?_)
   | (with_reducible refine LeO.bind ?_ (fun _=>?_))
   | exact ih0 _ _ _ _ _
   | exact LeO.none _
   | refine LeO.ite ?_ ?_
   | refine LeO.bind ?_ (fun _=>?_)
theorem spec_l1Split.mono:∀ a0 a1 k,LeO (spec_l1Split.f k a0 a1) (spec_l1Split.f (k+1) a0 a1):=by
 intro a0 a1 k;have ih0:=spec_l1Split.mono_l k;unfold spec_l1Split.f
 repeat' first
   | (with_reducible exact ih0 _ _ _ _ _)
   | (with_reducible exact LeO.refl _)
   | (with_reducible exact LeO.none _)
   | (with_reducible refine LeO.ite ?_ ?_)
   | (with_reducible refine LeO.bind ?_ (fun _=>?_))
   | exact ih0 _ _ _ _ _
   | exact LeO.none _
   | refine LeO.ite ?_ ?_
   | refine LeO.bind ?_ (fun _=>?_)
set_option maxRecDepth 100000 in
theorem spec_l1Split.L0 {P:Prop} (h:P:=by
  go_wp2_with (first|((with_reducible refine gate_builtin (b:=.append) (xs:=#[.tmp 20,.tmp 25]) rfl ?_);at_builtin;refine Kd.R_append Kd.string (w0:=w) w.heap.size rfl (.tmp 20) (.tmp 25) 67 9 (.string ⟨#[]⟩) 16 rfl Tryz.underlying67 info9 rfl (by decide) (by omega) u5 aC (a0.extract (oY:Int).toNat (iP:Int).toNat) [.string (a0.extract (oY:Int).toNat (iP:Int).toNat)] (fun _=>True) (fun _=>False) rfl rfl ?aP (fun _ hk=>hk.elim) ?aF ?aO ?aB ?aS ?aL ?_;(case aP=>exact rfl);(case aB=>exact au46);(case aF=>exact (fun _ _=>trivial));(case aO=>exact au84);(case aS=>exact (below_size au46));(case aL=>have:=aEw.out;omega);intro b0R mP ho hb hg hat;rw [← aEx.out] at ho;have dT:=am (hb);have dU:=am (ho);clear HB;clear a1U;have HB:=dT;have aEy:=dU;clear dT dU;clear ho hb hg hat))
  go_roundg k1
  case measure=>have:=HK1.out;omega
  case rel=>first|(exact ⟨(azQ),(wrap64 (iP+1)),(wrap64 (iP+1)),au88,au88,H',⟨by have:=HK1.out;omega⟩,⟨by (with_reducible repeat (first|apply Kd.R_alloc|apply Kd.R_drewN|apply Kd.R_drew));exact aEy.out⟩,⟨by repeat (first|(with_reducible first|exact HB.out|apply below_alloc|apply pw_below_drewN|apply below_drew1)|exact HB.out)⟩⟩)|(exact ⟨(aC),(oY),(wrap64 (iP+1)),au88,au88,H',⟨by have:=HK1.out;omega⟩,⟨by (with_reducible repeat (first|apply Kd.R_alloc|apply Kd.R_drewN|apply Kd.R_drew));exact a1U.out⟩,⟨by repeat (first|(with_reducible first|exact HB.out|apply below_alloc|apply pw_below_drewN|apply below_drew1)|exact HB.out)⟩⟩)):P:=h
set_option maxHeartbeats 8000000 in
set_option maxRecDepth 100000 in
theorem spec_l1Split.calls (k:Nat) (a0:ByteArray) (a1:Int) (r:List ByteArray) (w:World) (h:spec_l1Split.f k a0 a1=some r) :
  Calls Tryz.prog 82 #[.string a0,.int .u8 a1] w fun e w'=>∃ dS:Value,e=.returned (dS)∧Kd.R Kd.string 9 w' w.heap.size (fun _=>True) dS r∧Below w.heap.size w w':=by
 have HB:=am (Below.refl w.heap.size w);have H:(spec_l1Split.l0 k a0 a1 (([]:List ByteArray)) 0 0)=some r:=h;clear h
 obtain ⟨azR,Kz⟩:∃ y_:List ByteArray,y_=(([]:List ByteArray)):=⟨_,rfl⟩
 replace H:(spec_l1Split.l0 k a0 a1 azR 0 0)=some r:=by first|(rw [Kz];with_reducible exact H)|(have H2_:=(Option.bind_some _ _).symm.trans H;rw [Kz];with_reducible exact H2_)|(have H2_:=(Option.bind_some _ _).symm.trans H;with_reducible exact H2_)|with_reducible exact H|(rw [Kz];exact H)|exact H
 have agO:=am Kz;clear Kz;have H':=am H;clear H;go_enter Tryz.func82,Tryz.ntmps82;go_wp2_with (first|((with_reducible refine gate_dst (N:=8) rfl ?_);refine Kd.R_lit Kd.string _ 9 ?hg (N:=8) ?hd (xs:=([]:List ByteArray)) (inner:=[]) (ok:=fun _=>True) (okp:=fun _=>True) ?hr ?hp (fun _ hk=>hk) trivial (Below.refl _ _) (Nat.le_refl _) (by simp) ?_;(case hd=>rfl);(case hg=>rfl);(case hr=>first|(go_simp;done)|(go_simp;rfl));(case hp=>exact (Reps.none _ _));intro b0S w3 ho4 hb hg_ hnew_;clear hg_ hnew_;(first|rw [← agO.out] at ho4|(simp only [Int.reduceToNat] at ho4;rw [← agO.out] at ho4));have aEz:=am (Kd.R_lower ho4 (below_size au46));replace HB:=am (below_step au46 hb);clear hb ho4))
 go_loopg [5,6,7] k (fun kq v5 v6 v7 w'=>∃ (aC:List ByteArray) (oY:Int) (iP:Int),v6=.int .i64 oY∧v7=.int .i64 iP∧Aside0 (spec_l1Split.l0 kq a0 a1 aC oY iP=some r)∧Aside0 (kq≤k)∧Aside0 (Kd.R Kd.string 9 w' w.heap.size (fun _=>True) v5 aC)∧Aside0 (Below w.heap.size w w'))
 case atStart=>exact ⟨(azR),(0),(0),au88,au88,H',⟨Nat.le_refl _⟩,⟨by (with_reducible repeat (first|apply Kd.R_alloc|apply Kd.R_drewN|apply Kd.R_drew));exact aEz.out⟩,⟨by repeat (first|(with_reducible first|exact HB.out|apply below_alloc|apply pw_below_drewN|apply below_drew1)|exact HB.out)⟩⟩
 case round =>
  clear H'
  try clear p2
  obtain ⟨aC,oY,iP,rfl,rfl,HA,HK1,a1U,HB⟩:=hrel
  cases gk with
  | zero=>exact absurd HA.out (by simp [spec_l1Split.l0])
  | succ k1 =>
   have H:=HA.out;clear HA;simp only [spec_l1Split.l0] at H;by_cases c5:iP<(a0.size:Int)
   ·
    rw [if_pos c5] at H;have c5b0:=dt c5;clear c5;by_cases c6:0≤iP
    ·
     rw [if_pos c6] at H;have c6b0:=dt c6;clear c6;by_cases c8:(bt a0 iP)=a1
     ·
      rw [if_pos c8] at H;have c8b0:=qt c8;have c8b1:=bf c8;clear c8;by_cases c9:0≤oY
      ·
       rw [if_pos c9] at H;have c9b0:=eq_true c9;have c9b1:=dt c9;clear c9;by_cases c10:oY≤iP
       ·
        rw [if_pos c10] at H;have c10b0:=eq_true c10;have c10b1:=dt c10;clear c10;by_cases cI:iP≤(a0.size:Int)
        ·
         rw [if_pos cI] at H;have c11b0:=eq_true cI;have c11b1:=dt cI;clear cI;by_cases eA:aC.length<8796093022208
         ·
          rw [if_pos eA] at H;have aEw:=am eA;clear eA
          obtain ⟨azQ,KA⟩:∃ y_:List ByteArray,y_=(aC++[a0.extract (oY:Int).toNat (iP:Int).toNat]):=⟨_,rfl⟩
          replace H:(spec_l1Split.l0 k1 a0 a1 azQ (wrap64 (iP+1)) (wrap64 (iP+1)))=some r:=by first|(rw [KA];with_reducible exact H)|(have H2_:=(Option.bind_some _ _).symm.trans H;rw [KA];with_reducible exact H2_)|(have H2_:=(Option.bind_some _ _).symm.trans H;with_reducible exact H2_)|with_reducible exact H|(rw [KA];exact H)|exact H
          have aEx:=am KA;clear KA;have H':=am H;clear H;have p7:0≤(iP:Int):=od au87;have q7:iP<(a0.size:Int):=od au87;have DG:=bt_at a0 iP;replace p7:=eq_true p7;replace q7:=eq_true q7;exact spec_l1Split.L0
         · rw [if_neg eA] at H;exact absurd H (by simp)
        · rw [if_neg cI] at H;exact absurd H (by simp)
       · rw [if_neg c10] at H;exact absurd H (by simp)
      · rw [if_neg c9] at H;exact absurd H (by simp)
     · rw [if_neg c8] at H;have c8b0:=qf c8;have c8b1:=bu c8;have H':=am H;clear H;have p7:0≤(iP:Int):=od au87;have q7:iP<(a0.size:Int):=od au87;have DG:=bt_at a0 iP;replace p7:=eq_true p7;replace q7:=eq_true q7;exact spec_l1Split.L0
    · rw [if_neg c6] at H;exact absurd H (by simp)
   ·
    rw [if_neg c5] at H;have c5b0:=df c5;clear c5;by_cases dB:0≤oY
    ·
     rw [if_pos dB] at H;have c14b0:=eq_true dB;have c14b1:=dt dB;clear dB;by_cases cX:oY≤(a0.size:Int)
     ·
      rw [if_pos cX] at H;have c15b0:=eq_true cX;have c15b1:=dt cX;clear cX;by_cases fM:aC.length<8796093022208
      ·
       rw [if_pos fM] at H;have aEA:=am fM;clear fM
       obtain ⟨aIA,KB⟩:∃ y_:List ByteArray,y_=(aC++[a0.extract (oY:Int).toNat a0.size]):=⟨_,rfl⟩
       replace H:(some aIA)=some r:=by first|(rw [KB];with_reducible exact H)|(have H2_:=(Option.bind_some _ _).symm.trans H;rw [KB];with_reducible exact H2_)|(have H2_:=(Option.bind_some _ _).symm.trans H;with_reducible exact H2_)|with_reducible exact H|(rw [KB];exact H)|exact H
       have aEB:=am KB;clear KB;obtain rfl:=ojz H;go_wp2_with (first|((with_reducible refine gate_builtin (b:=.append) (xs:=#[.tmp 29,.tmp 33]) rfl ?_);at_builtin;refine Kd.R_append Kd.string (w0:=w) w.heap.size rfl (.tmp 29) (.tmp 33) 67 9 (.string ⟨#[]⟩) 16 rfl Tryz.underlying67 info9 rfl (by decide) (by omega) u5 aC (a0.extract (oY:Int).toNat a0.size) [.string (a0.extract (oY:Int).toNat a0.size)] (fun _=>True) (fun _=>False) rfl rfl ?aP (fun _ hk=>hk.elim) ?aF ?aO ?aB ?aS ?aL ?_;(case aP=>exact rfl);(case aB=>exact au46);(case aF=>exact (fun _ _=>trivial));(case aO=>exact au84);(case aS=>exact (below_size au46));(case aL=>have:=aEA.out;omega);intro b0T oP ho hb hg hat;rw [← aEB.out] at ho;have dT:=am (hb);have dU:=am (ho);clear HB;clear a1U;have HB:=dT;have aEC:=dU;clear dT dU;clear ho hb hg hat));go_ret;exact ⟨_,by first|rfl|(simp [errW_none,errW_some] <;> rfl)|(simp [*,errW_none,errW_some] <;> rfl),by (with_reducible repeat (first|apply Kd.R_alloc|apply Kd.R_drewN|apply Kd.R_drew));exact aEC.out,by repeat (first|(with_reducible first|exact HB.out|apply below_alloc|apply pw_below_drewN|apply below_drew1)|exact HB.out)⟩
      · rw [if_neg fM] at H;exact absurd H (by simp)
     · rw [if_neg cX] at H;exact absurd H (by simp)
    · rw [if_neg dB] at H;exact absurd H (by simp)
mutual
def spec_l2Particle.l0:Nat→List ByteArray→Int→Option (Bool)
 | 0,_,_=>none
 | k+1,x3,x4=>if x4<(x3.length:Int) then (if 0≤x4 then ((spec_l2Word.f k (rdOf ByteArray.empty x3 x4)).bind fun JB=>(if JB=true then (spec_l2Particle.l1 k x3 x4 0) else (some false))) else (none)) else (some (decide ((x3.length:Int)≤2)))
def spec_l2Particle.l1:Nat→List ByteArray→Int→Int→Option (Bool)
 | 0,_,_,_=>none
 | k+1,x3,x4,x5=>if 0≤x4 then (if x4<(x3.length:Int) then (if x5<((rdOf ByteArray.empty x3 x4).size:Int) then (if 0≤x5 then ((spec_l2Lower.f (bt (rdOf ByteArray.empty x3 x4) x5)).bind fun acM=>(if acM=true then (spec_l2Particle.l1 k x3 x4 (wrap64 (x5+1))) else (some false))) else (none)) else (spec_l2Particle.l0 k x3 (wrap64 (x4+1)))) else (none)) else (none)
end
def spec_l2Particle.f (k:Nat) (a0:ByteArray):Option (Bool):=if a0.toList=([]:List UInt8) then (some true) else ((spec_l1Split.f k a0 32).bind fun eR=>(spec_l2Particle.l0 k eR 0))
theorem spec_l2Particle.mono_l:∀ k,(∀ y0 y1,LeO (spec_l2Particle.l0 k y0 y1) (spec_l2Particle.l0 (k+1) y0 y1))∧(∀ y0 y1 y2,LeO (spec_l2Particle.l1 k y0 y1 y2) (spec_l2Particle.l1 (k+1) y0 y1 y2))
 | 0=>⟨fun _ _ r h=>by simp [spec_l2Particle.l0] at h,fun _ _ _ r h=>by simp [spec_l2Particle.l1] at h⟩
 | k+1=>by
  obtain ⟨ih0,ih1⟩:=spec_l2Particle.mono_l k;refine ⟨?_,?_⟩
  ·
   intro y0 y1;unfold spec_l2Particle.l0
   repeat' first
   | (with_reducible exact ih0 _ _)
   | (with_reducible exact ih1 _ _ _)
   | (with_reducible exact spec_l1Split.mono _ _ _)
   | (with_reducible exact spec_l2Word.mono _ _)
   | (with_reducible exact LeO.refl _)
   | (with_reducible exact LeO.none _)
   | (with_reducible refine LeO.ite ?_ ?_)
   | (with_reducible refine LeO.bind ?_ (fun _=>?_))
   | exact ih0 _ _
   | exact ih1 _ _ _
   | exact spec_l1Split.mono _ _ _
   | exact spec_l2Word.mono _ _
   | exact LeO.none _
   | refine LeO.ite ?_ ?_
   | refine LeO.bind ?_ (fun _=>?_)
  ·
   intro y0 y1 y2;unfold spec_l2Particle.l1
   repeat' first
   | (with_reducible exact ih0 _ _)
   | (with_reducible exact ih1 _ _ _)
   | (with_reducible exact spec_l1Split.mono _ _ _)
   | (with_reducible exact spec_l2Word.mono _ _)
   | (with_reducible exact LeO.refl _)
   | (with_reducible exact LeO.none _)
   | (with_reducible refine LeO.ite ?_ ?_)
   | (with_reducible refine LeO.bind ?_ (fun _=>?_))
   | exact ih0 _ _
   | exact ih1 _ _ _
   | exact spec_l1Split.mono _ _ _
   | exact spec_l2Word.mono _ _
   | exact LeO.none _
   | refine LeO.ite ?_ ?_
   | refine LeO.bind ?_ (fun _=>?_)
theorem spec_l2Particle.mono:∀ a0 k,LeO (spec_l2Particle.f k a0) (spec_l2Particle.f (k+1) a0):=by
 intro a0 k;obtain ⟨ih0,ih1⟩:=spec_l2Particle.mono_l k;unfold spec_l2Particle.f
 repeat' first
   | (with_reducible exact ih0 _ _)
   | (with_reducible exact ih1 _ _ _)
   | (with_reducible exact spec_l1Split.mono _ _ _)
   | (with_reducible exact spec_l2Word.mono _ _)
   | (with_reducible exact LeO.refl _)
   | (with_reducible exact LeO.none _)
   | (with_reducible refine LeO.ite ?_ ?_)
   | (with_reducible refine LeO.bind ?_ (fun _=>?_))
   | exact ih0 _ _
   | exact ih1 _ _ _
   | exact spec_l1Split.mono _ _ _
   | exact spec_l2Word.mono _ _
   | exact LeO.none _
   | refine LeO.ite ?_ ?_
   | refine LeO.bind ?_ (fun _=>?_)
set_option maxHeartbeats 8000000 in
set_option maxRecDepth 100000 in
theorem spec_l2Particle.calls (k:Nat) (a0:ByteArray) (r:Bool) (w:World) (h:spec_l2Particle.f k a0=some r) :
  Calls Tryz.prog 71 #[.string a0] w fun e w'=>e=.returned (.bool r)∧Below w.heap.size w w':=by
 have HB:=am (Below.refl w.heap.size w);have H:(if a0.toList=([]:List UInt8) then (some true) else ((spec_l1Split.f k a0 32).bind fun eR=>(spec_l2Particle.l0 k eR 0)))=some r:=h;clear h;by_cases c2:a0.toList=([]:List UInt8)
 · rw [if_pos c2] at H;have c2b0:=qt c2;have c2b1:=bf c2;clear c2;obtain rfl:=ojz H;go_enter Tryz.func71,Tryz.ntmps71;go_wp2;go_ret;exact ax1
 ·
  rw [if_neg c2] at H;have c2b0:=qf c2;have c2b1:=bu c2;replace H:=ob H;obtain ⟨eR,dL,H⟩:=H
  try dsimp only at H
  have A3:=am dL;clear dL;have H':=am H;clear H;go_enter Tryz.func71,Tryz.ntmps71;go_wp2_with (first|((with_reducible refine gate_callee (f:=82) rfl ?_);refine goesL_ (some 9) rfl rfl Tryz.func82 (by kernel_rfl) rfl #[.string a0,.int .u8 32] rfl au45 ?_;(with_reducible refine (spec_l1Split.calls k a0 32 eR _ A3.out).mono ?_);rintro e w4 ⟨aIB,rfl,ho0,hb⟩;refine ⟨_,rfl,?_⟩;have aED:=am (Kd.R_lower ho0 (below_size au46));replace HB:=am (below_step au46 hb);(try clear hb);(try clear ho0)))
  go_loopg [4] k (fun kq v4 w'=>∃ (aI:Int),v4=.int .i64 aI∧Aside0 (spec_l2Particle.l0 kq eR aI=some r)∧Aside0 (kq≤k)∧Aside0 (Kd.R Kd.string 9 w' w.heap.size (fun _=>True) aIB eR)∧Aside0 (Below w.heap.size w w'))
  case atStart=>exact ⟨(0),au88,H',⟨Nat.le_refl _⟩,⟨by (with_reducible repeat (first|apply Kd.R_alloc|apply Kd.R_drewN|apply Kd.R_drew));exact aED.out⟩,⟨by repeat (first|(with_reducible first|exact HB.out|apply below_alloc|apply pw_below_drewN|apply below_drew1)|exact HB.out)⟩⟩
  case round =>
   clear H'
   try clear c2
   try clear c2b0
   try clear c2b1
   try clear p2
   obtain ⟨aI,rfl,HA,HK1,bS,HB⟩:=hrel
   cases gk with
   | zero=>exact absurd HA.out (by simp [spec_l2Particle.l0])
   | succ k1 =>
    have H:=HA.out;clear HA;simp only [spec_l2Particle.l0] at H;by_cases c5:aI<(eR.length:Int)
    ·
     rw [if_pos c5] at H;have c5b0:=dt c5;clear c5;by_cases c6:0≤aI
     ·
      rw [if_pos c6] at H;have c6b0:=dt c6;clear c6;replace H:=ob H;obtain ⟨JB,jY,H⟩:=H
      try dsimp only at H
      have A7:=am jY;clear jY;by_cases c8:JB=true
      ·
       subst c8;replace H:=(if_pos rfl).symm.trans H;have H':=am H;clear H;obtain ⟨fW,fL,K8⟩:=Kd.R_slice bS.out;subst K8;have Ec:0≤(aI:Int):=od au87;have Ed:aI<(eR.length:Int):=od au87;obtain ⟨D6,acN,Zl⟩:=Kd.at_string (Kd.R_reads' bS.out).2.2 aI Ec Ed
       cases acN
       replace Ec:=eq_true Ec;replace Ed:=eq_true Ed;go_wp2_with (first|((with_reducible refine gate_callee (f:=69) rfl ?_);refine goesL_ (some 20) rfl rfl Tryz.func69 (by kernel_rfl) rfl #[.string (rdOf ByteArray.empty eR aI)] rfl au45 ?_;(with_reducible refine (spec_l2Word.calls k1 (rdOf ByteArray.empty eR aI) true _ A7.out).mono ?_);rintro e w' ⟨rfl,⟨nd,rfl⟩⟩;refine ⟨_,rfl,?_⟩))
       go_loopg [5] k1 (fun kq v5 w'=>∃ (mV:Int),v5=.int .i64 mV∧Aside0 (spec_l2Particle.l1 kq eR aI mV=some r)∧Aside0 (kq≤k1)∧Aside0 (Kd.R Kd.string 9 w' w.heap.size (fun _=>True) (.slice (some D6) eR.length fL) eR)∧Aside0 (Below w.heap.size w w'))
       case atStart=>exact ⟨(0),au88,H',⟨Nat.le_refl _⟩,⟨by (with_reducible repeat (first|apply Kd.R_alloc|apply Kd.R_drewN|apply Kd.R_drew));exact bS.out⟩,⟨by repeat (first|(with_reducible first|exact HB.out|apply below_alloc|apply pw_below_drewN|apply below_drew1)|exact HB.out)⟩⟩
       case round =>
        clear H'
        try clear p1
        try clear q1
        try clear xL
        try clear c2
        try clear c2b0
        try clear c2b1
        try clear p2
        try clear c5
        try clear c5b0
        try clear c6
        try clear c6b0
        try clear c7
        try clear c8
        try clear Zl
        try clear Ec
        try clear p2
        try clear Ed
        obtain ⟨mV,rfl,HA,HK2,bS,HB⟩:=hrel
        cases gk with
        | zero=>exact absurd HA.out (by simp [spec_l2Particle.l1])
        | succ k2 =>
         have H:=HA.out;clear HA;simp only [spec_l2Particle.l1] at H;by_cases c10:0≤aI
         ·
          rw [if_pos c10] at H;have c10b0:=dt c10;clear c10;by_cases cI:aI<(eR.length:Int)
          ·
           rw [if_pos cI] at H;have c11b0:=dt cI;clear cI;by_cases eA:mV<((rdOf ByteArray.empty eR aI).size:Int)
           ·
            rw [if_pos eA] at H;have c12b0:=dt eA;clear eA;by_cases cV:0≤mV
            ·
             rw [if_pos cV] at H;have c13b0:=dt cV;clear cV;replace H:=ob H;obtain ⟨acM,uU,H⟩:=H
             try dsimp only at H
             have xO:=am uU;clear uU;by_cases fM:acM=true
             ·
              subst fM;replace H:=(if_pos rfl).symm.trans H;have H':=am H;clear H;have vO:0≤(aI:Int):=od au87;have vP:aI<(eR.length:Int):=od au87;obtain ⟨KC,RE,Zm⟩:=Kd.at_string (Kd.R_reads' bS.out).2.2 aI vO vP
              obtain rfl:D6=KC:=(by injection RE)
              replace vO:=eq_true vO;replace vP:=eq_true vP;have JC:0≤(aI:Int):=od au87;have JD:aI<(eR.length:Int):=od au87;obtain ⟨a4K,acO,anC⟩:=Kd.at_string (Kd.R_reads' bS.out).2.2 aI JC JD
              obtain rfl:D6=a4K:=(by injection acO)
              replace JC:=eq_true JC;replace JD:=eq_true JD;have jX:0≤(mV:Int):=od au87;have iU:mV<((rdOf ByteArray.empty eR aI).size:Int):=od au87;have BM:=bt_at (rdOf ByteArray.empty eR aI) mV;replace jX:=eq_true jX;replace iU:=eq_true iU;go_wp2_with (first|((with_reducible refine gate_callee (f:=55) rfl ?_);refine goesL_ (some 37) rfl rfl Tryz.func55 (by kernel_rfl) rfl #[.int .u8 (bt (rdOf ByteArray.empty eR aI) mV)] rfl au45 ?_;(with_reducible refine (spec_l2Lower.calls (bt (rdOf ByteArray.empty eR aI) mV) true _ xO.out).mono ?_);rintro e w' ⟨rfl,⟨nd,rfl⟩⟩;refine ⟨_,rfl,?_⟩))
              go_roundg k2
              case measure=>have:=HK1.out;have:=HK2.out;omega
              case rel=>exact ⟨(wrap64 (mV+1)),au88,H',⟨by have:=HK1.out;have:=HK2.out;omega⟩,⟨by (with_reducible repeat (first|apply Kd.R_alloc|apply Kd.R_drewN|apply Kd.R_drew));exact bS.out⟩,⟨by repeat (first|(with_reducible first|exact HB.out|apply below_alloc|apply pw_below_drewN|apply below_drew1)|exact HB.out)⟩⟩
             ·
              replace fM:=Bool.eq_false_iff.mpr fM;subst fM;replace H:=(if_neg (show ¬ (false=true) by decide)).symm.trans H;obtain rfl:=ojz H;have vO:0≤(aI:Int):=od au87;have vP:aI<(eR.length:Int):=od au87;obtain ⟨KC,RE,Zm⟩:=Kd.at_string (Kd.R_reads' bS.out).2.2 aI vO vP
              obtain rfl:D6=KC:=(by injection RE)
              replace vO:=eq_true vO;replace vP:=eq_true vP;have JC:0≤(aI:Int):=od au87;have JD:aI<(eR.length:Int):=od au87;obtain ⟨a4K,acO,anC⟩:=Kd.at_string (Kd.R_reads' bS.out).2.2 aI JC JD
              obtain rfl:D6=a4K:=(by injection acO)
              replace JC:=eq_true JC;replace JD:=eq_true JD;have jX:0≤(mV:Int):=od au87;have iU:mV<((rdOf ByteArray.empty eR aI).size:Int):=od au87;have BM:=bt_at (rdOf ByteArray.empty eR aI) mV;replace jX:=eq_true jX;replace iU:=eq_true iU;go_wp2_with (first|((with_reducible refine gate_callee (f:=55) rfl ?_);refine goesL_ (some 37) rfl rfl Tryz.func55 (by kernel_rfl) rfl #[.int .u8 (bt (rdOf ByteArray.empty eR aI) mV)] rfl au45 ?_;(with_reducible refine (spec_l2Lower.calls (bt (rdOf ByteArray.empty eR aI) mV) false _ xO.out).mono ?_);rintro e w' ⟨rfl,⟨nd,rfl⟩⟩;refine ⟨_,rfl,?_⟩));go_ret;exact ax1
            · rw [if_neg cV] at H;exact absurd H (by simp)
           ·
            rw [if_neg eA] at H;have c12b0:=df eA;clear eA;have H':=am H;clear H;have vO:0≤(aI:Int):=od au87;have vP:aI<(eR.length:Int):=od au87;obtain ⟨KC,RE,Zm⟩:=Kd.at_string (Kd.R_reads' bS.out).2.2 aI vO vP
            obtain rfl:D6=KC:=(by injection RE)
            replace vO:=eq_true vO;replace vP:=eq_true vP;go_wp2
            go_roundg k2
            case measure=>have:=HK1.out;have:=HK2.out;omega
            case rel=>exact ⟨(wrap64 (aI+1)),au88,H',⟨by have:=HK1.out;have:=HK2.out;omega⟩,⟨by (with_reducible repeat (first|apply Kd.R_alloc|apply Kd.R_drewN|apply Kd.R_drew));exact bS.out⟩,⟨by repeat (first|(with_reducible first|exact HB.out|apply below_alloc|apply pw_below_drewN|apply below_drew1)|exact HB.out)⟩⟩
          · rw [if_neg cI] at H;exact absurd H (by simp)
         · rw [if_neg c10] at H;exact absurd H (by simp)
      ·
       replace c8:=Bool.eq_false_iff.mpr c8;subst c8;replace H:=(if_neg (show ¬ (false=true) by decide)).symm.trans H;obtain rfl:=ojz H;obtain ⟨b0U,b0V,aIC⟩:=Kd.R_slice bS.out;subst aIC;have Ec:0≤(aI:Int):=od au87;have Ed:aI<(eR.length:Int):=od au87;obtain ⟨D6,acN,Zl⟩:=Kd.at_string (Kd.R_reads' bS.out).2.2 aI Ec Ed
       cases acN
       replace Ec:=eq_true Ec;replace Ed:=eq_true Ed;go_wp2_with (first|((with_reducible refine gate_callee (f:=69) rfl ?_);refine goesL_ (some 20) rfl rfl Tryz.func69 (by kernel_rfl) rfl #[.string (rdOf ByteArray.empty eR aI)] rfl au45 ?_;(with_reducible refine (spec_l2Word.calls k1 (rdOf ByteArray.empty eR aI) false _ A7.out).mono ?_);rintro e w' ⟨rfl,⟨nd,rfl⟩⟩;refine ⟨_,rfl,?_⟩));go_ret;exact ax1
     · rw [if_neg c6] at H;exact absurd H (by simp)
    · rw [if_neg c5] at H;have c5b0:=df c5;clear c5;obtain rfl:=ojz H;obtain ⟨jT,jU,abO⟩:=Kd.R_slice bS.out;subst abO;go_wp2;go_ret;exact ax1
def spec_l2Good.l0:Nat→Int→List ByteArray→ByteArray→ByteArray→ByteArray→Option (Bool)
 | 0,_,_,_,_,_=>none
 | k+1,x3,uC,Zn,HY,LZ=>if x3<(uC.length:Int) then (if 0≤x3 then ((spec_l2Word.f k (rdOf ByteArray.empty uC x3)).bind fun acP=>(if acP=true then (if 0<((rdOf ByteArray.empty uC x3).size:Int) then ((spec_l2Upper.f (bt (rdOf ByteArray.empty uC x3) 0)).bind fun acQ=>(if acQ=true then (spec_l2Good.l0 k (wrap64 (x3+1)) uC Zn HY LZ) else (some false))) else (none)) else (some false))) else (none)) else (if (uC.length:Int)≤3 then ((spec_l2Particle.f k Zn).bind fun t146=>(if t146=true then ((spec_l2Word.f k HY).bind fun acR=>(if acR=true then (if 0<(HY.size:Int) then ((spec_l2Upper.f (bt HY 0)).bind fun acS=>(if acS=true then (if LZ.toList=([]:List UInt8) then (some true) else ((spec_l2Word.f k LZ).bind fun acT=>(some acT))) else (some false))) else (none)) else (some false))) else (some false))) else (some false))
def spec_l2Good.f (k:Nat) (aA:List ByteArray) (aH:ByteArray) (aW:ByteArray) (aY:ByteArray):Option (Bool):=spec_l2Good.l0 k 0 aA aH aW aY
theorem spec_l2Good.mono_l:∀ k,(∀ y0 y1 y2 y3 y4,LeO (spec_l2Good.l0 k y0 y1 y2 y3 y4) (spec_l2Good.l0 (k+1) y0 y1 y2 y3 y4))
 | 0=>fun _ _ _ _ _ r h=>by simp [spec_l2Good.l0] at h
 | k+1=>by
  have ih0:=spec_l2Good.mono_l k
  ·
   intro y0 y1 y2 y3 y4;unfold spec_l2Good.l0
   repeat' first
   | (with_reducible exact ih0 _ _ _ _ _)
   | (with_reducible exact spec_l2Particle.mono _ _)
   | (with_reducible exact spec_l2Word.mono _ _)
   | (with_reducible exact LeO.refl _)
   | (with_reducible exact LeO.none _)
   | (with_reducible refine LeO.ite ?_ ?_)
   | (with_reducible refine LeO.bind ?_ (fun _=>?_))
   | exact ih0 _ _ _ _ _
   | exact spec_l2Particle.mono _ _
   | exact spec_l2Word.mono _ _
   | exact LeO.none _
   | refine LeO.ite ?_ ?_
   | refine LeO.bind ?_ (fun _=>?_)
theorem spec_l2Good.mono:∀ a0 a1 a2 a3 k,LeO (spec_l2Good.f k a0 a1 a2 a3) (spec_l2Good.f (k+1) a0 a1 a2 a3):=by
 intro a0 a1 a2 a3 k;have ih0:=spec_l2Good.mono_l k;unfold spec_l2Good.f
 repeat' first
   | (with_reducible exact ih0 _ _ _ _ _)
   | (with_reducible exact spec_l2Particle.mono _ _)
   | (with_reducible exact spec_l2Word.mono _ _)
   | (with_reducible exact LeO.refl _)
   | (with_reducible exact LeO.none _)
   | (with_reducible refine LeO.ite ?_ ?_)
   | (with_reducible refine LeO.bind ?_ (fun _=>?_))
   | exact ih0 _ _ _ _ _
   | exact spec_l2Particle.mono _ _
   | exact spec_l2Word.mono _ _
   | exact LeO.none _
   | refine LeO.ite ?_ ?_
   | refine LeO.bind ?_ (fun _=>?_)
set_option maxRecDepth 100000 in
theorem spec_l2Good.L0 {P:Prop} (h:P:=by
  go_wp2_with (first|((with_reducible refine gate_callee (f:=69) rfl ?_);refine goesL_ (some 16) rfl rfl Tryz.func69 (by kernel_rfl) rfl #[.string (rdOf ByteArray.empty aA aE)] rfl au45 ?_;(with_reducible refine (spec_l2Word.calls k1 (rdOf ByteArray.empty aA aE) _ _ A5.out).mono ?_);rintro e w' ⟨rfl,⟨nd,rfl⟩⟩;refine ⟨_,rfl,?_⟩;have JE:0≤(aE:Int):=od au87;have JF:aE<(aA.length:Int):=od au87;obtain ⟨a4L,acU,zX⟩:=Kd.at_string cM.out aE JE JF;obtain rfl:Nc=a4L:=(by injection acU);replace zX:=bcl HB.out zX;replace JE:=eq_true JE;replace JF:=eq_true JF;have p8:0≤(0:Int):=(by omega);have q8:0<(rdOf ByteArray.empty aA aE).size:=(by have:(0:Int)<((rdOf ByteArray.empty aA aE).size:Int):=od au87;omega);have DI:∀ h:0<(rdOf ByteArray.empty aA aE).size,(((rdOf ByteArray.empty aA aE)[0]'h).toNat:Int)=bt (rdOf ByteArray.empty aA aE) 0:=bt_at (rdOf ByteArray.empty aA aE) 0;clear p8;have qi8:(0<((rdOf ByteArray.empty aA aE).size:Int))=True:=eq_true (od au87);replace q8:=eq_true q8)|(go_at_call 70;(with_reducible refine (spec_l2Upper.calls (bt (rdOf ByteArray.empty aA aE) 0) _ _ A9.out).mono ?_);rintro e w' ⟨rfl,⟨nd,rfl⟩⟩));go_ret
  exact ax7):P:=h
set_option maxRecDepth 100000 in
theorem spec_l2Good.L1 {P:Prop} (h:P:=by
  go_wp2_with (first|(go_at_call 71;(with_reducible refine (spec_l2Particle.calls k1 aH _ _ xO.out).mono ?_);rintro e w29 ⟨rfl,hb⟩;replace iD:=am (blk_below (g:=Nf) au74 hb);replace HB:=am (below_step au37 hb);(try clear hb);obtain ⟨xX,xY,xZ,yA,yB,yC,yD,yE⟩:=blkc4 iD.out)|(go_at_call 69;(with_reducible refine (spec_l2Word.calls k1 aW _ _ A17.out).mono ?_);rintro e w' ⟨rfl,⟨nd,rfl⟩⟩;have hU:0≤(0:Int):=(by omega);have gW:0<aW.size:=(by have:(0:Int)<(aW.size:Int):=od au87;omega);have xH:∀ h:0<aW.size,((aW[0]'h).toNat:Int)=bt aW 0:=bt_at aW 0;clear hU;have b0W:(0<(aW.size:Int))=True:=eq_true (od au87);replace gW:=eq_true gW)|(go_at_call 70;(with_reducible refine (spec_l2Upper.calls (bt aW 0) _ _ xU.out).mono ?_);rintro e w' ⟨rfl,⟨nd,rfl⟩⟩)|(go_at_call 69;(with_reducible refine (spec_l2Word.calls k1 aY acT _ A27.out).mono ?_);rintro e w' ⟨rfl,⟨nd,rfl⟩⟩));go_ret
  exact ax7):P:=h
set_option maxHeartbeats 8000000 in
set_option maxRecDepth 100000 in
theorem spec_l2Good.calls (k:Nat) (bH:Option Addr) (bA:Nat) (aA:List ByteArray) (aH:ByteArray) (aW:ByteArray) (aY:ByteArray) (r:Bool) (w:World) (cE:Kd.C Kd.string w bH aA.length aA) (cA:aA.length≤bA) (h:spec_l2Good.f k aA aH aW aY=some r) :
  Calls Tryz.prog 56 #[.agg #[.slice bH aA.length bA,.string aH,.string aW,.string aY]] w fun e w'=>e=.returned (.bool r)∧Below w.heap.size w w':=by
 have hu69:=Tryz.underlying69;have cM:=am cE;have eO:=am cA;clear cE cA;have HB:=am (Below.refl w.heap.size w);have H:(spec_l2Good.l0 k 0 aA aH aW aY)=some r:=h;clear h;have H':=am H;clear H;go_enter Tryz.func56,Tryz.ntmps56;go_wp2_with (first|((with_reducible refine gate_dst (N:=1) rfl ?_);refine box_event ?hg (N:=1) ?hd (cs:=#[.slice bH aA.length bA,.string aH,.string aW,.string aY]) (t:=69) ?hr ?_;(case hd=>rfl);(case hg=>rfl);(case hr=>first|(go_simp;done)|(go_simp;rfl));intro Nf hg w2 hbox hb;have iD:=am (hbox);have aXz:=am (bsz hg au46);have MN:=am (bsz hg au46);replace HB:=am (below_step au46 hb);clear hb hbox hg))
 go_loopg [3] k (fun kq v3 w'=>∃ (aE:Int),v3=.int .i64 aE∧Aside0 (spec_l2Good.l0 kq aE aA aH aW aY=some r)∧Aside0 (kq≤k)∧Aside0 (w'.heap[Nf]?=some (.cells #[(.slice bH aA.length bA),.string aH,.string aW,.string aY] 69 (0,0)))∧Aside0 (Below w.heap.size w w'))
 case atStart=>exact ⟨(0),au88,H',⟨Nat.le_refl _⟩,⟨by (with_reducible repeat (first|refine blk_drewN ?_ _|refine blk_drew ?_|refine blk_alloc ?_ _));exact iD.out⟩,⟨by repeat (first|(with_reducible first|exact HB.out|apply below_alloc|apply pw_below_drewN|apply below_drew1|refine below_set ?_ MN.out)|exact HB.out)⟩⟩
 case round =>
  clear H'
  try clear p2
  obtain ⟨aE,rfl,HA,HK1,iD,HB⟩:=hrel
  cases gk with
  | zero=>exact absurd HA.out (by simp [spec_l2Good.l0])
  | succ k1 =>
   have H:=HA.out;clear HA;simp only [spec_l2Good.l0] at H;by_cases c3:aE<(aA.length:Int)
   ·
    rw [if_pos c3] at H;have c3b0:=dt c3;clear c3;by_cases c4:0≤aE
    ·
     rw [if_pos c4] at H;have c4b0:=dt c4;clear c4;replace H:=ob H;obtain ⟨acP,wR,H⟩:=H
     try dsimp only at H
     have A5:=am wR;clear wR;by_cases c6:acP=true
     ·
      subst c6;replace H:=(if_pos rfl).symm.trans H;by_cases c7:0<((rdOf ByteArray.empty aA aE).size:Int)
      ·
       rw [if_pos c7] at H;have c7b0:=dt c7;have c7b1:decide (0<(rdOf ByteArray.empty aA aE).size)=true:=dt (by omega);clear c7;replace H:=ob H;obtain ⟨acQ,wW,H⟩:=H
       try dsimp only at H
       have A9:=am wW;clear wW;by_cases c10:acQ=true
       ·
        subst c10;replace H:=(if_pos rfl).symm.trans H;have H':=am H;clear H;obtain ⟨tU,tV,tW,tX,tY,tZ,uA,uB⟩:=blkc4 iD.out;have vQ:0≤(aE:Int):=od au87;have vR:aE<(aA.length:Int):=od au87;obtain ⟨Nc,RF,oG⟩:=Kd.at_string cM.out aE vQ vR
        cases RF
        replace oG:=bcl HB.out oG;replace vQ:=eq_true vQ;replace vR:=eq_true vR;go_wp2_with (first|((with_reducible refine gate_callee (f:=69) rfl ?_);refine goesL_ (some 16) rfl rfl Tryz.func69 (by kernel_rfl) rfl #[.string (rdOf ByteArray.empty aA aE)] rfl au45 ?_;(with_reducible refine (spec_l2Word.calls k1 (rdOf ByteArray.empty aA aE) _ _ A5.out).mono ?_);rintro e w' ⟨rfl,⟨nd,rfl⟩⟩;refine ⟨_,rfl,?_⟩;have JE:0≤(aE:Int):=od au87;have JF:aE<(aA.length:Int):=od au87;obtain ⟨a4L,acU,zX⟩:=Kd.at_string cM.out aE JE JF;obtain rfl:Nc=a4L:=(by injection acU);replace zX:=bcl HB.out zX;replace JE:=eq_true JE;replace JF:=eq_true JF;have p8:0≤(0:Int):=(by omega);have q8:0<(rdOf ByteArray.empty aA aE).size:=(by have:(0:Int)<((rdOf ByteArray.empty aA aE).size:Int):=od au87;omega);have DI:∀ h:0<(rdOf ByteArray.empty aA aE).size,(((rdOf ByteArray.empty aA aE)[0]'h).toNat:Int)=bt (rdOf ByteArray.empty aA aE) 0:=bt_at (rdOf ByteArray.empty aA aE) 0;clear p8;have qi8:(0<((rdOf ByteArray.empty aA aE).size:Int))=True:=eq_true (od au87);replace q8:=eq_true q8)|(go_at_call 70;(with_reducible refine (spec_l2Upper.calls (bt (rdOf ByteArray.empty aA aE) 0) _ _ A9.out).mono ?_);rintro e w' ⟨rfl,⟨nd,rfl⟩⟩))
        go_roundg k1
        case measure=>have:=HK1.out;omega
        case rel=>exact ⟨(wrap64 (aE+1)),au88,H',⟨by have:=HK1.out;omega⟩,⟨by (with_reducible repeat (first|refine blk_drewN ?_ _|refine blk_drew ?_|refine blk_alloc ?_ _));exact iD.out⟩,⟨by repeat (first|(with_reducible first|exact HB.out|apply below_alloc|apply pw_below_drewN|apply below_drew1|refine below_set ?_ MN.out)|exact HB.out)⟩⟩
       ·
        replace c10:=Bool.eq_false_iff.mpr c10;subst c10;replace H:=(if_neg (show ¬ (false=true) by decide)).symm.trans H;obtain rfl:=ojz H;obtain ⟨gZ,qA,qB,qC,hD,qD,qE,qF⟩:=blkc4 iD.out;have vQ:0≤(aE:Int):=od au87;have vR:aE<(aA.length:Int):=od au87;obtain ⟨Nc,RF,oG⟩:=Kd.at_string cM.out aE vQ vR
        cases RF
        replace oG:=bcl HB.out oG;replace vQ:=eq_true vQ;replace vR:=eq_true vR;exact spec_l2Good.L0
      · rw [if_neg c7] at H;exact absurd H (by simp)
     ·
      replace c6:=Bool.eq_false_iff.mpr c6;subst c6;replace H:=(if_neg (show ¬ (false=true) by decide)).symm.trans H;obtain rfl:=ojz H;obtain ⟨lV,nO,nP,nQ,lW,nR,nS,nT⟩:=blkc4 iD.out;have vQ:0≤(aE:Int):=od au87;have vR:aE<(aA.length:Int):=od au87;obtain ⟨Nc,RF,oG⟩:=Kd.at_string cM.out aE vQ vR
      cases RF
      replace oG:=bcl HB.out oG;replace vQ:=eq_true vQ;replace vR:=eq_true vR;go_wp2_with (first|((with_reducible refine gate_callee (f:=69) rfl ?_);refine goesL_ (some 16) rfl rfl Tryz.func69 (by kernel_rfl) rfl #[.string (rdOf ByteArray.empty aA aE)] rfl au45 ?_;(with_reducible refine (spec_l2Word.calls k1 (rdOf ByteArray.empty aA aE) _ _ A5.out).mono ?_);rintro e w' ⟨rfl,⟨nd,rfl⟩⟩;refine ⟨_,rfl,?_⟩));go_ret;exact ax7
    · rw [if_neg c4] at H;exact absurd H (by simp)
   ·
    rw [if_neg c3] at H;have c3b0:=df c3;clear c3;by_cases dB:(aA.length:Int)≤3
    ·
     rw [if_pos dB] at H;have c14b0:=dt dB;have c14b1:decide (aA.length≤3)=true:=dt (by omega);clear dB;replace H:=ob H;obtain ⟨t146,uU,H⟩:=H
     try dsimp only at H
     have xO:=am uU;clear uU;by_cases fM:t146=true
     ·
      subst fM;replace H:=(if_pos rfl).symm.trans H;replace H:=ob H;obtain ⟨acR,Oj,H⟩:=H
      try dsimp only at H
      have A17:=am Oj;clear Oj;by_cases jB:acR=true
      ·
       subst jB;replace H:=(if_pos rfl).symm.trans H;by_cases nX:0<(aW.size:Int)
       ·
        rw [if_pos nX] at H;have c19b0:=dt nX;have c19b1:decide (0<aW.size)=true:=dt (by omega);clear nX;replace H:=ob H;obtain ⟨acS,oU,H⟩:=H
        try dsimp only at H
        have xU:=am oU;clear oU;by_cases oV:acS=true
        ·
         subst oV;replace H:=(if_pos rfl).symm.trans H;by_cases pA:aY.toList=([]:List UInt8)
         · rw [if_pos pA] at H;have c23b0:=qt pA;have c23b1:=bf pA;clear pA;obtain rfl:=ojz H;obtain ⟨tB,tC,tD,tE,tF,tG,tH,tI⟩:=blkc4 iD.out;exact spec_l2Good.L1
         ·
          rw [if_neg pA] at H;have c23b0:=qf pA;have c23b1:=bu pA;replace H:=ob H;obtain ⟨acT,RG,H⟩:=H
          try dsimp only at H
          have A27:=am RG;clear RG;obtain rfl:=ojz H;obtain ⟨xV,Fq,Fs,Ft,xW,Fu,Fv,Fw⟩:=blkc4 iD.out;exact spec_l2Good.L1
        · replace oV:=Bool.eq_false_iff.mpr oV;subst oV;replace H:=(if_neg (show ¬ (false=true) by decide)).symm.trans H;obtain rfl:=ojz H;obtain ⟨Zo,Zp,Zq,Zr,Zs,Zt,Zu,Zv⟩:=blkc4 iD.out;exact spec_l2Good.L1
       · rw [if_neg nX] at H;exact absurd H (by simp)
      · replace jB:=Bool.eq_false_iff.mpr jB;subst jB;replace H:=(if_neg (show ¬ (false=true) by decide)).symm.trans H;obtain rfl:=ojz H;obtain ⟨FJ,LA,LB,LC,FL,LD,LE,LF⟩:=blkc4 iD.out;go_wp2_with (first|(go_at_call 71;(with_reducible refine (spec_l2Particle.calls k1 aH _ _ xO.out).mono ?_);rintro e w35 ⟨rfl,hb⟩;replace iD:=am (blk_below (g:=Nf) au74 hb);replace HB:=am (below_step au37 hb);(try clear hb);obtain ⟨ahV,aQw,aQx,aQy,ahW,aQz,aQA,aQB⟩:=blkc4 iD.out)|(go_at_call 69;(with_reducible refine (spec_l2Word.calls k1 aW _ _ A17.out).mono ?_);rintro e w' ⟨rfl,⟨nd,rfl⟩⟩));go_ret;exact ax7
     · replace fM:=Bool.eq_false_iff.mpr fM;subst fM;replace H:=(if_neg (show ¬ (false=true) by decide)).symm.trans H;obtain rfl:=ojz H;obtain ⟨aQC,aQD,aQE,aQF,aQG,aQH,aQI,aQJ⟩:=blkc4 iD.out;go_wp2_with (first|(go_at_call 71;(with_reducible refine (spec_l2Particle.calls k1 aH _ _ xO.out).mono ?_);rintro e w38 ⟨rfl,hb⟩;replace iD:=am (blk_below (g:=Nf) au74 hb);replace HB:=am (below_step au37 hb);(try clear hb)));go_ret;exact ax7
    · rw [if_neg dB] at H;have c14b0:=df dB;have c14b1:decide (aA.length≤3)=false:=df (by omega);clear dB;obtain rfl:=ojz H;obtain ⟨aQK,aQL,aQM,aQN,aQO,aQP,aQQ,aQR⟩:=blkc4 iD.out;exact spec_l2Good.L0
mutual
def spec_l2List.l0:Nat→List (S69)→Int→Option (Bool)
 | 0,_,_=>none
 | k+1,x0,x3=>if x3<(x0.length:Int) then (spec_l2List.j1 k x0 x3 (decide (x3≤4))) else (spec_l2List.j1 k x0 x3 false)
def spec_l2List.j1:Nat→List (S69)→Int→Bool→Option (Bool)
 | 0,_,_,_=>none
 | k+1,x0,x3,iK=>if iK=true then (if 0≤x3 then (if x3<(x0.length:Int) then ((spec_l2Good.f k ((rd_T69 x0 x3).f0) ((rd_T69 x0 x3).f1) ((rd_T69 x0 x3).f2) ((rd_T69 x0 x3).f3)).bind fun acV=>(if acV=true then (spec_l2List.l0 k x0 (wrap64 (x3+1))) else (some false))) else (none)) else (none)) else (some (decide ((x0.length:Int)≤4)))
end
def spec_l2List.f (k:Nat) (l0:List (S69)):Option (Bool):=spec_l2List.l0 k l0 0
theorem spec_l2List.mono_l:∀ k,(∀ y0 y1,LeO (spec_l2List.l0 k y0 y1) (spec_l2List.l0 (k+1) y0 y1))∧(∀ y0 y1 y2,LeO (spec_l2List.j1 k y0 y1 y2) (spec_l2List.j1 (k+1) y0 y1 y2))
 | 0=>⟨fun _ _ r h=>by simp [spec_l2List.l0] at h,fun _ _ _ r h=>by simp [spec_l2List.j1] at h⟩
 | k+1=>by
  obtain ⟨ih0,ih1⟩:=spec_l2List.mono_l k;refine ⟨?_,?_⟩
  ·
   intro y0 y1;unfold spec_l2List.l0
   repeat' first
   | (with_reducible exact ih0 _ _)
   | (with_reducible exact ih1 _ _ _)
   | (with_reducible exact spec_l2Good.mono _ _ _ _ _)
   | (with_reducible exact LeO.refl _)
   | (with_reducible exact LeO.none _)
   | (with_reducible refine LeO.ite ?_ ?_)
   | (with_reducible refine LeO.bind ?_ (fun _=>?_))
   | exact ih0 _ _
   | exact ih1 _ _ _
   | exact spec_l2Good.mono _ _ _ _ _
   | exact LeO.none _
   | refine LeO.ite ?_ ?_
   | refine LeO.bind ?_ (fun _=>?_)
  ·
   intro y0 y1 y2;unfold spec_l2List.j1
   repeat' first
   | (with_reducible exact ih0 _ _)
   | (with_reducible exact ih1 _ _ _)
   | (with_reducible exact spec_l2Good.mono _ _ _ _ _)
   | (with_reducible exact LeO.refl _)
   | (with_reducible exact LeO.none _)
   | (with_reducible refine LeO.ite ?_ ?_)
   | (with_reducible refine LeO.bind ?_ (fun _=>?_))
   | exact ih0 _ _
   | exact ih1 _ _ _
   | exact spec_l2Good.mono _ _ _ _ _
   | exact LeO.none _
   | refine LeO.ite ?_ ?_
   | refine LeO.bind ?_ (fun _=>?_)
theorem spec_l2List.mono:∀ a0 k,LeO (spec_l2List.f k a0) (spec_l2List.f (k+1) a0):=by
 intro a0 k;obtain ⟨ih0,ih1⟩:=spec_l2List.mono_l k;unfold spec_l2List.f
 repeat' first
   | (with_reducible exact ih0 _ _)
   | (with_reducible exact ih1 _ _ _)
   | (with_reducible exact spec_l2Good.mono _ _ _ _ _)
   | (with_reducible exact LeO.refl _)
   | (with_reducible exact LeO.none _)
   | (with_reducible refine LeO.ite ?_ ?_)
   | (with_reducible refine LeO.bind ?_ (fun _=>?_))
   | exact ih0 _ _
   | exact ih1 _ _ _
   | exact spec_l2Good.mono _ _ _ _ _
   | exact LeO.none _
   | refine LeO.ite ?_ ?_
   | refine LeO.bind ?_ (fun _=>?_)
set_option maxHeartbeats 8000000 in
set_option maxRecDepth 100000 in
theorem spec_l2List.calls (k:Nat) (A0:Option Addr) (c0:Nat) (l0:List (S69)) (r:Bool) (w:World) (dH:Kd.C k69 w A0 l0.length l0) (cP:l0.length≤c0) (h:spec_l2List.f k l0=some r) :
  Calls Tryz.prog 38 #[.slice A0 l0.length c0] w fun e w'=>e=.returned (.bool r)∧Below w.heap.size w w':=by
 have hu69:=Tryz.underlying69;have cW:=am dH;have mM:=am cP;clear dH cP;have HB:=am (Below.refl w.heap.size w);have H:(spec_l2List.l0 k l0 0)=some r:=h;clear h;have H':=am H;clear H;go_enter Tryz.func38,Tryz.ntmps38;go_wp2
 go_loopg [3] k (fun kq v3 w'=>∃ (aE:Int),v3=.int .i64 aE∧Aside0 (spec_l2List.l0 kq l0 aE=some r)∧Aside0 (kq≤k)∧Aside0 (Below w.heap.size w w'))
 case atStart=>exact ⟨(0),au88,H',⟨Nat.le_refl _⟩,⟨by repeat (first|(with_reducible first|exact HB.out|apply below_alloc|apply pw_below_drewN|apply below_drew1)|exact HB.out)⟩⟩
 case round =>
  clear H';obtain ⟨aE,rfl,HA,HK1,HB⟩:=hrel
  cases gk with
  | zero=>exact absurd HA.out (by simp [spec_l2List.l0])
  | succ k1 =>
   have H:=HA.out;clear HA;simp only [spec_l2List.l0] at H;have hJ:=am H;clear H
   go_upto_region 2 with (fail)
   go_cut [11] (fun v11 wc=>∃ (kq:Nat) (aG:Bool),v11=.bool aG∧Aside0 (spec_l2List.j1 kq l0 aE aG=some r)∧Aside0 (kq≤k1)∧Aside0 (Below w.heap.size w wc))
   case first =>
    have H:=hJ.out;clear hJ;by_cases c3:aE<(l0.length:Int)
    ·
     rw [if_pos c3] at H;have c3b0:=dt c3;clear c3
     (first|rw [c3b0]|(simp only [i64_w,i32_w];rw [c3b0])|skip)
     have H':=am H;clear H;go_wp2;go_meet
     case rel=>exact ⟨_,(decide (aE≤4)),au88,H',⟨by have:=HK1.out;first|omega|exact Nat.le_refl _⟩,⟨by repeat (first|(with_reducible first|exact HB.out|apply below_alloc|apply pw_below_drewN|apply below_drew1)|exact HB.out)⟩⟩
    ·
     rw [if_neg c3] at H;have c3b0:=df c3;clear c3
     (first|rw [c3b0]|(simp only [i64_w,i32_w];rw [c3b0])|skip)
     have H':=am H;clear H;go_wp2;go_meet
     case rel=>exact ⟨_,(false),au88,H',⟨by have:=HK1.out;first|omega|exact Nat.le_refl _⟩,⟨by repeat (first|(with_reducible first|exact HB.out|apply below_alloc|apply pw_below_drewN|apply below_drew1)|exact HB.out)⟩⟩
   case rest =>
    clear hJ
    try clear p2
    try clear c3
    try clear c3b0
    obtain ⟨kq,aG,rfl,HA,hO,HB⟩:=hcut
    cases kq with
    | zero=>exact absurd HA.out (by simp [spec_l2List.j1])
    | succ eY =>
     have H:=HA.out;clear HA;simp only [spec_l2List.j1] at H;by_cases c4:aG=true
     ·
      subst c4;replace H:=(if_pos rfl).symm.trans H;by_cases c5:0≤aE
      ·
       rw [if_pos c5] at H;have c5b0:=dt c5;clear c5;by_cases c6:aE<(l0.length:Int)
       ·
        rw [if_pos c6] at H;have c6b0:=dt c6;clear c6;replace H:=ob H;obtain ⟨acV,jY,H⟩:=H
        try dsimp only at H
        have A7:=am jY;clear jY;by_cases c8:acV=true
        ·
         subst c8;replace H:=(if_pos rfl).symm.trans H;have H':=am H;clear H;have JG:0≤(aE:Int):=od au87;have JH:aE<(l0.length:Int):=od au87;obtain ⟨aEE,RH,RI,acW,zY,zZ,Ab,Ac,Ad,Af⟩:=at_T69 cW.out aE JG JH
         cases acW
         replace zY:=bcl HB.out zY;replace zZ:=bcl HB.out zZ;replace Ab:=bcl HB.out Ab;replace Ac:=bcl HB.out Ac;have M0:=am Af;have M1:=am Ad;clear Af Ad;replace JG:=eq_true JG;replace JH:=eq_true JH;go_wp2_with (first|((with_reducible refine gate_callee (f:=56) rfl ?_);refine goesL_ (some 18) rfl rfl Tryz.func56 (by kernel_rfl) rfl #[.agg #[.slice RH ((rd_T69 l0 aE).f0).length RI,.string ((rd_T69 l0 aE).f1),.string ((rd_T69 l0 aE).f2),.string ((rd_T69 l0 aE).f3)]] rfl au45 ?_;(with_reducible refine (spec_l2Good.calls eY _ _ ((rd_T69 l0 aE).f0) ((rd_T69 l0 aE).f1) ((rd_T69 l0 aE).f2) ((rd_T69 l0 aE).f3) true _ ?aU ?aV A7.out).mono ?_);(case aU=>repeat (first|exact (Kd.C_below M0.out HB.out)|(with_reducible refine Kd.C_alloc ?_ _)|(with_reducible refine Kd.C_drewN ?_ _)|(with_reducible refine Kd.C_drew ?_)));(case aV=>exact M1.out);rintro e w9 ⟨rfl,hb⟩;refine ⟨_,rfl,?_⟩;replace HB:=am (below_step au46 hb);(try clear hb)))
         go_roundg eY
         case measure=>have:=HK1.out;have:=hO.out;omega
         case rel=>exact ⟨(wrap64 (aE+1)),au88,H',⟨by have:=HK1.out;have:=hO.out;omega⟩,⟨by repeat (first|(with_reducible first|exact HB.out|apply below_alloc|apply pw_below_drewN|apply below_drew1)|exact HB.out)⟩⟩
        ·
         replace c8:=Bool.eq_false_iff.mpr c8;subst c8;replace H:=(if_neg (show ¬ (false=true) by decide)).symm.trans H;obtain rfl:=ojz H;have JG:0≤(aE:Int):=od au87;have JH:aE<(l0.length:Int):=od au87;obtain ⟨aEE,RH,RI,acW,zY,zZ,Ab,Ac,Ad,Af⟩:=at_T69 cW.out aE JG JH
         cases acW
         replace zY:=bcl HB.out zY;replace zZ:=bcl HB.out zZ;replace Ab:=bcl HB.out Ab;replace Ac:=bcl HB.out Ac;have M0:=am Af;have M1:=am Ad;clear Af Ad;replace JG:=eq_true JG;replace JH:=eq_true JH;go_wp2_with (first|((with_reducible refine gate_callee (f:=56) rfl ?_);refine goesL_ (some 18) rfl rfl Tryz.func56 (by kernel_rfl) rfl #[.agg #[.slice RH ((rd_T69 l0 aE).f0).length RI,.string ((rd_T69 l0 aE).f1),.string ((rd_T69 l0 aE).f2),.string ((rd_T69 l0 aE).f3)]] rfl au45 ?_;(with_reducible refine (spec_l2Good.calls eY _ _ ((rd_T69 l0 aE).f0) ((rd_T69 l0 aE).f1) ((rd_T69 l0 aE).f2) ((rd_T69 l0 aE).f3) false _ ?aU ?aV A7.out).mono ?_);(case aU=>repeat (first|exact (Kd.C_below M0.out HB.out)|(with_reducible refine Kd.C_alloc ?_ _)|(with_reducible refine Kd.C_drewN ?_ _)|(with_reducible refine Kd.C_drew ?_)));(case aV=>exact M1.out);rintro e mN ⟨rfl,hb⟩;refine ⟨_,rfl,?_⟩;replace HB:=am (below_step au46 hb);(try clear hb)));go_ret;exact ax1
       · rw [if_neg c6] at H;exact absurd H (by simp)
      · rw [if_neg c5] at H;exact absurd H (by simp)
     · replace c4:=Bool.eq_false_iff.mpr c4;subst c4;replace H:=(if_neg (show ¬ (false=true) by decide)).symm.trans H;obtain rfl:=ojz H;go_wp2;go_ret;exact ax1
def spec_l4Text.l0:Nat→ByteArray→Int→Option (Bool)
 | 0,_,_=>none
 | k+1,x0,x3=>if x3<(x0.size:Int) then (if 0≤x3 then (if (bt x0 x3)<32 then (some false) else (if (bt x0 x3)>126 then (some false) else (spec_l4Text.l0 k x0 (wrap64 (x3+1))))) else (none)) else (if x0.toList=([]:List UInt8) then (some true) else (if 0<(x0.size:Int) then (if (bt x0 0)=32 then (some false) else (if 0≤(wrap64 ((x0.size:Int)-1)) then (if (wrap64 ((x0.size:Int)-1))<(x0.size:Int) then (some ((bt x0 (wrap64 ((x0.size:Int)-1))) != 32)) else (none)) else (none))) else (none)))
def spec_l4Text.f (k:Nat) (a0:ByteArray):Option (Bool):=if (a0.size:Int)>40 then (some false) else (spec_l4Text.l0 k a0 0)
theorem spec_l4Text.mono_l:∀ k,(∀ y0 y1,LeO (spec_l4Text.l0 k y0 y1) (spec_l4Text.l0 (k+1) y0 y1))
 | 0=>fun _ _ r h=>by simp [spec_l4Text.l0] at h
 | k+1=>by
  have ih0:=spec_l4Text.mono_l k
  ·
   intro y0 y1;unfold spec_l4Text.l0
   repeat' first
   | (with_reducible exact ih0 _ _)
   | (with_reducible exact LeO.refl _)
   | (with_reducible exact LeO.none _)
   | (with_reducible refine LeO.ite ?_ ?_)
   | (with_reducible refine LeO.bind ?_ (fun _=>?_))
   | exact ih0 _ _
   | exact LeO.none _
   | refine LeO.ite ?_ ?_
   | refine LeO.bind ?_ (fun _=>?_)
theorem spec_l4Text.mono:∀ a0 k,LeO (spec_l4Text.f k a0) (spec_l4Text.f (k+1) a0):=by
 intro a0 k;have ih0:=spec_l4Text.mono_l k;unfold spec_l4Text.f
 repeat' first
   | (with_reducible exact ih0 _ _)
   | (with_reducible exact LeO.refl _)
   | (with_reducible exact LeO.none _)
   | (with_reducible refine LeO.ite ?_ ?_)
   | (with_reducible refine LeO.bind ?_ (fun _=>?_))
   | exact ih0 _ _
   | exact LeO.none _
   | refine LeO.ite ?_ ?_
   | refine LeO.bind ?_ (fun _=>?_)
set_option maxHeartbeats 8000000 in
set_option maxRecDepth 100000 in
theorem spec_l4Text.calls (k:Nat) (a0:ByteArray) (r:Bool) (w:World) (h:spec_l4Text.f k a0=some r) :
  Calls Tryz.prog 39 #[.string a0] w fun e w'=>e=.returned (.bool r)∧Drawn0 w w':=by
 have H:(if (a0.size:Int)>40 then (some false) else (spec_l4Text.l0 k a0 0))=some r:=h;clear h;by_cases c2:(a0.size:Int)>40
 · rw [if_pos c2] at H;have c2b0:=dt c2;have c2b1:decide (40<a0.size)=true:=dt (by omega);clear c2;obtain rfl:=ojz H;go_enter Tryz.func39,Tryz.ntmps39;go_wp2;go_ret;exact ax0
 ·
  rw [if_neg c2] at H;have c2b0:=df c2;have c2b1:decide (40<a0.size)=false:=df (by omega);clear c2;have H':=am H;clear H;go_enter Tryz.func39,Tryz.ntmps39;go_wp2
  go_loopg [3] k (fun kq v3 w'=>∃ (aE:Int),v3=.int .i64 aE∧Aside0 (spec_l4Text.l0 kq a0 aE=some r)∧Aside0 (kq≤k)∧Drawn0 w w')
  case atStart=>exact ⟨(0),au88,H',⟨Nat.le_refl _⟩,by repeat (first|exact Drawn0.refl _|apply Drawn0.step)⟩
  case round =>
   clear H'
   try clear c2
   try clear c2b0
   try clear c2b1
   try clear p2
   obtain ⟨aE,rfl,HA,HK1,⟨m1,rfl⟩⟩:=hrel
   cases gk with
   | zero=>exact absurd HA.out (by simp [spec_l4Text.l0])
   | succ k1 =>
    have H:=HA.out;clear HA;simp only [spec_l4Text.l0] at H;by_cases c3:aE<(a0.size:Int)
    ·
     rw [if_pos c3] at H;have c3b0:=dt c3;clear c3;by_cases c4:0≤aE
     ·
      rw [if_pos c4] at H;have c4b0:=dt c4;clear c4;by_cases c6:(bt a0 aE)<32
      · rw [if_pos c6] at H;have c6b0:=dt c6;clear c6;obtain rfl:=ojz H;have p5:0≤(aE:Int):=od au87;have q5:aE<(a0.size:Int):=od au87;have DF:=bt_at a0 aE;replace p5:=eq_true p5;replace q5:=eq_true q5;go_wp2;go_ret;exact ax0
      ·
       rw [if_neg c6] at H;have c6b0:=df c6;clear c6;by_cases c8:(bt a0 aE)>126
       · rw [if_pos c8] at H;have c8b0:=dt c8;clear c8;obtain rfl:=ojz H;have p5:0≤(aE:Int):=od au87;have q5:aE<(a0.size:Int):=od au87;have DF:=bt_at a0 aE;replace p5:=eq_true p5;replace q5:=eq_true q5;have p7:0≤(aE:Int):=od au87;have q7:aE<(a0.size:Int):=od au87;have DG:=bt_at a0 aE;replace p7:=eq_true p7;replace q7:=eq_true q7;go_wp2;go_ret;exact ax0
       ·
        rw [if_neg c8] at H;have c8b0:=df c8;clear c8;have H':=am H;clear H;have p5:0≤(aE:Int):=od au87;have q5:aE<(a0.size:Int):=od au87;have DF:=bt_at a0 aE;replace p5:=eq_true p5;replace q5:=eq_true q5;have p7:0≤(aE:Int):=od au87;have q7:aE<(a0.size:Int):=od au87;have DG:=bt_at a0 aE;replace p7:=eq_true p7;replace q7:=eq_true q7;go_wp2
        go_roundg k1
        case measure=>have:=HK1.out;omega
        case rel=>exact ⟨(wrap64 (aE+1)),au88,H',⟨by have:=HK1.out;omega⟩,by repeat (first|exact Drawn0.refl _|apply Drawn0.step)⟩
     · rw [if_neg c4] at H;exact absurd H (by simp)
    ·
     rw [if_neg c3] at H;have c3b0:=df c3;clear c3;by_cases c9:a0.toList=([]:List UInt8)
     · rw [if_pos c9] at H;have c9b0:=qt c9;have c9b1:=bf c9;clear c9;obtain rfl:=ojz H;go_wp2;go_ret;exact ax0
     ·
      rw [if_neg c9] at H;have c9b0:=qf c9;have c9b1:=bu c9;by_cases c10:0<(a0.size:Int)
      ·
       rw [if_pos c10] at H;have c10b0:=dt c10;have c10b1:decide (0<a0.size)=true:=dt (by omega);clear c10;by_cases eA:(bt a0 0)=32
       ·
        rw [if_pos eA] at H;have c12b0:=qt eA;have c12b1:=bf eA;clear eA;obtain rfl:=ojz H
        have lB:0≤(0:Int):=(by omega)
        have jZ:0<a0.size:=(by have:(0:Int)<(a0.size:Int):=od au87;omega)
        have oO:∀ h:0<a0.size,((a0[0]'h).toNat:Int)=bt a0 0:=bt_at a0 0;clear lB;have aID:(0<(a0.size:Int))=True:=eq_true (od au87);replace jZ:=eq_true jZ;go_wp2;go_ret;exact ax0
       ·
        rw [if_neg eA] at H;have c12b0:=qf eA;have c12b1:=bu eA
        obtain ⟨D7,Ng⟩:∃ j_:Int,(wrap64 ((a0.size:Int)-1))=j_:=⟨_,rfl⟩
        replace H:(if 0≤(D7) then (if (D7)<(a0.size:Int) then (some ((bt a0 (D7)) != 32)) else (none)) else (none))=some r:=by first|(rw [Ng] at H;exact H)|(simp only [Ng] at H ⊢;exact H)
        have hji13w:(IntKind.i64.wrap ((a0.size:Int)-1))=D7:=(i64_w _).trans Ng;by_cases dB:0≤(D7)
        ·
         rw [if_pos dB] at H;have c14b0:=dt dB;clear dB;by_cases cX:(D7)<(a0.size:Int)
         ·
          rw [if_pos cX] at H;have c15b0:=dt cX;clear cX;obtain rfl:=ojz H
          have lB:0≤(0:Int):=(by omega)
          have jZ:0<a0.size:=(by have:(0:Int)<(a0.size:Int):=od au87;omega)
          have oO:∀ h:0<a0.size,((a0[0]'h).toNat:Int)=bt a0 0:=bt_at a0 0;clear lB;have aID:(0<(a0.size:Int))=True:=eq_true (od au87);replace jZ:=eq_true jZ;have MG:0≤((D7):Int):=od au87;have MH:(D7)<(a0.size:Int):=od au87;have azP:=bt_at a0 (D7);replace MG:=eq_true MG;replace MH:=eq_true MH;go_wp2;go_ret;exact ⟨by first|rfl|(simp;done)|(simp only [← Ng] <;> (first|rfl|simp))|(simp [*];done),by repeat (first|exact Drawn0.refl _|apply Drawn0.step)⟩
         · rw [if_neg cX] at H;exact absurd H (by simp)
        · rw [if_neg dB] at H;exact absurd H (by simp)
      · rw [if_neg c10] at H;exact absurd H (by simp)
def spec_l3Days.j0:Nat→Bool→Option (Int)
 | 0,_=>none
 | k+1,x19=>if x19=true then (some 29) else (some 28)
def spec_l3Days.f (k:Nat) (a0:Int) (a1:Int):Option (Int):=if a1=2 then (if (Int.tmod a0 4)=0 then (if (Int.tmod a0 100)=0 then (spec_l3Days.j0 k ((Int.tmod a0 400) == 0)) else (spec_l3Days.j0 k true)) else (spec_l3Days.j0 k ((Int.tmod a0 400) == 0))) else (if a1=4 then (some 30) else (if a1=6 then (some 30) else (if a1=9 then (some 30) else (if a1=11 then (some 30) else (some 31)))))
theorem spec_l3Days.mono_l:∀ k,(∀ y0,LeO (spec_l3Days.j0 k y0) (spec_l3Days.j0 (k+1) y0))
 | 0=>fun _ r h=>by simp [spec_l3Days.j0] at h
 | k+1=>by
  have ih0:=spec_l3Days.mono_l k
  ·
   intro y0;unfold spec_l3Days.j0
   repeat' first
   | (with_reducible exact ih0 _)
   | (with_reducible exact LeO.refl _)
   | (with_reducible exact LeO.none _)
   | (with_reducible refine LeO.ite ?_ ?_)
   | (with_reducible refine LeO.bind ?_ (fun _=>?_))
   | exact ih0 _
   | exact LeO.none _
   | refine LeO.ite ?_ ?_
   | refine LeO.bind ?_ (fun _=>?_)
theorem spec_l3Days.mono:∀ a0 a1 k,LeO (spec_l3Days.f k a0 a1) (spec_l3Days.f (k+1) a0 a1):=by
 intro a0 a1 k;have ih0:=spec_l3Days.mono_l k;unfold spec_l3Days.f
 repeat' first
   | (with_reducible exact ih0 _)
   | (with_reducible exact LeO.refl _)
   | (with_reducible exact LeO.none _)
   | (with_reducible refine LeO.ite ?_ ?_)
   | (with_reducible refine LeO.bind ?_ (fun _=>?_))
   | exact ih0 _
   | exact LeO.none _
   | refine LeO.ite ?_ ?_
   | refine LeO.bind ?_ (fun _=>?_)
set_option maxHeartbeats 8000000 in
set_option maxRecDepth 100000 in
theorem spec_l3Days.calls (k:Nat) (a0:Int) (a1:Int) (r:Int) (w:World) (h:spec_l3Days.f k a0 a1=some r) :
  Calls Tryz.prog 57 #[.int .i64 a0,.int .i64 a1] w fun e w'=>e=.returned (.int .i64 r)∧Drawn0 w w':=by
 have H:(if a1=2 then (if (Int.tmod a0 4)=0 then (if (Int.tmod a0 100)=0 then (spec_l3Days.j0 k ((Int.tmod a0 400) == 0)) else (spec_l3Days.j0 k true)) else (spec_l3Days.j0 k ((Int.tmod a0 400) == 0))) else (if a1=4 then (some 30) else (if a1=6 then (some 30) else (if a1=9 then (some 30) else (if a1=11 then (some 30) else (some 31))))))=some r:=h;clear h;by_cases c3:a1=2
 ·
  rw [if_pos c3] at H;have c3b0:=qt c3;have c3b1:=bf c3;clear c3;have HC4:=am H;clear H;go_enter Tryz.func57,Tryz.ntmps57
  go_upto_region 2 with (fail)
  go_cut [19] (fun v19 wc=>∃ (kq:Nat) (Nh:Bool),v19=.bool Nh∧Aside0 (spec_l3Days.j0 kq Nh=some r)∧Aside0 (kq≤k)∧Drawn0 w wc)
  case first =>
   have H:=HC4.out;clear HC4;by_cases c5:(Int.tmod a0 4)=0
   ·
    rw [if_pos c5] at H;have c5b0:=qt c5;have c5b1:=bf c5;clear c5
    (first|rw [c5b0]|(simp only [i64_w,i32_w];rw [c5b0])|skip)
    by_cases c6:(Int.tmod a0 100)=0
    ·
     rw [if_pos c6] at H;have c6b0:=qt c6;have c6b1:=bf c6;clear c6;have H':=am H;clear H;go_wp2;go_meet
     case rel=>exact ⟨_,(((Int.tmod a0 400) == 0)),au88,H',⟨by first|omega|exact Nat.le_refl _⟩,by repeat (first|exact Drawn0.refl _|apply Drawn0.step)⟩
    ·
     rw [if_neg c6] at H;have c6b0:=qf c6;have c6b1:=bu c6;have H':=am H;clear H;go_wp2;go_meet
     case rel=>exact ⟨_,(true),au88,H',⟨by first|omega|exact Nat.le_refl _⟩,by repeat (first|exact Drawn0.refl _|apply Drawn0.step)⟩
   ·
    rw [if_neg c5] at H;have c5b0:=qf c5;have c5b1:=bu c5
    (first|rw [c5b0]|(simp only [i64_w,i32_w];rw [c5b0])|skip)
    have H':=am H;clear H;go_wp2;go_meet
    case rel=>exact ⟨_,(((Int.tmod a0 400) == 0)),au88,H',⟨by first|omega|exact Nat.le_refl _⟩,by repeat (first|exact Drawn0.refl _|apply Drawn0.step)⟩
  case rest =>
   clear HC4
   try clear p2
   try clear c3
   try clear c3b0
   try clear c3b1
   try clear c5
   try clear c5b0
   try clear c5b1
   try clear c6
   try clear c6b0
   try clear c6b1
   obtain ⟨kq,Nh,rfl,HA,HJ3,⟨mc3,rfl⟩⟩:=hcut
   cases kq with
   | zero=>exact absurd HA.out (by simp [spec_l3Days.j0])
   | succ kj3 =>
    have H:=HA.out;clear HA;simp only [spec_l3Days.j0] at H;by_cases c7:Nh=true
    · subst c7;replace H:=(if_pos rfl).symm.trans H;obtain rfl:=ojz H;go_wp2;go_ret;exact ax0
    · replace c7:=Bool.eq_false_iff.mpr c7;subst c7;replace H:=(if_neg (show ¬ (false=true) by decide)).symm.trans H;obtain rfl:=ojz H;go_wp2;go_ret;exact ax0
 ·
  rw [if_neg c3] at H;have c3b0:=qf c3;have c3b1:=bu c3;by_cases c8:a1=4
  · rw [if_pos c8] at H;have c8b0:=qt c8;have c8b1:=bf c8;clear c8;obtain rfl:=ojz H;go_enter Tryz.func57,Tryz.ntmps57;go_wp2;go_ret;exact ax0
  ·
   rw [if_neg c8] at H;have c8b0:=qf c8;have c8b1:=bu c8;by_cases c9:a1=6
   · rw [if_pos c9] at H;have c9b0:=qt c9;have c9b1:=bf c9;clear c9;obtain rfl:=ojz H;go_enter Tryz.func57,Tryz.ntmps57;go_wp2;go_ret;exact ax0
   ·
    rw [if_neg c9] at H;have c9b0:=qf c9;have c9b1:=bu c9;by_cases c10:a1=9
    · rw [if_pos c10] at H;have c10b0:=qt c10;have c10b1:=bf c10;clear c10;obtain rfl:=ojz H;go_enter Tryz.func57,Tryz.ntmps57;go_wp2;go_ret;exact ax0
    ·
     rw [if_neg c10] at H;have c10b0:=qf c10;have c10b1:=bu c10;by_cases cI:a1=11
     · rw [if_pos cI] at H;have c11b0:=qt cI;have c11b1:=bf cI;clear cI;obtain rfl:=ojz H;go_enter Tryz.func57,Tryz.ntmps57;go_wp2;go_ret;exact ax0
     · rw [if_neg cI] at H;have c11b0:=qf cI;have c11b1:=bu cI;obtain rfl:=ojz H;go_enter Tryz.func57,Tryz.ntmps57;go_wp2;go_ret;exact ax0
end Go.Proofs.YteagahcbffgjpaaGreatDoor.G

namespace Go.Proofs.YteagahcbffgjpaaGreatDoor.G
open Go.RowKit Go.Proofs.YteagahcbffgjpaaGreatDoorW.PrintWords Go.Proofs.YteagahcbffgjpaaGreatDoorW.PrintLast Go.Proofs.YteagahcbffgjpaaGreatDoorW.PrintMore
open Go.Proofs.YteagahcbffgjpaaGreatDoor.Gl Go.Proofs.YteagahcbffgjpaaGreatDoor.Ext
attribute [local go_sem] max2_int min2_int max_two min_two max_three min_three max_four min_four   -- for this text's walks alone
set_option linter.unusedVariables false
set_option linter.unusedSimpArgs false
attribute [local go_sem high] eqA40
def spec_l3Good.j0:Nat→Bool→Int→Int→Int→Bool→Option (Bool)
 | 0,_,_,_,_,_=>none
 | k+1,x7,anD,M2,M3,anE=>if x7=true then (some false) else (if anE=true then (if M2=0 then (some (M3 == 0)) else (some false)) else (if M2=0 then (some (M3 == 0)) else ((spec_l3Days.f k anD M2).bind fun Ee=>((spec_l1In.f M3 0 Ee).bind fun RJ=>(some RJ)))))
def spec_l3Good.f (k:Nat) (aJ:Int) (aH:Int) (aW:Int) (aY:Bool):Option (Bool):=if (aJ == 0 && (aH == 0 && (aW == 0 && (!aY))))=true then (some true) else ((spec_l1In.f aJ 1 2999).bind fun RL=>(if RL=true then ((spec_l1In.f aH 0 12).bind fun Ef=>(spec_l3Good.j0 k (!Ef) aJ aH aW aY)) else (spec_l3Good.j0 k true aJ aH aW aY)))
theorem spec_l3Good.mono_l:∀ k,(∀ y0 y1 y2 y3 y4,LeO (spec_l3Good.j0 k y0 y1 y2 y3 y4) (spec_l3Good.j0 (k+1) y0 y1 y2 y3 y4))
 | 0=>fun _ _ _ _ _ r h=>by simp [spec_l3Good.j0] at h
 | k+1=>by
  have ih0:=spec_l3Good.mono_l k
  ·
   intro y0 y1 y2 y3 y4;unfold spec_l3Good.j0
   repeat' first
   | (with_reducible exact ih0 _ _ _ _ _)
   | (with_reducible exact spec_l3Days.mono _ _ _)
   | (with_reducible exact LeO.refl _)
   | (with_reducible exact LeO.none _)
   | (with_reducible refine LeO.ite ?_ ?_)
   | (with_reducible refine LeO.bind ?_ (fun _=>?_))
   | exact ih0 _ _ _ _ _
   | exact spec_l3Days.mono _ _ _
   | exact LeO.none _
   | refine LeO.ite ?_ ?_
   | refine LeO.bind ?_ (fun _=>?_)
theorem spec_l3Good.mono:∀ a0 a1 a2 a3 k,LeO (spec_l3Good.f k a0 a1 a2 a3) (spec_l3Good.f (k+1) a0 a1 a2 a3):=by
 intro a0 a1 a2 a3 k;have ih0:=spec_l3Good.mono_l k;unfold spec_l3Good.f
 repeat' first
   | (with_reducible exact ih0 _ _ _ _ _)
   | (with_reducible exact spec_l3Days.mono _ _ _)
   | (with_reducible exact LeO.refl _)
   | (with_reducible exact LeO.none _)
   | (with_reducible refine LeO.ite ?_ ?_)
   | (with_reducible refine LeO.bind ?_ (fun _=>?_))
   | exact ih0 _ _ _ _ _
   | exact spec_l3Days.mono _ _ _
   | exact LeO.none _
   | refine LeO.ite ?_ ?_
   | refine LeO.bind ?_ (fun _=>?_)
set_option maxHeartbeats 8000000 in
set_option maxRecDepth 100000 in
theorem spec_l3Good.calls (k:Nat) (aJ:Int) (aH:Int) (aW:Int) (aY:Bool) (r:Bool) (w:World) (h:spec_l3Good.f k aJ aH aW aY=some r) :
  Calls Tryz.prog 40 #[.agg #[.int .i64 aJ,.int .i64 aH,.int .i64 aW,.bool aY]] w fun e w'=>e=.returned (.bool r)∧Below w.heap.size w w':=by
 have hu40:=Tryz.underlying40;have HB:=am (Below.refl w.heap.size w);have H:(if (aJ == 0 && (aH == 0 && (aW == 0 && (!aY))))=true then (some true) else ((spec_l1In.f aJ 1 2999).bind fun RL=>(if RL=true then ((spec_l1In.f aH 0 12).bind fun Ef=>(spec_l3Good.j0 k (!Ef) aJ aH aW aY)) else (spec_l3Good.j0 k true aJ aH aW aY))))=some r:=h;clear h;by_cases c2:(aJ == 0 && (aH == 0 && (aW == 0 && (!aY))))=true
 ·
  rw [if_pos c2] at H;have c2b0:(aJ == 0 && (aH == 0 && (aW == 0 && (!aY))))=true:=c2
  (try (have c2b1:decide (aJ=0 && (aH == 0 && (aW == 0 && (!aY))))=true:=by simpa using c2))
  (try (have c2b2:(aJ == 0 && (aH == 0 && (aW == 0 && (!aY))))=true:=by simpa using c2))
  clear c2;obtain rfl:=ojz H;go_enter Tryz.func40,Tryz.ntmps40;go_wp2_with (first|((with_reducible refine gate_dst (N:=1) rfl ?_);refine box_event ?hg (N:=1) ?hd (cs:=#[.int .i64 aJ,.int .i64 aH,.int .i64 aW,.bool aY]) (t:=40) ?hr ?_;(case hd=>rfl);(case hg=>rfl);(case hr=>first|(go_simp;done)|(go_simp;rfl));intro I0 hg w3 hbox hb;have gM:=am (hbox);have KD:=am (bsz hg au46);have wQ:=am (bsz hg au46);replace HB:=am (below_step au46 hb);clear hb hbox hg;obtain ⟨mX,qU,qV,qW,mY,qX,qY,qZ⟩:=blkc4 gM.out))
  repeat (go_quiet (first|((with_reducible refine gate_dst (N:=1) rfl ?_);refine box_event ?hg (N:=1) ?hd (cs:=#[.int .i64 aJ,.int .i64 aH,.int .i64 aW,.bool aY]) (t:=40) ?hr ?_;(case hd=>rfl);(case hg=>rfl);(case hr=>first|(go_simp;done)|(go_simp;rfl));intro I0 hg w3 hbox hb;have gM:=am (hbox);have KD:=am (bsz hg au46);have wQ:=am (bsz hg au46);replace HB:=am (below_step au46 hb);clear hb hbox hg;obtain ⟨mX,qU,qV,qW,mY,qX,qY,qZ⟩:=blkc4 gM.out));try go_wp2_with (first|((with_reducible refine gate_dst (N:=1) rfl ?_);refine box_event ?hg (N:=1) ?hd (cs:=#[.int .i64 aJ,.int .i64 aH,.int .i64 aW,.bool aY]) (t:=40) ?hr ?_;(case hd=>rfl);(case hg=>rfl);(case hr=>first|(go_simp;done)|(go_simp;rfl));intro I0 hg w3 hbox hb;have gM:=am (hbox);have KD:=am (bsz hg au46);have wQ:=am (bsz hg au46);replace HB:=am (below_step au46 hb);clear hb hbox hg;obtain ⟨mX,qU,qV,qW,mY,qX,qY,qZ⟩:=blkc4 gM.out)))
  go_ret;exact ax8
 ·
  rw [if_neg c2] at H
  have c2b0:(aJ == 0 && (aH == 0 && (aW == 0 && (!aY))))=false:=by simpa using c2
  (try (have c2b1:decide (aJ=0 && (aH == 0 && (aW == 0 && (!aY))))=false:=by simpa using c2))
  (try (have c2b2:(aJ == 0 && (aH == 0 && (aW == 0 && (!aY))))=false:=by simpa using c2))
  (try (have c2b3:¬ (aJ=0 && (aH == 0 && (aW == 0 && (!aY)))):=by simpa using c2))
  clear c2;have On:=am H;clear H;go_enter Tryz.func40,Tryz.ntmps40
  go_upto_region 3 with (first|((with_reducible refine gate_dst (N:=1) rfl ?_);refine box_event ?hg (N:=1) ?hd (cs:=#[.int .i64 aJ,.int .i64 aH,.int .i64 aW,.bool aY]) (t:=40) ?hr ?_;(case hd=>rfl);(case hg=>rfl);(case hr=>first|(go_simp;done)|(go_simp;rfl));intro I0 hg w6 hbox hb;have gM:=am (hbox);have KD:=am (bsz hg au46);have wQ:=am (bsz hg au46);replace HB:=am (below_step au46 hb);clear hb hbox hg;obtain ⟨kN,lK,lL,lM,kO,lN,lO,lP⟩:=blkc4 gM.out))
  repeat (go_quiet (first|((with_reducible refine gate_dst (N:=1) rfl ?_);refine box_event ?hg (N:=1) ?hd (cs:=#[.int .i64 aJ,.int .i64 aH,.int .i64 aW,.bool aY]) (t:=40) ?hr ?_;(case hd=>rfl);(case hg=>rfl);(case hr=>first|(go_simp;done)|(go_simp;rfl));intro I0 hg w6 hbox hb;have gM:=am (hbox);have KD:=am (bsz hg au46);have wQ:=am (bsz hg au46);replace HB:=am (below_step au46 hb);clear hb hbox hg;obtain ⟨kN,lK,lL,lM,kO,lN,lO,lP⟩:=blkc4 gM.out));go_upto_region 3 with (first|((with_reducible refine gate_dst (N:=1) rfl ?_);refine box_event ?hg (N:=1) ?hd (cs:=#[.int .i64 aJ,.int .i64 aH,.int .i64 aW,.bool aY]) (t:=40) ?hr ?_;(case hd=>rfl);(case hg=>rfl);(case hr=>first|(go_simp;done)|(go_simp;rfl));intro I0 hg w6 hbox hb;have gM:=am (hbox);have KD:=am (bsz hg au46);have wQ:=am (bsz hg au46);replace HB:=am (below_step au46 hb);clear hb hbox hg;obtain ⟨kN,lK,lL,lM,kO,lN,lO,lP⟩:=blkc4 gM.out)))
  (try simp only [Act.put,List.setIfInBounds_toArray,List.set_cons_zero,List.set_cons_succ])
  go_cut [7] (fun v7 wc=>∃ (kq:Nat) (a4M:Bool),v7=.bool a4M∧Aside0 (spec_l3Good.j0 kq a4M aJ aH aW aY=some r)∧Aside0 (kq≤k)∧Aside0 (wc.heap[I0]?=some (.cells #[.int .i64 aJ,.int .i64 aH,.int .i64 aW,.bool aY] 40 (0,0)))∧Aside0 (Below w.heap.size w wc))
  case first =>
   have H:=On.out;clear On;replace H:=ob H;obtain ⟨RL,iW,H⟩:=H
   try dsimp only at H
   have A8:=am iW;clear iW;by_cases c9:RL=true
   ·
    subst c9;replace H:=(if_pos rfl).symm.trans H;replace H:=ob H;obtain ⟨Ef,oT,H⟩:=H
    try dsimp only at H
    have rO:=am oT;clear oT;have H':=am H;clear H;obtain ⟨tU,tV,tW,tX,tY,tZ,uA,uB⟩:=blkc4 gM.out;go_wp2_with (first|(go_at_call 37;(with_reducible refine (spec_l1In.calls aJ 1 2999 true _ A8.out).mono ?_);rintro e w' ⟨rfl,⟨nd,rfl⟩⟩;(try first|exact ⟨rfl,_,World.drewN_drewN _ _ _⟩|exact ⟨rfl,_,Eq.trans (World.drewN_drewN _ _ _) (congrArg (World.drewN _) (Nat.add_assoc _ _ _))⟩))|(go_at_call 37;(with_reducible refine (spec_l1In.calls aH 0 12 Ef _ rO.out).mono ?_);rintro e w' ⟨rfl,⟨nd,rfl⟩⟩;(try first|exact ⟨rfl,_,World.drewN_drewN _ _ _⟩|exact ⟨rfl,_,Eq.trans (World.drewN_drewN _ _ _) (congrArg (World.drewN _) (Nat.add_assoc _ _ _))⟩)))
    repeat (go_quiet (first|(go_at_call 37;(with_reducible refine (spec_l1In.calls aJ 1 2999 true _ A8.out).mono ?_);rintro e w' ⟨rfl,⟨nd,rfl⟩⟩;(try first|exact ⟨rfl,_,World.drewN_drewN _ _ _⟩|exact ⟨rfl,_,Eq.trans (World.drewN_drewN _ _ _) (congrArg (World.drewN _) (Nat.add_assoc _ _ _))⟩))|(go_at_call 37;(with_reducible refine (spec_l1In.calls aH 0 12 Ef _ rO.out).mono ?_);rintro e w' ⟨rfl,⟨nd,rfl⟩⟩;(try first|exact ⟨rfl,_,World.drewN_drewN _ _ _⟩|exact ⟨rfl,_,Eq.trans (World.drewN_drewN _ _ _) (congrArg (World.drewN _) (Nat.add_assoc _ _ _))⟩)));try go_wp2_with (first|(go_at_call 37;(with_reducible refine (spec_l1In.calls aJ 1 2999 true _ A8.out).mono ?_);rintro e w' ⟨rfl,⟨nd,rfl⟩⟩;(try first|exact ⟨rfl,_,World.drewN_drewN _ _ _⟩|exact ⟨rfl,_,Eq.trans (World.drewN_drewN _ _ _) (congrArg (World.drewN _) (Nat.add_assoc _ _ _))⟩))|(go_at_call 37;(with_reducible refine (spec_l1In.calls aH 0 12 Ef _ rO.out).mono ?_);rintro e w' ⟨rfl,⟨nd,rfl⟩⟩;(try first|exact ⟨rfl,_,World.drewN_drewN _ _ _⟩|exact ⟨rfl,_,Eq.trans (World.drewN_drewN _ _ _) (congrArg (World.drewN _) (Nat.add_assoc _ _ _))⟩))))
    go_meet
    case rel=>exact ⟨_,(!Ef),au88,H',⟨by first|omega|exact Nat.le_refl _⟩,⟨by (with_reducible repeat (first|refine blk_drewN ?_ _|refine blk_drew ?_|refine blk_alloc ?_ _));exact gM.out⟩,⟨by repeat (first|(with_reducible first|exact HB.out|apply below_alloc|apply pw_below_drewN|apply below_drew1|refine below_set ?_ wQ.out)|exact HB.out)⟩⟩
   ·
    replace c9:=Bool.eq_false_iff.mpr c9;subst c9;replace H:=(if_neg (show ¬ (false=true) by decide)).symm.trans H;have H':=am H;clear H;obtain ⟨gZ,qA,qB,qC,hD,qD,qE,qF⟩:=blkc4 gM.out;go_wp2_with (first|(go_at_call 37;(with_reducible refine (spec_l1In.calls aJ 1 2999 false _ A8.out).mono ?_);rintro e w' ⟨rfl,⟨nd,rfl⟩⟩;(try first|exact ⟨rfl,_,World.drewN_drewN _ _ _⟩|exact ⟨rfl,_,Eq.trans (World.drewN_drewN _ _ _) (congrArg (World.drewN _) (Nat.add_assoc _ _ _))⟩)))
    repeat (go_quiet (first|(go_at_call 37;(with_reducible refine (spec_l1In.calls aJ 1 2999 false _ A8.out).mono ?_);rintro e w' ⟨rfl,⟨nd,rfl⟩⟩;(try first|exact ⟨rfl,_,World.drewN_drewN _ _ _⟩|exact ⟨rfl,_,Eq.trans (World.drewN_drewN _ _ _) (congrArg (World.drewN _) (Nat.add_assoc _ _ _))⟩)));try go_wp2_with (first|(go_at_call 37;(with_reducible refine (spec_l1In.calls aJ 1 2999 false _ A8.out).mono ?_);rintro e w' ⟨rfl,⟨nd,rfl⟩⟩;(try first|exact ⟨rfl,_,World.drewN_drewN _ _ _⟩|exact ⟨rfl,_,Eq.trans (World.drewN_drewN _ _ _) (congrArg (World.drewN _) (Nat.add_assoc _ _ _))⟩))))
    go_meet
    case rel=>exact ⟨_,(true),au88,H',⟨by first|omega|exact Nat.le_refl _⟩,⟨by (with_reducible repeat (first|refine blk_drewN ?_ _|refine blk_drew ?_|refine blk_alloc ?_ _));exact gM.out⟩,⟨by repeat (first|(with_reducible first|exact HB.out|apply below_alloc|apply pw_below_drewN|apply below_drew1|refine below_set ?_ wQ.out)|exact HB.out)⟩⟩
  case rest =>
   clear On
   try clear c2
   try clear c2b0
   try clear c2b1
   try clear c2b2
   try clear p2
   try clear c4
   try clear c9
   try clear tU tV tW tX tY tZ uA uB
   try clear gZ qA qB qC hD qD qE qF
   try clear mX qU qV qW mY qX qY qZ
   try clear kN lK lL lM kO lN lO lP
   obtain ⟨kq,a4M,rfl,HA,HJ4,gM,HB⟩:=hcut
   cases kq with
   | zero=>exact absurd HA.out (by simp [spec_l3Good.j0])
   | succ kj4 =>
    have H:=HA.out;clear HA;simp only [spec_l3Good.j0] at H;by_cases cV:a4M=true
    ·
     subst cV;replace H:=(if_pos rfl).symm.trans H;obtain rfl:=ojz H;go_wp2
     repeat (go_quiet (fail);try go_wp2)
     go_ret;exact ax8
    ·
     replace cV:=Bool.eq_false_iff.mpr cV;subst cV;replace H:=(if_neg (show ¬ (false=true) by decide)).symm.trans H;by_cases dB:aY=true
     ·
      subst dB;replace H:=(if_pos rfl).symm.trans H;by_cases cX:aH=0
      ·
       rw [if_pos cX] at H;have c15b0:=qt cX;have c15b1:=bf cX;clear cX;obtain rfl:=ojz H;obtain ⟨nU,pF,pG,pH,nV,pI,pJ,pK⟩:=blkc4 gM.out;go_wp2
       repeat (go_quiet (fail);try go_wp2)
       go_ret;exact ax8
      ·
       rw [if_neg cX] at H;have c15b0:=qf cX;have c15b1:=bu cX;obtain rfl:=ojz H;obtain ⟨tL,tM,tN,tP,tQ,tR,tS,tT⟩:=blkc4 gM.out;go_wp2
       repeat (go_quiet (fail);try go_wp2)
       go_ret;exact ax8
     ·
      replace dB:=Bool.eq_false_iff.mpr dB;subst dB;replace H:=(if_neg (show ¬ (false=true) by decide)).symm.trans H;by_cases jB:aH=0
      ·
       rw [if_pos jB] at H;have c18b0:=qt jB;have c18b1:=bf jB;clear jB;obtain rfl:=ojz H;obtain ⟨tJ,ES,ET,EU,tK,EV,EW,EX⟩:=blkc4 gM.out;go_wp2
       repeat (go_quiet (fail);try go_wp2)
       go_ret;exact ax8
      ·
       rw [if_neg jB] at H;have c18b0:=qf jB;have c18b1:=bu jB;replace H:=ob H;obtain ⟨Ee,Oo,H⟩:=H
       try dsimp only at H
       have fC:=am Oo;clear Oo;replace H:=ob H;obtain ⟨RJ,oU,H⟩:=H
       try dsimp only at H
       have xU:=am oU;clear oU;obtain rfl:=ojz H;obtain ⟨sT,sU,sV,sW,sX,sY,sZ,tA⟩:=blkc4 gM.out;go_wp2_with (first|(go_at_call 57;(with_reducible refine (spec_l3Days.calls kj4 aJ aH Ee _ fC.out).mono ?_);rintro e w' ⟨rfl,⟨nd,rfl⟩⟩;(try first|exact ⟨rfl,_,World.drewN_drewN _ _ _⟩|exact ⟨rfl,_,Eq.trans (World.drewN_drewN _ _ _) (congrArg (World.drewN _) (Nat.add_assoc _ _ _))⟩))|(go_at_call 37;(with_reducible refine (spec_l1In.calls aW 0 Ee RJ _ xU.out).mono ?_);rintro e w' ⟨rfl,⟨nd,rfl⟩⟩;(try first|exact ⟨rfl,_,World.drewN_drewN _ _ _⟩|exact ⟨rfl,_,Eq.trans (World.drewN_drewN _ _ _) (congrArg (World.drewN _) (Nat.add_assoc _ _ _))⟩)))
       repeat (go_quiet (first|(go_at_call 57;(with_reducible refine (spec_l3Days.calls kj4 aJ aH Ee _ fC.out).mono ?_);rintro e w' ⟨rfl,⟨nd,rfl⟩⟩;(try first|exact ⟨rfl,_,World.drewN_drewN _ _ _⟩|exact ⟨rfl,_,Eq.trans (World.drewN_drewN _ _ _) (congrArg (World.drewN _) (Nat.add_assoc _ _ _))⟩))|(go_at_call 37;(with_reducible refine (spec_l1In.calls aW 0 Ee RJ _ xU.out).mono ?_);rintro e w' ⟨rfl,⟨nd,rfl⟩⟩;(try first|exact ⟨rfl,_,World.drewN_drewN _ _ _⟩|exact ⟨rfl,_,Eq.trans (World.drewN_drewN _ _ _) (congrArg (World.drewN _) (Nat.add_assoc _ _ _))⟩)));try go_wp2_with (first|(go_at_call 57;(with_reducible refine (spec_l3Days.calls kj4 aJ aH Ee _ fC.out).mono ?_);rintro e w' ⟨rfl,⟨nd,rfl⟩⟩;(try first|exact ⟨rfl,_,World.drewN_drewN _ _ _⟩|exact ⟨rfl,_,Eq.trans (World.drewN_drewN _ _ _) (congrArg (World.drewN _) (Nat.add_assoc _ _ _))⟩))|(go_at_call 37;(with_reducible refine (spec_l1In.calls aW 0 Ee RJ _ xU.out).mono ?_);rintro e w' ⟨rfl,⟨nd,rfl⟩⟩;(try first|exact ⟨rfl,_,World.drewN_drewN _ _ _⟩|exact ⟨rfl,_,Eq.trans (World.drewN_drewN _ _ _) (congrArg (World.drewN _) (Nat.add_assoc _ _ _))⟩))))
       go_ret;exact ax8
end Go.Proofs.YteagahcbffgjpaaGreatDoor.G

namespace Go.Proofs.YteagahcbffgjpaaGreatDoor.G
open Go.RowKit Go.Proofs.YteagahcbffgjpaaGreatDoorW.PrintWords Go.Proofs.YteagahcbffgjpaaGreatDoorW.PrintLast Go.Proofs.YteagahcbffgjpaaGreatDoorW.PrintMore
open Go.Proofs.YteagahcbffgjpaaGreatDoor.Gl Go.Proofs.YteagahcbffgjpaaGreatDoor.Ext
attribute [local go_sem] max2_int min2_int max_two min_two max_three min_three max_four min_four   -- for this text's walks alone
set_option linter.unusedVariables false
set_option linter.unusedSimpArgs false
mutual
def spec_l4Entry.j0:Nat→Bool→ByteArray→Int→List (S69)→List (S69)→ByteArray→ByteArray→ByteArray→Int→Int→Int→Bool→Int→ByteArray→ByteArray→Option (Bool)
 | 0,_,_,_,_,_,_,_,_,_,_,_,_,_,_,_=>none
 | k+1,x24,uD,Ai,Aj,Ak,uE,uF,uG,uH,uI,uJ,uK,uL,uM,oH=>if x24=true then (some false) else ((spec_l4Text.f k uE).bind fun acX=>(if acX=true then ((spec_l4Text.f k uF).bind fun acY=>(if acY=true then ((spec_l4Text.f k uG).bind fun acZ=>(if acZ=true then ((spec_l4Text.f k uM).bind fun a4N=>(spec_l4Entry.j1 k (!a4N) uD Ai Aj Ak uE uF uG uH uI uJ uK uL uM oH)) else (spec_l4Entry.j1 k true uD Ai Aj Ak uE uF uG uH uI uJ uK uL uM oH))) else (spec_l4Entry.j1 k true uD Ai Aj Ak uE uF uG uH uI uJ uK uL uM oH))) else (spec_l4Entry.j1 k true uD Ai Aj Ak uE uF uG uH uI uJ uK uL uM oH)))
def spec_l4Entry.j1:Nat→Bool→ByteArray→Int→List (S69)→List (S69)→ByteArray→ByteArray→ByteArray→Int→Int→Int→Bool→Int→ByteArray→ByteArray→Option (Bool)
 | 0,_,_,_,_,_,_,_,_,_,_,_,_,_,_,_=>none
 | k+1,x46,uD,Ai,Aj,Ak,uE,uF,uG,uH,uI,uJ,uK,uL,uM,oH=>if x46=true then (some false) else ((spec_l3Good.f k uH uI uJ uK).bind fun adA=>(if adA=true then ((spec_l1In.f uL 0 9999).bind fun adB=>(if adB=true then (if oH.toList=([]:List UInt8) then (some true) else ((spec_l4Key.f k oH).bind fun adC=>(if adC=true then (some (oH.toList != uD.toList)) else (some false)))) else (some false))) else (some false)))
end
def spec_l4Entry.f (k:Nat) (aJ:ByteArray) (aH:Int) (bJ:List (S69)) (bM:List (S69)) (aX:ByteArray) (bB:ByteArray) (bE:ByteArray) (bN:Int) (bO:Int) (bQ:Int) (bF:Bool) (bI:Int) (bD:ByteArray) (bL:ByteArray):Option (Bool):=(spec_l4Key.f k aJ).bind fun RN=>(if RN=true then ((spec_l1In.f aH 1 4).bind fun RO=>(if RO=true then ((spec_l2List.f k bJ).bind fun RP=>(if RP=true then ((spec_l2List.f k bM).bind fun M4=>(spec_l4Entry.j0 k (!M4) aJ aH bJ bM aX bB bE bN bO bQ bF bI bD bL)) else (spec_l4Entry.j0 k true aJ aH bJ bM aX bB bE bN bO bQ bF bI bD bL))) else (spec_l4Entry.j0 k true aJ aH bJ bM aX bB bE bN bO bQ bF bI bD bL))) else (spec_l4Entry.j0 k true aJ aH bJ bM aX bB bE bN bO bQ bF bI bD bL))
theorem spec_l4Entry.mono_l:∀ k,(∀ y0 y1 y2 y3 y4 y5 y6 y7 y8 y9 Dn DX DY DZ E0,LeO (spec_l4Entry.j0 k y0 y1 y2 y3 y4 y5 y6 y7 y8 y9 Dn DX DY DZ E0) (spec_l4Entry.j0 (k+1) y0 y1 y2 y3 y4 y5 y6 y7 y8 y9 Dn DX DY DZ E0))∧(∀ y0 y1 y2 y3 y4 y5 y6 y7 y8 y9 Dn DX DY DZ E0,LeO (spec_l4Entry.j1 k y0 y1 y2 y3 y4 y5 y6 y7 y8 y9 Dn DX DY DZ E0) (spec_l4Entry.j1 (k+1) y0 y1 y2 y3 y4 y5 y6 y7 y8 y9 Dn DX DY DZ E0))
 | 0=>⟨fun _ _ _ _ _ _ _ _ _ _ _ _ _ _ _ r h=>by simp [spec_l4Entry.j0] at h,fun _ _ _ _ _ _ _ _ _ _ _ _ _ _ _ r h=>by simp [spec_l4Entry.j1] at h⟩
 | k+1=>by
  obtain ⟨ih0,ih1⟩:=spec_l4Entry.mono_l k;refine ⟨?_,?_⟩
  ·
   intro y0 y1 y2 y3 y4 y5 y6 y7 y8 y9 Dn DX DY DZ E0;unfold spec_l4Entry.j0
   repeat' first
   | (with_reducible exact ih0 _ _ _ _ _ _ _ _ _ _ _ _ _ _ _)
   | (with_reducible exact ih1 _ _ _ _ _ _ _ _ _ _ _ _ _ _ _)
   | (with_reducible exact spec_l2List.mono _ _)
   | (with_reducible exact spec_l3Good.mono _ _ _ _ _)
   | (with_reducible exact spec_l4Key.mono _ _)
   | (with_reducible exact spec_l4Text.mono _ _)
   | (with_reducible exact LeO.refl _)
   | (with_reducible exact LeO.none _)
   | (with_reducible refine LeO.ite ?_ ?_)
   | (with_reducible refine LeO.bind ?_ (fun _=>?_))
   | exact ih0 _ _ _ _ _ _ _ _ _ _ _ _ _ _ _
   | exact ih1 _ _ _ _ _ _ _ _ _ _ _ _ _ _ _
   | exact spec_l2List.mono _ _
   | exact spec_l3Good.mono _ _ _ _ _
   | exact spec_l4Key.mono _ _
   | exact spec_l4Text.mono _ _
   | exact LeO.none _
   | refine LeO.ite ?_ ?_
   | refine LeO.bind ?_ (fun _=>?_)
  ·
   intro y0 y1 y2 y3 y4 y5 y6 y7 y8 y9 Dn DX DY DZ E0;unfold spec_l4Entry.j1
   repeat' first
   | (with_reducible exact ih0 _ _ _ _ _ _ _ _ _ _ _ _ _ _ _)
   | (with_reducible exact ih1 _ _ _ _ _ _ _ _ _ _ _ _ _ _ _)
   | (with_reducible exact spec_l2List.mono _ _)
   | (with_reducible exact spec_l3Good.mono _ _ _ _ _)
   | (with_reducible exact spec_l4Key.mono _ _)
   | (with_reducible exact spec_l4Text.mono _ _)
   | (with_reducible exact LeO.refl _)
   | (with_reducible exact LeO.none _)
   | (with_reducible refine LeO.ite ?_ ?_)
   | (with_reducible refine LeO.bind ?_ (fun _=>?_))
   | exact ih0 _ _ _ _ _ _ _ _ _ _ _ _ _ _ _
   | exact ih1 _ _ _ _ _ _ _ _ _ _ _ _ _ _ _
   | exact spec_l2List.mono _ _
   | exact spec_l3Good.mono _ _ _ _ _
   | exact spec_l4Key.mono _ _
   | exact spec_l4Text.mono _ _
   | exact LeO.none _
   | refine LeO.ite ?_ ?_
   | refine LeO.bind ?_ (fun _=>?_)
theorem spec_l4Entry.mono:∀ a0 a1 a2 a3 a4 a5 a6 a7 a8 a9 iG iH iI iJ k,LeO (spec_l4Entry.f k a0 a1 a2 a3 a4 a5 a6 a7 a8 a9 iG iH iI iJ) (spec_l4Entry.f (k+1) a0 a1 a2 a3 a4 a5 a6 a7 a8 a9 iG iH iI iJ):=by
 intro a0 a1 a2 a3 a4 a5 a6 a7 a8 a9 iG iH iI iJ k;obtain ⟨ih0,ih1⟩:=spec_l4Entry.mono_l k;unfold spec_l4Entry.f
 repeat' first
   | (with_reducible exact ih0 _ _ _ _ _ _ _ _ _ _ _ _ _ _ _)
   | (with_reducible exact ih1 _ _ _ _ _ _ _ _ _ _ _ _ _ _ _)
   | (with_reducible exact spec_l2List.mono _ _)
   | (with_reducible exact spec_l3Good.mono _ _ _ _ _)
   | (with_reducible exact spec_l4Key.mono _ _)
   | (with_reducible exact spec_l4Text.mono _ _)
   | (with_reducible exact LeO.refl _)
   | (with_reducible exact LeO.none _)
   | (with_reducible refine LeO.ite ?_ ?_)
   | (with_reducible refine LeO.bind ?_ (fun _=>?_))
   | exact ih0 _ _ _ _ _ _ _ _ _ _ _ _ _ _ _
   | exact ih1 _ _ _ _ _ _ _ _ _ _ _ _ _ _ _
   | exact spec_l2List.mono _ _
   | exact spec_l3Good.mono _ _ _ _ _
   | exact spec_l4Key.mono _ _
   | exact spec_l4Text.mono _ _
   | exact LeO.none _
   | refine LeO.ite ?_ ?_
   | refine LeO.bind ?_ (fun _=>?_)
set_option maxRecDepth 100000 in
theorem spec_l4Entry.L0 {P:Prop} (h:P:=by
  go_wp2_with (first|((with_reducible refine gate_callee (f:=36) rfl ?_);refine goesL_ (some 5) rfl rfl Tryz.func36 (by kernel_rfl) rfl #[.string aJ] rfl au45 ?_;(with_reducible refine (spec_l4Key.calls k aJ _ _ A4.out).mono ?_);rintro e w' ⟨rfl,⟨nd,rfl⟩⟩;refine ⟨_,rfl,?_⟩)|(go_at_call 37;(with_reducible refine (spec_l1In.calls aH 1 4 _ _ A6.out).mono ?_);rintro e w' ⟨rfl,⟨nd,rfl⟩⟩)|(go_at_call 38;(with_reducible refine (spec_l2List.calls k _ _ bJ _ _ ?aU ?aV A8.out).mono ?_);(case aU=>repeat (first|exact (Kd.C_below gQ.out au38)|(with_reducible refine Kd.C_alloc ?_ _)|(with_reducible refine Kd.C_drewN ?_ _)|(with_reducible refine Kd.C_drew ?_)));(case aV=>exact gR.out);rintro e MF ⟨rfl,hb⟩;replace eE:=am (blk_below (g:=D8) au75 hb);replace HB:=am (below_step au38 hb);(try clear hb);obtain ⟨lV,nO,nP,nQ,M5,M6,M7,M8,M9,Ma,JI,JJ,JK,JL,lW,nR,nS,nT,Mb,Mc,Md,Me,Mf,Mg,JM,JN,JO,JP⟩:=blkc14 eE.out)|(go_at_call 38;(with_reducible refine (spec_l2List.calls k _ _ bM M4 _ ?aU ?aV rO.out).mono ?_);(case aU=>repeat (first|exact (Kd.C_below jC.out HB.out)|(with_reducible refine Kd.C_alloc ?_ _)|(with_reducible refine Kd.C_drewN ?_ _)|(with_reducible refine Kd.C_drew ?_)));(case aV=>exact jD.out);rintro e rL ⟨rfl,hb⟩;replace eE:=am (blk_below (g:=D8) au75 hb);replace HB:=am (below_step au38 hb);(try clear hb)));go_meet
  case rel=>first|(exact ⟨_,(!M4),au88,H',⟨by first|omega|exact Nat.le_refl _⟩,⟨by (with_reducible repeat (first|refine blk_drewN ?_ _|refine blk_drew ?_|refine blk_alloc ?_ _));exact eE.out⟩,⟨by repeat (first|(with_reducible first|exact HB.out|apply below_alloc|apply pw_below_drewN|apply below_drew1|refine below_set ?_ wN.out)|exact HB.out)⟩⟩)|(exact ⟨_,(true),au88,H',⟨by first|omega|exact Nat.le_refl _⟩,⟨by (with_reducible repeat (first|refine blk_drewN ?_ _|refine blk_drew ?_|refine blk_alloc ?_ _));exact eE.out⟩,⟨by repeat (first|(with_reducible first|exact HB.out|apply below_alloc|apply pw_below_drewN|apply below_drew1|refine below_set ?_ wN.out)|exact HB.out)⟩⟩)):P:=h
set_option maxRecDepth 100000 in
theorem spec_l4Entry.L1 {P:Prop} (h:P:=by
  go_wp2_with (first|((with_reducible refine gate_callee (f:=40) rfl ?_);refine goesL_ (some 49) rfl rfl Tryz.func40 (by kernel_rfl) rfl #[.agg #[.int .i64 bN,.int .i64 bO,.int .i64 bQ,.bool bF]] rfl au45 ?_;(with_reducible refine (spec_l3Good.calls adD bN bO bQ bF _ _ A33.out).mono ?_);rintro e w44 ⟨rfl,hb⟩;refine ⟨_,rfl,?_⟩;replace eE:=am (blk_below (g:=D8) au75 hb);replace HB:=am (below_step au38 hb);(try clear hb);obtain ⟨aQS,aQT,aQU,aQV,aQW,aQX,aQY,aQZ,aR0,aR1,aIE,aIF,aIG,aIH,aR2,aR3,aR4,aR5,aR6,aR7,aR8,aR9,aRa,aRb,aII,aIJ,aIK,aIL⟩:=blkc14 eE.out)|(go_at_call 37;(with_reducible refine (spec_l1In.calls bI 0 9999 _ _ A35.out).mono ?_);rintro e w' ⟨rfl,⟨nd,rfl⟩⟩)|(go_at_call 36;(with_reducible refine (spec_l4Key.calls adD bL _ _ A41.out).mono ?_);rintro e w' ⟨rfl,⟨nd,rfl⟩⟩));go_ret
  exact ⟨by first|rfl|(simp [errW_none,errW_some] <;> rfl)|(simp [*,errW_none,errW_some] <;> rfl),by repeat (first|(with_reducible first|exact HB.out|apply below_alloc|apply pw_below_drewN|apply below_drew1|refine below_set ?_ wN.out)|exact HB.out)⟩):P:=h
set_option maxRecDepth 100000 in
theorem spec_l4Entry.L2 {P:Prop} (h:P:=by
  go_wp2_with (first|((with_reducible refine gate_callee (f:=39) rfl ?_);refine goesL_ (some 27) rfl rfl Tryz.func39 (by kernel_rfl) rfl #[.string aX] rfl au45 ?_;(with_reducible refine (spec_l4Text.calls eY aX _ _ xU.out).mono ?_);rintro e w' ⟨rfl,⟨nd,rfl⟩⟩;refine ⟨_,rfl,?_⟩)|(go_at_call 39;(with_reducible refine (spec_l4Text.calls eY bB _ _ A23.out).mono ?_);rintro e w' ⟨rfl,⟨nd,rfl⟩⟩)|(go_at_call 39;(with_reducible refine (spec_l4Text.calls eY bE _ _ A25.out).mono ?_);rintro e w' ⟨rfl,⟨nd,rfl⟩⟩)|(go_at_call 39;(with_reducible refine (spec_l4Text.calls eY bD a4N _ A27.out).mono ?_);rintro e w' ⟨rfl,⟨nd,rfl⟩⟩));go_meet
  case rel=>first|(exact ⟨_,(!a4N),au88,H',⟨by have:=hO.out;first|omega|exact Nat.le_refl _⟩,⟨by (with_reducible repeat (first|refine blk_drewN ?_ _|refine blk_drew ?_|refine blk_alloc ?_ _));exact eE.out⟩,⟨by repeat (first|(with_reducible first|exact HB.out|apply below_alloc|apply pw_below_drewN|apply below_drew1|refine below_set ?_ wN.out)|exact HB.out)⟩⟩)|(exact ⟨_,(true),au88,H',⟨by have:=hO.out;first|omega|exact Nat.le_refl _⟩,⟨by (with_reducible repeat (first|refine blk_drewN ?_ _|refine blk_drew ?_|refine blk_alloc ?_ _));exact eE.out⟩,⟨by repeat (first|(with_reducible first|exact HB.out|apply below_alloc|apply pw_below_drewN|apply below_drew1|refine below_set ?_ wN.out)|exact HB.out)⟩⟩)):P:=h
set_option maxHeartbeats 8000000 in
set_option maxRecDepth 100000 in
theorem spec_l4Entry.calls (k:Nat) (aJ:ByteArray) (aH:Int) (dD:Option Addr) (dE:Nat) (bJ:List (S69)) (dF:Option Addr) (dG:Nat) (bM:List (S69)) (aX:ByteArray) (bB:ByteArray) (bE:ByteArray) (bN:Int) (bO:Int) (bQ:Int) (bF:Bool) (bI:Int) (bD:ByteArray) (bL:ByteArray) (r:Bool) (w:World) (fY:Kd.C k69 w dD bJ.length bJ) (eZ:bJ.length≤dE) (fZ:Kd.C k69 w dF bM.length bM) (fA:bM.length≤dG) (h:spec_l4Entry.f k aJ aH bJ bM aX bB bE bN bO bQ bF bI bD bL=some r) :
  Calls Tryz.prog 23 #[.agg #[.string aJ,.int .i64 aH,.slice dD bJ.length dE,.slice dF bM.length dG,.string aX,.string bB,.string bE,.int .i64 bN,.int .i64 bO,.int .i64 bQ,.bool bF,.int .i64 bI,.string bD,.string bL]] w fun e w'=>e=.returned (.bool r)∧Below w.heap.size w w':=by
 have hu42:=Tryz.underlying42;have hu40:=Tryz.underlying40;have gQ:=am fY;have gR:=am eZ;clear fY eZ;have jC:=am fZ;have jD:=am fA;clear fZ fA;have HB:=am (Below.refl w.heap.size w);have H:((spec_l4Key.f k aJ).bind fun RN=>(if RN=true then ((spec_l1In.f aH 1 4).bind fun RO=>(if RO=true then ((spec_l2List.f k bJ).bind fun RP=>(if RP=true then ((spec_l2List.f k bM).bind fun M4=>(spec_l4Entry.j0 k (!M4) aJ aH bJ bM aX bB bE bN bO bQ bF bI bD bL)) else (spec_l4Entry.j0 k true aJ aH bJ bM aX bB bE bN bO bQ bF bI bD bL))) else (spec_l4Entry.j0 k true aJ aH bJ bM aX bB bE bN bO bQ bF bI bD bL))) else (spec_l4Entry.j0 k true aJ aH bJ bM aX bB bE bN bO bQ bF bI bD bL)))=some r:=h;clear h;have hJ:=am H;clear H;go_enter Tryz.func23,Tryz.ntmps23
 go_upto_region 1 with (first|((with_reducible refine gate_dst (N:=1) rfl ?_);refine box_event ?hg (N:=1) ?hd (cs:=#[.string aJ,.int .i64 aH,.slice dD bJ.length dE,.slice dF bM.length dG,.string aX,.string bB,.string bE,.int .i64 bN,.int .i64 bO,.int .i64 bQ,.bool bF,.int .i64 bI,.string bD,.string bL]) (t:=42) ?hr ?_;(case hd=>rfl);(case hg=>rfl);(case hr=>first|(go_simp;done)|(go_simp;rfl));intro D8 hg w3 hbox hb;have eE:=am (hbox);have aXA:=am (bsz hg au46);have wN:=am (bsz hg au46);replace HB:=am (below_step au46 hb);clear hb hbox hg))
 (try simp only [Act.put,List.setIfInBounds_toArray,List.set_cons_zero,List.set_cons_succ])
 go_cut [24] (fun v24 wc=>∃ (kq:Nat) (Nl:Bool),v24=.bool Nl∧Aside0 (spec_l4Entry.j0 kq Nl aJ aH bJ bM aX bB bE bN bO bQ bF bI bD bL=some r)∧Aside0 (kq≤k)∧Aside0 (wc.heap[D8]?=some (.cells #[.string aJ,.int .i64 aH,(.slice dD bJ.length dE),(.slice dF bM.length dG),.string aX,.string bB,.string bE,.int .i64 bN,.int .i64 bO,.int .i64 bQ,.bool bF,.int .i64 bI,.string bD,.string bL] 42 (0,0)))∧Aside0 (Below w.heap.size w wc))
 case first =>
  have H:=hJ.out;clear hJ;replace H:=ob H;obtain ⟨RN,oL,H⟩:=H
  try dsimp only at H
  have A4:=am oL;clear oL;by_cases c5:RN=true
  ·
   subst c5;replace H:=(if_pos rfl).symm.trans H;replace H:=ob H;obtain ⟨RO,iV,H⟩:=H
   try dsimp only at H
   have A6:=am iV;clear iV;by_cases c7:RO=true
   ·
    subst c7;replace H:=(if_pos rfl).symm.trans H;replace H:=ob H;obtain ⟨RP,iW,H⟩:=H
    try dsimp only at H
    have A8:=am iW;clear iW;by_cases c9:RP=true
    ·
     subst c9;replace H:=(if_pos rfl).symm.trans H;replace H:=ob H;obtain ⟨M4,oT,H⟩:=H
     try dsimp only at H
     have rO:=am oT;clear oT;have H':=am H;clear H;obtain ⟨tU,tV,tW,tX,Zw,Zx,Zy,Zz,ZA,ZB,RQ,RR,RS,RU,tY,tZ,uA,uB,ZC,ZD,ZE,ZF,ZG,ZH,RV,RX,RY,RZ⟩:=blkc14 eE.out;exact spec_l4Entry.L0
    ·
     replace c9:=Bool.eq_false_iff.mpr c9;subst c9;replace H:=(if_neg (show ¬ (false=true) by decide)).symm.trans H;have H':=am H;clear H;obtain ⟨gX,kP,kQ,kR,sH,sI,sJ,sK,sL,sM,pL,pM,pN,pO,gY,kS,kT,kU,sN,sO,sP,sQ,sR,sS,pP,pQ,pR,pS⟩:=blkc14 eE.out;go_wp2_with (first|((with_reducible refine gate_callee (f:=36) rfl ?_);refine goesL_ (some 5) rfl rfl Tryz.func36 (by kernel_rfl) rfl #[.string aJ] rfl au45 ?_;(with_reducible refine (spec_l4Key.calls k aJ _ _ A4.out).mono ?_);rintro e w' ⟨rfl,⟨nd,rfl⟩⟩;refine ⟨_,rfl,?_⟩)|(go_at_call 37;(with_reducible refine (spec_l1In.calls aH 1 4 _ _ A6.out).mono ?_);rintro e w' ⟨rfl,⟨nd,rfl⟩⟩)|(go_at_call 38;(with_reducible refine (spec_l2List.calls k _ _ bJ _ _ ?aU ?aV A8.out).mono ?_);(case aU=>repeat (first|exact (Kd.C_below gQ.out au38)|(with_reducible refine Kd.C_alloc ?_ _)|(with_reducible refine Kd.C_drewN ?_ _)|(with_reducible refine Kd.C_drew ?_)));(case aV=>exact gR.out);rintro e vC ⟨rfl,hb⟩;replace eE:=am (blk_below (g:=D8) au75 hb);replace HB:=am (below_step au38 hb);(try clear hb)));go_meet
     case rel=>exact ⟨_,(true),au88,H',⟨by first|omega|exact Nat.le_refl _⟩,⟨by (with_reducible repeat (first|refine blk_drewN ?_ _|refine blk_drew ?_|refine blk_alloc ?_ _));exact eE.out⟩,⟨by repeat (first|(with_reducible first|exact HB.out|apply below_alloc|apply pw_below_drewN|apply below_drew1|refine below_set ?_ wN.out)|exact HB.out)⟩⟩
   · replace c7:=Bool.eq_false_iff.mpr c7;subst c7;replace H:=(if_neg (show ¬ (false=true) by decide)).symm.trans H;have H':=am H;clear H;obtain ⟨tL,tM,tN,tP,EY,EZ,F0,F1,F2,F3,BO,BP,BQ,BR,tQ,tR,tS,tT,F4,F5,F6,F7,F8,F9,BS,BU,BV,BW⟩:=blkc14 eE.out;exact spec_l4Entry.L0
  · replace c5:=Bool.eq_false_iff.mpr c5;subst c5;replace H:=(if_neg (show ¬ (false=true) by decide)).symm.trans H;have H':=am H;clear H;obtain ⟨Ew,Ex,Ey,Ez,ZI,ZJ,ZK,ZL,ZM,ZN,S0,S1,S3,S4,EA,EB,EC,ED,ZO,ZP,ZQ,ZR,ZS,ZT,S5,S6,S7,S8⟩:=blkc14 eE.out;exact spec_l4Entry.L0
 case rest =>
  clear hJ
  try clear c2
  try clear p2
  try clear c3
  try clear c5
  try clear c7
  try clear c9
  try clear tU tV RQ RR RS RU tW tX Zw Zx Zy Zz ZA ZB tY tZ RV RX RY RZ uA uB ZC ZD ZE ZF ZG ZH
  try clear lV nO JI JJ JK JL nP nQ M5 M6 M7 M8 M9 Ma lW nR JM JN JO JP nS nT Mb Mc Md Me Mf Mg
  try clear gX kP pL pM pN pO kQ kR sH sI sJ sK sL sM gY kS pP pQ pR pS kT kU sN sO sP sQ sR sS
  try clear tL tM BO BP BQ BR tN tP EY EZ F0 F1 F2 F3 tQ tR BS BU BV BW tS tT F4 F5 F6 F7 F8 F9
  try clear Ew Ex S0 S1 S3 S4 Ey Ez ZI ZJ ZK ZL ZM ZN EA EB S5 S6 S7 S8 EC ED ZO ZP ZQ ZR ZS ZT
  obtain ⟨kq,Nl,rfl,HA,hO,eE,HB⟩:=hcut
  cases kq with
  | zero=>exact absurd HA.out (by simp [spec_l4Entry.j0])
  | succ eY =>
   have H:=HA.out;clear HA;simp only [spec_l4Entry.j0] at H;by_cases nX:Nl=true
   · subst nX;replace H:=(if_pos rfl).symm.trans H;obtain rfl:=ojz H;exact spec_l4Entry.L1
   ·
    replace nX:=Bool.eq_false_iff.mpr nX;subst nX;replace H:=(if_neg (show ¬ (false=true) by decide)).symm.trans H;have adE:=am H;clear H
    go_upto_region 3 with (fail)
    go_cut [46] (fun v46 wc=>∃ (kq:Nat) (KE:Bool),v46=.bool KE∧Aside0 (spec_l4Entry.j1 kq KE aJ aH bJ bM aX bB bE bN bO bQ bF bI bD bL=some r)∧Aside0 (kq≤eY)∧Aside0 (wc.heap[D8]?=some (.cells #[.string aJ,.int .i64 aH,(.slice dD bJ.length dE),(.slice dF bM.length dG),.string aX,.string bB,.string bE,.int .i64 bN,.int .i64 bO,.int .i64 bQ,.bool bF,.int .i64 bI,.string bD,.string bL] 42 (0,0)))∧Aside0 (Below w.heap.size w wc))
    case first =>
     have H:=adE.out;clear adE;replace H:=ob H;obtain ⟨acX,oU,H⟩:=H
     try dsimp only at H
     have xU:=am oU;clear oU;by_cases oV:acX=true
     ·
      subst oV;replace H:=(if_pos rfl).symm.trans H;replace H:=ob H;obtain ⟨acY,Qv,H⟩:=H
      try dsimp only at H
      have A23:=am Qv;clear Qv;by_cases iL:acY=true
      ·
       subst iL;replace H:=(if_pos rfl).symm.trans H;replace H:=ob H;obtain ⟨acZ,azU,H⟩:=H
       try dsimp only at H
       have A25:=am azU;clear azU;by_cases mZ:acZ=true
       ·
        subst mZ;replace H:=(if_pos rfl).symm.trans H;replace H:=ob H;obtain ⟨a4N,RG,H⟩:=H
        try dsimp only at H
        have A27:=am RG;clear RG;have H':=am H;clear H;obtain ⟨xV,Fq,Fs,Ft,Lo,Lp,Lq,Lr,Ls,Lt,J1,J2,J3,J4,xW,Fu,Fv,Fw,Lu,Lv,Lw,Lx,Ly,Lz,J5,J6,J7,J8⟩:=blkc14 eE.out;exact spec_l4Entry.L2
       · replace mZ:=Bool.eq_false_iff.mpr mZ;subst mZ;replace H:=(if_neg (show ¬ (false=true) by decide)).symm.trans H;have H':=am H;clear H;obtain ⟨LW,Yx,Yy,Yz,YA,YB,YC,YD,YE,YF,Rc,Re,Rf,Rh,LX,YG,YH,YI,YJ,YK,YL,YM,YN,YO,Ri,Rj,Rk,Rl⟩:=blkc14 eE.out;exact spec_l4Entry.L2
      · replace iL:=Bool.eq_false_iff.mpr iL;subst iL;replace H:=(if_neg (show ¬ (false=true) by decide)).symm.trans H;have H':=am H;clear H;obtain ⟨xX,xY,xZ,yA,Fx,Fy,Fz,FA,FB,FC,C6,C7,C8,C9,yB,yC,yD,yE,FD,FE,FF,FG,FH,FI,Ca,Cb,Cc,Cd⟩:=blkc14 eE.out;exact spec_l4Entry.L2
     · replace oV:=Bool.eq_false_iff.mpr oV;subst oV;replace H:=(if_neg (show ¬ (false=true) by decide)).symm.trans H;have H':=am H;clear H;obtain ⟨Zo,Zp,Zq,Zr,anF,anG,anH,anI,anJ,anK,adF,adG,adH,adI,Zs,Zt,Zu,Zv,anL,anM,anN,anO,anP,anQ,adJ,adK,adL,adM⟩:=blkc14 eE.out;exact spec_l4Entry.L2
    case rest =>
     clear adE
     try clear c1
     try clear c2
     try clear p2
     try clear c3
     try clear c5
     try clear c7
     try clear c9
     try clear nX
     try clear oV
     try clear pA
     try clear iL
     try clear mZ
     try clear tU tV RQ RR RS RU tW tX Zw Zx Zy Zz ZA ZB tY tZ RV RX RY RZ uA uB ZC ZD ZE ZF ZG ZH
     try clear lV nO JI JJ JK JL nP nQ M5 M6 M7 M8 M9 Ma lW nR JM JN JO JP nS nT Mb Mc Md Me Mf Mg
     try clear gX kP pL pM pN pO kQ kR sH sI sJ sK sL sM gY kS pP pQ pR pS kT kU sN sO sP sQ sR sS
     try clear tL tM BO BP BQ BR tN tP EY EZ F0 F1 F2 F3 tQ tR BS BU BV BW tS tT F4 F5 F6 F7 F8 F9
     try clear Ew Ex S0 S1 S3 S4 Ey Ez ZI ZJ ZK ZL ZM ZN EA EB S5 S6 S7 S8 EC ED ZO ZP ZQ ZR ZS ZT
     try clear xV Fq J1 J2 J3 J4 Fs Ft Lo Lp Lq Lr Ls Lt xW Fu J5 J6 J7 J8 Fv Fw Lu Lv Lw Lx Ly Lz
     try clear LW Yx Rc Re Rf Rh Yy Yz YA YB YC YD YE YF LX YG Ri Rj Rk Rl YH YI YJ YK YL YM YN YO
     try clear xX xY C6 C7 C8 C9 xZ yA Fx Fy Fz FA FB FC yB yC Ca Cb Cc Cd yD yE FD FE FF FG FH FI
     try clear Zo Zp adF adG adH adI Zq Zr anF anG anH anI anJ anK Zs Zt adJ adK adL adM Zu Zv anL anM anN anO anP anQ
     try clear p2
     obtain ⟨kq,KE,rfl,HA,b0X,eE,HB⟩:=hcut
     cases kq with
     | zero=>exact absurd HA.out (by simp [spec_l4Entry.j1])
     | succ adD =>
      have H:=HA.out;clear HA;simp only [spec_l4Entry.j1] at H;by_cases mW:KE=true
      · subst mW;replace H:=(if_pos rfl).symm.trans H;obtain rfl:=ojz H;exact spec_l4Entry.L1
      ·
       replace mW:=Bool.eq_false_iff.mpr mW;subst mW;replace H:=(if_neg (show ¬ (false=true) by decide)).symm.trans H;replace H:=ob H;obtain ⟨adA,azV,H⟩:=H
       try dsimp only at H
       have A33:=am azV;clear azV;by_cases c34:adA=true
       ·
        subst c34;replace H:=(if_pos rfl).symm.trans H;replace H:=ob H;obtain ⟨adB,azW,H⟩:=H
        try dsimp only at H
        have A35:=am azW;clear azW;by_cases Ki:adB=true
        ·
         subst Ki;replace H:=(if_pos rfl).symm.trans H;by_cases S9:bL.toList=([]:List UInt8)
         · rw [if_pos S9] at H;have c37b0:=qt S9;have c37b1:=bf S9;clear S9;obtain rfl:=ojz H;obtain ⟨akN,aRc,aRd,aRe,aRf,aRg,aRh,aRi,aRj,aRk,aIM,aIN,aIO,aIP,akO,aRl,aRm,aRn,aRo,aRp,aRq,aRr,aRs,aRt,aIQ,aIR,aIS,aIT⟩:=blkc14 eE.out;exact spec_l4Entry.L1
         ·
          rw [if_neg S9] at H;have c37b0:=qf S9;have c37b1:=bu S9;replace H:=ob H;obtain ⟨adC,P8,H⟩:=H
          try dsimp only at H
          have A41:=am P8;clear P8;by_cases Kj:adC=true
          · subst Kj;replace H:=(if_pos rfl).symm.trans H;obtain rfl:=ojz H;obtain ⟨aRu,aRv,aRw,aRx,aRy,aRz,aRA,aRB,aRC,aRD,aIU,aIV,aIW,aIX,aRE,aRF,aRG,aRH,aRI,aRJ,aRK,aRL,aRM,aRN,aIY,aIZ,aJ0,aJ1⟩:=blkc14 eE.out;exact spec_l4Entry.L1
          · replace Kj:=Bool.eq_false_iff.mpr Kj;subst Kj;replace H:=(if_neg (show ¬ (false=true) by decide)).symm.trans H;obtain rfl:=ojz H;obtain ⟨Ud,ajT,ajU,ajV,ajW,ajX,ajY,ajZ,akA,akB,a9C,a9D,a9E,a9F,Ue,akC,akD,akE,akF,akG,akH,akI,akJ,akK,a9G,a9H,a9I,a9J⟩:=blkc14 eE.out;exact spec_l4Entry.L1
        · replace Ki:=Bool.eq_false_iff.mpr Ki;subst Ki;replace H:=(if_neg (show ¬ (false=true) by decide)).symm.trans H;obtain rfl:=ojz H;obtain ⟨aRO,aRP,aRQ,aRR,aRS,aRT,aRU,aRV,aRW,aRX,aJ2,aJ3,aJ4,aJ5,aRY,aRZ,aS0,aS1,aS2,aS3,aS4,aS5,aS6,aS7,aJ6,aJ7,aJ8,aJ9⟩:=blkc14 eE.out;exact spec_l4Entry.L1
       · replace c34:=Bool.eq_false_iff.mpr c34;subst c34;replace H:=(if_neg (show ¬ (false=true) by decide)).symm.trans H;obtain rfl:=ojz H;obtain ⟨aS8,aS9,aSa,aSb,aSc,aSd,aSe,aSf,aSg,aSh,aJa,aJb,aJc,aJd,aSi,aSj,aSk,aSl,aSm,aSn,aSo,aSp,aSq,aSr,aJe,aJf,aJg,aJh⟩:=blkc14 eE.out;go_wp2_with (first|((with_reducible refine gate_callee (f:=40) rfl ?_);refine goesL_ (some 49) rfl rfl Tryz.func40 (by kernel_rfl) rfl #[.agg #[.int .i64 bN,.int .i64 bO,.int .i64 bQ,.bool bF]] rfl au45 ?_;(with_reducible refine (spec_l3Good.calls adD bN bO bQ bF _ _ A33.out).mono ?_);rintro e w53 ⟨rfl,hb⟩;refine ⟨_,rfl,?_⟩;replace eE:=am (blk_below (g:=D8) au75 hb);replace HB:=am (below_step au38 hb);(try clear hb)));go_ret;exact ⟨by first|rfl|(simp [errW_none,errW_some] <;> rfl)|(simp [*,errW_none,errW_some] <;> rfl),by repeat (first|(with_reducible first|exact HB.out|apply below_alloc|apply pw_below_drewN|apply below_drew1|refine below_set ?_ wN.out)|exact HB.out)⟩
end Go.Proofs.YteagahcbffgjpaaGreatDoor.G
