/- Texts of this session for the law FnExactDropEntry, put together by a program (merge.py): each ends with its namespace; conditions stand with each theorem. -/
import Derived.Test.YteagahcbffgjpaaGreatDoorKFnExactDropEntry2
import Derived.Test.YteagahcbffgjpaaGreatDoorKFnExactDropEntry4
import Derived.Test.YteagahcbffgjpaaGreatDoorKFnExactDropEntry3
namespace Go.Proofs.YteagahcbffgjpaaGreatDoor.G
open Go.RowKit Go.Proofs.YteagahcbffgjpaaGreatDoorW.PrintWords Go.Proofs.YteagahcbffgjpaaGreatDoorW.PrintLast Go.Proofs.YteagahcbffgjpaaGreatDoorW.PrintMore
open Go.Proofs.YteagahcbffgjpaaGreatDoor.Gl Go.Proofs.YteagahcbffgjpaaGreatDoor.Ext
attribute [local go_sem] max2_int min2_int max_two min_two max_three min_three max_four min_four   -- for this text's walks alone
set_option linter.unusedVariables false
set_option linter.unusedSimpArgs false
def laws_heldEntryS.l0:Nat→List (S42)→Int→Int→Option (Int)
 | 0,_,_,_=>none
 | k+1,x0,x1,x5=>if x5<(x0.length:Int) then (if 0≤x5 then ((laws_markText.f k x1).bind fun a3S=>(if ((rd_T42 x0 x5).f0).toList=a3S.toList then (if ((rd_T42 x0 x5).f1)=(wrap64 (x1+1)) then ((laws_heldNameS.f k ((rd_T42 x0 x5).f2) (wrap64 ((wrap64 (x1+1))+1))).bind fun Jc=>(if Jc<0 then (some (-1)) else ((laws_heldNameS.f k ((rd_T42 x0 x5).f3) Jc).bind fun dP=>(if dP<0 then (some (-1)) else ((laws_markText.f k dP).bind fun a3T=>(if ((rd_T42 x0 x5).f4).toList=a3T.toList then ((laws_markText.f k (wrap64 (dP+1))).bind fun a3U=>(if ((rd_T42 x0 x5).f5).toList=a3U.toList then ((laws_markText.f k (wrap64 ((wrap64 (dP+1))+1))).bind fun a3V=>(if ((rd_T42 x0 x5).f6).toList=a3V.toList then (if ((rd_T42 x0 x5).f7.f0)=(wrap64 ((wrap64 ((wrap64 (dP+1))+1))+1)) then (if ((rd_T42 x0 x5).f7.f1)=(wrap64 ((wrap64 ((wrap64 ((wrap64 (dP+1))+1))+1))+1)) then (if ((rd_T42 x0 x5).f7.f2)=(wrap64 ((wrap64 ((wrap64 ((wrap64 ((wrap64 (dP+1))+1))+1))+1))+1)) then (if (((rd_T42 x0 x5).f7.f3) != ((Int.tmod (wrap64 ((wrap64 ((wrap64 ((wrap64 ((wrap64 ((wrap64 (dP+1))+1))+1))+1))+1))+1)) 3) == 0))=true then (some (-1)) else (if ((rd_T42 x0 x5).f8)=(wrap64 ((wrap64 ((wrap64 ((wrap64 ((wrap64 ((wrap64 ((wrap64 (dP+1))+1))+1))+1))+1))+1))+1)) then ((laws_markText.f k (wrap64 ((wrap64 ((wrap64 ((wrap64 ((wrap64 ((wrap64 ((wrap64 ((wrap64 (dP+1))+1))+1))+1))+1))+1))+1))+1))).bind fun a3W=>(if ((rd_T42 x0 x5).f9).toList=a3W.toList then ((laws_markText.f k (wrap64 ((wrap64 ((wrap64 ((wrap64 ((wrap64 ((wrap64 ((wrap64 ((wrap64 ((wrap64 (dP+1))+1))+1))+1))+1))+1))+1))+1))+1))).bind fun Pv=>(if ((rd_T42 x0 x5).f10).toList=Pv.toList then (laws_heldEntryS.l0 k x0 (wrap64 ((wrap64 ((wrap64 ((wrap64 ((wrap64 ((wrap64 ((wrap64 ((wrap64 ((wrap64 ((wrap64 (dP+1))+1))+1))+1))+1))+1))+1))+1))+1))+1)) (wrap64 (x5+1))) else (some (-1)))) else (some (-1)))) else (some (-1)))) else (some (-1))) else (some (-1))) else (some (-1))) else (some (-1)))) else (some (-1)))) else (some (-1)))))))) else (some (-1))) else (some (-1)))) else (none)) else (some x1)
def laws_heldEntryS.f (k:Nat) (l0:List (S42)) (a1:Int):Option (Int):=laws_heldEntryS.l0 k l0 a1 0
theorem laws_heldEntryS.mono_l:∀ k,(∀ y0 y1 y2,LeO (laws_heldEntryS.l0 k y0 y1 y2) (laws_heldEntryS.l0 (k+1) y0 y1 y2))
 | 0=>fun _ _ _ r h=>by simp [laws_heldEntryS.l0] at h
 | k+1=>by
  have ih0:=laws_heldEntryS.mono_l k
  ·
   intro y0 y1 y2;unfold laws_heldEntryS.l0
   repeat' first
   | (with_reducible exact ih0 _ _ _)
   | (with_reducible exact laws_heldNameS.mono _ _ _)
   | (with_reducible exact laws_markText.mono _ _)
   | (with_reducible exact LeO.refl _)
   | (with_reducible exact LeO.none _)
   | (with_reducible refine LeO.ite ?_ ?_)
   | (with_reducible refine LeO.bind ?_ (fun _=>?_))
   | exact ih0 _ _ _
   | exact laws_heldNameS.mono _ _ _
   | exact laws_markText.mono _ _
   | exact LeO.none _
   | refine LeO.ite ?_ ?_
   | refine LeO.bind ?_ (fun _=>?_)
theorem laws_heldEntryS.mono:∀ a0 a1 k,LeO (laws_heldEntryS.f k a0 a1) (laws_heldEntryS.f (k+1) a0 a1):=by
 intro a0 a1 k;have ih0:=laws_heldEntryS.mono_l k;unfold laws_heldEntryS.f
 repeat' first
   | (with_reducible exact ih0 _ _ _)
   | (with_reducible exact laws_heldNameS.mono _ _ _)
   | (with_reducible exact laws_markText.mono _ _)
   | (with_reducible exact LeO.refl _)
   | (with_reducible exact LeO.none _)
   | (with_reducible refine LeO.ite ?_ ?_)
   | (with_reducible refine LeO.bind ?_ (fun _=>?_))
   | exact ih0 _ _ _
   | exact laws_heldNameS.mono _ _ _
   | exact laws_markText.mono _ _
   | exact LeO.none _
   | refine LeO.ite ?_ ?_
   | refine LeO.bind ?_ (fun _=>?_)
def laws_heldEntryS.T4:Bool × List (List Nat × List Nat):=(true,[([],[]),([],[]),([0,1],[0,1]),([2],[2]),([3],[3]),([],[]),([5],[5]),([4,6],[4,6])])
def laws_heldEntryS.B4:List Nat:=[0,0,3,7,15,0,32,127]
theorem laws_heldEntryS.tab4:rtab .any (opsOf Tryz.f21 4)=laws_heldEntryS.T4:=by kernel_rfl
theorem laws_heldEntryS.bits4:waitsOk laws_heldEntryS.T4.2 laws_heldEntryS.B4=true:=by kernel_rfl
def laws_heldEntryS.T16:Bool × List (List Nat × List Nat):=(true,[([],[]),([],[]),([0,1],[0,1]),([2],[2]),([3],[3]),([],[]),([5],[5]),([4,6],[4,6])])
def laws_heldEntryS.B16:List Nat:=[0,0,3,7,15,0,32,127]
theorem laws_heldEntryS.tab16:rtab .any (opsOf Tryz.f21 16)=laws_heldEntryS.T16:=by kernel_rfl
theorem laws_heldEntryS.bits16:waitsOk laws_heldEntryS.T16.2 laws_heldEntryS.B16=true:=by kernel_rfl
def laws_heldEntryS.T19:Bool × List (List Nat × List Nat):=(true,[([],[]),([],[]),([0,1],[0,1]),([2],[2]),([3],[3]),([],[]),([5],[5]),([4,6],[4,6])])
def laws_heldEntryS.B19:List Nat:=[0,0,3,7,15,0,32,127]
theorem laws_heldEntryS.tab19:rtab .any (opsOf Tryz.f21 19)=laws_heldEntryS.T19:=by kernel_rfl
theorem laws_heldEntryS.bits19:waitsOk laws_heldEntryS.T19.2 laws_heldEntryS.B19=true:=by kernel_rfl
def laws_heldEntryS.T22:Bool × List (List Nat × List Nat):=(true,[([],[]),([],[]),([0,1],[0,1]),([2],[2]),([3],[3]),([],[]),([5],[5]),([4,6],[4,6])])
def laws_heldEntryS.B22:List Nat:=[0,0,3,7,15,0,32,127]
theorem laws_heldEntryS.tab22:rtab .any (opsOf Tryz.f21 22)=laws_heldEntryS.T22:=by kernel_rfl
theorem laws_heldEntryS.bits22:waitsOk laws_heldEntryS.T22.2 laws_heldEntryS.B22=true:=by kernel_rfl
def laws_heldEntryS.T40:Bool × List (List Nat × List Nat):=(true,[([],[]),([],[]),([0,1],[0,1]),([2],[2]),([3],[3]),([],[]),([5],[5]),([4,6],[4,6])])
def laws_heldEntryS.B40:List Nat:=[0,0,3,7,15,0,32,127]
theorem laws_heldEntryS.tab40:rtab .any (opsOf Tryz.f21 40)=laws_heldEntryS.T40:=by kernel_rfl
theorem laws_heldEntryS.bits40:waitsOk laws_heldEntryS.T40.2 laws_heldEntryS.B40=true:=by kernel_rfl
def laws_heldEntryS.T43:Bool × List (List Nat × List Nat):=(true,[([],[]),([],[]),([0,1],[0,1]),([2],[2]),([3],[3]),([],[]),([5],[5]),([4,6],[4,6])])
def laws_heldEntryS.B43:List Nat:=[0,0,3,7,15,0,32,127]
theorem laws_heldEntryS.tab43:rtab .any (opsOf Tryz.f21 43)=laws_heldEntryS.T43:=by kernel_rfl
theorem laws_heldEntryS.bits43:waitsOk laws_heldEntryS.T43.2 laws_heldEntryS.B43=true:=by kernel_rfl
set_option maxRecDepth 100000 in
theorem laws_heldEntryS.L0 {P:Prop} (h:P:=by
  try go_wp2
  replace HB:=am (below_drew1 HB.out);have a9Q:0≤(aC:Int):=od au87;have a9R:aC<(l0.length:Int):=od au87;obtain ⟨aK,awU,awV,awW,awX,aHU,G0,G1,G2,G3,G4,G5,G6,G7,G8,G9,Cj,Ck,Cl,Cm,UM,UN,UO,UP⟩:=at_T42 cW.out aC a9Q a9R;have Pw:=Cm;have Px:=Cl;have Py:=Ck;have Pz:=Cj;have UQ:=G9;have UR:=G8;have US:=G7;have UT:=G6;have UU:=G5;have UV:=G4;have iR:=G3;have iT:=G2;have UW:=G1;have UX:=G0
  cases aHU
  replace G0:=bcl HB.out G0;replace G1:=bcl HB.out G1;replace G2:=bcl HB.out G2;replace G3:=bcl HB.out G3;replace G4:=bcl HB.out G4;replace G5:=bcl HB.out G5;replace G6:=bcl HB.out G6;replace G7:=bcl HB.out G7;replace G8:=bcl HB.out G8;replace G9:=bcl HB.out G9;replace Cj:=bcl HB.out Cj;replace Ck:=bcl HB.out Ck;replace Cl:=bcl HB.out Cl;replace Cm:=bcl HB.out Cm;have akR:=am UN;have aPa:=am UM;clear UN UM;have akS:=am UP;have aPb:=am UO;clear UP UO;replace a9Q:=eq_true a9Q;replace a9R:=eq_true a9R;refine start_ (n:=8) (S:=fun w'=>w'.cell? (aK.add ((aC).toNat*14))=some (.string ((rd_T42 l0 aC).f0))∧w'.cell? ⟨(aK.add ((aC).toNat*14)).block,(aK.add ((aC).toNat*14)).off+1,none⟩=some (.int .i64 ((rd_T42 l0 aC).f1))∧w'.cell? ⟨(aK.add ((aC).toNat*14)).block,(aK.add ((aC).toNat*14)).off+2,none⟩=some (.slice awU ((rd_T42 l0 aC).f2).length awV)∧w'.cell? ⟨(aK.add ((aC).toNat*14)).block,(aK.add ((aC).toNat*14)).off+3,none⟩=some (.slice awW ((rd_T42 l0 aC).f3).length awX)∧w'.cell? ⟨(aK.add ((aC).toNat*14)).block,(aK.add ((aC).toNat*14)).off+4,none⟩=some (.string ((rd_T42 l0 aC).f4))∧w'.cell? ⟨(aK.add ((aC).toNat*14)).block,(aK.add ((aC).toNat*14)).off+5,none⟩=some (.string ((rd_T42 l0 aC).f5))∧w'.cell? ⟨(aK.add ((aC).toNat*14)).block,(aK.add ((aC).toNat*14)).off+6,none⟩=some (.string ((rd_T42 l0 aC).f6))∧w'.cell? ⟨(aK.add ((aC).toNat*14)).block,(aK.add ((aC).toNat*14)).off+7,none⟩=some (.int .i64 ((rd_T42 l0 aC).f7.f0))∧w'.cell? ⟨(aK.add ((aC).toNat*14)).block,(aK.add ((aC).toNat*14)).off+8,none⟩=some (.int .i64 ((rd_T42 l0 aC).f7.f1))∧w'.cell? ⟨(aK.add ((aC).toNat*14)).block,(aK.add ((aC).toNat*14)).off+9,none⟩=some (.int .i64 ((rd_T42 l0 aC).f7.f2))∧w'.cell? ⟨(aK.add ((aC).toNat*14)).block,(aK.add ((aC).toNat*14)).off+10,none⟩=some (.bool ((rd_T42 l0 aC).f7.f3))∧w'.cell? ⟨(aK.add ((aC).toNat*14)).block,(aK.add ((aC).toNat*14)).off+11,none⟩=some (.int .i64 ((rd_T42 l0 aC).f8))∧w'.cell? ⟨(aK.add ((aC).toNat*14)).block,(aK.add ((aC).toNat*14)).off+12,none⟩=some (.string ((rd_T42 l0 aC).f9))∧w'.cell? ⟨(aK.add ((aC).toNat*14)).block,(aK.add ((aC).toNat*14)).off+13,none⟩=some (.string ((rd_T42 l0 aC).f10))) (ds:=[]) #[false,false,false,false,false,false,false,false] (by kernel_rfl) rfl rfl ⟨(bcl HB.out UX),(bcl HB.out UW),(bcl HB.out iT),(bcl HB.out iR),(bcl HB.out UV),(bcl HB.out UU),(bcl HB.out UT),(bcl HB.out US),(bcl HB.out UR),(bcl HB.out UQ),(bcl HB.out Pz),(bcl HB.out Py),(bcl HB.out Px),(bcl HB.out Pw)⟩ (fun hHeld=>?_);refine with_tabW laws_heldEntryS.tab4 laws_heldEntryS.bits4 (fun HT_ HW_=>?_);generalize wr.drew=w44 at HB akR akS G0 G1 Cj Ck Cl Cm G2 G3 G4 G5 G6 G7 G8 G9 hHeld ⊢;refine pu_ 0 (some 12) #[true,false,false,false,false,false,false,false] HT_.out ?_;refine pu_ 1 (some 13) #[true,true,false,false,false,false,false,false] HT_.out ?_;refine pu_ 2 (some 14) #[true,true,true,false,false,false,false,false] HT_.out ?_;refine pu_ 3 (some 15) #[true,true,true,true,false,false,false,false] HT_.out ?_;refine pu_ 5 (some 17) #[true,true,true,true,false,true,false,false] HT_.out ?_;refine ta0_ 4 (some 16) #[true,true,true,true,true,true,false,false] HT_.out HW_.out hHeld ?_;refine on_ 6 (some 18) #[true,true,true,true,true,true,true,false] HT_.out (fun K hK=>?_);refine gs_ Tryz.func32 #[.int .i64 cL] ?_
  with_reducible refine (laws_markText.calls k1 cL a3S _ A5.out).mono ?_
  rintro e w45 ⟨rfl,hb⟩;refine ⟨_,rfl,?_⟩;replace HB:=am (below_step au46 hb)
  (try clear hb)
  refine hK.out _ _ ⟨(bcl HB.out UX),(bcl HB.out UW),(bcl HB.out iT),(bcl HB.out iR),(bcl HB.out UV),(bcl HB.out UU),(bcl HB.out UT),(bcl HB.out US),(bcl HB.out UR),(bcl HB.out UQ),(bcl HB.out Pz),(bcl HB.out Py),(bcl HB.out Px),(bcl HB.out Pw)⟩ (fun hHeld=>?_);clear hK K;refine no_ (some 18) ?_;refine pu_ 7 (some 19) #[true,true,true,true,true,true,true,true] HT_.out ?_;refine done_ (done_of HT_.out (by kernel_rfl)) ?_;have a9S:0≤(aC:Int):=od au87;have a9T:aC<(l0.length:Int):=od au87;obtain ⟨aDR,awY,awZ,aTB,aTC,aHV,UY,UZ,Ga,Gb,V0,V1,V2,V3,V4,V5,PC,PD,PE,PF,V6,V7,V8,V9⟩:=at_T42 cW.out aC a9S a9T
  obtain rfl:aK=aDR:=(by injection aHV)
  replace UY:=bcl HB.out UY;replace UZ:=bcl HB.out UZ;replace Ga:=bcl HB.out Ga;replace Gb:=bcl HB.out Gb;replace V0:=bcl HB.out V0;replace V1:=bcl HB.out V1;replace V2:=bcl HB.out V2;replace V3:=bcl HB.out V3;replace V4:=bcl HB.out V4;replace V5:=bcl HB.out V5;replace PC:=bcl HB.out PC;replace PD:=bcl HB.out PD;replace PE:=bcl HB.out PE;replace PF:=bcl HB.out PF;have aPc:=am V7;have aPd:=am V6;clear V7 V6;have aPe:=am V9;have aPf:=am V8;clear V9 V8;replace a9S:=eq_true a9S;replace a9T:=eq_true a9T;have a9U:0≤(aC:Int):=od au87;have a9V:aC<(l0.length:Int):=od au87;obtain ⟨aDS,aTD,aTE,aTF,aTG,aHW,Va,Vb,LJ,LK,Vd,Ve,Vf,Vg,Vh,Vi,PH,PI,PK,PL,Vj,Vk,Vl,Vm⟩:=at_T42 cW.out aC a9U a9V
  obtain rfl:aK=aDS:=(by injection aHW)
  replace Va:=bcl HB.out Va;replace Vb:=bcl HB.out Vb;replace LJ:=bcl HB.out LJ;replace LK:=bcl HB.out LK;replace Vd:=bcl HB.out Vd;replace Ve:=bcl HB.out Ve;replace Vf:=bcl HB.out Vf;replace Vg:=bcl HB.out Vg;replace Vh:=bcl HB.out Vh;replace Vi:=bcl HB.out Vi;replace PH:=bcl HB.out PH;replace PI:=bcl HB.out PI;replace PK:=bcl HB.out PK;replace PL:=bcl HB.out PL;have akT:=am Vk;have akU:=am Vj;clear Vk Vj;have aPg:=am Vm;have aPh:=am Vl;clear Vm Vl;replace a9U:=eq_true a9U;replace a9V:=eq_true a9V
  (try (have ea_:=ojz (Ga.symm.trans (bcl HB.out iT));injection ea_ with ea_ en_ ec_;subst ea_;subst ec_;clear en_))
  (try (have ea_:=ojz (Gb.symm.trans (bcl HB.out iR));injection ea_ with ea_ en_ ec_;subst ea_;subst ec_;clear en_))
  (try (have ea_:=ojz (Ga.symm.trans LJ);injection ea_ with ea_ en_ ec_;subst ea_;subst ec_;clear en_))
  (try (have ea_:=ojz (Gb.symm.trans LK);injection ea_ with ea_ en_ ec_;subst ea_;subst ec_;clear en_))
  try go_wp2_with (first|((with_reducible refine gate_callee (f:=34) rfl ?_);refine goesL_ (some 37) rfl rfl Tryz.func34 (by kernel_rfl) rfl #[.slice awY ((rd_T42 l0 aC).f2).length awZ,.int .i64 (wrap64 ((wrap64 (cL+1))+1))] rfl au45 ?_;(with_reducible refine (laws_heldNameS.calls k1 _ _ ((rd_T42 l0 aC).f2) (wrap64 ((wrap64 (cL+1))+1)) Jc _ ?aU ?aV A8.out).mono ?_);(case aU=>repeat (first|exact (Kd.C_below akT.out HB.out)|(with_reducible refine Kd.C_alloc ?_ _)|(with_reducible refine Kd.C_drewN ?_ _)|(with_reducible refine Kd.C_drew ?_)));(case aV=>exact akU.out);rintro e w46 ⟨rfl,hb⟩;refine ⟨_,rfl,?_⟩;replace HB:=am (below_step au46 hb);(try clear hb);have a9W:0≤(aC:Int):=od au87;have a9X:aC<(l0.length:Int):=od au87;obtain ⟨aDT,aTH,aTI,axA,axB,aHX,Vn,Vo,Vp,Vq,Vr,Vs,Vt,Vu,Vv,Vw,PM,PN,PO,PP,Vx,Vy,Vz,VA⟩:=at_T42 cW.out aC a9W a9X;obtain rfl:aK=aDT:=(by injection aHX);replace Vn:=bcl HB.out Vn;replace Vo:=bcl HB.out Vo;replace Vp:=bcl HB.out Vp;replace Vq:=bcl HB.out Vq;replace Vr:=bcl HB.out Vr;replace Vs:=bcl HB.out Vs;replace Vt:=bcl HB.out Vt;replace Vu:=bcl HB.out Vu;replace Vv:=bcl HB.out Vv;replace Vw:=bcl HB.out Vw;replace PM:=bcl HB.out PM;replace PN:=bcl HB.out PN;replace PO:=bcl HB.out PO;replace PP:=bcl HB.out PP;have aPi:=am Vy;have aPj:=am Vx;clear Vy Vx;have akV:=am VA;have akW:=am Vz;clear VA Vz;replace a9W:=eq_true a9W;replace a9X:=eq_true a9X)|((with_reducible refine gate_callee (f:=34) rfl ?_);refine goesL_ (some 46) rfl rfl Tryz.func34 (by kernel_rfl) rfl #[.slice axA ((rd_T42 l0 aC).f3).length axB,.int .i64 Jc] rfl au45 ?_;(with_reducible refine (laws_heldNameS.calls k1 _ _ ((rd_T42 l0 aC).f3) Jc dP _ ?aU ?aV Kf.out).mono ?_);(case aU=>repeat (first|exact (Kd.C_below akV.out HB.out)|(with_reducible refine Kd.C_alloc ?_ _)|(with_reducible refine Kd.C_drewN ?_ _)|(with_reducible refine Kd.C_drew ?_)));(case aV=>exact akW.out);rintro e w47 ⟨rfl,hb⟩;refine ⟨_,rfl,?_⟩;replace HB:=am (below_step au46 hb);(try clear hb)))
  replace HB:=am (below_drew1 HB.out);have a9Y:0≤(aC:Int):=od au87;have a9Z:aC<(l0.length:Int):=od au87;obtain ⟨aDU,axC,axD,axE,axF,aHY,Gc,Gd,yR,yS,Ge,Gf,Gg,Gh,Gi,Gj,Cn,Co,Cp,Cq,VB,VC,VD,VE⟩:=at_T42 cW.out aC a9Y a9Z;have PQ:=Cq;have PR:=Cp;have PS:=Co;have PT:=Cn;have VF:=Gj;have VG:=Gi;have VH:=Gh;have VI:=Gg;have VJ:=Gf;have VK:=Ge;have VL:=yS;have VM:=yR;have VN:=Gd;have VO:=Gc
  obtain rfl:aK=aDU:=(by injection aHY)
  replace Gc:=bcl HB.out Gc;replace Gd:=bcl HB.out Gd;replace yR:=bcl HB.out yR;replace yS:=bcl HB.out yS;replace Ge:=bcl HB.out Ge;replace Gf:=bcl HB.out Gf;replace Gg:=bcl HB.out Gg;replace Gh:=bcl HB.out Gh;replace Gi:=bcl HB.out Gi;replace Gj:=bcl HB.out Gj;replace Cn:=bcl HB.out Cn;replace Co:=bcl HB.out Co;replace Cp:=bcl HB.out Cp;replace Cq:=bcl HB.out Cq;have akX:=am VC;have aPk:=am VB;clear VC VB;have akY:=am VE;have aPl:=am VD;clear VE VD;replace a9Y:=eq_true a9Y;replace a9Z:=eq_true a9Z
  (try (have ea_:=ojz (yR.symm.trans (bcl HB.out iT));injection ea_ with ea_ en_ ec_;subst ea_;subst ec_;clear en_))
  (try (have ea_:=ojz (yS.symm.trans (bcl HB.out iR));injection ea_ with ea_ en_ ec_;subst ea_;subst ec_;clear en_))
  refine start_ (n:=8) (S:=fun w'=>w'.cell? (aK.add ((aC).toNat*14))=some (.string ((rd_T42 l0 aC).f0))∧w'.cell? ⟨(aK.add ((aC).toNat*14)).block,(aK.add ((aC).toNat*14)).off+1,none⟩=some (.int .i64 ((rd_T42 l0 aC).f1))∧w'.cell? ⟨(aK.add ((aC).toNat*14)).block,(aK.add ((aC).toNat*14)).off+2,none⟩=some (.slice axC ((rd_T42 l0 aC).f2).length axD)∧w'.cell? ⟨(aK.add ((aC).toNat*14)).block,(aK.add ((aC).toNat*14)).off+3,none⟩=some (.slice axE ((rd_T42 l0 aC).f3).length axF)∧w'.cell? ⟨(aK.add ((aC).toNat*14)).block,(aK.add ((aC).toNat*14)).off+4,none⟩=some (.string ((rd_T42 l0 aC).f4))∧w'.cell? ⟨(aK.add ((aC).toNat*14)).block,(aK.add ((aC).toNat*14)).off+5,none⟩=some (.string ((rd_T42 l0 aC).f5))∧w'.cell? ⟨(aK.add ((aC).toNat*14)).block,(aK.add ((aC).toNat*14)).off+6,none⟩=some (.string ((rd_T42 l0 aC).f6))∧w'.cell? ⟨(aK.add ((aC).toNat*14)).block,(aK.add ((aC).toNat*14)).off+7,none⟩=some (.int .i64 ((rd_T42 l0 aC).f7.f0))∧w'.cell? ⟨(aK.add ((aC).toNat*14)).block,(aK.add ((aC).toNat*14)).off+8,none⟩=some (.int .i64 ((rd_T42 l0 aC).f7.f1))∧w'.cell? ⟨(aK.add ((aC).toNat*14)).block,(aK.add ((aC).toNat*14)).off+9,none⟩=some (.int .i64 ((rd_T42 l0 aC).f7.f2))∧w'.cell? ⟨(aK.add ((aC).toNat*14)).block,(aK.add ((aC).toNat*14)).off+10,none⟩=some (.bool ((rd_T42 l0 aC).f7.f3))∧w'.cell? ⟨(aK.add ((aC).toNat*14)).block,(aK.add ((aC).toNat*14)).off+11,none⟩=some (.int .i64 ((rd_T42 l0 aC).f8))∧w'.cell? ⟨(aK.add ((aC).toNat*14)).block,(aK.add ((aC).toNat*14)).off+12,none⟩=some (.string ((rd_T42 l0 aC).f9))∧w'.cell? ⟨(aK.add ((aC).toNat*14)).block,(aK.add ((aC).toNat*14)).off+13,none⟩=some (.string ((rd_T42 l0 aC).f10))) (ds:=[]) #[false,false,false,false,false,false,false,false] (by kernel_rfl) rfl rfl ⟨(bcl HB.out VO),(bcl HB.out VN),(bcl HB.out VM),(bcl HB.out VL),(bcl HB.out VK),(bcl HB.out VJ),(bcl HB.out VI),(bcl HB.out VH),(bcl HB.out VG),(bcl HB.out VF),(bcl HB.out PT),(bcl HB.out PS),(bcl HB.out PR),(bcl HB.out PQ)⟩ (fun hHeld=>?_);refine with_tabW laws_heldEntryS.tab16 laws_heldEntryS.bits16 (fun HT_ HW_=>?_);generalize w47.drew=w48 at HB akX akY Gc Gd Cn Co Cp Cq yR yS Ge Gf Gg Gh Gi Gj hHeld ⊢;refine pu_ 0 (some 49) #[true,false,false,false,false,false,false,false] HT_.out ?_;refine pu_ 1 (some 50) #[true,true,false,false,false,false,false,false] HT_.out ?_;refine pu_ 2 (some 51) #[true,true,true,false,false,false,false,false] HT_.out ?_;refine pu_ 3 (some 52) #[true,true,true,true,false,false,false,false] HT_.out ?_;refine pu_ 5 (some 54) #[true,true,true,true,false,true,false,false] HT_.out ?_;refine ta0_ 4 (some 53) #[true,true,true,true,true,true,false,false] HT_.out HW_.out hHeld ?_;refine on_ 6 (some 55) #[true,true,true,true,true,true,true,false] HT_.out (fun K hK=>?_);refine gs_ Tryz.func32 #[.int .i64 dP] ?_
  with_reducible refine (laws_markText.calls k1 dP a3T _ A19.out).mono ?_
  rintro e w49 ⟨rfl,hb⟩;refine ⟨_,rfl,?_⟩;replace HB:=am (below_step au46 hb)
  (try clear hb)
  refine hK.out _ _ ⟨(bcl HB.out VO),(bcl HB.out VN),(bcl HB.out VM),(bcl HB.out VL),(bcl HB.out VK),(bcl HB.out VJ),(bcl HB.out VI),(bcl HB.out VH),(bcl HB.out VG),(bcl HB.out VF),(bcl HB.out PT),(bcl HB.out PS),(bcl HB.out PR),(bcl HB.out PQ)⟩ (fun hHeld=>?_);clear hK K;refine no_ (some 55) ?_;refine pu_ 7 (some 56) #[true,true,true,true,true,true,true,true] HT_.out ?_;refine done_ (done_of HT_.out (by kernel_rfl)) ?_
  try go_wp2
  replace HB:=am (below_drew1 HB.out);have aaA:0≤(aC:Int):=od au87;have aaB:aC<(l0.length:Int):=od au87;obtain ⟨aDV,axG,axH,axI,axJ,aHZ,Gk,Gm,yT,yU,Gn,Gp,Gq,Gr,Gs,Gt,Cr,Cs,Ct,Cu,VP,VQ,VR,VS⟩:=at_T42 cW.out aC aaA aaB;have PU:=Cu;have PV:=Ct;have PW:=Cs;have PX:=Cr;have VT:=Gt;have VU:=Gs;have VV:=Gr;have VW:=Gq;have VX:=Gp;have VY:=Gn;have VZ:=yU;have W0:=yT;have W3:=Gm;have W4:=Gk
  obtain rfl:aK=aDV:=(by injection aHZ)
  replace Gk:=bcl HB.out Gk;replace Gm:=bcl HB.out Gm;replace yT:=bcl HB.out yT;replace yU:=bcl HB.out yU;replace Gn:=bcl HB.out Gn;replace Gp:=bcl HB.out Gp;replace Gq:=bcl HB.out Gq;replace Gr:=bcl HB.out Gr;replace Gs:=bcl HB.out Gs;replace Gt:=bcl HB.out Gt;replace Cr:=bcl HB.out Cr;replace Cs:=bcl HB.out Cs;replace Ct:=bcl HB.out Ct;replace Cu:=bcl HB.out Cu;have akZ:=am VQ;have aPm:=am VP;clear VQ VP;have alA:=am VS;have aPn:=am VR;clear VS VR;replace aaA:=eq_true aaA;replace aaB:=eq_true aaB
  (try (have ea_:=ojz (yT.symm.trans (bcl HB.out iT));injection ea_ with ea_ en_ ec_;subst ea_;subst ec_;clear en_))
  (try (have ea_:=ojz (yU.symm.trans (bcl HB.out iR));injection ea_ with ea_ en_ ec_;subst ea_;subst ec_;clear en_))
  refine start_ (n:=8) (S:=fun w'=>w'.cell? (aK.add ((aC).toNat*14))=some (.string ((rd_T42 l0 aC).f0))∧w'.cell? ⟨(aK.add ((aC).toNat*14)).block,(aK.add ((aC).toNat*14)).off+1,none⟩=some (.int .i64 ((rd_T42 l0 aC).f1))∧w'.cell? ⟨(aK.add ((aC).toNat*14)).block,(aK.add ((aC).toNat*14)).off+2,none⟩=some (.slice axG ((rd_T42 l0 aC).f2).length axH)∧w'.cell? ⟨(aK.add ((aC).toNat*14)).block,(aK.add ((aC).toNat*14)).off+3,none⟩=some (.slice axI ((rd_T42 l0 aC).f3).length axJ)∧w'.cell? ⟨(aK.add ((aC).toNat*14)).block,(aK.add ((aC).toNat*14)).off+4,none⟩=some (.string ((rd_T42 l0 aC).f4))∧w'.cell? ⟨(aK.add ((aC).toNat*14)).block,(aK.add ((aC).toNat*14)).off+5,none⟩=some (.string ((rd_T42 l0 aC).f5))∧w'.cell? ⟨(aK.add ((aC).toNat*14)).block,(aK.add ((aC).toNat*14)).off+6,none⟩=some (.string ((rd_T42 l0 aC).f6))∧w'.cell? ⟨(aK.add ((aC).toNat*14)).block,(aK.add ((aC).toNat*14)).off+7,none⟩=some (.int .i64 ((rd_T42 l0 aC).f7.f0))∧w'.cell? ⟨(aK.add ((aC).toNat*14)).block,(aK.add ((aC).toNat*14)).off+8,none⟩=some (.int .i64 ((rd_T42 l0 aC).f7.f1))∧w'.cell? ⟨(aK.add ((aC).toNat*14)).block,(aK.add ((aC).toNat*14)).off+9,none⟩=some (.int .i64 ((rd_T42 l0 aC).f7.f2))∧w'.cell? ⟨(aK.add ((aC).toNat*14)).block,(aK.add ((aC).toNat*14)).off+10,none⟩=some (.bool ((rd_T42 l0 aC).f7.f3))∧w'.cell? ⟨(aK.add ((aC).toNat*14)).block,(aK.add ((aC).toNat*14)).off+11,none⟩=some (.int .i64 ((rd_T42 l0 aC).f8))∧w'.cell? ⟨(aK.add ((aC).toNat*14)).block,(aK.add ((aC).toNat*14)).off+12,none⟩=some (.string ((rd_T42 l0 aC).f9))∧w'.cell? ⟨(aK.add ((aC).toNat*14)).block,(aK.add ((aC).toNat*14)).off+13,none⟩=some (.string ((rd_T42 l0 aC).f10))) (ds:=[]) #[false,false,false,false,false,false,false,false] (by kernel_rfl) rfl rfl ⟨(bcl HB.out W4),(bcl HB.out W3),(bcl HB.out W0),(bcl HB.out VZ),(bcl HB.out VY),(bcl HB.out VX),(bcl HB.out VW),(bcl HB.out VV),(bcl HB.out VU),(bcl HB.out VT),(bcl HB.out PX),(bcl HB.out PW),(bcl HB.out PV),(bcl HB.out PU)⟩ (fun hHeld=>?_);refine with_tabW laws_heldEntryS.tab19 laws_heldEntryS.bits19 (fun HT_ HW_=>?_);generalize w49.drew=w50 at HB akZ alA Gk Gm Cr Cs Ct Cu yT yU Gn Gp Gq Gr Gs Gt hHeld ⊢;refine pu_ 0 (some 59) #[true,false,false,false,false,false,false,false] HT_.out ?_;refine pu_ 1 (some 60) #[true,true,false,false,false,false,false,false] HT_.out ?_;refine pu_ 2 (some 61) #[true,true,true,false,false,false,false,false] HT_.out ?_;refine pu_ 3 (some 62) #[true,true,true,true,false,false,false,false] HT_.out ?_;refine pu_ 5 (some 64) #[true,true,true,true,false,true,false,false] HT_.out ?_;refine ta0_ 4 (some 63) #[true,true,true,true,true,true,false,false] HT_.out HW_.out hHeld ?_;refine on_ 6 (some 65) #[true,true,true,true,true,true,true,false] HT_.out (fun K hK=>?_);refine gs_ Tryz.func32 #[.int .i64 (wrap64 (dP+1))] ?_
  with_reducible refine (laws_markText.calls k1 (wrap64 (dP+1)) a3U _ xU.out).mono ?_
  rintro e w51 ⟨rfl,hb⟩;refine ⟨_,rfl,?_⟩;replace HB:=am (below_step au46 hb)
  (try clear hb)
  refine hK.out _ _ ⟨(bcl HB.out W4),(bcl HB.out W3),(bcl HB.out W0),(bcl HB.out VZ),(bcl HB.out VY),(bcl HB.out VX),(bcl HB.out VW),(bcl HB.out VV),(bcl HB.out VU),(bcl HB.out VT),(bcl HB.out PX),(bcl HB.out PW),(bcl HB.out PV),(bcl HB.out PU)⟩ (fun hHeld=>?_);clear hK K;refine no_ (some 65) ?_;refine pu_ 7 (some 66) #[true,true,true,true,true,true,true,true] HT_.out ?_;refine done_ (done_of HT_.out (by kernel_rfl)) ?_
  try go_wp2
  replace HB:=am (below_drew1 HB.out);have aaC:0≤(aC:Int):=od au87;have aaD:aC<(l0.length:Int):=od au87;obtain ⟨aDW,axK,axL,axM,axN,aI0,Gu,Gv,yV,yW,Gw,Gx,Gy,Gz,GA,GC,Cv,Cw,Cx,Cy,W5,W6,W7,W8⟩:=at_T42 cW.out aC aaC aaD;have PY:=Cy;have PZ:=Cx;have Q0:=Cw;have Q1:=Cv;have W9:=GC;have Wa:=GA;have Wb:=Gz;have Wc:=Gy;have Wd:=Gx;have We:=Gw;have Wg:=yW;have Wh:=yV;have Wi:=Gv;have Wj:=Gu
  obtain rfl:aK=aDW:=(by injection aI0)
  replace Gu:=bcl HB.out Gu;replace Gv:=bcl HB.out Gv;replace yV:=bcl HB.out yV;replace yW:=bcl HB.out yW;replace Gw:=bcl HB.out Gw;replace Gx:=bcl HB.out Gx;replace Gy:=bcl HB.out Gy;replace Gz:=bcl HB.out Gz;replace GA:=bcl HB.out GA;replace GC:=bcl HB.out GC;replace Cv:=bcl HB.out Cv;replace Cw:=bcl HB.out Cw;replace Cx:=bcl HB.out Cx;replace Cy:=bcl HB.out Cy;have alB:=am W6;have aPo:=am W5;clear W6 W5;have alC:=am W8;have aPp:=am W7;clear W8 W7;replace aaC:=eq_true aaC;replace aaD:=eq_true aaD
  (try (have ea_:=ojz (yV.symm.trans (bcl HB.out iT));injection ea_ with ea_ en_ ec_;subst ea_;subst ec_;clear en_))
  (try (have ea_:=ojz (yW.symm.trans (bcl HB.out iR));injection ea_ with ea_ en_ ec_;subst ea_;subst ec_;clear en_))
  refine start_ (n:=8) (S:=fun w'=>w'.cell? (aK.add ((aC).toNat*14))=some (.string ((rd_T42 l0 aC).f0))∧w'.cell? ⟨(aK.add ((aC).toNat*14)).block,(aK.add ((aC).toNat*14)).off+1,none⟩=some (.int .i64 ((rd_T42 l0 aC).f1))∧w'.cell? ⟨(aK.add ((aC).toNat*14)).block,(aK.add ((aC).toNat*14)).off+2,none⟩=some (.slice axK ((rd_T42 l0 aC).f2).length axL)∧w'.cell? ⟨(aK.add ((aC).toNat*14)).block,(aK.add ((aC).toNat*14)).off+3,none⟩=some (.slice axM ((rd_T42 l0 aC).f3).length axN)∧w'.cell? ⟨(aK.add ((aC).toNat*14)).block,(aK.add ((aC).toNat*14)).off+4,none⟩=some (.string ((rd_T42 l0 aC).f4))∧w'.cell? ⟨(aK.add ((aC).toNat*14)).block,(aK.add ((aC).toNat*14)).off+5,none⟩=some (.string ((rd_T42 l0 aC).f5))∧w'.cell? ⟨(aK.add ((aC).toNat*14)).block,(aK.add ((aC).toNat*14)).off+6,none⟩=some (.string ((rd_T42 l0 aC).f6))∧w'.cell? ⟨(aK.add ((aC).toNat*14)).block,(aK.add ((aC).toNat*14)).off+7,none⟩=some (.int .i64 ((rd_T42 l0 aC).f7.f0))∧w'.cell? ⟨(aK.add ((aC).toNat*14)).block,(aK.add ((aC).toNat*14)).off+8,none⟩=some (.int .i64 ((rd_T42 l0 aC).f7.f1))∧w'.cell? ⟨(aK.add ((aC).toNat*14)).block,(aK.add ((aC).toNat*14)).off+9,none⟩=some (.int .i64 ((rd_T42 l0 aC).f7.f2))∧w'.cell? ⟨(aK.add ((aC).toNat*14)).block,(aK.add ((aC).toNat*14)).off+10,none⟩=some (.bool ((rd_T42 l0 aC).f7.f3))∧w'.cell? ⟨(aK.add ((aC).toNat*14)).block,(aK.add ((aC).toNat*14)).off+11,none⟩=some (.int .i64 ((rd_T42 l0 aC).f8))∧w'.cell? ⟨(aK.add ((aC).toNat*14)).block,(aK.add ((aC).toNat*14)).off+12,none⟩=some (.string ((rd_T42 l0 aC).f9))∧w'.cell? ⟨(aK.add ((aC).toNat*14)).block,(aK.add ((aC).toNat*14)).off+13,none⟩=some (.string ((rd_T42 l0 aC).f10))) (ds:=[]) #[false,false,false,false,false,false,false,false] (by kernel_rfl) rfl rfl ⟨(bcl HB.out Wj),(bcl HB.out Wi),(bcl HB.out Wh),(bcl HB.out Wg),(bcl HB.out We),(bcl HB.out Wd),(bcl HB.out Wc),(bcl HB.out Wb),(bcl HB.out Wa),(bcl HB.out W9),(bcl HB.out Q1),(bcl HB.out Q0),(bcl HB.out PZ),(bcl HB.out PY)⟩ (fun hHeld=>?_);refine with_tabW laws_heldEntryS.tab22 laws_heldEntryS.bits22 (fun HT_ HW_=>?_);generalize w51.drew=w52 at HB alB alC Gu Gv Cv Cw Cx Cy yV yW Gw Gx Gy Gz GA GC hHeld ⊢;refine pu_ 0 (some 69) #[true,false,false,false,false,false,false,false] HT_.out ?_;refine pu_ 1 (some 70) #[true,true,false,false,false,false,false,false] HT_.out ?_;refine pu_ 2 (some 71) #[true,true,true,false,false,false,false,false] HT_.out ?_;refine pu_ 3 (some 72) #[true,true,true,true,false,false,false,false] HT_.out ?_;refine pu_ 5 (some 74) #[true,true,true,true,false,true,false,false] HT_.out ?_;refine ta0_ 4 (some 73) #[true,true,true,true,true,true,false,false] HT_.out HW_.out hHeld ?_;refine on_ 6 (some 75) #[true,true,true,true,true,true,true,false] HT_.out (fun K hK=>?_);refine gs_ Tryz.func32 #[.int .i64 (wrap64 ((wrap64 (dP+1))+1))] ?_
  with_reducible refine (laws_markText.calls k1 (wrap64 ((wrap64 (dP+1))+1)) a3V _ A23.out).mono ?_
  rintro e w53 ⟨rfl,hb⟩;refine ⟨_,rfl,?_⟩;replace HB:=am (below_step au46 hb)
  (try clear hb)
  refine hK.out _ _ ⟨(bcl HB.out Wj),(bcl HB.out Wi),(bcl HB.out Wh),(bcl HB.out Wg),(bcl HB.out We),(bcl HB.out Wd),(bcl HB.out Wc),(bcl HB.out Wb),(bcl HB.out Wa),(bcl HB.out W9),(bcl HB.out Q1),(bcl HB.out Q0),(bcl HB.out PZ),(bcl HB.out PY)⟩ (fun hHeld=>?_);clear hK K;refine no_ (some 75) ?_;refine pu_ 7 (some 76) #[true,true,true,true,true,true,true,true] HT_.out ?_;refine done_ (done_of HT_.out (by kernel_rfl)) ?_;have aaE:0≤(aC:Int):=od au87;have aaF:aC<(l0.length:Int):=od au87;obtain ⟨aDX,aTN,aTO,aTP,aTQ,aI1,Wk,Wl,pY,pZ,Wm,Wn,Wo,Wp,Wq,Wr,Q2,Q3,Q4,Q5,Ws,Wt,Wu,Wv⟩:=at_T42 cW.out aC aaE aaF
  obtain rfl:aK=aDX:=(by injection aI1)
  replace Wk:=bcl HB.out Wk;replace Wl:=bcl HB.out Wl;replace pY:=bcl HB.out pY;replace pZ:=bcl HB.out pZ;replace Wm:=bcl HB.out Wm;replace Wn:=bcl HB.out Wn;replace Wo:=bcl HB.out Wo;replace Wp:=bcl HB.out Wp;replace Wq:=bcl HB.out Wq;replace Wr:=bcl HB.out Wr;replace Q2:=bcl HB.out Q2;replace Q3:=bcl HB.out Q3;replace Q4:=bcl HB.out Q4;replace Q5:=bcl HB.out Q5;have aPq:=am Wt;have aPr:=am Ws;clear Wt Ws;have aPs:=am Wv;have aPt:=am Wu;clear Wv Wu;replace aaE:=eq_true aaE;replace aaF:=eq_true aaF;have aaG:0≤(aC:Int):=od au87;have aaH:aC<(l0.length:Int):=od au87;obtain ⟨aDY,aTR,aTS,aTT,aTU,aI2,Ww,Wx,LL,LM,Wy,Wz,WA,WB,WC,WE,Q6,Q7,Q8,Q9,WF,WG,WH,WI⟩:=at_T42 cW.out aC aaG aaH
  obtain rfl:aK=aDY:=(by injection aI2)
  replace Ww:=bcl HB.out Ww;replace Wx:=bcl HB.out Wx;replace LL:=bcl HB.out LL;replace LM:=bcl HB.out LM;replace Wy:=bcl HB.out Wy;replace Wz:=bcl HB.out Wz;replace WA:=bcl HB.out WA;replace WB:=bcl HB.out WB;replace WC:=bcl HB.out WC;replace WE:=bcl HB.out WE;replace Q6:=bcl HB.out Q6;replace Q7:=bcl HB.out Q7;replace Q8:=bcl HB.out Q8;replace Q9:=bcl HB.out Q9;have aPu:=am WG;have aPv:=am WF;clear WG WF;have aPw:=am WI;have aPx:=am WH;clear WI WH;replace aaG:=eq_true aaG;replace aaH:=eq_true aaH
  (try (have ea_:=ojz (pY.symm.trans (bcl HB.out iT));injection ea_ with ea_ en_ ec_;subst ea_;subst ec_;clear en_))
  (try (have ea_:=ojz (pZ.symm.trans (bcl HB.out iR));injection ea_ with ea_ en_ ec_;subst ea_;subst ec_;clear en_))
  (try (have ea_:=ojz (pY.symm.trans LL);injection ea_ with ea_ en_ ec_;subst ea_;subst ec_;clear en_))
  (try (have ea_:=ojz (pZ.symm.trans LM);injection ea_ with ea_ en_ ec_;subst ea_;subst ec_;clear en_))
  have aaI:0≤(aC:Int):=od au87;have aaJ:aC<(l0.length:Int):=od au87;obtain ⟨aDZ,aTV,aTW,aTX,aTY,aI3,WJ,WK,GD,GE,WL,WM,WN,WO,WP,WQ,Qa,Qb,Qc,Qd,WR,WS,WT,WU⟩:=at_T42 cW.out aC aaI aaJ
  obtain rfl:aK=aDZ:=(by injection aI3)
  replace WJ:=bcl HB.out WJ;replace WK:=bcl HB.out WK;replace GD:=bcl HB.out GD;replace GE:=bcl HB.out GE;replace WL:=bcl HB.out WL;replace WM:=bcl HB.out WM;replace WN:=bcl HB.out WN;replace WO:=bcl HB.out WO;replace WP:=bcl HB.out WP;replace WQ:=bcl HB.out WQ;replace Qa:=bcl HB.out Qa;replace Qb:=bcl HB.out Qb;replace Qc:=bcl HB.out Qc;replace Qd:=bcl HB.out Qd;have aPy:=am WS;have aPz:=am WR;clear WS WR;have aPA:=am WU;have aPB:=am WT;clear WU WT;replace aaI:=eq_true aaI;replace aaJ:=eq_true aaJ
  (try (have ea_:=ojz (GD.symm.trans (bcl HB.out iT));injection ea_ with ea_ en_ ec_;subst ea_;subst ec_;clear en_))
  (try (have ea_:=ojz (GE.symm.trans (bcl HB.out iR));injection ea_ with ea_ en_ ec_;subst ea_;subst ec_;clear en_))
  (try (have ea_:=ojz (pY.symm.trans GD);injection ea_ with ea_ en_ ec_;subst ea_;subst ec_;clear en_))
  (try (have ea_:=ojz (pZ.symm.trans GE);injection ea_ with ea_ en_ ec_;subst ea_;subst ec_;clear en_))
  have aaK:0≤(aC:Int):=od au87;have aaL:aC<(l0.length:Int):=od au87;obtain ⟨aE0,aTZ,aU0,aU1,aU2,aI4,WV,WW,GF,GG,WX,WY,WZ,X0,X1,X2,Qe,Qf,Qg,Qh,X3,X4,X5,X6⟩:=at_T42 cW.out aC aaK aaL
  obtain rfl:aK=aE0:=(by injection aI4)
  replace WV:=bcl HB.out WV;replace WW:=bcl HB.out WW;replace GF:=bcl HB.out GF;replace GG:=bcl HB.out GG;replace WX:=bcl HB.out WX;replace WY:=bcl HB.out WY;replace WZ:=bcl HB.out WZ;replace X0:=bcl HB.out X0;replace X1:=bcl HB.out X1;replace X2:=bcl HB.out X2;replace Qe:=bcl HB.out Qe;replace Qf:=bcl HB.out Qf;replace Qg:=bcl HB.out Qg;replace Qh:=bcl HB.out Qh;have aPC:=am X4;have aPD:=am X3;clear X4 X3;have aPE:=am X6;have aPF:=am X5;clear X6 X5;replace aaK:=eq_true aaK;replace aaL:=eq_true aaL
  (try (have ea_:=ojz (GF.symm.trans (bcl HB.out iT));injection ea_ with ea_ en_ ec_;subst ea_;subst ec_;clear en_))
  (try (have ea_:=ojz (GG.symm.trans (bcl HB.out iR));injection ea_ with ea_ en_ ec_;subst ea_;subst ec_;clear en_))
  (try (have ea_:=ojz (pY.symm.trans GF);injection ea_ with ea_ en_ ec_;subst ea_;subst ec_;clear en_))
  (try (have ea_:=ojz (pZ.symm.trans GG);injection ea_ with ea_ en_ ec_;subst ea_;subst ec_;clear en_))
  first
  |
   have g_:(((rd_T42 l0 aC).f10).toList == Pv.toList)=true:=c43b0;clear g_;have aaM:0≤(aC:Int):=od au87;have aaN:aC<(l0.length:Int):=od au87;obtain ⟨aE1,aU3,aU4,aU5,aU6,aI5,X7,X8,GH,GI,X9,Xa,Xb,Xc,Xd,Xe,Qi,Qj,Qk,Ql,Xf,Xg,Xh,Xi⟩:=at_T42 cW.out aC aaM aaN
   obtain rfl:aK=aE1:=(by injection aI5)
   replace X7:=bcl HB.out X7;replace X8:=bcl HB.out X8;replace GH:=bcl HB.out GH;replace GI:=bcl HB.out GI;replace X9:=bcl HB.out X9;replace Xa:=bcl HB.out Xa;replace Xb:=bcl HB.out Xb;replace Xc:=bcl HB.out Xc;replace Xd:=bcl HB.out Xd;replace Xe:=bcl HB.out Xe;replace Qi:=bcl HB.out Qi;replace Qj:=bcl HB.out Qj;replace Qk:=bcl HB.out Qk;replace Ql:=bcl HB.out Ql;have aPG:=am Xg;have aPH:=am Xf;clear Xg Xf;have aPI:=am Xi;have aPJ:=am Xh;clear Xi Xh;replace aaM:=eq_true aaM;replace aaN:=eq_true aaN
   (try (have ea_:=ojz (GH.symm.trans (bcl HB.out iT));injection ea_ with ea_ en_ ec_;subst ea_;subst ec_;clear en_))
   (try (have ea_:=ojz (GI.symm.trans (bcl HB.out iR));injection ea_ with ea_ en_ ec_;subst ea_;subst ec_;clear en_))
   (try (have ea_:=ojz (pY.symm.trans GH);injection ea_ with ea_ en_ ec_;subst ea_;subst ec_;clear en_))
   (try (have ea_:=ojz (pZ.symm.trans GI);injection ea_ with ea_ en_ ec_;subst ea_;subst ec_;clear en_))
   try go_wp2
   replace HB:=am (below_drew1 HB.out);have aaO:0≤(aC:Int):=od au87;have aaP:aC<(l0.length:Int):=od au87;obtain ⟨aE2,axP,axQ,axR,axS,aI6,GJ,GK,yX,yY,GM,GN,GO,GP,GQ,GR,Cz,CB,CC,CE,Xj,Xk,Xl,Xm⟩:=at_T42 cW.out aC aaO aaP;have Qm:=CE;have Qn:=CC;have Qo:=CB;have Qp:=Cz;have Xn:=GR;have Xo:=GQ;have Xp:=GP;have Xq:=GO;have Xr:=GN;have Xs:=GM;have Xt:=yY;have Xu:=yX;have Xv:=GK;have Xw:=GJ
   obtain rfl:aK=aE2:=(by injection aI6)
   replace GJ:=bcl HB.out GJ;replace GK:=bcl HB.out GK;replace yX:=bcl HB.out yX;replace yY:=bcl HB.out yY;replace GM:=bcl HB.out GM;replace GN:=bcl HB.out GN;replace GO:=bcl HB.out GO;replace GP:=bcl HB.out GP;replace GQ:=bcl HB.out GQ;replace GR:=bcl HB.out GR;replace Cz:=bcl HB.out Cz;replace CB:=bcl HB.out CB;replace CC:=bcl HB.out CC;replace CE:=bcl HB.out CE;have alD:=am Xk;have aPK:=am Xj;clear Xk Xj;have alE:=am Xm;have aPL:=am Xl;clear Xm Xl;replace aaO:=eq_true aaO;replace aaP:=eq_true aaP
   (try (have ea_:=ojz (yX.symm.trans (bcl HB.out iT));injection ea_ with ea_ en_ ec_;subst ea_;subst ec_;clear en_))
   (try (have ea_:=ojz (yY.symm.trans (bcl HB.out iR));injection ea_ with ea_ en_ ec_;subst ea_;subst ec_;clear en_))
   refine start_ (n:=8) (S:=fun w'=>w'.cell? (aK.add ((aC).toNat*14))=some (.string ((rd_T42 l0 aC).f0))∧w'.cell? ⟨(aK.add ((aC).toNat*14)).block,(aK.add ((aC).toNat*14)).off+1,none⟩=some (.int .i64 ((rd_T42 l0 aC).f1))∧w'.cell? ⟨(aK.add ((aC).toNat*14)).block,(aK.add ((aC).toNat*14)).off+2,none⟩=some (.slice axP ((rd_T42 l0 aC).f2).length axQ)∧w'.cell? ⟨(aK.add ((aC).toNat*14)).block,(aK.add ((aC).toNat*14)).off+3,none⟩=some (.slice axR ((rd_T42 l0 aC).f3).length axS)∧w'.cell? ⟨(aK.add ((aC).toNat*14)).block,(aK.add ((aC).toNat*14)).off+4,none⟩=some (.string ((rd_T42 l0 aC).f4))∧w'.cell? ⟨(aK.add ((aC).toNat*14)).block,(aK.add ((aC).toNat*14)).off+5,none⟩=some (.string ((rd_T42 l0 aC).f5))∧w'.cell? ⟨(aK.add ((aC).toNat*14)).block,(aK.add ((aC).toNat*14)).off+6,none⟩=some (.string ((rd_T42 l0 aC).f6))∧w'.cell? ⟨(aK.add ((aC).toNat*14)).block,(aK.add ((aC).toNat*14)).off+7,none⟩=some (.int .i64 ((rd_T42 l0 aC).f7.f0))∧w'.cell? ⟨(aK.add ((aC).toNat*14)).block,(aK.add ((aC).toNat*14)).off+8,none⟩=some (.int .i64 ((rd_T42 l0 aC).f7.f1))∧w'.cell? ⟨(aK.add ((aC).toNat*14)).block,(aK.add ((aC).toNat*14)).off+9,none⟩=some (.int .i64 ((rd_T42 l0 aC).f7.f2))∧w'.cell? ⟨(aK.add ((aC).toNat*14)).block,(aK.add ((aC).toNat*14)).off+10,none⟩=some (.bool ((rd_T42 l0 aC).f7.f3))∧w'.cell? ⟨(aK.add ((aC).toNat*14)).block,(aK.add ((aC).toNat*14)).off+11,none⟩=some (.int .i64 ((rd_T42 l0 aC).f8))∧w'.cell? ⟨(aK.add ((aC).toNat*14)).block,(aK.add ((aC).toNat*14)).off+12,none⟩=some (.string ((rd_T42 l0 aC).f9))∧w'.cell? ⟨(aK.add ((aC).toNat*14)).block,(aK.add ((aC).toNat*14)).off+13,none⟩=some (.string ((rd_T42 l0 aC).f10))) (ds:=[]) #[false,false,false,false,false,false,false,false] (by kernel_rfl) rfl rfl ⟨(bcl HB.out Xw),(bcl HB.out Xv),(bcl HB.out Xu),(bcl HB.out Xt),(bcl HB.out Xs),(bcl HB.out Xr),(bcl HB.out Xq),(bcl HB.out Xp),(bcl HB.out Xo),(bcl HB.out Xn),(bcl HB.out Qp),(bcl HB.out Qo),(bcl HB.out Qn),(bcl HB.out Qm)⟩ (fun hHeld=>?_);refine with_tabW laws_heldEntryS.tab40 laws_heldEntryS.bits40 (fun HT_ HW_=>?_);generalize w53.drew=w54 at HB alD alE GJ GK Cz CB CC CE yX yY GM GN GO GP GQ GR hHeld ⊢;refine pu_ 0 (some 130) #[true,false,false,false,false,false,false,false] HT_.out ?_;refine pu_ 1 (some 131) #[true,true,false,false,false,false,false,false] HT_.out ?_;refine pu_ 2 (some 132) #[true,true,true,false,false,false,false,false] HT_.out ?_;refine pu_ 3 (some 133) #[true,true,true,true,false,false,false,false] HT_.out ?_;refine pu_ 5 (some 135) #[true,true,true,true,false,true,false,false] HT_.out ?_;refine ta0_ 4 (some 134) #[true,true,true,true,true,true,false,false] HT_.out HW_.out hHeld ?_;refine on_ 6 (some 136) #[true,true,true,true,true,true,true,false] HT_.out (fun K hK=>?_);refine gs_ Tryz.func32 #[.int .i64 (wrap64 ((wrap64 ((wrap64 ((wrap64 ((wrap64 ((wrap64 ((wrap64 ((wrap64 (dP+1))+1))+1))+1))+1))+1))+1))+1))] ?_
   with_reducible refine (laws_markText.calls k1 (wrap64 ((wrap64 ((wrap64 ((wrap64 ((wrap64 ((wrap64 ((wrap64 ((wrap64 (dP+1))+1))+1))+1))+1))+1))+1))+1)) a3W _ oL.out).mono ?_
   rintro e w55 ⟨rfl,hb⟩;refine ⟨_,rfl,?_⟩;replace HB:=am (below_step au46 hb)
   (try clear hb)
   refine hK.out _ _ ⟨(bcl HB.out Xw),(bcl HB.out Xv),(bcl HB.out Xu),(bcl HB.out Xt),(bcl HB.out Xs),(bcl HB.out Xr),(bcl HB.out Xq),(bcl HB.out Xp),(bcl HB.out Xo),(bcl HB.out Xn),(bcl HB.out Qp),(bcl HB.out Qo),(bcl HB.out Qn),(bcl HB.out Qm)⟩ (fun hHeld=>?_);clear hK K;refine no_ (some 136) ?_;refine pu_ 7 (some 137) #[true,true,true,true,true,true,true,true] HT_.out ?_;refine done_ (done_of HT_.out (by kernel_rfl)) ?_
   try go_wp2
   replace HB:=am (below_drew1 HB.out);have aaQ:0≤(aC:Int):=od au87;have aaR:aC<(l0.length:Int):=od au87;obtain ⟨aE3,axT,axU,axV,axW,aI7,GT,GU,yZ,zA,GV,GW,GX,GY,GZ,H8,CF,CG,CH,CJ,Xx,Xy,Xz,XA⟩:=at_T42 cW.out aC aaQ aaR;have Qq:=CJ;have Qr:=CH;have Qs:=CG;have Qt:=CF;have XB:=H8;have XC:=GZ;have XD:=GY;have XE:=GX;have XF:=GW;have XG:=GV;have XH:=zA;have XI:=yZ;have XJ:=GU;have XK:=GT
   obtain rfl:aK=aE3:=(by injection aI7)
   replace GT:=bcl HB.out GT;replace GU:=bcl HB.out GU;replace yZ:=bcl HB.out yZ;replace zA:=bcl HB.out zA;replace GV:=bcl HB.out GV;replace GW:=bcl HB.out GW;replace GX:=bcl HB.out GX;replace GY:=bcl HB.out GY;replace GZ:=bcl HB.out GZ;replace H8:=bcl HB.out H8;replace CF:=bcl HB.out CF;replace CG:=bcl HB.out CG;replace CH:=bcl HB.out CH;replace CJ:=bcl HB.out CJ;have alF:=am Xy;have aPM:=am Xx;clear Xy Xx;have alG:=am XA;have aPN:=am Xz;clear XA Xz;replace aaQ:=eq_true aaQ;replace aaR:=eq_true aaR
   (try (have ea_:=ojz (yZ.symm.trans (bcl HB.out iT));injection ea_ with ea_ en_ ec_;subst ea_;subst ec_;clear en_))
   (try (have ea_:=ojz (zA.symm.trans (bcl HB.out iR));injection ea_ with ea_ en_ ec_;subst ea_;subst ec_;clear en_))
   refine start_ (n:=8) (S:=fun w'=>w'.cell? (aK.add ((aC).toNat*14))=some (.string ((rd_T42 l0 aC).f0))∧w'.cell? ⟨(aK.add ((aC).toNat*14)).block,(aK.add ((aC).toNat*14)).off+1,none⟩=some (.int .i64 ((rd_T42 l0 aC).f1))∧w'.cell? ⟨(aK.add ((aC).toNat*14)).block,(aK.add ((aC).toNat*14)).off+2,none⟩=some (.slice axT ((rd_T42 l0 aC).f2).length axU)∧w'.cell? ⟨(aK.add ((aC).toNat*14)).block,(aK.add ((aC).toNat*14)).off+3,none⟩=some (.slice axV ((rd_T42 l0 aC).f3).length axW)∧w'.cell? ⟨(aK.add ((aC).toNat*14)).block,(aK.add ((aC).toNat*14)).off+4,none⟩=some (.string ((rd_T42 l0 aC).f4))∧w'.cell? ⟨(aK.add ((aC).toNat*14)).block,(aK.add ((aC).toNat*14)).off+5,none⟩=some (.string ((rd_T42 l0 aC).f5))∧w'.cell? ⟨(aK.add ((aC).toNat*14)).block,(aK.add ((aC).toNat*14)).off+6,none⟩=some (.string ((rd_T42 l0 aC).f6))∧w'.cell? ⟨(aK.add ((aC).toNat*14)).block,(aK.add ((aC).toNat*14)).off+7,none⟩=some (.int .i64 ((rd_T42 l0 aC).f7.f0))∧w'.cell? ⟨(aK.add ((aC).toNat*14)).block,(aK.add ((aC).toNat*14)).off+8,none⟩=some (.int .i64 ((rd_T42 l0 aC).f7.f1))∧w'.cell? ⟨(aK.add ((aC).toNat*14)).block,(aK.add ((aC).toNat*14)).off+9,none⟩=some (.int .i64 ((rd_T42 l0 aC).f7.f2))∧w'.cell? ⟨(aK.add ((aC).toNat*14)).block,(aK.add ((aC).toNat*14)).off+10,none⟩=some (.bool ((rd_T42 l0 aC).f7.f3))∧w'.cell? ⟨(aK.add ((aC).toNat*14)).block,(aK.add ((aC).toNat*14)).off+11,none⟩=some (.int .i64 ((rd_T42 l0 aC).f8))∧w'.cell? ⟨(aK.add ((aC).toNat*14)).block,(aK.add ((aC).toNat*14)).off+12,none⟩=some (.string ((rd_T42 l0 aC).f9))∧w'.cell? ⟨(aK.add ((aC).toNat*14)).block,(aK.add ((aC).toNat*14)).off+13,none⟩=some (.string ((rd_T42 l0 aC).f10))) (ds:=[]) #[false,false,false,false,false,false,false,false] (by kernel_rfl) rfl rfl ⟨(bcl HB.out XK),(bcl HB.out XJ),(bcl HB.out XI),(bcl HB.out XH),(bcl HB.out XG),(bcl HB.out XF),(bcl HB.out XE),(bcl HB.out XD),(bcl HB.out XC),(bcl HB.out XB),(bcl HB.out Qt),(bcl HB.out Qs),(bcl HB.out Qr),(bcl HB.out Qq)⟩ (fun hHeld=>?_);refine with_tabW laws_heldEntryS.tab43 laws_heldEntryS.bits43 (fun HT_ HW_=>?_);generalize w55.drew=w56 at HB alF alG GT GU CF CG CH CJ yZ zA GV GW GX GY GZ H8 hHeld ⊢;refine pu_ 0 (some 140) #[true,false,false,false,false,false,false,false] HT_.out ?_;refine pu_ 1 (some 141) #[true,true,false,false,false,false,false,false] HT_.out ?_;refine pu_ 2 (some 142) #[true,true,true,false,false,false,false,false] HT_.out ?_;refine pu_ 3 (some 143) #[true,true,true,true,false,false,false,false] HT_.out ?_;refine pu_ 5 (some 145) #[true,true,true,true,false,true,false,false] HT_.out ?_;refine ta0_ 4 (some 144) #[true,true,true,true,true,true,false,false] HT_.out HW_.out hHeld ?_;refine on_ 6 (some 146) #[true,true,true,true,true,true,true,false] HT_.out (fun K hK=>?_);refine gs_ Tryz.func32 #[.int .i64 (wrap64 ((wrap64 ((wrap64 ((wrap64 ((wrap64 ((wrap64 ((wrap64 ((wrap64 ((wrap64 (dP+1))+1))+1))+1))+1))+1))+1))+1))+1))] ?_
   with_reducible refine (laws_markText.calls k1 (wrap64 ((wrap64 ((wrap64 ((wrap64 ((wrap64 ((wrap64 ((wrap64 ((wrap64 ((wrap64 (dP+1))+1))+1))+1))+1))+1))+1))+1))+1)) Pv _ A42.out).mono ?_
   rintro e w57 ⟨rfl,hb⟩;refine ⟨_,rfl,?_⟩;replace HB:=am (below_step au46 hb)
   (try clear hb)
   refine hK.out _ _ ⟨(bcl HB.out XK),(bcl HB.out XJ),(bcl HB.out XI),(bcl HB.out XH),(bcl HB.out XG),(bcl HB.out XF),(bcl HB.out XE),(bcl HB.out XD),(bcl HB.out XC),(bcl HB.out XB),(bcl HB.out Qt),(bcl HB.out Qs),(bcl HB.out Qr),(bcl HB.out Qq)⟩ (fun hHeld=>?_);clear hK K;refine no_ (some 146) ?_;refine pu_ 7 (some 147) #[true,true,true,true,true,true,true,true] HT_.out ?_;refine done_ (done_of HT_.out (by kernel_rfl)) ?_
   try go_wp2
   go_roundg k1
   case measure=>have:=HK1.out;omega
   case rel=>exact ⟨(wrap64 ((wrap64 ((wrap64 ((wrap64 ((wrap64 ((wrap64 ((wrap64 ((wrap64 ((wrap64 ((wrap64 (dP+1))+1))+1))+1))+1))+1))+1))+1))+1))+1)),(wrap64 (aC+1)),au88,au88,H',⟨by have:=HK1.out;omega⟩,⟨by repeat (first|(with_reducible first|exact HB.out|apply below_alloc|apply pw_below_drewN|apply below_drew1)|exact HB.out)⟩⟩
  |
   have g_:(((rd_T42 l0 aC).f7.f3) != ((Int.tmod (wrap64 ((wrap64 ((wrap64 ((wrap64 ((wrap64 ((wrap64 (dP+1))+1))+1))+1))+1))+1)) 3) == 0))=true:=c28b0;clear g_
   try go_wp2
   go_ret
   exact ax1):P:=h
set_option maxHeartbeats 8000000 in
set_option maxRecDepth 100000 in
theorem laws_heldEntryS.calls (k:Nat) (A0:Option Addr) (c0:Nat) (l0:List (S42)) (a1:Int) (r:Int) (w:World) (dH:Kd.C k42 w A0 l0.length l0) (cP:l0.length≤c0) (h:laws_heldEntryS.f k l0 a1=some r) (hrp:0≤r) :
  Calls Tryz.prog 21 #[.slice A0 l0.length c0,.int .i64 a1] w fun e w'=>e=.returned (.int .i64 r)∧Below w.heap.size w w':=by
 have HRP:=am hrp;clear hrp;have cW:=am dH;have mM:=am cP;clear dH cP;have HB:=am (Below.refl w.heap.size w);have H:(laws_heldEntryS.l0 k l0 a1 0)=some r:=h;clear h;have H':=am H;clear H;go_enter Tryz.func21,Tryz.ntmps21;go_wp2
 go_loopg [1,5] k (fun kq v1 v5 w'=>∃ (cL:Int) (aC:Int),v1=.int .i64 cL∧v5=.int .i64 aC∧Aside0 (laws_heldEntryS.l0 kq l0 cL aC=some r)∧Aside0 (kq≤k)∧Aside0 (Below w.heap.size w w'))
 case atStart=>exact ⟨(a1),(0),au88,au88,H',⟨Nat.le_refl _⟩,⟨by repeat (first|(with_reducible first|exact HB.out|apply below_alloc|apply pw_below_drewN|apply below_drew1)|exact HB.out)⟩⟩
 case round =>
  clear H'
  try clear c2
  try clear p2
  obtain ⟨cL,aC,rfl,rfl,HA,HK1,HB⟩:=hrel
  cases gk with
  | zero=>exact absurd HA.out (by simp [laws_heldEntryS.l0])
  | succ k1 =>
   have H:=HA.out;clear HA;simp only [laws_heldEntryS.l0] at H;by_cases c3:aC<(l0.length:Int)
   ·
    rw [if_pos c3] at H;have c3b0:=dt c3;clear c3;by_cases c4:0≤aC
    ·
     rw [if_pos c4] at H;have c4b0:=dt c4;clear c4;replace H:=ob H;obtain ⟨a3S,wR,H⟩:=H
     try dsimp only at H
     have A5:=am wR;clear wR;by_cases c6:((rd_T42 l0 aC).f0).toList=a3S.toList
     ·
      rw [if_pos c6] at H;have c6b0:=qt c6;have c6b1:=bf c6;clear c6;by_cases c7:((rd_T42 l0 aC).f1)=(wrap64 (cL+1))
      ·
       rw [if_pos c7] at H;have c7b0:=qt c7;have c7b1:=bf c7;clear c7;replace H:=ob H;obtain ⟨Jc,iW,H⟩:=H
       try dsimp only at H
       have A8:=am iW;clear iW;by_cases c9:Jc<0
       · rw [if_pos c9] at H;have c9b0:=dt c9;clear c9;exact absurd (ojz H) au89
       ·
        rw [if_neg c9] at H;have c9b0:=df c9;clear c9;replace H:=ob H;obtain ⟨dP,uW,H⟩:=H
        try dsimp only at H
        have Kf:=am uW;clear uW;by_cases dB:dP<0
        · rw [if_pos dB] at H;have c14b0:=dt dB;clear dB;exact absurd (ojz H) au89
        ·
         rw [if_neg dB] at H;have c14b0:=df dB;clear dB;replace H:=ob H;obtain ⟨a3T,axX,H⟩:=H
         try dsimp only at H
         have A19:=am axX;clear axX;by_cases Qu:((rd_T42 l0 aC).f4).toList=a3T.toList
         ·
          rw [if_pos Qu] at H;have c20b0:=qt Qu;have c20b1:=bf Qu;clear Qu;replace H:=ob H;obtain ⟨a3U,oU,H⟩:=H
          try dsimp only at H
          have xU:=am oU;clear oU;by_cases oV:((rd_T42 l0 aC).f5).toList=a3U.toList
          ·
           rw [if_pos oV] at H;have c22b0:=qt oV;have c22b1:=bf oV;clear oV;replace H:=ob H;obtain ⟨a3V,Qv,H⟩:=H
           try dsimp only at H
           have A23:=am Qv;clear Qv;by_cases iL:((rd_T42 l0 aC).f6).toList=a3V.toList
           ·
            rw [if_pos iL] at H;have c24b0:=qt iL;have c24b1:=bf iL;clear iL;by_cases oW:((rd_T42 l0 aC).f7.f0)=(wrap64 ((wrap64 ((wrap64 (dP+1))+1))+1))
            ·
             rw [if_pos oW] at H;have c25b0:=qt oW;have c25b1:=bf oW;clear oW;by_cases mZ:((rd_T42 l0 aC).f7.f1)=(wrap64 ((wrap64 ((wrap64 ((wrap64 (dP+1))+1))+1))+1))
             ·
              rw [if_pos mZ] at H;have c26b0:=qt mZ;have c26b1:=bf mZ;clear mZ;by_cases qT:((rd_T42 l0 aC).f7.f2)=(wrap64 ((wrap64 ((wrap64 ((wrap64 ((wrap64 (dP+1))+1))+1))+1))+1))
              ·
               rw [if_pos qT] at H;have c27b0:=qt qT;have c27b1:=bf qT;clear qT;by_cases Dq:(((rd_T42 l0 aC).f7.f3) != ((Int.tmod (wrap64 ((wrap64 ((wrap64 ((wrap64 ((wrap64 ((wrap64 (dP+1))+1))+1))+1))+1))+1)) 3) == 0))=true
               ·
                rw [if_pos Dq] at H;have c28b0:(((rd_T42 l0 aC).f7.f3) != ((Int.tmod (wrap64 ((wrap64 ((wrap64 ((wrap64 ((wrap64 ((wrap64 (dP+1))+1))+1))+1))+1))+1)) 3) == 0))=true:=Dq
                (try (have c28b1:decide (((rd_T42 l0 aC).f7.f3)=((Int.tmod (wrap64 ((wrap64 ((wrap64 ((wrap64 ((wrap64 ((wrap64 (dP+1))+1))+1))+1))+1))+1)) 3) == 0))=false:=by simpa using Dq))
                (try (have c28b2:(((rd_T42 l0 aC).f7.f3) == ((Int.tmod (wrap64 ((wrap64 ((wrap64 ((wrap64 ((wrap64 ((wrap64 (dP+1))+1))+1))+1))+1))+1)) 3) == 0))=false:=by simpa using Dq))
                (try (have c28b3:¬ (((rd_T42 l0 aC).f7.f3)=((Int.tmod (wrap64 ((wrap64 ((wrap64 ((wrap64 ((wrap64 ((wrap64 (dP+1))+1))+1))+1))+1))+1)) 3) == 0)):=by simpa using Dq))
                clear Dq;obtain rfl:=ojz H;exact laws_heldEntryS.L0
               ·
                rw [if_neg Dq] at H
                have c28b0:(((rd_T42 l0 aC).f7.f3) != ((Int.tmod (wrap64 ((wrap64 ((wrap64 ((wrap64 ((wrap64 ((wrap64 (dP+1))+1))+1))+1))+1))+1)) 3) == 0))=false:=by simpa using Dq
                (try (have c28b1:decide (((rd_T42 l0 aC).f7.f3)=((Int.tmod (wrap64 ((wrap64 ((wrap64 ((wrap64 ((wrap64 ((wrap64 (dP+1))+1))+1))+1))+1))+1)) 3) == 0))=true:=by simpa using Dq))
                (try (have c28b2:(((rd_T42 l0 aC).f7.f3) == ((Int.tmod (wrap64 ((wrap64 ((wrap64 ((wrap64 ((wrap64 ((wrap64 (dP+1))+1))+1))+1))+1))+1)) 3) == 0))=true:=by simpa using Dq))
                clear Dq;by_cases wZ:((rd_T42 l0 aC).f8)=(wrap64 ((wrap64 ((wrap64 ((wrap64 ((wrap64 ((wrap64 ((wrap64 (dP+1))+1))+1))+1))+1))+1))+1))
                ·
                 rw [if_pos wZ] at H;have c39b0:=qt wZ;have c39b1:=bf wZ;clear wZ;replace H:=ob H;obtain ⟨a3W,axY,H⟩:=H
                 try dsimp only at H
                 have oL:=am axY;clear axY;by_cases Qw:((rd_T42 l0 aC).f9).toList=a3W.toList
                 ·
                  rw [if_pos Qw] at H;have c41b0:=qt Qw;have c41b1:=bf Qw;clear Qw;replace H:=ob H;obtain ⟨Pv,axZ,H⟩:=H
                  try dsimp only at H
                  have A42:=am axZ;clear axZ;by_cases Qx:((rd_T42 l0 aC).f10).toList=Pv.toList
                  · rw [if_pos Qx] at H;have c43b0:=qt Qx;have c43b1:=bf Qx;clear Qx;have H':=am H;clear H;exact laws_heldEntryS.L0
                  · rw [if_neg Qx] at H;have c43b0:=qf Qx;have c43b1:=bu Qx;exact absurd (ojz H) au89
                 · rw [if_neg Qw] at H;have c41b0:=qf Qw;have c41b1:=bu Qw;exact absurd (ojz H) au89
                · rw [if_neg wZ] at H;have c39b0:=qf wZ;have c39b1:=bu wZ;exact absurd (ojz H) au89
              · rw [if_neg qT] at H;have c27b0:=qf qT;have c27b1:=bu qT;exact absurd (ojz H) au89
             · rw [if_neg mZ] at H;have c26b0:=qf mZ;have c26b1:=bu mZ;exact absurd (ojz H) au89
            · rw [if_neg oW] at H;have c25b0:=qf oW;have c25b1:=bu oW;exact absurd (ojz H) au89
           · rw [if_neg iL] at H;have c24b0:=qf iL;have c24b1:=bu iL;exact absurd (ojz H) au89
          · rw [if_neg oV] at H;have c22b0:=qf oV;have c22b1:=bu oV;exact absurd (ojz H) au89
         · rw [if_neg Qu] at H;have c20b0:=qf Qu;have c20b1:=bu Qu;exact absurd (ojz H) au89
      · rw [if_neg c7] at H;have c7b0:=qf c7;have c7b1:=bu c7;exact absurd (ojz H) au89
     · rw [if_neg c6] at H;have c6b0:=qf c6;have c6b1:=bu c6;exact absurd (ojz H) au89
    · rw [if_neg c4] at H;exact absurd H (by simp)
   · rw [if_neg c3] at H;have c3b0:=df c3;clear c3;obtain rfl:=ojz H;go_wp2;go_ret;exact ax1
def laws_heldLibrary.f (k:Nat) (aA:List (S42)) (a1:Int):Option (Int):=(laws_heldEntryS.f k aA a1).bind fun E4=>(if E4<0 then (some (-1)) else (some E4))
theorem laws_heldLibrary.mono:∀ a0 a1 k,LeO (laws_heldLibrary.f k a0 a1) (laws_heldLibrary.f (k+1) a0 a1):=by
 intro a0 a1 k;unfold laws_heldLibrary.f
 repeat' first
   | (with_reducible exact laws_heldEntryS.mono _ _ _)
   | (with_reducible exact LeO.refl _)
   | (with_reducible exact LeO.none _)
   | (with_reducible refine LeO.ite ?_ ?_)
   | (with_reducible refine LeO.bind ?_ (fun _=>?_))
   | exact laws_heldEntryS.mono _ _ _
   | exact LeO.none _
   | refine LeO.ite ?_ ?_
   | refine LeO.bind ?_ (fun _=>?_)
set_option maxHeartbeats 8000000 in
set_option maxRecDepth 100000 in
theorem laws_heldLibrary.calls (k:Nat) (bH:Option Addr) (bA:Nat) (aA:List (S42)) (a1:Int) (r:Int) (w:World) (cE:Kd.C k42 w bH aA.length aA) (cA:aA.length≤bA) (h:laws_heldLibrary.f k aA a1=some r) (hrp:0≤r) :
  Calls Tryz.prog 10 #[.agg #[.slice bH aA.length bA],.int .i64 a1] w fun e w'=>e=.returned (.int .i64 r)∧Below w.heap.size w w':=by
 have HRP:=am hrp;clear hrp;have hu28:=Tryz.underlying28;have cM:=am cE;have eO:=am cA;clear cE cA;have HB:=am (Below.refl w.heap.size w);have H:((laws_heldEntryS.f k aA a1).bind fun E4=>(if E4<0 then (some (-1)) else (some E4)))=some r:=h;clear h;replace H:=ob H;obtain ⟨E4,dL,H⟩:=H
 try dsimp only at H
 have A3:=am dL;clear dL;by_cases c4:E4<0
 · rw [if_pos c4] at H;have c4b0:=dt c4;clear c4;exact absurd (ojz H) au89
 · rw [if_neg c4] at H;have c4b0:=df c4;clear c4;obtain rfl:=ojz H;go_enter Tryz.func10,Tryz.ntmps10;go_wp2_with (first|((with_reducible refine gate_dst (N:=2) rfl ?_);refine box_event ?hg (N:=2) ?hd (cs:=#[.slice bH aA.length bA]) (t:=28) ?hr ?_;(case hd=>rfl);(case hg=>rfl);(case hr=>first|(go_simp;done)|(go_simp;rfl));intro agA hg w8 hbox hb;have N5:=am (hbox);have aX2:=am (bsz hg au46);have agB:=am (bsz hg au46);replace HB:=am (below_step au46 hb);clear hb hbox hg;have zB:w8.cell? ⟨agA,0,none⟩=some (.slice bH aA.length bA):=(blk_cell N5.out 0).trans rfl;have zC:=blk_frozen N5.out 0)|((with_reducible refine gate_callee (f:=21) rfl ?_);refine goesL_ (some 8) rfl rfl Tryz.func21 (by kernel_rfl) rfl #[.slice bH aA.length bA,.int .i64 a1] rfl au45 ?_;(with_reducible refine (laws_heldEntryS.calls k _ _ aA a1 E4 _ ?aU ?aV A3.out HRP.out).mono ?_);(case aU=>repeat (first|exact (Kd.C_below cM.out HB.out)|(with_reducible refine Kd.C_alloc ?_ _)|(with_reducible refine Kd.C_drewN ?_ _)|(with_reducible refine Kd.C_drew ?_)));(case aV=>exact eO.out);rintro e mN ⟨rfl,hb⟩;refine ⟨_,rfl,?_⟩;replace N5:=am (blk_below (g:=agA) (by (with_reducible repeat (first|refine blk_drewN ?_ _|refine blk_drew ?_|refine blk_alloc ?_ _));exact N5.out) hb);replace HB:=am (below_step (by repeat (first|(with_reducible first|exact HB.out|apply below_alloc|apply pw_below_drewN|apply below_drew1|refine below_set ?_ agB.out)|exact HB.out)) hb);(try clear hb)));go_ret;exact ⟨by first|rfl|(simp [errW_none,errW_some] <;> rfl)|(simp [*,errW_none,errW_some] <;> rfl),by repeat (first|(with_reducible first|exact HB.out|apply below_alloc|apply pw_below_drewN|apply below_drew1|refine below_set ?_ agB.out)|exact HB.out)⟩
end Go.Proofs.YteagahcbffgjpaaGreatDoor.G

namespace Go.Proofs.YteagahcbffgjpaaGreatDoor.G
open Go.RowKit Go.Proofs.YteagahcbffgjpaaGreatDoorW.PrintWords Go.Proofs.YteagahcbffgjpaaGreatDoorW.PrintLast Go.Proofs.YteagahcbffgjpaaGreatDoor.B
set_option linter.unusedVariables false
set_option linter.unusedSimpArgs false
theorem mkE1_eq (n:Int) (x:S42):mkE1 n x=⟨mt n,n+1,mkN (n+1+1) x.f2,mkN (n+1+1+cntN x.f2) x.f3,mt (n+1+1+cntN x.f2+cntN x.f3),mt (n+1+1+cntN x.f2+cntN x.f3+1),mt (n+1+1+cntN x.f2+cntN x.f3+1+1),⟨n+1+1+cntN x.f2+cntN x.f3+1+1+1,n+1+1+cntN x.f2+cntN x.f3+1+1+1+1,n+1+1+cntN x.f2+cntN x.f3+1+1+1+1+1,(Int.tmod (n+1+1+cntN x.f2+cntN x.f3+1+1+1+1+1+1) 3 == 0)⟩,n+1+1+cntN x.f2+cntN x.f3+1+1+1+1+1+1+1,mt (n+1+1+cntN x.f2+cntN x.f3+1+1+1+1+1+1+1+1),mt (n+1+1+cntN x.f2+cntN x.f3+1+1+1+1+1+1+1+1+1)⟩:=rfl
theorem mkE_drop (l:List S42) (k:Int) (i:Nat) (hi:i<l.length):(mkE k l)[i]'(by rw [mkE_len];exact hi)=mkE1 (k+cntE (l.take i)) l[i]:=by
  have e:mkE k l=mkE k (l.take i)++mkE (k+cntE (l.take i)) (l.drop i):=by rw [← mkE_app,List.take_append_drop]
  have hl:(mkE k (l.take i)).length=i:=by rw [mkE_len,List.length_take];omega
  have h2:(mkE k l)[i]?=some (mkE1 (k+cntE (l.take i)) l[i]):=by
    rw [e,List.getElem?_append_right (by omega),hl,Nat.sub_self,List.drop_eq_getElem_cons hi];rfl
  rw [List.getElem?_eq_getElem (by rw [mkE_len];exact hi)] at h2;exact ojz h2
theorem held_shift {α:Type} {f:Nat→Option α} {v:α} (h:Ev (fun k=>f (k+1)) v):Ev f v:=Ev.step (f:=fun k=>f (k+1)) (fun _=>rfl) h
theorem wrE2 (n:Int) (h0:0≤n) (h1:n+2≤4611686018427387904):wrap64 (n+1)=n+1∧wrap64 (n+1+1)=n+1+1:=⟨w64 (by omega) (by omega),w64 (by omega) (by omega)⟩
theorem wrE10 (b:Int) (h0:0≤b) (h1:b+10≤4611686018427387904):wrap64 (b+1)=b+1∧wrap64 (b+1+1)=b+1+1∧wrap64 (b+1+1+1)=b+1+1+1∧wrap64 (b+1+1+1+1)=b+1+1+1+1∧wrap64 (b+1+1+1+1+1)=b+1+1+1+1+1∧wrap64 (b+1+1+1+1+1+1)=b+1+1+1+1+1+1∧wrap64 (b+1+1+1+1+1+1+1)=b+1+1+1+1+1+1+1∧wrap64 (b+1+1+1+1+1+1+1+1)=b+1+1+1+1+1+1+1+1∧wrap64 (b+1+1+1+1+1+1+1+1+1)=b+1+1+1+1+1+1+1+1+1∧wrap64 (b+1+1+1+1+1+1+1+1+1+1)=b+1+1+1+1+1+1+1+1+1+1:=⟨w64 (by omega) (by omega),w64 (by omega) (by omega),w64 (by omega) (by omega),w64 (by omega) (by omega),w64 (by omega) (by omega),w64 (by omega) (by omega),w64 (by omega) (by omega),w64 (by omega) (by omega),w64 (by omega) (by omega),w64 (by omega) (by omega)⟩
theorem heldE_step (L:List S42) (i:Nat) (hi:i<L.length) (x:S42) (n:Int) (h0:0≤n) (h1:n+(cntN x.f2+cntN x.f3+12)≤4611686018427387904) (hi4:i≤4611686018427387904) (hr:rd_T42 L (i:Int)=mkE1 n x) {v:Int}
    (hn:Ev (fun k=>laws_heldEntryS.l0 k L (n+1+1+cntN x.f2+cntN x.f3+1+1+1+1+1+1+1+1+1+1) ((i+1:Nat):Int)) v):Ev (fun k=>laws_heldEntryS.l0 k L n (i:Int)) v:=by
  have c2:=cntN_nonneg x.f2;have c3:=cntN_nonneg x.f3
  have g1:(i:Int)<(L.length:Int):=by omega
  have g2:(0:Int)≤(i:Int):=by omega
  have gA:¬ n+1+1+cntN x.f2<0:=by omega
  have gE:¬ n+1+1+cntN x.f2+cntN x.f3<0:=by omega
  have t0:=mt_ev n (by omega) (by omega);have hA:=heldN_ev x.f2 (n+1+1) (by omega) (by omega);have hE:=heldN_ev x.f3 (n+1+1+cntN x.f2) (by omega) (by omega);have t4:=mt_ev (n+1+1+cntN x.f2+cntN x.f3) (by omega) (by omega);have t5:=mt_ev (n+1+1+cntN x.f2+cntN x.f3+1) (by omega) (by omega);have t6:=mt_ev (n+1+1+cntN x.f2+cntN x.f3+1+1) (by omega) (by omega);have t9:=mt_ev (n+1+1+cntN x.f2+cntN x.f3+1+1+1+1+1+1+1+1) (by omega) (by omega);have t10:=mt_ev (n+1+1+cntN x.f2+cntN x.f3+1+1+1+1+1+1+1+1+1) (by omega) (by omega);have w4:=mk_i i hi4
  have hb:0≤n+1+1+cntN x.f2+cntN x.f3:=by omega
  have hb2:n+1+1+cntN x.f2+cntN x.f3+10≤4611686018427387904:=by omega
  obtain ⟨a1,a2⟩:=wrE2 n h0 (by omega);obtain ⟨e1,e2,e3,e4,e5,e6,e7,e8,e9,e10⟩:=wrE10 (n+1+1+cntN x.f2+cntN x.f3) hb hb2;rw [mkE1_eq] at hr;apply held_shift;simp only [laws_heldEntryS.l0,hr,a1,a2];refine ev_pos g1 (ev_pos g2 (Ev.bind t0 (ev_pos rfl (Ev.bind hA (ev_neg gA (Ev.bind hE (ev_neg gE ?_)))))));simp only [e1,e2,e3,e4,e5,e6,e7,e8,e9,e10,w4];refine Ev.bind t4 (ev_pos rfl (Ev.bind t5 (ev_pos rfl (Ev.bind t6 (ev_pos rfl ?_)))));exact ev_pos trivial (ev_pos trivial (ev_pos trivial (ev_neg (by simp) (ev_pos trivial (Ev.bind t9 (ev_pos rfl (Ev.bind t10 (ev_pos rfl hn))))))))
theorem heldE_loop (l:List S42) (a:Int) (h0:0≤a) (h1:a+cntE l≤4611686018427387904) (d:Nat):∀ i:Nat,i≤l.length→l.length-i=d→Ev (fun k=>laws_heldEntryS.l0 k (mkE a l) (a+cntE (l.take i)) (i:Int)) (a+cntE l):=by
  have hz:=cntE_len l;have hlm:(mkE a l).length=l.length:=mkE_len l a
  induction d with
  | zero =>
    intro i h2 hd;have e:l.take i=l:=List.take_of_length_le (by omega);refine Ev.step (f:=fun _=>some (a+cntE l)) (fun k=>?_) (Ev.now _);simp only [laws_heldEntryS.l0];rw [if_neg (by omega),e]
  | succ d ih =>
    intro i h2 hd
    have hi:i<l.length:=by omega
    have hn:=ih (i+1) (by omega) (by omega);have hst:=cntE_step l i hi;have cP:=cntE_nonneg (l.take i)
    have hr:rd_T42 (mkE a l) (i:Int)=mkE1 (a+cntE (l.take i)) l[i]:=by
      rw [← mkE_drop l a i hi];simp [rd_T42,hlm,hi]
    rw [hst.1,elE_eq] at hn;have hb:=hst.2;rw [hst.1,elE_eq] at hb;refine heldE_step (mkE a l) i (by omega) l[i] (a+cntE (l.take i)) (by omega) (by omega) (by omega) hr ?_;rw [show a+cntE (l.take i)+1+1+cntN l[i].f2+cntN l[i].f3+1+1+1+1+1+1+1+1+1+1=a+(cntE (l.take i)+(cntN l[i].f2+cntN l[i].f3+12)) from by omega];exact hn
theorem heldE_ev (l:List S42) (a:Int) (h0:0≤a) (h1:a+cntE l≤4611686018427387904):Ev (fun k=>laws_heldEntryS.f k (mkE a l) a) (a+cntE l):=by
  unfold laws_heldEntryS.f;have:=heldE_loop l a h0 h1 l.length 0 (by omega) rfl
  simpa [cntE] using this
theorem heldL_ev (l:List S42) (a:Int) (h0:0≤a) (h1:a+cntE l≤4611686018427387904):Ev (fun k=>laws_heldLibrary.f k (mkE a l) a) (a+cntE l):=by
  have:=cntE_nonneg l;unfold laws_heldLibrary.f;exact Ev.bind (heldE_ev l a h0 h1) (ev_neg (by omega) (Ev.now _))
end Go.Proofs.YteagahcbffgjpaaGreatDoor.G

namespace Go.Proofs.YteagahcbffgjpaaGreatDoor.G
open Go.RowKit Go.Proofs.YteagahcbffgjpaaGreatDoorW.PrintWords Go.Proofs.YteagahcbffgjpaaGreatDoorW.PrintLast Go.Proofs.YteagahcbffgjpaaGreatDoorW.PrintMore
open Go.Proofs.YteagahcbffgjpaaGreatDoor.Gl Go.Proofs.YteagahcbffgjpaaGreatDoor.Ext
attribute [local go_sem] max2_int min2_int max_two min_two max_three min_three max_four min_four   -- for this text's walks alone
set_option linter.unusedVariables false
set_option linter.unusedSimpArgs false
def impl_DropEntry.core (k:Nat) (l:List S42) (key:ByteArray):Option (List S42 × Bool) :=
 (impl_entryIndex.f l key).bind fun i=>(impl_IsValidLibrary.f k l).bind fun v=>if v=true then (if 0≤i then (impl_newLibrary.f k l).bind fun t=>(if i<(t.length:Int)∧i≤4611686018427387904 then some (t.eraseIdx i.toNat,true) else none) else some ([],false)) else some ([],false)
noncomputable def impl_DropEntry.f (l:List S42) (key:ByteArray):Option (List S42 × Bool) :=
 open Classical in if h:∃ p:Nat × (List S42 × Bool),impl_DropEntry.core p.1 l key=some p.2 then some (Classical.choose h).2 else none
theorem impl_DropEntry.at {l:List S42} {key:ByteArray} {r:List S42 × Bool} (h:impl_DropEntry.f l key=some r):∃ k,impl_DropEntry.core k l key=some r:=by
 unfold impl_DropEntry.f at h
 split at h
 ·
  rename_i hx
  obtain rfl:=ojz h;exact ⟨_,Classical.choose_spec hx⟩
 · cases h
theorem impl_DropEntry.callsD (bH:Option Addr) (bA:Nat) (aA:List S42) (a1:ByteArray) (r1:List S42) (r2:Bool) (w:World) {gF1 gF2 gF3:Bool} (hG:GL gF1 gF2 gF3 w) (cE:Kd.C k42 w bH aA.length aA) (cA:aA.length≤bA) (h:impl_DropEntry.f aA a1=some (r1,r2)) :
  Calls Tryz.prog 7 #[.agg #[.slice bH aA.length bA],.string a1] w fun e w'=>∃ dS:Value,e=.returned (.tuple #[.agg #[dS],.bool r2])∧Kd.S kES 42 w' w.heap.size (fun _=>True) dS r1∧Below w.heap.size w w':=by
 obtain ⟨k,hk⟩:=impl_DropEntry.at h;unfold impl_DropEntry.core at hk;obtain ⟨i,hi,hk⟩:=ob hk;obtain ⟨v,hv,hk⟩:=ob hk
 cases v with
 | false =>
  rw [if_neg (by simp)] at hk;obtain ⟨rfl,rfl⟩:=Prod.mk.inj (ojz hk);exact dropE_bad k bH bA aA a1 w hG cE cA i hi hv
 | true =>
  rw [if_pos rfl] at hk;by_cases c:0≤i
  ·
   rw [if_pos c] at hk;obtain ⟨t,ht,hk⟩:=ob hk;by_cases d:i<(t.length:Int)∧i≤4611686018427387904
   ·
    rw [if_pos d] at hk;obtain ⟨rfl,rfl⟩:=Prod.mk.inj (ojz hk)
    obtain ⟨n,rfl⟩:∃ n:Nat,i=n:=⟨i.toNat,by omega⟩
    exact dropE_yes k bH bA aA a1 w hG cE cA k t n hi hv ht (by omega) (by omega)
   · rw [if_neg d] at hk;cases hk
  · rw [if_neg c] at hk;obtain ⟨rfl,rfl⟩:=Prod.mk.inj (ojz hk);exact dropE_none k bH bA aA a1 w hG cE cA i hi hv (by omega)
theorem impl_DropEntry.calls (bH:Option Addr) (bA:Nat) (aA:List S42) (a1:ByteArray) (r1:List S42) (r2:Bool) (w:World) {gF1 gF2 gF3:Bool} (hG:GL gF1 gF2 gF3 w) (cE:Kd.C k42 w bH aA.length aA) (cA:aA.length≤bA) (h:impl_DropEntry.f aA a1=some (r1,r2)) :
  Calls Tryz.prog 7 #[.agg #[.slice bH aA.length bA],.string a1] w fun e w'=>∃ dS:Value,e=.returned (.tuple #[.agg #[dS],.bool r2])∧Kd.R k42 42 w' w.heap.size (fun _=>True) dS r1∧Below w.heap.size w w' :=
 (impl_DropEntry.callsD bH bA aA a1 r1 r2 w hG cE cA h).mono (fun e w' ⟨v,h1,h2,h3⟩=>⟨v,h1,Kd.S_R (kES_weak h2),h3⟩)
def laws_szStringS.l0:Nat→List ByteArray→Int→Int→Option (Int)
 | 0,_,_,_=>none
 | k+1,x0,x1,x5=>if x5<(x0.length:Int) then (if 0≤x5 then (if (wrap64 (x1-((rdOf ByteArray.empty x0 x5).size:Int)))<0 then (some (-1)) else (laws_szStringS.l0 k x0 (wrap64 (x1-((rdOf ByteArray.empty x0 x5).size:Int))) (wrap64 (x5+1)))) else (none)) else (some x1)
def laws_szStringS.f (k:Nat) (l0:List ByteArray) (a1:Int):Option (Int):=if (wrap64 (a1-(l0.length:Int)))<0 then (some (-1)) else (laws_szStringS.l0 k l0 (wrap64 (a1-(l0.length:Int))) 0)
theorem laws_szStringS.mono_l:∀ k,(∀ y0 y1 y2,LeO (laws_szStringS.l0 k y0 y1 y2) (laws_szStringS.l0 (k+1) y0 y1 y2))
 | 0=>fun _ _ _ r h=>by simp [laws_szStringS.l0] at h
 | k+1=>by
  have ih0:=laws_szStringS.mono_l k
  ·
   intro y0 y1 y2;unfold laws_szStringS.l0
   repeat' first
   | (with_reducible exact ih0 _ _ _)
   | (with_reducible exact LeO.refl _)
   | (with_reducible exact LeO.none _)
   | (with_reducible refine LeO.ite ?_ ?_)
   | (with_reducible refine LeO.bind ?_ (fun _=>?_))
   | exact ih0 _ _ _
   | exact LeO.none _
   | refine LeO.ite ?_ ?_
   | refine LeO.bind ?_ (fun _=>?_)
theorem laws_szStringS.mono:∀ a0 a1 k,LeO (laws_szStringS.f k a0 a1) (laws_szStringS.f (k+1) a0 a1):=by
 intro a0 a1 k;have ih0:=laws_szStringS.mono_l k;unfold laws_szStringS.f
 repeat' first
   | (with_reducible exact ih0 _ _ _)
   | (with_reducible exact LeO.refl _)
   | (with_reducible exact LeO.none _)
   | (with_reducible refine LeO.ite ?_ ?_)
   | (with_reducible refine LeO.bind ?_ (fun _=>?_))
   | exact ih0 _ _ _
   | exact LeO.none _
   | refine LeO.ite ?_ ?_
   | refine LeO.bind ?_ (fun _=>?_)
set_option maxHeartbeats 8000000 in
set_option maxRecDepth 100000 in
theorem laws_szStringS.calls (k:Nat) (A0:Option Addr) (c0:Nat) (l0:List ByteArray) (a1:Int) (r:Int) (w:World) (dH:Kd.C Kd.string w A0 l0.length l0) (cP:l0.length≤c0) (h:laws_szStringS.f k l0 a1=some r) :
  Calls Tryz.prog 68 #[.slice A0 l0.length c0,.int .i64 a1] w fun e w'=>e=.returned (.int .i64 r)∧Drawn0 w w':=by
 have cW:=am dH;have mM:=am cP;clear dH cP;have H:(if (wrap64 (a1-(l0.length:Int)))<0 then (some (-1)) else (laws_szStringS.l0 k l0 (wrap64 (a1-(l0.length:Int))) 0))=some r:=h;clear h;by_cases c3:(wrap64 (a1-(l0.length:Int)))<0
 · rw [if_pos c3] at H;have c3b0:=dt c3;clear c3;obtain rfl:=ojz H;go_enter Tryz.func68,Tryz.ntmps68;go_wp2;go_ret;exact ax0
 ·
  rw [if_neg c3] at H;have c3b0:=df c3;clear c3;have H':=am H;clear H;go_enter Tryz.func68,Tryz.ntmps68;go_wp2
  go_loopg [1,5] k (fun kq v1 v5 w'=>∃ (cL:Int) (aC:Int),v1=.int .i64 cL∧v5=.int .i64 aC∧Aside0 (laws_szStringS.l0 kq l0 cL aC=some r)∧Aside0 (kq≤k)∧Drawn0 w w')
  case atStart=>exact ⟨(wrap64 (a1-(l0.length:Int))),(0),au88,au88,H',⟨Nat.le_refl _⟩,by repeat (first|exact Drawn0.refl _|apply Drawn0.step)⟩
  case round =>
   clear H'
   try clear p2
   try clear c3
   try clear c3b0
   obtain ⟨cL,aC,rfl,rfl,HA,HK1,⟨m1,rfl⟩⟩:=hrel
   cases gk with
   | zero=>exact absurd HA.out (by simp [laws_szStringS.l0])
   | succ k1 =>
    have H:=HA.out;clear HA;simp only [laws_szStringS.l0] at H;by_cases c4:aC<(l0.length:Int)
    ·
     rw [if_pos c4] at H;have c4b0:=dt c4;clear c4;by_cases c5:0≤aC
     ·
      rw [if_pos c5] at H;have c5b0:=dt c5;clear c5;by_cases c6:(wrap64 (cL-((rdOf ByteArray.empty l0 aC).size:Int)))<0
      ·
       rw [if_pos c6] at H;have c6b0:=dt c6;clear c6;obtain rfl:=ojz H;have Jd:0≤(aC:Int):=od au87;have Je:aC<(l0.length:Int):=od au87;obtain ⟨aE4,aaS,alH⟩:=Kd.at_string cW.out aC Jd Je
       cases aaS
       replace Jd:=eq_true Jd;replace Je:=eq_true Je;go_wp2;go_ret;exact ax0
      ·
       rw [if_neg c6] at H;have c6b0:=df c6;clear c6;have H':=am H;clear H;have Jd:0≤(aC:Int):=od au87;have Je:aC<(l0.length:Int):=od au87;obtain ⟨aE4,aaS,alH⟩:=Kd.at_string cW.out aC Jd Je
       cases aaS
       replace Jd:=eq_true Jd;replace Je:=eq_true Je;go_wp2
       go_roundg k1
       case measure=>have:=HK1.out;omega
       case rel=>exact ⟨(wrap64 (cL-((rdOf ByteArray.empty l0 aC).size:Int))),(wrap64 (aC+1)),au88,au88,H',⟨by have:=HK1.out;omega⟩,by repeat (first|exact Drawn0.refl _|apply Drawn0.step)⟩
     · rw [if_neg c5] at H;exact absurd H (by simp)
    · rw [if_neg c4] at H;have c4b0:=df c4;clear c4;obtain rfl:=ojz H;go_wp2;go_ret;exact ax0
def laws_szName.f (k:Nat) (aA:List ByteArray) (aH:ByteArray) (aW:ByteArray) (aY:ByteArray) (a1:Int):Option (Int):=(laws_szStringS.f k aA a1).bind fun lQ=>(if lQ<0 then (some (-1)) else (if (wrap64 (lQ-(aH.size:Int)))<0 then (some (-1)) else (if (wrap64 ((wrap64 (lQ-(aH.size:Int)))-(aW.size:Int)))<0 then (some (-1)) else (if (wrap64 ((wrap64 ((wrap64 (lQ-(aH.size:Int)))-(aW.size:Int)))-(aY.size:Int)))<0 then (some (-1)) else (some (wrap64 ((wrap64 ((wrap64 (lQ-(aH.size:Int)))-(aW.size:Int)))-(aY.size:Int))))))))
theorem laws_szName.mono:∀ a0 a1 a2 a3 a4 k,LeO (laws_szName.f k a0 a1 a2 a3 a4) (laws_szName.f (k+1) a0 a1 a2 a3 a4):=by
 intro a0 a1 a2 a3 a4 k;unfold laws_szName.f
 repeat' first
   | (with_reducible exact laws_szStringS.mono _ _ _)
   | (with_reducible exact LeO.refl _)
   | (with_reducible exact LeO.none _)
   | (with_reducible refine LeO.ite ?_ ?_)
   | (with_reducible refine LeO.bind ?_ (fun _=>?_))
   | exact laws_szStringS.mono _ _ _
   | exact LeO.none _
   | refine LeO.ite ?_ ?_
   | refine LeO.bind ?_ (fun _=>?_)
set_option maxRecDepth 100000 in
theorem laws_szName.L0 {P:Prop} (h:P:=by
  go_enter Tryz.func54,Tryz.ntmps54;go_wp2_with (first|((with_reducible refine gate_dst (N:=2) rfl ?_);refine box_event ?hg (N:=2) ?hd (cs:=#[.slice bH aA.length bA,.string aH,.string aW,.string aY]) (t:=78) ?hr ?_;(case hd=>rfl);(case hg=>rfl);(case hr=>first|(go_simp;done)|(go_simp;rfl));intro aX3 hg dM hbox hb;have aE5:=am (hbox);have aX4:=am (bsz hg au46);have aE6:=am (bsz hg au46);replace HB:=am (below_step au46 hb);clear hb hbox hg;obtain ⟨gZ,qA,qB,qC,hD,qD,qE,qF⟩:=blkc4 aE5.out)|((with_reducible refine gate_callee (f:=68) rfl ?_);refine goesL_ (some 8) rfl rfl Tryz.func68 (by kernel_rfl) rfl #[.slice bH aA.length bA,.int .i64 a1] rfl au45 ?_;(with_reducible refine (laws_szStringS.calls k _ _ aA a1 lQ _ ?aU ?aV A3.out).mono ?_);(case aU=>repeat (first|exact (Kd.C_below cM.out HB.out)|(with_reducible refine Kd.C_alloc ?_ _)|(with_reducible refine Kd.C_drewN ?_ _)|(with_reducible refine Kd.C_drew ?_)));(case aV=>exact eO.out);rintro e w' ⟨rfl,⟨nd,rfl⟩⟩;refine ⟨_,rfl,?_⟩));go_ret
  exact ⟨by first|rfl|(simp [errW_none,errW_some] <;> rfl)|(simp [*,errW_none,errW_some] <;> rfl),by repeat (first|(with_reducible first|exact HB.out|apply below_alloc|apply pw_below_drewN|apply below_drew1|refine below_set ?_ aE6.out)|exact HB.out)⟩):P:=h
set_option maxHeartbeats 8000000 in
set_option maxRecDepth 100000 in
theorem laws_szName.calls (k:Nat) (bH:Option Addr) (bA:Nat) (aA:List ByteArray) (aH:ByteArray) (aW:ByteArray) (aY:ByteArray) (a1:Int) (r:Int) (w:World) (cE:Kd.C Kd.string w bH aA.length aA) (cA:aA.length≤bA) (h:laws_szName.f k aA aH aW aY a1=some r) :
  Calls Tryz.prog 54 #[.agg #[.slice bH aA.length bA,.string aH,.string aW,.string aY],.int .i64 a1] w fun e w'=>e=.returned (.int .i64 r)∧Below w.heap.size w w':=by
 have hu78:=Tryz.underlying78;have cM:=am cE;have eO:=am cA;clear cE cA;have HB:=am (Below.refl w.heap.size w);have H:((laws_szStringS.f k aA a1).bind fun lQ=>(if lQ<0 then (some (-1)) else (if (wrap64 (lQ-(aH.size:Int)))<0 then (some (-1)) else (if (wrap64 ((wrap64 (lQ-(aH.size:Int)))-(aW.size:Int)))<0 then (some (-1)) else (if (wrap64 ((wrap64 ((wrap64 (lQ-(aH.size:Int)))-(aW.size:Int)))-(aY.size:Int)))<0 then (some (-1)) else (some (wrap64 ((wrap64 ((wrap64 (lQ-(aH.size:Int)))-(aW.size:Int)))-(aY.size:Int)))))))))=some r:=h;clear h;replace H:=ob H;obtain ⟨lQ,dL,H⟩:=H
 try dsimp only at H
 have A3:=am dL;clear dL;by_cases c4:lQ<0
 · rw [if_pos c4] at H;have c4b0:=dt c4;clear c4;obtain rfl:=ojz H;exact laws_szName.L0
 ·
  rw [if_neg c4] at H;have c4b0:=df c4;clear c4;by_cases c7:(wrap64 (lQ-(aH.size:Int)))<0
  · rw [if_pos c7] at H;have c7b0:=dt c7;clear c7;obtain rfl:=ojz H;exact laws_szName.L0
  ·
   rw [if_neg c7] at H;have c7b0:=df c7;clear c7;by_cases c10:(wrap64 ((wrap64 (lQ-(aH.size:Int)))-(aW.size:Int)))<0
   · rw [if_pos c10] at H;have c10b0:=dt c10;clear c10;obtain rfl:=ojz H;exact laws_szName.L0
   ·
    rw [if_neg c10] at H;have c10b0:=df c10;clear c10;by_cases cV:(wrap64 ((wrap64 ((wrap64 (lQ-(aH.size:Int)))-(aW.size:Int)))-(aY.size:Int)))<0
    · rw [if_pos cV] at H;have c13b0:=dt cV;clear cV;obtain rfl:=ojz H;exact laws_szName.L0
    · rw [if_neg cV] at H;have c13b0:=df cV;clear cV;obtain rfl:=ojz H;exact laws_szName.L0
def laws_szNameS.l0:Nat→List (S78)→Int→Int→Option (Int)
 | 0,_,_,_=>none
 | k+1,x0,x1,x5=>if x5<(x0.length:Int) then (if 0≤x5 then ((laws_szName.f k ((rd_T78 x0 x5).f0) ((rd_T78 x0 x5).f1) ((rd_T78 x0 x5).f2) ((rd_T78 x0 x5).f3) x1).bind fun t105=>(if t105<0 then (some (-1)) else (laws_szNameS.l0 k x0 t105 (wrap64 (x5+1))))) else (none)) else (some x1)
def laws_szNameS.f (k:Nat) (l0:List (S78)) (a1:Int):Option (Int):=if (wrap64 (a1-(l0.length:Int)))<0 then (some (-1)) else (laws_szNameS.l0 k l0 (wrap64 (a1-(l0.length:Int))) 0)
theorem laws_szNameS.mono_l:∀ k,(∀ y0 y1 y2,LeO (laws_szNameS.l0 k y0 y1 y2) (laws_szNameS.l0 (k+1) y0 y1 y2))
 | 0=>fun _ _ _ r h=>by simp [laws_szNameS.l0] at h
 | k+1=>by
  have ih0:=laws_szNameS.mono_l k
  ·
   intro y0 y1 y2;unfold laws_szNameS.l0
   repeat' first
   | (with_reducible exact ih0 _ _ _)
   | (with_reducible exact laws_szName.mono _ _ _ _ _ _)
   | (with_reducible exact LeO.refl _)
   | (with_reducible exact LeO.none _)
   | (with_reducible refine LeO.ite ?_ ?_)
   | (with_reducible refine LeO.bind ?_ (fun _=>?_))
   | exact ih0 _ _ _
   | exact laws_szName.mono _ _ _ _ _ _
   | exact LeO.none _
   | refine LeO.ite ?_ ?_
   | refine LeO.bind ?_ (fun _=>?_)
theorem laws_szNameS.mono:∀ a0 a1 k,LeO (laws_szNameS.f k a0 a1) (laws_szNameS.f (k+1) a0 a1):=by
 intro a0 a1 k;have ih0:=laws_szNameS.mono_l k;unfold laws_szNameS.f
 repeat' first
   | (with_reducible exact ih0 _ _ _)
   | (with_reducible exact laws_szName.mono _ _ _ _ _ _)
   | (with_reducible exact LeO.refl _)
   | (with_reducible exact LeO.none _)
   | (with_reducible refine LeO.ite ?_ ?_)
   | (with_reducible refine LeO.bind ?_ (fun _=>?_))
   | exact ih0 _ _ _
   | exact laws_szName.mono _ _ _ _ _ _
   | exact LeO.none _
   | refine LeO.ite ?_ ?_
   | refine LeO.bind ?_ (fun _=>?_)
set_option maxHeartbeats 8000000 in
set_option maxRecDepth 100000 in
theorem laws_szNameS.calls (k:Nat) (A0:Option Addr) (c0:Nat) (l0:List (S78)) (a1:Int) (r:Int) (w:World) (dH:Kd.C k78 w A0 l0.length l0) (cP:l0.length≤c0) (h:laws_szNameS.f k l0 a1=some r) :
  Calls Tryz.prog 35 #[.slice A0 l0.length c0,.int .i64 a1] w fun e w'=>e=.returned (.int .i64 r)∧Below w.heap.size w w':=by
 have hu78:=Tryz.underlying78;have cW:=am dH;have mM:=am cP;clear dH cP;have HB:=am (Below.refl w.heap.size w);have H:(if (wrap64 (a1-(l0.length:Int)))<0 then (some (-1)) else (laws_szNameS.l0 k l0 (wrap64 (a1-(l0.length:Int))) 0))=some r:=h;clear h;by_cases c3:(wrap64 (a1-(l0.length:Int)))<0
 · rw [if_pos c3] at H;have c3b0:=dt c3;clear c3;obtain rfl:=ojz H;go_enter Tryz.func35,Tryz.ntmps35;go_wp2;go_ret;exact ax1
 ·
  rw [if_neg c3] at H;have c3b0:=df c3;clear c3;have H':=am H;clear H;go_enter Tryz.func35,Tryz.ntmps35;go_wp2
  go_loopg [1,5] k (fun kq v1 v5 w'=>∃ (cL:Int) (aC:Int),v1=.int .i64 cL∧v5=.int .i64 aC∧Aside0 (laws_szNameS.l0 kq l0 cL aC=some r)∧Aside0 (kq≤k)∧Aside0 (Below w.heap.size w w'))
  case atStart=>exact ⟨(wrap64 (a1-(l0.length:Int))),(0),au88,au88,H',⟨Nat.le_refl _⟩,⟨by repeat (first|(with_reducible first|exact HB.out|apply below_alloc|apply pw_below_drewN|apply below_drew1)|exact HB.out)⟩⟩
  case round =>
   clear H'
   try clear p2
   try clear c3
   try clear c3b0
   obtain ⟨cL,aC,rfl,rfl,HA,HK1,HB⟩:=hrel
   cases gk with
   | zero=>exact absurd HA.out (by simp [laws_szNameS.l0])
   | succ k1 =>
    have H:=HA.out;clear HA;simp only [laws_szNameS.l0] at H;by_cases c4:aC<(l0.length:Int)
    ·
     rw [if_pos c4] at H;have c4b0:=dt c4;clear c4;by_cases c5:0≤aC
     ·
      rw [if_pos c5] at H;have c5b0:=dt c5;clear c5;replace H:=ob H;obtain ⟨t105,iV,H⟩:=H
      try dsimp only at H
      have A6:=am iV;clear iV;by_cases c7:t105<0
      ·
       rw [if_pos c7] at H;have c7b0:=dt c7;clear c7;obtain rfl:=ojz H;have Jf:0≤(aC:Int):=od au87;have Jg:aC<(l0.length:Int):=od au87;obtain ⟨aE7,Qy,Qz,aaT,zD,zE,zF,zG,zH,zI⟩:=at_T78 cW.out aC Jf Jg
       cases aaT
       replace zD:=bcl HB.out zD;replace zE:=bcl HB.out zE;replace zF:=bcl HB.out zF;replace zG:=bcl HB.out zG;have LN:=am zI;have LO:=am zH;clear zI zH;replace Jf:=eq_true Jf;replace Jg:=eq_true Jg;go_wp2_with (first|((with_reducible refine gate_callee (f:=54) rfl ?_);refine goesL_ (some 23) rfl rfl Tryz.func54 (by kernel_rfl) rfl #[.agg #[.slice Qy ((rd_T78 l0 aC).f0).length Qz,.string ((rd_T78 l0 aC).f1),.string ((rd_T78 l0 aC).f2),.string ((rd_T78 l0 aC).f3)],.int .i64 cL] rfl au45 ?_;(with_reducible refine (laws_szName.calls k1 _ _ ((rd_T78 l0 aC).f0) ((rd_T78 l0 aC).f1) ((rd_T78 l0 aC).f2) ((rd_T78 l0 aC).f3) cL t105 _ ?aU ?aV A6.out).mono ?_);(case aU=>repeat (first|exact (Kd.C_below LN.out HB.out)|(with_reducible refine Kd.C_alloc ?_ _)|(with_reducible refine Kd.C_drewN ?_ _)|(with_reducible refine Kd.C_drew ?_)));(case aV=>exact LO.out);rintro e w8 ⟨rfl,hb⟩;refine ⟨_,rfl,?_⟩;replace HB:=am (below_step au46 hb);(try clear hb)));go_ret;exact ax1
      ·
       rw [if_neg c7] at H;have c7b0:=df c7;clear c7;have H':=am H;clear H;have Jf:0≤(aC:Int):=od au87;have Jg:aC<(l0.length:Int):=od au87;obtain ⟨aE7,Qy,Qz,aaT,zD,zE,zF,zG,zH,zI⟩:=at_T78 cW.out aC Jf Jg
       cases aaT
       replace zD:=bcl HB.out zD;replace zE:=bcl HB.out zE;replace zF:=bcl HB.out zF;replace zG:=bcl HB.out zG;have LN:=am zI;have LO:=am zH;clear zI zH;replace Jf:=eq_true Jf;replace Jg:=eq_true Jg;go_wp2_with (first|((with_reducible refine gate_callee (f:=54) rfl ?_);refine goesL_ (some 23) rfl rfl Tryz.func54 (by kernel_rfl) rfl #[.agg #[.slice Qy ((rd_T78 l0 aC).f0).length Qz,.string ((rd_T78 l0 aC).f1),.string ((rd_T78 l0 aC).f2),.string ((rd_T78 l0 aC).f3)],.int .i64 cL] rfl au45 ?_;(with_reducible refine (laws_szName.calls k1 _ _ ((rd_T78 l0 aC).f0) ((rd_T78 l0 aC).f1) ((rd_T78 l0 aC).f2) ((rd_T78 l0 aC).f3) cL t105 _ ?aU ?aV A6.out).mono ?_);(case aU=>repeat (first|exact (Kd.C_below LN.out HB.out)|(with_reducible refine Kd.C_alloc ?_ _)|(with_reducible refine Kd.C_drewN ?_ _)|(with_reducible refine Kd.C_drew ?_)));(case aV=>exact LO.out);rintro e w9 ⟨rfl,hb⟩;refine ⟨_,rfl,?_⟩;replace HB:=am (below_step au46 hb);(try clear hb)))
       go_roundg k1
       case measure=>have:=HK1.out;omega
       case rel=>exact ⟨(t105),(wrap64 (aC+1)),au88,au88,H',⟨by have:=HK1.out;omega⟩,⟨by repeat (first|(with_reducible first|exact HB.out|apply below_alloc|apply pw_below_drewN|apply below_drew1)|exact HB.out)⟩⟩
     · rw [if_neg c5] at H;exact absurd H (by simp)
    · rw [if_neg c4] at H;have c4b0:=df c4;clear c4;obtain rfl:=ojz H;go_wp2;go_ret;exact ax1
def laws_szEntry.f (k:Nat) (aJ:ByteArray) (aH:Int) (bJ:List (S78)) (bM:List (S78)) (aX:ByteArray) (bB:ByteArray) (bE:ByteArray) (bN:Int) (bO:Int) (bQ:Int) (bF:Bool) (bI:Int) (bD:ByteArray) (bL:ByteArray) (a1:Int):Option (Int):=if (wrap64 (a1-(aJ.size:Int)))<0 then (some (-1)) else ((laws_szNameS.f k bJ (wrap64 (a1-(aJ.size:Int)))).bind fun oX=>(if oX<0 then (some (-1)) else ((laws_szNameS.f k bM oX).bind fun gT=>(if gT<0 then (some (-1)) else (if (wrap64 (gT-(aX.size:Int)))<0 then (some (-1)) else (if (wrap64 ((wrap64 (gT-(aX.size:Int)))-(bB.size:Int)))<0 then (some (-1)) else (if (wrap64 ((wrap64 ((wrap64 (gT-(aX.size:Int)))-(bB.size:Int)))-(bE.size:Int)))<0 then (some (-1)) else (if (wrap64 ((wrap64 ((wrap64 ((wrap64 (gT-(aX.size:Int)))-(bB.size:Int)))-(bE.size:Int)))-(bD.size:Int)))<0 then (some (-1)) else (if (wrap64 ((wrap64 ((wrap64 ((wrap64 ((wrap64 (gT-(aX.size:Int)))-(bB.size:Int)))-(bE.size:Int)))-(bD.size:Int)))-(bL.size:Int)))<0 then (some (-1)) else (some (wrap64 ((wrap64 ((wrap64 ((wrap64 ((wrap64 (gT-(aX.size:Int)))-(bB.size:Int)))-(bE.size:Int)))-(bD.size:Int)))-(bL.size:Int)))))))))))))
theorem laws_szEntry.mono:∀ a0 a1 a2 a3 a4 a5 a6 a7 a8 a9 iG iH iI iJ QA k,LeO (laws_szEntry.f k a0 a1 a2 a3 a4 a5 a6 a7 a8 a9 iG iH iI iJ QA) (laws_szEntry.f (k+1) a0 a1 a2 a3 a4 a5 a6 a7 a8 a9 iG iH iI iJ QA):=by
 intro a0 a1 a2 a3 a4 a5 a6 a7 a8 a9 iG iH iI iJ QA k;unfold laws_szEntry.f
 repeat' first
   | (with_reducible exact laws_szNameS.mono _ _ _)
   | (with_reducible exact LeO.refl _)
   | (with_reducible exact LeO.none _)
   | (with_reducible refine LeO.ite ?_ ?_)
   | (with_reducible refine LeO.bind ?_ (fun _=>?_))
   | exact laws_szNameS.mono _ _ _
   | exact LeO.none _
   | refine LeO.ite ?_ ?_
   | refine LeO.bind ?_ (fun _=>?_)
set_option maxRecDepth 100000 in
theorem laws_szEntry.L0 {P:Prop} (h:P:=by
  go_enter Tryz.func22,Tryz.ntmps22;go_wp2_with (first|((with_reducible refine gate_dst (N:=2) rfl ?_);refine box_event ?hg (N:=2) ?hd (cs:=#[.string aJ,.int .i64 aH,.slice dD bJ.length dE,.slice dF bM.length dG,.string aX,.string bB,.string bE,.int .i64 bN,.int .i64 bO,.int .i64 bQ,.bool bF,.int .i64 bI,.string bD,.string bL]) (t:=52) ?hr ?_;(case hd=>rfl);(case hg=>rfl);(case hr=>first|(go_simp;done)|(go_simp;rfl));intro CK hg xM hbox hb;have kV:=am (hbox);have agC:=am (bsz hg au46);have MM:=am (bsz hg au46);replace HB:=am (below_step au46 hb);clear hb hbox hg;obtain ⟨L3,L4,L5,L6,XL,XM,XN,XO,XP,XQ,QB,QC,QD,QE,L8,L9,La,Lb,XR,XS,XT,XU,XV,XW,QF,QG,QH,QI⟩:=blkc14 kV.out)|((with_reducible refine gate_callee (f:=35) rfl ?_);refine goesL_ (some 15) rfl rfl Tryz.func35 (by kernel_rfl) rfl #[.slice dD bJ.length dE,.int .i64 (wrap64 (a1-(aJ.size:Int)))] rfl au45 ?_;(with_reducible refine (laws_szNameS.calls k _ _ bJ (wrap64 (a1-(aJ.size:Int))) oX _ ?aU ?aV A6.out).mono ?_);(case aU=>repeat (first|exact (Kd.C_below gQ.out HB.out)|(with_reducible refine Kd.C_alloc ?_ _)|(with_reducible refine Kd.C_drewN ?_ _)|(with_reducible refine Kd.C_drew ?_)));(case aV=>exact gR.out);rintro e QJ ⟨rfl,hb⟩;refine ⟨_,rfl,?_⟩;replace kV:=am (blk_below (g:=CK) au59 hb);replace HB:=am (below_step au27 hb);(try clear hb);obtain ⟨sT,sU,sV,sW,EE,EF,EG,EH,EI,EJ,BE,BF,BG,BH,sX,sY,sZ,tA,EK,EL,EM,EN,EO,EP,BI,BJ,BK,BL⟩:=blkc14 kV.out)|((with_reducible refine gate_callee (f:=35) rfl ?_);refine goesL_ (some 21) rfl rfl Tryz.func35 (by kernel_rfl) rfl #[.slice dF bM.length dG,.int .i64 oX] rfl au45 ?_;(with_reducible refine (laws_szNameS.calls k _ _ bM oX gT _ ?aU ?aV A11.out).mono ?_);(case aU=>repeat (first|exact (Kd.C_below jC.out HB.out)|(with_reducible refine Kd.C_alloc ?_ _)|(with_reducible refine Kd.C_drewN ?_ _)|(with_reducible refine Kd.C_drew ?_)));(case aV=>exact jD.out);rintro e w23 ⟨rfl,hb⟩;refine ⟨_,rfl,?_⟩;replace kV:=am (blk_below (g:=CK) au59 hb);replace HB:=am (below_step au27 hb);(try clear hb);obtain ⟨tB,tC,tD,tE,Fa,Fb,Fc,Fe,Ff,Fg,BX,BZ,C0,C1,tF,tG,tH,tI,Fh,Fi,Fj,Fl,Fo,Fp,C2,C3,C4,C5⟩:=blkc14 kV.out));go_ret
  exact ax5):P:=h
set_option maxHeartbeats 8000000 in
set_option maxRecDepth 100000 in
theorem laws_szEntry.calls (k:Nat) (aJ:ByteArray) (aH:Int) (dD:Option Addr) (dE:Nat) (bJ:List (S78)) (dF:Option Addr) (dG:Nat) (bM:List (S78)) (aX:ByteArray) (bB:ByteArray) (bE:ByteArray) (bN:Int) (bO:Int) (bQ:Int) (bF:Bool) (bI:Int) (bD:ByteArray) (bL:ByteArray) (a1:Int) (r:Int) (w:World) (fY:Kd.C k78 w dD bJ.length bJ) (eZ:bJ.length≤dE) (fZ:Kd.C k78 w dF bM.length bM) (fA:bM.length≤dG) (h:laws_szEntry.f k aJ aH bJ bM aX bB bE bN bO bQ bF bI bD bL a1=some r) :
  Calls Tryz.prog 22 #[.agg #[.string aJ,.int .i64 aH,.slice dD bJ.length dE,.slice dF bM.length dG,.string aX,.string bB,.string bE,.int .i64 bN,.int .i64 bO,.int .i64 bQ,.bool bF,.int .i64 bI,.string bD,.string bL],.int .i64 a1] w fun e w'=>e=.returned (.int .i64 r)∧Below w.heap.size w w':=by
 have hu52:=Tryz.underlying52;have gQ:=am fY;have gR:=am eZ;clear fY eZ;have jC:=am fZ;have jD:=am fA;clear fZ fA;have HB:=am (Below.refl w.heap.size w);have H:(if (wrap64 (a1-(aJ.size:Int)))<0 then (some (-1)) else ((laws_szNameS.f k bJ (wrap64 (a1-(aJ.size:Int)))).bind fun oX=>(if oX<0 then (some (-1)) else ((laws_szNameS.f k bM oX).bind fun gT=>(if gT<0 then (some (-1)) else (if (wrap64 (gT-(aX.size:Int)))<0 then (some (-1)) else (if (wrap64 ((wrap64 (gT-(aX.size:Int)))-(bB.size:Int)))<0 then (some (-1)) else (if (wrap64 ((wrap64 ((wrap64 (gT-(aX.size:Int)))-(bB.size:Int)))-(bE.size:Int)))<0 then (some (-1)) else (if (wrap64 ((wrap64 ((wrap64 ((wrap64 (gT-(aX.size:Int)))-(bB.size:Int)))-(bE.size:Int)))-(bD.size:Int)))<0 then (some (-1)) else (if (wrap64 ((wrap64 ((wrap64 ((wrap64 ((wrap64 (gT-(aX.size:Int)))-(bB.size:Int)))-(bE.size:Int)))-(bD.size:Int)))-(bL.size:Int)))<0 then (some (-1)) else (some (wrap64 ((wrap64 ((wrap64 ((wrap64 ((wrap64 (gT-(aX.size:Int)))-(bB.size:Int)))-(bE.size:Int)))-(bD.size:Int)))-(bL.size:Int))))))))))))))=some r:=h;clear h;by_cases c3:(wrap64 (a1-(aJ.size:Int)))<0
 · rw [if_pos c3] at H;have c3b0:=dt c3;clear c3;obtain rfl:=ojz H;exact laws_szEntry.L0
 ·
  rw [if_neg c3] at H;have c3b0:=df c3;clear c3;replace H:=ob H;obtain ⟨oX,iV,H⟩:=H
  try dsimp only at H
  have A6:=am iV;clear iV;by_cases c7:oX<0
  · rw [if_pos c7] at H;have c7b0:=dt c7;clear c7;obtain rfl:=ojz H;go_enter Tryz.func22,Tryz.ntmps22;go_wp2_with (first|((with_reducible refine gate_dst (N:=2) rfl ?_);refine box_event ?hg (N:=2) ?hd (cs:=#[.string aJ,.int .i64 aH,.slice dD bJ.length dE,.slice dF bM.length dG,.string aX,.string bB,.string bE,.int .i64 bN,.int .i64 bO,.int .i64 bQ,.bool bF,.int .i64 bI,.string bD,.string bL]) (t:=52) ?hr ?_;(case hd=>rfl);(case hg=>rfl);(case hr=>first|(go_simp;done)|(go_simp;rfl));intro CK hg w8 hbox hb;have kV:=am (hbox);have agC:=am (bsz hg au46);have MM:=am (bsz hg au46);replace HB:=am (below_step au46 hb);clear hb hbox hg;obtain ⟨zB,a5P,a5Q,a5R,aUb,aUc,aUd,aUe,aUf,aUg,aPO,aPP,aPQ,aPR,zC,a5S,a5T,a5U,aUh,aUi,aUj,aUk,aUl,aUm,aPS,aPT,aPU,aPV⟩:=blkc14 kV.out)|((with_reducible refine gate_callee (f:=35) rfl ?_);refine goesL_ (some 15) rfl rfl Tryz.func35 (by kernel_rfl) rfl #[.slice dD bJ.length dE,.int .i64 (wrap64 (a1-(aJ.size:Int)))] rfl au45 ?_;(with_reducible refine (laws_szNameS.calls k _ _ bJ (wrap64 (a1-(aJ.size:Int))) oX _ ?aU ?aV A6.out).mono ?_);(case aU=>repeat (first|exact (Kd.C_below gQ.out HB.out)|(with_reducible refine Kd.C_alloc ?_ _)|(with_reducible refine Kd.C_drewN ?_ _)|(with_reducible refine Kd.C_drew ?_)));(case aV=>exact gR.out);rintro e mN ⟨rfl,hb⟩;refine ⟨_,rfl,?_⟩;replace kV:=am (blk_below (g:=CK) au59 hb);replace HB:=am (below_step au27 hb);(try clear hb)));go_ret;exact ax5
  ·
   rw [if_neg c7] at H;have c7b0:=df c7;clear c7;replace H:=ob H;obtain ⟨gT,Oi,H⟩:=H
   try dsimp only at H
   have A11:=am Oi;clear Oi;by_cases eA:gT<0
   · rw [if_pos eA] at H;have c12b0:=dt eA;clear eA;obtain rfl:=ojz H;go_enter Tryz.func22,Tryz.ntmps22;go_wp2_with (first|((with_reducible refine gate_dst (N:=2) rfl ?_);refine box_event ?hg (N:=2) ?hd (cs:=#[.string aJ,.int .i64 aH,.slice dD bJ.length dE,.slice dF bM.length dG,.string aX,.string bB,.string bE,.int .i64 bN,.int .i64 bO,.int .i64 bQ,.bool bF,.int .i64 bI,.string bD,.string bL]) (t:=52) ?hr ?_;(case hd=>rfl);(case hg=>rfl);(case hr=>first|(go_simp;done)|(go_simp;rfl));intro CK hg mP hbox hb;have kV:=am (hbox);have agC:=am (bsz hg au46);have MM:=am (bsz hg au46);replace HB:=am (below_step au46 hb);clear hb hbox hg;obtain ⟨rX,rY,rZ,sB,SC,SD,SE,SF,SG,SH,NJ,NK,NL,NM,sC,sD,sF,sG,SI,SJ,SK,SL,SN,SO,NN,NO,NP,NQ⟩:=blkc14 kV.out)|((with_reducible refine gate_callee (f:=35) rfl ?_);refine goesL_ (some 15) rfl rfl Tryz.func35 (by kernel_rfl) rfl #[.slice dD bJ.length dE,.int .i64 (wrap64 (a1-(aJ.size:Int)))] rfl au45 ?_;(with_reducible refine (laws_szNameS.calls k _ _ bJ (wrap64 (a1-(aJ.size:Int))) oX _ ?aU ?aV A6.out).mono ?_);(case aU=>repeat (first|exact (Kd.C_below gQ.out HB.out)|(with_reducible refine Kd.C_alloc ?_ _)|(with_reducible refine Kd.C_drewN ?_ _)|(with_reducible refine Kd.C_drew ?_)));(case aV=>exact gR.out);rintro e MD ⟨rfl,hb⟩;refine ⟨_,rfl,?_⟩;replace kV:=am (blk_below (g:=CK) au59 hb);replace HB:=am (below_step au27 hb);(try clear hb);obtain ⟨nU,pF,pG,pH,Uf,Ug,Uh,Ui,Uj,Uk,Pd,Pe,Pf,Ph,nV,pI,pJ,pK,Ul,Um,Un,Uo,Up,Uq,Pi,Pj,Pk,Pm⟩:=blkc14 kV.out)|((with_reducible refine gate_callee (f:=35) rfl ?_);refine goesL_ (some 21) rfl rfl Tryz.func35 (by kernel_rfl) rfl #[.slice dF bM.length dG,.int .i64 oX] rfl au45 ?_;(with_reducible refine (laws_szNameS.calls k _ _ bM oX gT _ ?aU ?aV A11.out).mono ?_);(case aU=>repeat (first|exact (Kd.C_below jC.out HB.out)|(with_reducible refine Kd.C_alloc ?_ _)|(with_reducible refine Kd.C_drewN ?_ _)|(with_reducible refine Kd.C_drew ?_)));(case aV=>exact jD.out);rintro e oP ⟨rfl,hb⟩;refine ⟨_,rfl,?_⟩;replace kV:=am (blk_below (g:=CK) au59 hb);replace HB:=am (below_step au27 hb);(try clear hb)));go_ret;exact ax5
   ·
    rw [if_neg eA] at H;have c12b0:=df eA;clear eA;by_cases jB:(wrap64 (gT-(aX.size:Int)))<0
    · rw [if_pos jB] at H;have c18b0:=dt jB;clear jB;obtain rfl:=ojz H;exact laws_szEntry.L0
    ·
     rw [if_neg jB] at H;have c18b0:=df jB;clear jB;by_cases oW:(wrap64 ((wrap64 (gT-(aX.size:Int)))-(bB.size:Int)))<0
     · rw [if_pos oW] at H;have c25b0:=dt oW;clear oW;obtain rfl:=ojz H;exact laws_szEntry.L0
     ·
      rw [if_neg oW] at H;have c25b0:=df oW;clear oW;by_cases mW:(wrap64 ((wrap64 ((wrap64 (gT-(aX.size:Int)))-(bB.size:Int)))-(bE.size:Int)))<0
      · rw [if_pos mW] at H;have c32b0:=dt mW;clear mW;obtain rfl:=ojz H;exact laws_szEntry.L0
      ·
       rw [if_neg mW] at H;have c32b0:=df mW;clear mW;by_cases wZ:(wrap64 ((wrap64 ((wrap64 ((wrap64 (gT-(aX.size:Int)))-(bB.size:Int)))-(bE.size:Int)))-(bD.size:Int)))<0
       · rw [if_pos wZ] at H;have c39b0:=dt wZ;clear wZ;obtain rfl:=ojz H;exact laws_szEntry.L0
       ·
        rw [if_neg wZ] at H;have c39b0:=df wZ;clear wZ;by_cases XX:(wrap64 ((wrap64 ((wrap64 ((wrap64 ((wrap64 (gT-(aX.size:Int)))-(bB.size:Int)))-(bE.size:Int)))-(bD.size:Int)))-(bL.size:Int)))<0
        · rw [if_pos XX] at H;have c46b0:=dt XX;clear XX;obtain rfl:=ojz H;exact laws_szEntry.L0
        · rw [if_neg XX] at H;have c46b0:=df XX;clear XX;obtain rfl:=ojz H;exact laws_szEntry.L0
def laws_szEntryS.l0:Nat→List (S52)→Int→Int→Option (Int)
 | 0,_,_,_=>none
 | k+1,x0,x1,x5=>if x5<(x0.length:Int) then (if 0≤x5 then ((laws_szEntry.f k ((rd_T52 x0 x5).f0) ((rd_T52 x0 x5).f1) ((rd_T52 x0 x5).f2) ((rd_T52 x0 x5).f3) ((rd_T52 x0 x5).f4) ((rd_T52 x0 x5).f5) ((rd_T52 x0 x5).f6) ((rd_T52 x0 x5).f7.f0) ((rd_T52 x0 x5).f7.f1) ((rd_T52 x0 x5).f7.f2) ((rd_T52 x0 x5).f7.f3) ((rd_T52 x0 x5).f8) ((rd_T52 x0 x5).f9) ((rd_T52 x0 x5).f10) x1).bind fun Jh=>(if Jh<0 then (some (-1)) else (laws_szEntryS.l0 k x0 Jh (wrap64 (x5+1))))) else (none)) else (some x1)
def laws_szEntryS.f (k:Nat) (l0:List (S52)) (a1:Int):Option (Int):=if (wrap64 (a1-(l0.length:Int)))<0 then (some (-1)) else (laws_szEntryS.l0 k l0 (wrap64 (a1-(l0.length:Int))) 0)
theorem laws_szEntryS.mono_l:∀ k,(∀ y0 y1 y2,LeO (laws_szEntryS.l0 k y0 y1 y2) (laws_szEntryS.l0 (k+1) y0 y1 y2))
 | 0=>fun _ _ _ r h=>by simp [laws_szEntryS.l0] at h
 | k+1=>by
  have ih0:=laws_szEntryS.mono_l k
  ·
   intro y0 y1 y2;unfold laws_szEntryS.l0
   repeat' first
   | (with_reducible exact ih0 _ _ _)
   | (with_reducible exact laws_szEntry.mono _ _ _ _ _ _ _ _ _ _ _ _ _ _ _ _)
   | (with_reducible exact LeO.refl _)
   | (with_reducible exact LeO.none _)
   | (with_reducible refine LeO.ite ?_ ?_)
   | (with_reducible refine LeO.bind ?_ (fun _=>?_))
   | exact ih0 _ _ _
   | exact laws_szEntry.mono _ _ _ _ _ _ _ _ _ _ _ _ _ _ _ _
   | exact LeO.none _
   | refine LeO.ite ?_ ?_
   | refine LeO.bind ?_ (fun _=>?_)
theorem laws_szEntryS.mono:∀ a0 a1 k,LeO (laws_szEntryS.f k a0 a1) (laws_szEntryS.f (k+1) a0 a1):=by
 intro a0 a1 k;have ih0:=laws_szEntryS.mono_l k;unfold laws_szEntryS.f
 repeat' first
   | (with_reducible exact ih0 _ _ _)
   | (with_reducible exact laws_szEntry.mono _ _ _ _ _ _ _ _ _ _ _ _ _ _ _ _)
   | (with_reducible exact LeO.refl _)
   | (with_reducible exact LeO.none _)
   | (with_reducible refine LeO.ite ?_ ?_)
   | (with_reducible refine LeO.bind ?_ (fun _=>?_))
   | exact ih0 _ _ _
   | exact laws_szEntry.mono _ _ _ _ _ _ _ _ _ _ _ _ _ _ _ _
   | exact LeO.none _
   | refine LeO.ite ?_ ?_
   | refine LeO.bind ?_ (fun _=>?_)
set_option maxRecDepth 100000 in
theorem laws_szEntryS.L0 {P:Prop} (h:P:=by
  go_wp2_with (first|((with_reducible refine gate_callee (f:=22) rfl ?_);refine goesL_ (some 23) rfl rfl Tryz.func22 (by kernel_rfl) rfl #[.agg #[.string ((rd_T52 l0 aC).f0),.int .i64 ((rd_T52 l0 aC).f1),.slice QK ((rd_T52 l0 aC).f2).length QL,.slice QM ((rd_T52 l0 aC).f3).length QN,.string ((rd_T52 l0 aC).f4),.string ((rd_T52 l0 aC).f5),.string ((rd_T52 l0 aC).f6),.int .i64 ((rd_T52 l0 aC).f7.f0),.int .i64 ((rd_T52 l0 aC).f7.f1),.int .i64 ((rd_T52 l0 aC).f7.f2),.bool ((rd_T52 l0 aC).f7.f3),.int .i64 ((rd_T52 l0 aC).f8),.string ((rd_T52 l0 aC).f9),.string ((rd_T52 l0 aC).f10)],.int .i64 cL] rfl au45 ?_;(with_reducible refine (laws_szEntry.calls k1 ((rd_T52 l0 aC).f0) ((rd_T52 l0 aC).f1) _ _ ((rd_T52 l0 aC).f2) _ _ ((rd_T52 l0 aC).f3) ((rd_T52 l0 aC).f4) ((rd_T52 l0 aC).f5) ((rd_T52 l0 aC).f6) ((rd_T52 l0 aC).f7.f0) ((rd_T52 l0 aC).f7.f1) ((rd_T52 l0 aC).f7.f2) ((rd_T52 l0 aC).f7.f3) ((rd_T52 l0 aC).f8) ((rd_T52 l0 aC).f9) ((rd_T52 l0 aC).f10) cL Jh _ ?aU ?aV ?dY ?dZ A6.out).mono ?_);(case aU=>repeat (first|exact (Kd.C_below LP.out HB.out)|(with_reducible refine Kd.C_alloc ?_ _)|(with_reducible refine Kd.C_drewN ?_ _)|(with_reducible refine Kd.C_drew ?_)));(case aV=>exact LQ.out);(case dY=>repeat (first|exact (Kd.C_below LR.out HB.out)|(with_reducible refine Kd.C_alloc ?_ _)|(with_reducible refine Kd.C_drewN ?_ _)|(with_reducible refine Kd.C_drew ?_)));(case dZ=>exact LS.out);rintro e w8 ⟨rfl,hb⟩;refine ⟨_,rfl,?_⟩;replace HB:=am (below_step au46 hb);(try clear hb)));go_ret
  exact ax1):P:=h
set_option maxHeartbeats 8000000 in
set_option maxRecDepth 100000 in
theorem laws_szEntryS.calls (k:Nat) (A0:Option Addr) (c0:Nat) (l0:List (S52)) (a1:Int) (r:Int) (w:World) (dH:Kd.C k52 w A0 l0.length l0) (cP:l0.length≤c0) (h:laws_szEntryS.f k l0 a1=some r) :
  Calls Tryz.prog 11 #[.slice A0 l0.length c0,.int .i64 a1] w fun e w'=>e=.returned (.int .i64 r)∧Below w.heap.size w w':=by
 have hu52:=Tryz.underlying52;have cW:=am dH;have mM:=am cP;clear dH cP;have HB:=am (Below.refl w.heap.size w);have H:(if (wrap64 (a1-(l0.length:Int)))<0 then (some (-1)) else (laws_szEntryS.l0 k l0 (wrap64 (a1-(l0.length:Int))) 0))=some r:=h;clear h;by_cases c3:(wrap64 (a1-(l0.length:Int)))<0
 · rw [if_pos c3] at H;have c3b0:=dt c3;clear c3;obtain rfl:=ojz H;go_enter Tryz.func11,Tryz.ntmps11;go_wp2;go_ret;exact ax1
 ·
  rw [if_neg c3] at H;have c3b0:=df c3;clear c3;have H':=am H;clear H;go_enter Tryz.func11,Tryz.ntmps11;go_wp2
  go_loopg [1,5] k (fun kq v1 v5 w'=>∃ (cL:Int) (aC:Int),v1=.int .i64 cL∧v5=.int .i64 aC∧Aside0 (laws_szEntryS.l0 kq l0 cL aC=some r)∧Aside0 (kq≤k)∧Aside0 (Below w.heap.size w w'))
  case atStart=>exact ⟨(wrap64 (a1-(l0.length:Int))),(0),au88,au88,H',⟨Nat.le_refl _⟩,⟨by repeat (first|(with_reducible first|exact HB.out|apply below_alloc|apply pw_below_drewN|apply below_drew1)|exact HB.out)⟩⟩
  case round =>
   clear H'
   try clear c1
   try clear p2
   try clear c3
   try clear c3b0
   obtain ⟨cL,aC,rfl,rfl,HA,HK1,HB⟩:=hrel
   cases gk with
   | zero=>exact absurd HA.out (by simp [laws_szEntryS.l0])
   | succ k1 =>
    have H:=HA.out;clear HA;simp only [laws_szEntryS.l0] at H;by_cases c4:aC<(l0.length:Int)
    ·
     rw [if_pos c4] at H;have c4b0:=dt c4;clear c4;by_cases c5:0≤aC
     ·
      rw [if_pos c5] at H;have c5b0:=dt c5;clear c5;replace H:=ob H;obtain ⟨Jh,iV,H⟩:=H
      try dsimp only at H
      have A6:=am iV;clear iV;by_cases c7:Jh<0
      ·
       rw [if_pos c7] at H;have c7b0:=dt c7;clear c7;obtain rfl:=ojz H;have Ji:0≤(aC:Int):=od au87;have Jj:aC<(l0.length:Int):=od au87;obtain ⟨aE8,QK,QL,QM,QN,aaU,zJ,zK,zL,zM,zN,zO,zP,zQ,zR,zS,vG,vH,vI,vJ,zT,zU,zV,zW⟩:=at_T52 cW.out aC Ji Jj
       cases aaU
       replace zJ:=bcl HB.out zJ;replace zK:=bcl HB.out zK;replace zL:=bcl HB.out zL;replace zM:=bcl HB.out zM;replace zN:=bcl HB.out zN;replace zO:=bcl HB.out zO;replace zP:=bcl HB.out zP;replace zQ:=bcl HB.out zQ;replace zR:=bcl HB.out zR;replace zS:=bcl HB.out zS;replace vG:=bcl HB.out vG;replace vH:=bcl HB.out vH;replace vI:=bcl HB.out vI;replace vJ:=bcl HB.out vJ;have LP:=am zU;have LQ:=am zT;clear zU zT;have LR:=am zW;have LS:=am zV;clear zW zV;replace Ji:=eq_true Ji;replace Jj:=eq_true Jj;exact laws_szEntryS.L0
      ·
       rw [if_neg c7] at H;have c7b0:=df c7;clear c7;have H':=am H;clear H;have Ji:0≤(aC:Int):=od au87;have Jj:aC<(l0.length:Int):=od au87;obtain ⟨aE8,QK,QL,QM,QN,aaU,zJ,zK,zL,zM,zN,zO,zP,zQ,zR,zS,vG,vH,vI,vJ,zT,zU,zV,zW⟩:=at_T52 cW.out aC Ji Jj
       cases aaU
       replace zJ:=bcl HB.out zJ;replace zK:=bcl HB.out zK;replace zL:=bcl HB.out zL;replace zM:=bcl HB.out zM;replace zN:=bcl HB.out zN;replace zO:=bcl HB.out zO;replace zP:=bcl HB.out zP;replace zQ:=bcl HB.out zQ;replace zR:=bcl HB.out zR;replace zS:=bcl HB.out zS;replace vG:=bcl HB.out vG;replace vH:=bcl HB.out vH;replace vI:=bcl HB.out vI;replace vJ:=bcl HB.out vJ;have LP:=am zU;have LQ:=am zT;clear zU zT;have LR:=am zW;have LS:=am zV;clear zW zV;replace Ji:=eq_true Ji;replace Jj:=eq_true Jj;go_wp2_with (first|((with_reducible refine gate_callee (f:=22) rfl ?_);refine goesL_ (some 23) rfl rfl Tryz.func22 (by kernel_rfl) rfl #[.agg #[.string ((rd_T52 l0 aC).f0),.int .i64 ((rd_T52 l0 aC).f1),.slice QK ((rd_T52 l0 aC).f2).length QL,.slice QM ((rd_T52 l0 aC).f3).length QN,.string ((rd_T52 l0 aC).f4),.string ((rd_T52 l0 aC).f5),.string ((rd_T52 l0 aC).f6),.int .i64 ((rd_T52 l0 aC).f7.f0),.int .i64 ((rd_T52 l0 aC).f7.f1),.int .i64 ((rd_T52 l0 aC).f7.f2),.bool ((rd_T52 l0 aC).f7.f3),.int .i64 ((rd_T52 l0 aC).f8),.string ((rd_T52 l0 aC).f9),.string ((rd_T52 l0 aC).f10)],.int .i64 cL] rfl au45 ?_;(with_reducible refine (laws_szEntry.calls k1 ((rd_T52 l0 aC).f0) ((rd_T52 l0 aC).f1) _ _ ((rd_T52 l0 aC).f2) _ _ ((rd_T52 l0 aC).f3) ((rd_T52 l0 aC).f4) ((rd_T52 l0 aC).f5) ((rd_T52 l0 aC).f6) ((rd_T52 l0 aC).f7.f0) ((rd_T52 l0 aC).f7.f1) ((rd_T52 l0 aC).f7.f2) ((rd_T52 l0 aC).f7.f3) ((rd_T52 l0 aC).f8) ((rd_T52 l0 aC).f9) ((rd_T52 l0 aC).f10) cL Jh _ ?aU ?aV ?dY ?dZ A6.out).mono ?_);(case aU=>repeat (first|exact (Kd.C_below LP.out HB.out)|(with_reducible refine Kd.C_alloc ?_ _)|(with_reducible refine Kd.C_drewN ?_ _)|(with_reducible refine Kd.C_drew ?_)));(case aV=>exact LQ.out);(case dY=>repeat (first|exact (Kd.C_below LR.out HB.out)|(with_reducible refine Kd.C_alloc ?_ _)|(with_reducible refine Kd.C_drewN ?_ _)|(with_reducible refine Kd.C_drew ?_)));(case dZ=>exact LS.out);rintro e w9 ⟨rfl,hb⟩;refine ⟨_,rfl,?_⟩;replace HB:=am (below_step au46 hb);(try clear hb)))
       go_roundg k1
       case measure=>have:=HK1.out;omega
       case rel=>exact ⟨(Jh),(wrap64 (aC+1)),au88,au88,H',⟨by have:=HK1.out;omega⟩,⟨by repeat (first|(with_reducible first|exact HB.out|apply below_alloc|apply pw_below_drewN|apply below_drew1)|exact HB.out)⟩⟩
     · rw [if_neg c5] at H;exact absurd H (by simp)
    · rw [if_neg c4] at H;have c4b0:=df c4;clear c4;obtain rfl:=ojz H;exact laws_szEntryS.L0
def laws_szLibrary.f (k:Nat) (aA:List (S52)) (a1:Int):Option (Int):=(laws_szEntryS.f k aA a1).bind fun CL=>(if CL<0 then (some (-1)) else (some CL))
theorem laws_szLibrary.mono:∀ a0 a1 k,LeO (laws_szLibrary.f k a0 a1) (laws_szLibrary.f (k+1) a0 a1):=by
 intro a0 a1 k;unfold laws_szLibrary.f
 repeat' first
   | (with_reducible exact laws_szEntryS.mono _ _ _)
   | (with_reducible exact LeO.refl _)
   | (with_reducible exact LeO.none _)
   | (with_reducible refine LeO.ite ?_ ?_)
   | (with_reducible refine LeO.bind ?_ (fun _=>?_))
   | exact laws_szEntryS.mono _ _ _
   | exact LeO.none _
   | refine LeO.ite ?_ ?_
   | refine LeO.bind ?_ (fun _=>?_)
set_option maxHeartbeats 8000000 in
set_option maxRecDepth 100000 in
theorem laws_szLibrary.calls (k:Nat) (bH:Option Addr) (bA:Nat) (aA:List (S52)) (a1:Int) (r:Int) (w:World) (cE:Kd.C k52 w bH aA.length aA) (cA:aA.length≤bA) (h:laws_szLibrary.f k aA a1=some r) :
  Calls Tryz.prog 4 #[.agg #[.slice bH aA.length bA],.int .i64 a1] w fun e w'=>e=.returned (.int .i64 r)∧Below w.heap.size w w':=by
 have hu24:=Tryz.underlying24;have cM:=am cE;have eO:=am cA;clear cE cA;have HB:=am (Below.refl w.heap.size w);have H:((laws_szEntryS.f k aA a1).bind fun CL=>(if CL<0 then (some (-1)) else (some CL)))=some r:=h;clear h;replace H:=ob H;obtain ⟨CL,dL,H⟩:=H
 try dsimp only at H
 have A3:=am dL;clear dL;by_cases c4:CL<0
 · rw [if_pos c4] at H;have c4b0:=dt c4;clear c4;obtain rfl:=ojz H;go_enter Tryz.func4,Tryz.ntmps4;go_wp2_with (first|((with_reducible refine gate_dst (N:=2) rfl ?_);refine box_event ?hg (N:=2) ?hd (cs:=#[.slice bH aA.length bA]) (t:=24) ?hr ?_;(case hd=>rfl);(case hg=>rfl);(case hr=>first|(go_simp;done)|(go_simp;rfl));intro Km hg w5 hbox hb;have wO:=am (hbox);have aE9:=am (bsz hg au46);have a1Q:=am (bsz hg au46);replace HB:=am (below_step au46 hb);clear hb hbox hg;have a5V:w5.cell? ⟨Km,0,none⟩=some (.slice bH aA.length bA):=(blk_cell wO.out 0).trans rfl;have a5W:=blk_frozen wO.out 0)|((with_reducible refine gate_callee (f:=11) rfl ?_);refine goesL_ (some 8) rfl rfl Tryz.func11 (by kernel_rfl) rfl #[.slice bH aA.length bA,.int .i64 a1] rfl au45 ?_;(with_reducible refine (laws_szEntryS.calls k _ _ aA a1 CL _ ?aU ?aV A3.out).mono ?_);(case aU=>repeat (first|exact (Kd.C_below cM.out HB.out)|(with_reducible refine Kd.C_alloc ?_ _)|(with_reducible refine Kd.C_drewN ?_ _)|(with_reducible refine Kd.C_drew ?_)));(case aV=>exact eO.out);rintro e w7 ⟨rfl,hb⟩;refine ⟨_,rfl,?_⟩;replace wO:=am (blk_below (g:=Km) au60 hb);replace HB:=am (below_step au28 hb);(try clear hb)));go_ret;exact ax6
 · rw [if_neg c4] at H;have c4b0:=df c4;clear c4;obtain rfl:=ojz H;go_enter Tryz.func4,Tryz.ntmps4;go_wp2_with (first|((with_reducible refine gate_dst (N:=2) rfl ?_);refine box_event ?hg (N:=2) ?hd (cs:=#[.slice bH aA.length bA]) (t:=24) ?hr ?_;(case hd=>rfl);(case hg=>rfl);(case hr=>first|(go_simp;done)|(go_simp;rfl));intro Km hg w8 hbox hb;have wO:=am (hbox);have aE9:=am (bsz hg au46);have a1Q:=am (bsz hg au46);replace HB:=am (below_step au46 hb);clear hb hbox hg;have zB:w8.cell? ⟨Km,0,none⟩=some (.slice bH aA.length bA):=(blk_cell wO.out 0).trans rfl;have zC:=blk_frozen wO.out 0)|((with_reducible refine gate_callee (f:=11) rfl ?_);refine goesL_ (some 8) rfl rfl Tryz.func11 (by kernel_rfl) rfl #[.slice bH aA.length bA,.int .i64 a1] rfl au45 ?_;(with_reducible refine (laws_szEntryS.calls k _ _ aA a1 CL _ ?aU ?aV A3.out).mono ?_);(case aU=>repeat (first|exact (Kd.C_below cM.out HB.out)|(with_reducible refine Kd.C_alloc ?_ _)|(with_reducible refine Kd.C_drewN ?_ _)|(with_reducible refine Kd.C_drew ?_)));(case aV=>exact eO.out);rintro e mN ⟨rfl,hb⟩;refine ⟨_,rfl,?_⟩;replace wO:=am (blk_below (g:=Km) au60 hb);replace HB:=am (below_step au28 hb);(try clear hb)));go_ret;exact ax6
def laws_toStringS.l0:Nat→List ByteArray→List ByteArray→Int→Option (List ByteArray)
 | 0,_,_,_=>none
 | k+1,x0,x3,x4=>if x4<(x0.length:Int) then (if 0≤x4 then (if x4<(x3.length:Int) then (laws_toStringS.l0 k x0 (x3.set (x4:Int).toNat (rdOf ByteArray.empty x0 x4)) (wrap64 (x4+1))) else (none)) else (none)) else (some x3)
def laws_toStringS.f (k:Nat) (l0:List ByteArray):Option (List ByteArray):=if 0≤(l0.length:Int) then (if ((l0.length:Int):Int).toNat≤17592186044416 then (laws_toStringS.l0 k l0 (List.replicate ((l0.length:Int):Int).toNat (⟨#[]⟩:ByteArray)) 0) else (none)) else (none)
theorem laws_toStringS.mono_l:∀ k,(∀ y0 y1 y2,LeO (laws_toStringS.l0 k y0 y1 y2) (laws_toStringS.l0 (k+1) y0 y1 y2))
 | 0=>fun _ _ _ r h=>by simp [laws_toStringS.l0] at h
 | k+1=>by
  have ih0:=laws_toStringS.mono_l k
  ·
   intro y0 y1 y2;unfold laws_toStringS.l0
   repeat' first
   | (with_reducible exact ih0 _ _ _)
   | (with_reducible exact LeO.refl _)
   | (with_reducible exact LeO.none _)
   | (with_reducible refine LeO.ite ?_ ?_)
   | (with_reducible refine LeO.bind ?_ (fun _=>?_))
   | exact ih0 _ _ _
   | exact LeO.none _
   | refine LeO.ite ?_ ?_
   | refine LeO.bind ?_ (fun _=>?_)
theorem laws_toStringS.mono:∀ a0 k,LeO (laws_toStringS.f k a0) (laws_toStringS.f (k+1) a0):=by
 intro a0 k;have ih0:=laws_toStringS.mono_l k;unfold laws_toStringS.f
 repeat' first
   | (with_reducible exact ih0 _ _ _)
   | (with_reducible exact LeO.refl _)
   | (with_reducible exact LeO.none _)
   | (with_reducible refine LeO.ite ?_ ?_)
   | (with_reducible refine LeO.bind ?_ (fun _=>?_))
   | exact ih0 _ _ _
   | exact LeO.none _
   | refine LeO.ite ?_ ?_
   | refine LeO.bind ?_ (fun _=>?_)
set_option maxHeartbeats 8000000 in
set_option maxRecDepth 100000 in
theorem laws_toStringS.calls (k:Nat) (A0:Option Addr) (c0:Nat) (l0:List ByteArray) (r:List ByteArray) (w:World) (dH:Kd.C Kd.string w A0 l0.length l0) (cP:l0.length≤c0) (h:laws_toStringS.f k l0=some r) :
  Calls Tryz.prog 72 #[.slice A0 l0.length c0] w fun e w'=>∃ dS:Value,e=.returned (dS)∧Kd.R Kd.string 9 w' w.heap.size (fun _=>True) dS r∧Below w.heap.size w w':=by
 have cW:=am dH;have mM:=am cP;clear dH cP;have HB:=am (Below.refl w.heap.size w);have H:(if 0≤(l0.length:Int) then (if ((l0.length:Int):Int).toNat≤17592186044416 then (laws_toStringS.l0 k l0 (List.replicate ((l0.length:Int):Int).toNat (⟨#[]⟩:ByteArray)) 0) else (none)) else (none))=some r:=h;clear h;by_cases c2:0≤(l0.length:Int)
 ·
  rw [if_pos c2] at H;have c2b0:=eq_true c2;have c2b1:=dt c2;clear c2;by_cases c3:((l0.length:Int):Int).toNat≤17592186044416
  ·
   rw [if_pos c3] at H;have c3b0:=eq_true c3;have c3b1:=dt c3;clear c3
   obtain ⟨ayA,Kn⟩:∃ y_:List ByteArray,y_=(List.replicate ((l0.length:Int):Int).toNat (⟨#[]⟩:ByteArray)):=⟨_,rfl⟩
   replace H:(laws_toStringS.l0 k l0 ayA 0)=some r:=by first|(rw [Kn];with_reducible exact H)|(have H2_:=(Option.bind_some _ _).symm.trans H;rw [Kn];with_reducible exact H2_)|(have H2_:=(Option.bind_some _ _).symm.trans H;with_reducible exact H2_)|with_reducible exact H|(rw [Kn];exact H)|exact H
   have agD:=am Kn;clear Kn;have H':=am H;clear H;go_enter Tryz.func72,Tryz.ntmps72;go_wp2_with (first|((with_reducible refine gate_dst (N:=7) rfl ?_);refine Kd.R_make Kd.string _ 9 rfl (N:=7) rfl 67 _ _ rfl (l0.length:Int) rfl rfl Tryz.underlying67 (.string ⟨#[]⟩) 16 info9 rfl (by decide) (by omega) (⟨#[]⟩:ByteArray) (ok:=fun _=>True) (okp:=fun _=>True) rfl (fun _ hk=>hk) trivial (od au87) (Nat.le_trans (Nat.mul_le_mul_right _ (od au87:(l0.length:Int).toNat≤17592186044416)) (by omega)) (Below.refl _ _) (Nat.le_refl _) ?_;intro aI8 w4 ho5 hb hg_ hnew_;clear hg_ hnew_;(first|rw [← agD.out] at ho5|(simp only [Int.reduceToNat] at ho5;rw [← agD.out] at ho5));have aEa:=am (Kd.R_lower ho5 (below_size au46));replace HB:=am (below_step au46 hb);clear hb ho5))
   go_loopg [4] k (fun kq v4 w'=>∃ (aE:List ByteArray) (aI:Int),v4=.int .i64 aI∧Aside0 (laws_toStringS.l0 kq l0 aE aI=some r)∧Aside0 (kq≤k)∧Aside0 (Kd.R Kd.string 9 w' w.heap.size (fun _=>True) aI8 aE)∧Aside0 (Below w.heap.size w w'))
   case atStart=>exact ⟨(ayA),(0),au88,H',⟨Nat.le_refl _⟩,⟨by (with_reducible repeat (first|apply Kd.R_alloc|apply Kd.R_drewN|apply Kd.R_drew));exact aEa.out⟩,⟨by repeat (first|(with_reducible first|exact HB.out|apply below_alloc|apply pw_below_drewN|apply below_drew1)|exact HB.out)⟩⟩
   case round =>
    clear H'
    try clear c2
    try clear c2b0
    try clear c2b1
    try clear p2
    try clear c3
    try clear c3b0
    try clear c3b1
    obtain ⟨aE,aI,rfl,HA,HK1,bS,HB⟩:=hrel
    cases gk with
    | zero=>exact absurd HA.out (by simp [laws_toStringS.l0])
    | succ k1 =>
     have H:=HA.out;clear HA;simp only [laws_toStringS.l0] at H;by_cases c6:aI<(l0.length:Int)
     ·
      rw [if_pos c6] at H;have c6b0:=dt c6;clear c6;by_cases c7:0≤aI
      ·
       rw [if_pos c7] at H;have c7b0:=dt c7;clear c7;by_cases c8:aI<(aE.length:Int)
       ·
        rw [if_pos c8] at H;have c8b0:=dt c8;clear c8
        obtain ⟨aaV,Ko⟩:∃ y_:List ByteArray,y_=(aE.set (aI:Int).toNat (rdOf ByteArray.empty l0 aI)):=⟨_,rfl⟩
        replace H:(laws_toStringS.l0 k1 l0 aaV (wrap64 (aI+1)))=some r:=by first|(rw [Ko];with_reducible exact H)|(have H2_:=(Option.bind_some _ _).symm.trans H;rw [Ko];with_reducible exact H2_)|(have H2_:=(Option.bind_some _ _).symm.trans H;with_reducible exact H2_)|with_reducible exact H|(rw [Ko];exact H)|exact H
        have aEb:=am Ko;clear Ko;have H':=am H;clear H;have aaW:0≤(aI:Int):=od au87;have aaX:aI<(l0.length:Int):=od au87;obtain ⟨aX5,aI9,XY⟩:=Kd.at_string cW.out aI aaW aaX
        cases aI9
        replace XY:=bcl HB.out XY;replace aaW:=eq_true aaW;replace aaX:=eq_true aaX;have p9:0≤(aI:Int):=od au87;have q9:(aI:Int)<((aE.length:Int):Int):=od au87;obtain ⟨go9,fL,K8,gb9,gl9,cl9,HG9⟩:=Kd.R_form bS.out (by omega)
        (first|cases K8|(injection K8 with ea_ en_ ec_;(first|subst ea_|(injection ea_ with ea_;subst ea_));subst ec_;clear en_))
        have GB9:=am gb9;have GG9:=am HG9;clear gb9 gl9 HG9;obtain ⟨aX6,afC⟩:=Kd.R_celln (⟨#[]⟩:ByteArray) bS.out (aI:Int) p9 q9;replace p9:=eq_true p9;replace q9:=eq_true q9;have aaY:=Kd.R_putg bS.out (aI:Int) (rdOf ByteArray.empty l0 aI);go_wp2_with (first|((with_reducible refine gate_store (t:=9) (p:=20) rfl ?_);refine store_event (t:=9) (p:=20) (v:=?vo_w11) (w1:=(wr.setCell ⟨go9,(aI:Int).toNat,none⟩ (.string (rdOf ByteArray.empty l0 aI)))) ?hg ?ho ?hn ?hr ?_;(case ho=>rfl);(case hg=>rfl);(case hn=>rfl);(case hr=>first|(go_simp;done)|(go_simp;rfl));intro dM hw;have hg:wr.grownBy dM (some go9):=(by rw [hw];exact aaY.2);have hp_:Kd.R Kd.string 9 dM w.heap.size (fun _=>True) (.slice (some ⟨go9,0,none⟩) aE.length fL) aaV:=(by rw [hw,aEb.out];exact aaY.1);clear aaY;replace bS:=am (hp_);replace HB:=am ((by rw [hw];exact below_set (HB.out) GB9.out:Below w.heap.size w dM));clear hg hw hp_))
        go_roundg k1
        case measure=>have:=HK1.out;omega
        case rel=>exact ⟨(aaV),(wrap64 (aI+1)),au88,H',⟨by have:=HK1.out;omega⟩,⟨by (with_reducible repeat (first|apply Kd.R_alloc|apply Kd.R_drewN|apply Kd.R_drew));exact bS.out⟩,⟨by repeat (first|(with_reducible first|exact HB.out|apply below_alloc|apply pw_below_drewN|apply below_drew1)|exact HB.out)⟩⟩
       · rw [if_neg c8] at H;exact absurd H (by simp)
      · rw [if_neg c7] at H;exact absurd H (by simp)
     · rw [if_neg c6] at H;have c6b0:=df c6;clear c6;obtain rfl:=ojz H;go_wp2;go_ret;exact ⟨_,by first|rfl|(simp [errW_none,errW_some] <;> rfl)|(simp [*,errW_none,errW_some] <;> rfl),by (with_reducible repeat (first|apply Kd.R_alloc|apply Kd.R_drewN|apply Kd.R_drew));exact bS.out,by repeat (first|(with_reducible first|exact HB.out|apply below_alloc|apply pw_below_drewN|apply below_drew1)|exact HB.out)⟩
  · rw [if_neg c3] at H;exact absurd H (by simp)
 · rw [if_neg c2] at H;exact absurd H (by simp)
def laws_toName.f (k:Nat) (aA:List ByteArray) (aH:ByteArray) (aW:ByteArray) (aY:ByteArray):Option (List ByteArray × ByteArray × ByteArray × ByteArray):=(laws_toStringS.f k aA).bind fun vK=>(some (vK,aH,aW,aY))
theorem laws_toName.mono:∀ a0 a1 a2 a3 k,LeO (laws_toName.f k a0 a1 a2 a3) (laws_toName.f (k+1) a0 a1 a2 a3):=by
 intro a0 a1 a2 a3 k;unfold laws_toName.f
 repeat' first
   | (with_reducible exact laws_toStringS.mono _ _)
   | (with_reducible exact LeO.refl _)
   | (with_reducible exact LeO.none _)
   | (with_reducible refine LeO.ite ?_ ?_)
   | (with_reducible refine LeO.bind ?_ (fun _=>?_))
   | exact laws_toStringS.mono _ _
   | exact LeO.none _
   | refine LeO.ite ?_ ?_
   | refine LeO.bind ?_ (fun _=>?_)
set_option maxHeartbeats 8000000 in
set_option maxRecDepth 100000 in
theorem laws_toName.calls (k:Nat) (bH:Option Addr) (bA:Nat) (aA:List ByteArray) (aH:ByteArray) (aW:ByteArray) (aY:ByteArray) (r1:List ByteArray) (r2:ByteArray) (r3:ByteArray) (r4:ByteArray) (w:World) (cE:Kd.C Kd.string w bH aA.length aA) (cA:aA.length≤bA) (h:laws_toName.f k aA aH aW aY=some (r1,r2,r3,r4)) :
  Calls Tryz.prog 58 #[.agg #[.slice bH aA.length bA,.string aH,.string aW,.string aY]] w fun e w'=>∃ dS:Value,e=.returned (.agg #[dS,.string r2,.string r3,.string r4])∧Kd.R Kd.string 9 w' w.heap.size (fun _=>True) dS r1∧Below w.heap.size w w':=by
 have hu78:=Tryz.underlying78;have hu69:=Tryz.underlying69;have cM:=am cE;have eO:=am cA;clear cE cA;have HB:=am (Below.refl w.heap.size w);have H:((laws_toStringS.f k aA).bind fun vK=>(some (vK,aH,aW,aY)))=some (r1,r2,r3,r4):=h;clear h;replace H:=ob H;obtain ⟨vK,fC,H⟩:=H
 try dsimp only at H
 have A2:=am fC;clear fC;simp only [Option.some.injEq,Prod.mk.injEq] at H;obtain ⟨rfl,rfl,rfl,rfl⟩:=H;go_enter Tryz.func58,Tryz.ntmps58;go_wp2_with (first|((with_reducible refine gate_dst (N:=1) rfl ?_);refine box_event ?hg (N:=1) ?hd (cs:=#[.slice bH aA.length bA,.string aH,.string aW,.string aY]) (t:=78) ?hr ?_;(case hd=>rfl);(case hg=>rfl);(case hr=>first|(go_simp;done)|(go_simp;rfl));intro CM hg w3 hbox hb;have Ep:=am (hbox);have aX7:=am (bsz hg au46);have MJ:=am (bsz hg au46);replace HB:=am (below_step au46 hb);clear hb hbox hg)|((with_reducible refine gate_dst (N:=2) rfl ?_);refine box_event ?hg (N:=2) ?hd (cs:=#[.slice none 0 0,.string (⟨#[]⟩:ByteArray),.string (⟨#[]⟩:ByteArray),.string (⟨#[]⟩:ByteArray)]) (t:=69) ?hr ?_;(case hd=>rfl);(case hg=>rfl);(case hr=>first|(go_simp;done)|(go_simp;rfl));intro rT hg w4 hbox hb;have Er:=am (hbox);have aX8:=am (bsz hg au29);have a1J:=am (bsz hg au29);replace HB:=am (below_step au29 hb);have a5X:=am (bne (g:=CM) hg au61);have a5Y:=am (ben (g:=CM) hg au61);replace Ep:=am (blk_below (g:=CM) au61 hb);clear hb hbox hg)|((with_reducible refine gate_dst (N:=3) rfl ?_);refine box_event ?hg (N:=3) ?hd (cs:=#[.slice none 0 0,.string (⟨#[]⟩:ByteArray),.string (⟨#[]⟩:ByteArray),.string (⟨#[]⟩:ByteArray)]) (t:=69) ?hr ?_;(case hd=>rfl);(case hg=>rfl);(case hr=>first|(go_simp;done)|(go_simp;rfl));intro Kp hg w5 hbox hb;have N6:=am (hbox);have aX9:=am (bsz hg au13);have aeG:=am (bsz hg au13);replace HB:=am (below_step au13 hb);have a5Z:=am (bne (g:=CM) hg au61);have a6A:=am (ben (g:=CM) hg au61);replace Ep:=am (blk_below (g:=CM) au61 hb);have rC:=am (bne (g:=rT) hg au62);have a6B:=am (ben (g:=rT) hg au62);replace Er:=am (blk_below (g:=rT) au62 hb);clear hb hbox hg;have aaZ:=a5X.out;have abA:=a5Y.out;have ayB:=a5Z.out;have ayC:=a6A.out;obtain ⟨QO,aUp,aUq,aUr,QP,aUs,aUt,aUu⟩:=blkc4 Ep.out)|((with_reducible refine gate_callee (f:=72) rfl ?_);refine goesL_ (some 6) rfl rfl Tryz.func72 (by kernel_rfl) rfl #[.slice bH aA.length bA] rfl au45 ?_;(with_reducible refine (laws_toStringS.calls k _ _ aA vK _ ?aU ?aV A2.out).mono ?_);(case aU=>repeat (first|exact (Kd.C_below cM.out HB.out)|(with_reducible refine Kd.C_alloc ?_ _)|(with_reducible refine Kd.C_drewN ?_ _)|(with_reducible refine Kd.C_drew ?_)));(case aV=>exact eO.out);rintro e w9 ⟨b0I,rfl,ho0,hb⟩;refine ⟨_,rfl,?_⟩;have agE:=am (Kd.R_lower ho0 (below_size au6));replace Ep:=am (blk_below (g:=CM) au61 hb);replace Er:=am (blk_below (g:=rT) au62 hb);replace N6:=am (blk_below (g:=Kp) (by (with_reducible repeat (first|refine blk_drewN ?_ _|refine blk_drew ?_|refine blk_alloc ?_ _));exact N6.out) hb);replace HB:=am (below_step au6 hb);(try clear hb);(try clear ho0);obtain ⟨xI,mU,CN⟩:=Kd.R_slice agE.out;subst CN;have a3G:=a6B.out;have a3H:=rC.out;obtain ⟨gZ,qA,qB,qC,hD,qD,qE,qF⟩:=blkc4 N6.out;obtain ⟨lV,nO,nP,nQ,lW,nR,nS,nT⟩:=blkc4 Ep.out;obtain ⟨rX,rY,rZ,sB,sC,sD,sF,sG⟩:=blkc4 Er.out));refine bodyPost_ret (results_cell_row rfl _ _ rT 69 #[.slice xI vK.length mU,.string aH,.string aW,.string aY] (0,0) _ rfl (by (with_reducible repeat (first|refine blk_drewN ?_ _|refine blk_drew ?_|refine blk_alloc ?_ _));apply put4;(with_reducible repeat (first|refine blk_drewN ?_ _|refine blk_drew ?_|refine blk_alloc ?_ _));refine blk_far ?_ rC.out _;(with_reducible repeat (first|refine blk_drewN ?_ _|refine blk_drew ?_|refine blk_alloc ?_ _));refine blk_far ?_ rC.out _;(with_reducible repeat (first|refine blk_drewN ?_ _|refine blk_drew ?_|refine blk_alloc ?_ _));refine blk_far ?_ rC.out _;(with_reducible repeat (first|refine blk_drewN ?_ _|refine blk_drew ?_|refine blk_alloc ?_ _));refine blk_far ?_ rC.out _;(with_reducible repeat (first|refine blk_drewN ?_ _|refine blk_drew ?_|refine blk_alloc ?_ _));exact Er.out) Tryz.underlying69 rfl (by kernel_rfl)) rfl ?_;exact ⟨_,by first|rfl|(simp [errW_none,errW_some] <;> rfl)|(simp [*,errW_none,errW_some] <;> rfl),by (with_reducible repeat (first|apply Kd.R_alloc|apply Kd.R_drewN|apply Kd.R_drew));exact Kd.R_mono (Kd.R_far (p:=⟨rT,3,none⟩) (Kd.R_far (p:=⟨rT,2,none⟩) (Kd.R_far (p:=⟨rT,1,none⟩) (Kd.R_far (p:=⟨rT,0,none⟩) (Kd.R_far (p:=⟨Kp,3,none⟩) (Kd.R_far (p:=⟨Kp,2,none⟩) (Kd.R_far (p:=⟨Kp,1,none⟩) (Kd.R_far (p:=⟨Kp,0,none⟩) (Kd.R_types (Kd.R_types agE.out N6.out (by decide)) Er.out (by decide)) (fun _ hk=>hk.1.2) (.slice xI vK.length mU)) (fun _ hk=>hk.1.2) (.string aH)) (fun _ hk=>hk.1.2) (.string aW)) (fun _ hk=>hk.1.2) (.string aY)) (fun _ hk=>hk.2) (.slice xI vK.length mU)) (fun _ hk=>hk.2) (.string aH)) (fun _ hk=>hk.2) (.string aW)) (fun _ hk=>hk.2) (.string aY)) (fun _ hk=>trivial),by repeat (first|(with_reducible first|exact HB.out|apply below_alloc|apply pw_below_drewN|apply below_drew1|refine below_set ?_ MJ.out|refine below_set ?_ a1J.out|refine below_set ?_ aeG.out)|exact HB.out)⟩
def laws_toNameS.l0:Nat→List (S78)→List (S69)→Int→Option ((List (S69)))
 | 0,_,_,_=>none
 | k+1,x0,x3,x4=>if x4<(x0.length:Int) then (if 0≤x4 then ((laws_toName.f k ((rd_T78 x0 x4).f0) ((rd_T78 x0 x4).f1) ((rd_T78 x0 x4).f2) ((rd_T78 x0 x4).f3)).bind fun N7=>(if x4<(x3.length:Int) then (laws_toNameS.l0 k x0 (x3.set (x4:Int).toNat (⟨N7.1,N7.2.1,N7.2.2.1,N7.2.2.2⟩:S69)) (wrap64 (x4+1))) else (none))) else (none)) else (some x3)
def laws_toNameS.f (k:Nat) (l0:List (S78)):Option ((List (S69))):=if 0≤(l0.length:Int) then (if ((l0.length:Int):Int).toNat≤3909374676536 then (laws_toNameS.l0 k l0 (List.replicate ((l0.length:Int):Int).toNat z69) 0) else (none)) else (none)
theorem laws_toNameS.mono_l:∀ k,(∀ y0 y1 y2,LeO (laws_toNameS.l0 k y0 y1 y2) (laws_toNameS.l0 (k+1) y0 y1 y2))
 | 0=>fun _ _ _ r h=>by simp [laws_toNameS.l0] at h
 | k+1=>by
  have ih0:=laws_toNameS.mono_l k
  ·
   intro y0 y1 y2;unfold laws_toNameS.l0
   repeat' first
   | (with_reducible exact ih0 _ _ _)
   | (with_reducible exact laws_toName.mono _ _ _ _ _)
   | (with_reducible exact LeO.refl _)
   | (with_reducible exact LeO.none _)
   | (with_reducible refine LeO.ite ?_ ?_)
   | (with_reducible refine LeO.bind ?_ (fun _=>?_))
   | exact ih0 _ _ _
   | exact laws_toName.mono _ _ _ _ _
   | exact LeO.none _
   | refine LeO.ite ?_ ?_
   | refine LeO.bind ?_ (fun _=>?_)
theorem laws_toNameS.mono:∀ a0 k,LeO (laws_toNameS.f k a0) (laws_toNameS.f (k+1) a0):=by
 intro a0 k;have ih0:=laws_toNameS.mono_l k;unfold laws_toNameS.f
 repeat' first
   | (with_reducible exact ih0 _ _ _)
   | (with_reducible exact laws_toName.mono _ _ _ _ _)
   | (with_reducible exact LeO.refl _)
   | (with_reducible exact LeO.none _)
   | (with_reducible refine LeO.ite ?_ ?_)
   | (with_reducible refine LeO.bind ?_ (fun _=>?_))
   | exact ih0 _ _ _
   | exact laws_toName.mono _ _ _ _ _
   | exact LeO.none _
   | refine LeO.ite ?_ ?_
   | refine LeO.bind ?_ (fun _=>?_)
set_option maxHeartbeats 8000000 in
set_option maxRecDepth 100000 in
theorem laws_toNameS.calls (k:Nat) (A0:Option Addr) (c0:Nat) (l0:List (S78)) (r:List (S69)) (w:World) (dH:Kd.C k78 w A0 l0.length l0) (cP:l0.length≤c0) (h:laws_toNameS.f k l0=some r) :
  Calls Tryz.prog 41 #[.slice A0 l0.length c0] w fun e w'=>∃ dS:Value,e=.returned (dS)∧Kd.S k69 69 w' w.heap.size (fun _=>True) dS r∧Below w.heap.size w w':=by
 have hu78:=Tryz.underlying78;have hu69:=Tryz.underlying69;have cW:=am dH;have mM:=am cP;clear dH cP;have HB:=am (Below.refl w.heap.size w);have H:(if 0≤(l0.length:Int) then (if ((l0.length:Int):Int).toNat≤3909374676536 then (laws_toNameS.l0 k l0 (List.replicate ((l0.length:Int):Int).toNat z69) 0) else (none)) else (none))=some r:=h;clear h;by_cases c2:0≤(l0.length:Int)
 ·
  rw [if_pos c2] at H;have c2b0:=eq_true c2;have c2b1:=dt c2;clear c2;by_cases c3:((l0.length:Int):Int).toNat≤3909374676536
  ·
   rw [if_pos c3] at H;have c3b0:=eq_true c3;have c3b1:=dt c3;clear c3
   obtain ⟨ayD,Kq⟩:∃ y_:List (S69),y_=(List.replicate ((l0.length:Int):Int).toNat z69):=⟨_,rfl⟩
   replace H:(laws_toNameS.l0 k l0 ayD 0)=some r:=by first|(rw [Kq];with_reducible exact H)|(have H2_:=(Option.bind_some _ _).symm.trans H;rw [Kq];with_reducible exact H2_)|(have H2_:=(Option.bind_some _ _).symm.trans H;with_reducible exact H2_)|with_reducible exact H|(rw [Kq];exact H)|exact H
   have agF:=am Kq;clear Kq;have H':=am H;clear H;go_enter Tryz.func41,Tryz.ntmps41;go_wp2_with (first|((with_reducible refine gate_dst (N:=7) rfl ?_);refine Kd.S_make k69 _ 69 rfl (N:=7) rfl 38 _ _ rfl (l0.length:Int) rfl rfl Tryz.underlying38 (.agg #[(.slice none 0 0),(.string ⟨#[]⟩),(.string ⟨#[]⟩),(.string ⟨#[]⟩)]) 72 info69 rfl (by decide) (by omega) z69 (ok:=fun _=>True) (okp:=fun _=>True) (k69_mkM _ _ _ z69 (Kd.R_nil _ _ _ _ _)) (fun _ hk=>hk) trivial (od au87) (Nat.le_trans (Nat.mul_le_mul_right _ (od au87:(l0.length:Int).toNat≤3909374676536)) (by omega)) (Below.refl _ _) (Nat.le_refl _) ?_;intro aIa w4 ho5 hb hg_ hnew_;clear hg_ hnew_;(first|rw [← agF.out] at ho5|(simp only [Int.reduceToNat] at ho5;rw [← agF.out] at ho5));have aEc:=am (Kd.S_lower ho5 (below_size au46));replace HB:=am (below_step au46 hb);clear hb ho5))
   go_loopg [4] k (fun kq v4 w'=>∃ (aE:List (S69)) (aI:Int),v4=.int .i64 aI∧Aside0 (laws_toNameS.l0 kq l0 aE aI=some r)∧Aside0 (kq≤k)∧Aside0 (Kd.S k69 69 w' w.heap.size (fun _=>True) aIa aE)∧Aside0 (Below w.heap.size w w'))
   case atStart=>exact ⟨(ayD),(0),au88,H',⟨Nat.le_refl _⟩,⟨by (with_reducible repeat (first|apply Kd.S_alloc|apply Kd.S_drewN|apply Kd.S_drew));exact aEc.out⟩,⟨by repeat (first|(with_reducible first|exact HB.out|apply below_alloc|apply pw_below_drewN|apply below_drew1)|exact HB.out)⟩⟩
   case round =>
    clear H'
    try clear c2
    try clear c2b0
    try clear c2b1
    try clear p2
    try clear c3
    try clear c3b0
    try clear c3b1
    try clear c4
    obtain ⟨aE,aI,rfl,HA,HK1,bS,HB⟩:=hrel
    cases gk with
    | zero=>exact absurd HA.out (by simp [laws_toNameS.l0])
    | succ k1 =>
     have H:=HA.out;clear HA;simp only [laws_toNameS.l0] at H;by_cases c6:aI<(l0.length:Int)
     ·
      rw [if_pos c6] at H;have c6b0:=dt c6;clear c6;by_cases c7:0≤aI
      ·
       rw [if_pos c7] at H;have c7b0:=dt c7;clear c7;replace H:=ob H;obtain ⟨⟨CO,Jk,Jl,Jm⟩,iW,H⟩:=H;replace H:(if aI<(aE.length:Int) then (laws_toNameS.l0 k1 l0 (aE.set (aI:Int).toNat (⟨CO,Jk,Jl,Jm⟩:S69)) (wrap64 (aI+1))) else (none))=some r:=H;have A8:=am iW;clear iW;by_cases c9:aI<(aE.length:Int)
       ·
        rw [if_pos c9] at H;have c9b0:=dt c9;clear c9
        obtain ⟨abB,Kr⟩:∃ y_:List (S69),y_=(aE.set (aI:Int).toNat (⟨CO,Jk,Jl,Jm⟩:S69)):=⟨_,rfl⟩
        replace H:(laws_toNameS.l0 k1 l0 abB (wrap64 (aI+1)))=some r:=by first|(rw [Kr];with_reducible exact H)|(have H2_:=(Option.bind_some _ _).symm.trans H;rw [Kr];with_reducible exact H2_)|(have H2_:=(Option.bind_some _ _).symm.trans H;with_reducible exact H2_)|with_reducible exact H|(rw [Kr];exact H)|exact H
        have aEd:=am Kr;clear Kr;have H':=am H;clear H;have abC:0≤(aI:Int):=od au87;have abD:aI<(l0.length:Int):=od au87;obtain ⟨aXa,ayE,ayF,aIb,XZ,Y0,Y1,Y2,Y3,Y4⟩:=at_T78 cW.out aI abC abD
        cases aIb
        replace XZ:=bcl HB.out XZ;replace Y0:=bcl HB.out Y0;replace Y1:=bcl HB.out Y1;replace Y2:=bcl HB.out Y2;have alI:=am Y4;have alJ:=am Y3;clear Y4 Y3;replace abC:=eq_true abC;replace abD:=eq_true abD;go_wp2_with (first|((with_reducible refine gate_callee (f:=58) rfl ?_);refine goesL_ (some 20) rfl rfl Tryz.func58 (by kernel_rfl) rfl #[.agg #[.slice ayE ((rd_T78 l0 aI).f0).length ayF,.string ((rd_T78 l0 aI).f1),.string ((rd_T78 l0 aI).f2),.string ((rd_T78 l0 aI).f3)]] rfl au45 ?_;(with_reducible refine (laws_toName.calls k1 _ _ ((rd_T78 l0 aI).f0) ((rd_T78 l0 aI).f1) ((rd_T78 l0 aI).f2) ((rd_T78 l0 aI).f3) CO Jk Jl Jm _ ?aU ?aV A8.out).mono ?_);(case aU=>repeat (first|exact (Kd.C_below alI.out HB.out)|(with_reducible refine Kd.C_alloc ?_ _)|(with_reducible refine Kd.C_drewN ?_ _)|(with_reducible refine Kd.C_drew ?_)));(case aV=>exact alJ.out);rintro e dM ⟨b0J,rfl,ho0,hb⟩;obtain ⟨Ks,Kt,ayG⟩:=Kd.R_slice ho0;subst ayG;refine ⟨_,rfl,?_⟩;replace bS:=am (Kd.S_elder' au83 (Kd.R_base ho0) hb);have a3X:=am (Kd.R_lower ho0 (below_size au46));replace HB:=am (below_step au46 hb);(try clear hb);(try clear ho0);have QQ:0≤(aI:Int):=od au87;have QR:(aI:Int)<((aE.length:Int):Int):=od au87;obtain ⟨go10,mU,CN,QS,abE,cl10,QT⟩:=Kd.S_form bS.out (by omega);(first|cases CN|(injection CN with ea_ en_ ec_;(first|subst ea_|(injection ea_ with ea_;subst ea_));subst ec_;clear en_));have kG:=am QS;have GG10:=am QT;clear QS abE QT;obtain ⟨_,aIc,a3Y,QU,fP,fQ,_,_⟩:=Kd.S_elem bS.out z69 (aI:Int) QQ QR;obtain ⟨ayH,rfl,ge10_0⟩:=k69_openM QU;have ayI:dM.cell? ⟨go10,(aI:Int).toNat*4,none⟩=some (ayH):=fP 0 _ rfl;have ayJ:dM.cell? ⟨go10,(aI:Int).toNat*4+1,none⟩=some (.string ((rd_T69 aE aI).f1)):=fP 1 _ rfl;have ayK:dM.cell? ⟨go10,(aI:Int).toNat*4+2,none⟩=some (.string ((rd_T69 aE aI).f2)):=fP 2 _ rfl;have ayL:dM.cell? ⟨go10,(aI:Int).toNat*4+3,none⟩=some (.string ((rd_T69 aE aI).f3)):=fP 3 _ rfl;have Nv:dM.frozen? ⟨go10,(aI:Int).toNat*4,none⟩=false:=fQ 0;have Nw:dM.frozen? ⟨go10,(aI:Int).toNat*4+1,none⟩=false:=fQ 1;have Nx:dM.frozen? ⟨go10,(aI:Int).toNat*4+2,none⟩=false:=fQ 2;have Ny:dM.frozen? ⟨go10,(aI:Int).toNat*4+3,none⟩=false:=fQ 3;clear a3Y fP fQ QU;replace QQ:=eq_true QQ;replace QR:=eq_true QR;have n_:=am (Kd.S_mono (ok':=(fun k_=>some k_≠((.slice Ks CO.length Kt:Value):Value).ownBlock)) bS.out (fun k_ hk=>hk.2));clear bS;have bS:=n_;clear n_;have a3Z:=am (show Kd.S k69 69 dM w.heap.size (fun k_=>((fun _=>True)) k_∧¬ ((fun k_=>some k_=((.slice Ks CO.length Kt:Value):Value).ownBlock)) k_) (.slice (some ⟨go10,0,none⟩) aE.length mU) aE from (by (with_reducible repeat (first|apply Kd.S_alloc|apply Kd.S_drewN|apply Kd.S_drew));exact Kd.S_mono bS.out (fun k_ hk=>⟨trivial,fun e_=>hk e_⟩)));obtain ⟨aXb,aId,N8,QV,fK,fR,ayM,ayN⟩:=Kd.S_elem a3Z.out z69 (aI:Int) (od au87) (by have h_:(aI:Int)<((aE.length:Int):Int):=od au87;first|exact h_|(have e_:=(Kd.S_reads' bS.out).1;omega)|simpa using h_);obtain ⟨aUv,rfl,ge12_0⟩:=k69_openM QV;have Jn:=Kd.S_seg ayN (od au87) (by have h_:(aI:Int)<((aE.length:Int):Int):=od au87;first|exact h_|(have e_:=(Kd.S_reads' bS.out).1;omega)|simpa using h_) (seg:=[(.slice Ks CO.length Kt:Value),.string Jk,.string Jl,.string Jm]) (j:=0) (show 4≤4 from by decide) (x':=(⟨CO,Jk,Jl,Jm⟩:S69)) (k69_mkM _ _ _ (⟨CO,Jk,Jl,Jm⟩:S69) (Kd.R_mono (Kd.R_tight rfl (Kd.R_mono (ok':=fun k_=>((fun _=>True)) k_∧k_≠go10) (Kd.R_apart' (a3X.out) (Kd.S_typed bS.out) (by decide)) (fun k_ hk=>⟨trivial,fun e_=>(hk.2) (by rw [e_];rfl)⟩))) (fun _ h_=>Or.inr (h_)))) (fun _ hk=>hk) (fun k_ hk_=>((Kd.R_mono (ok':=fun k_=>((fun _=>True)) k_∧k_≠go10) (Kd.R_apart' (a3X.out) (Kd.S_typed bS.out) (by decide)) (fun k_ hk=>⟨trivial,fun e_=>(hk.2) (by rw [e_];rfl)⟩))).1 k_ hk_.symm);have QW:=fK 0 _ rfl;(try simp only [show (k69).sz=4 from rfl,Nat.mul_one,Nat.add_zero] at QW);have Dx:=fR 0;(try simp only [show (k69).sz=4 from rfl,Nat.mul_one,Nat.add_zero] at Dx);have QX:=fK 1 _ rfl;(try simp only [show (k69).sz=4 from rfl,Nat.mul_one,Nat.add_zero] at QX);have Dy:=fR 1;(try simp only [show (k69).sz=4 from rfl,Nat.mul_one,Nat.add_zero] at Dy);have QY:=fK 2 _ rfl;(try simp only [show (k69).sz=4 from rfl,Nat.mul_one,Nat.add_zero] at QY);have Dz:=fR 2;(try simp only [show (k69).sz=4 from rfl,Nat.mul_one,Nat.add_zero] at Dz);have QZ:=fK 3 _ rfl;(try simp only [show (k69).sz=4 from rfl,Nat.mul_one,Nat.add_zero] at QZ);have DC:=fR 3;(try simp only [show (k69).sz=4 from rfl,Nat.mul_one,Nat.add_zero] at DC);clear N8 fK fR QV ayM ayN)|((with_reducible refine gate_store (t:=69) (p:=21) rfl ?_);refine store_event (t:=69) (p:=21) (v:=?vo_w13) (w1:=((((dM.setCell ⟨go10,(aI:Int).toNat*4,none⟩ ((.slice Ks CO.length Kt:Value))).setCell ⟨go10,(aI:Int).toNat*4+1,none⟩ (.string Jk)).setCell ⟨go10,(aI:Int).toNat*4+2,none⟩ (.string Jl)).setCell ⟨go10,(aI:Int).toNat*4+3,none⟩ (.string Jm))) ?hg ?ho ?hn ?hr ?_;(case ho=>rfl);(case hg=>rfl);(case hn=>rfl);(case hr=>first|(go_simp;done)|(go_simp;rfl));intro mP hw;have hg:dM.grownBy mP (some go10):=(by rw [hw];exact Jn.2);have hp_:Kd.S k69 69 mP w.heap.size (fun _=>True) (.slice (some ⟨go10,0,none⟩) aE.length mU) abB:=(by rw [hw,aEd.out];exact Jn.1);clear Jn;have dT:=am (hp_);have dU:=am ((by rw [hw];exact below_set (below_set (below_set (below_set (HB.out) kG.out) kG.out) kG.out) kG.out:Below w.heap.size w mP));clear bS;clear HB;clear a3X;have bS:=dT;have HB:=dU;clear dT dU;clear hg hw hp_))
        go_roundg k1
        case measure=>have:=HK1.out;omega
        case rel=>exact ⟨(abB),(wrap64 (aI+1)),au88,H',⟨by have:=HK1.out;omega⟩,⟨by (with_reducible repeat (first|apply Kd.S_alloc|apply Kd.S_drewN|apply Kd.S_drew));exact bS.out⟩,⟨by repeat (first|(with_reducible first|exact HB.out|apply below_alloc|apply pw_below_drewN|apply below_drew1)|exact HB.out)⟩⟩
       · rw [if_neg c9] at H;exact absurd H (by simp)
      · rw [if_neg c7] at H;exact absurd H (by simp)
     · rw [if_neg c6] at H;have c6b0:=df c6;clear c6;obtain rfl:=ojz H;go_wp2;go_ret;exact ⟨_,by first|rfl|(simp [errW_none,errW_some] <;> rfl)|(simp [*,errW_none,errW_some] <;> rfl),by (with_reducible repeat (first|apply Kd.S_alloc|apply Kd.S_drewN|apply Kd.S_drew));exact bS.out,by repeat (first|(with_reducible first|exact HB.out|apply below_alloc|apply pw_below_drewN|apply below_drew1)|exact HB.out)⟩
  · rw [if_neg c3] at H;exact absurd H (by simp)
 · rw [if_neg c2] at H;exact absurd H (by simp)
def laws_toDate.f (aJ:Int) (aH:Int) (aW:Int) (aY:Bool):Option (Int × Int × Int × Bool):=some (aJ,aH,aW,aY)
set_option maxHeartbeats 8000000 in
set_option maxRecDepth 100000 in
theorem laws_toDate.calls (aJ:Int) (aH:Int) (aW:Int) (aY:Bool) (r1:Int) (r2:Int) (r3:Int) (r4:Bool) (w:World) (h:laws_toDate.f aJ aH aW aY=some (r1,r2,r3,r4)) :
  Calls Tryz.prog 42 #[.agg #[.int .i64 aJ,.int .i64 aH,.int .i64 aW,.bool aY]] w fun e w'=>e=.returned (.agg #[.int .i64 r1,.int .i64 r2,.int .i64 r3,.bool r4])∧Below w.heap.size w w':=by
 have hu50:=Tryz.underlying50;have hu40:=Tryz.underlying40;have HB:=am (Below.refl w.heap.size w);have H:(some (aJ,aH,aW,aY))=some (r1,r2,r3,r4):=h;clear h;simp only [Option.some.injEq,Prod.mk.injEq] at H;obtain ⟨rfl,rfl,rfl,rfl⟩:=H;go_enter Tryz.func42,Tryz.ntmps42;go_wp2_with (first|((with_reducible refine gate_dst (N:=1) rfl ?_);refine box_event ?hg (N:=1) ?hd (cs:=#[.int .i64 aJ,.int .i64 aH,.int .i64 aW,.bool aY]) (t:=50) ?hr ?_;(case hd=>rfl);(case hg=>rfl);(case hr=>first|(go_simp;done)|(go_simp;rfl));intro H9 hg w2 hbox hb;have MO:=am (hbox);have aXc:=am (bsz hg au46);have a1N:=am (bsz hg au46);replace HB:=am (below_step au46 hb);clear hb hbox hg)|((with_reducible refine gate_dst (N:=2) rfl ?_);refine box_event ?hg (N:=2) ?hd (cs:=#[.int .i64 0,.int .i64 0,.int .i64 0,.bool false]) (t:=40) ?hr ?_;(case hd=>rfl);(case hg=>rfl);(case hr=>first|(go_simp;done)|(go_simp;rfl));intro N9 hg w3 hbox hb;have MP:=am (hbox);have aXd:=am (bsz hg au30);have aeK:=am (bsz hg au30);replace HB:=am (below_step au30 hb);have a6C:=am (bne (g:=H9) hg au63);have a6D:=am (ben (g:=H9) hg au63);replace MO:=am (blk_below (g:=H9) au63 hb);clear hb hbox hg)|((with_reducible refine gate_dst (N:=3) rfl ?_);refine box_event ?hg (N:=3) ?hd (cs:=#[.int .i64 0,.int .i64 0,.int .i64 0,.bool false]) (t:=40) ?hr ?_;(case hd=>rfl);(case hg=>rfl);(case hr=>first|(go_simp;done)|(go_simp;rfl));intro aXe hg w4 hbox hb;have aEe:=am (hbox);have aXf:=am (bsz hg au14);have aEf:=am (bsz hg au14);replace HB:=am (below_step au14 hb);have a6E:=am (bne (g:=H9) hg au63);have a6F:=am (ben (g:=H9) hg au63);replace MO:=am (blk_below (g:=H9) au63 hb);have rD:=am (bne (g:=N9) hg au64);have a6G:=am (ben (g:=N9) hg au64);replace MP:=am (blk_below (g:=N9) au64 hb);clear hb hbox hg;have b0K:=a6C.out;have b0L:=a6D.out;have aaZ:=a6E.out;have abA:=a6F.out;obtain ⟨kN,lK,lL,lM,kO,lN,lO,lP⟩:=blkc4 MO.out;have avC:=a6G.out;have avD:=rD.out;obtain ⟨zB,a5P,a5Q,a5R,zC,a5S,a5T,a5U⟩:=blkc4 aEe.out;obtain ⟨nM,KS,KT,KU,nN,KV,KW,KX⟩:=blkc4 MP.out));refine bodyPost_ret (results_cell_row rfl _ _ N9 40 #[.int .i64 aJ,.int .i64 aH,.int .i64 aW,.bool aY] (0,0) _ rfl (by (with_reducible repeat (first|refine blk_drewN ?_ _|refine blk_drew ?_|refine blk_alloc ?_ _));apply put4;(with_reducible repeat (first|refine blk_drewN ?_ _|refine blk_drew ?_|refine blk_alloc ?_ _));refine blk_far ?_ rD.out _;(with_reducible repeat (first|refine blk_drewN ?_ _|refine blk_drew ?_|refine blk_alloc ?_ _));refine blk_far ?_ rD.out _;(with_reducible repeat (first|refine blk_drewN ?_ _|refine blk_drew ?_|refine blk_alloc ?_ _));refine blk_far ?_ rD.out _;(with_reducible repeat (first|refine blk_drewN ?_ _|refine blk_drew ?_|refine blk_alloc ?_ _));refine blk_far ?_ rD.out _;(with_reducible repeat (first|refine blk_drewN ?_ _|refine blk_drew ?_|refine blk_alloc ?_ _));exact MP.out) Tryz.underlying40 rfl (by kernel_rfl)) rfl ?_;exact ⟨by first|rfl|(simp [errW_none,errW_some] <;> rfl)|(simp [*,errW_none,errW_some] <;> rfl),by repeat (first|(with_reducible first|exact HB.out|apply below_alloc|apply pw_below_drewN|apply below_drew1|refine below_set ?_ a1N.out|refine below_set ?_ aeK.out|refine below_set ?_ aEf.out)|exact HB.out)⟩
def laws_toEntry.f (k:Nat) (aJ:ByteArray) (aH:Int) (bJ:List (S78)) (bM:List (S78)) (aX:ByteArray) (bB:ByteArray) (bE:ByteArray) (bN:Int) (bO:Int) (bQ:Int) (bF:Bool) (bI:Int) (bD:ByteArray) (bL:ByteArray):Option (ByteArray × Int × (List (S69)) × (List (S69)) × ByteArray × ByteArray × ByteArray × Int × Int × Int × Bool × Int × ByteArray × ByteArray):=(laws_toNameS.f k bJ).bind fun fN=>((laws_toNameS.f k bM).bind fun gP=>((laws_toDate.f bN bO bQ bF).bind fun rU=>(some (aJ,aH,fN,gP,aX,bB,bE,rU.1,rU.2.1,rU.2.2.1,rU.2.2.2,bI,bD,bL))))
theorem laws_toEntry.mono:∀ a0 a1 a2 a3 a4 a5 a6 a7 a8 a9 iG iH iI iJ k,LeO (laws_toEntry.f k a0 a1 a2 a3 a4 a5 a6 a7 a8 a9 iG iH iI iJ) (laws_toEntry.f (k+1) a0 a1 a2 a3 a4 a5 a6 a7 a8 a9 iG iH iI iJ):=by
 intro a0 a1 a2 a3 a4 a5 a6 a7 a8 a9 iG iH iI iJ k;unfold laws_toEntry.f
 repeat' first
   | (with_reducible exact laws_toNameS.mono _ _)
   | (with_reducible exact LeO.refl _)
   | (with_reducible exact LeO.none _)
   | (with_reducible refine LeO.ite ?_ ?_)
   | (with_reducible refine LeO.bind ?_ (fun _=>?_))
   | exact laws_toNameS.mono _ _
   | exact LeO.none _
   | refine LeO.ite ?_ ?_
   | refine LeO.bind ?_ (fun _=>?_)
set_option maxHeartbeats 8000000 in
set_option maxRecDepth 100000 in
theorem laws_toEntry.calls (k:Nat) (aJ:ByteArray) (aH:Int) (dD:Option Addr) (dE:Nat) (bJ:List (S78)) (dF:Option Addr) (dG:Nat) (bM:List (S78)) (aX:ByteArray) (bB:ByteArray) (bE:ByteArray) (bN:Int) (bO:Int) (bQ:Int) (bF:Bool) (bI:Int) (bD:ByteArray) (bL:ByteArray) (r1:ByteArray) (r2:Int) (r3:List (S69)) (r4:List (S69)) (r5:ByteArray) (r6:ByteArray) (r7:ByteArray) (r8:Int) (r9:Int) (r10:Int) (r11:Bool) (r12:Int) (r13:ByteArray) (r14:ByteArray) (w:World) (fY:Kd.C k78 w dD bJ.length bJ) (eZ:bJ.length≤dE) (fZ:Kd.C k78 w dF bM.length bM) (fA:bM.length≤dG) (h:laws_toEntry.f k aJ aH bJ bM aX bB bE bN bO bQ bF bI bD bL=some (r1,r2,r3,r4,r5,r6,r7,r8,r9,r10,r11,r12,r13,r14)) :
  Calls Tryz.prog 25 #[.agg #[.string aJ,.int .i64 aH,.slice dD bJ.length dE,.slice dF bM.length dG,.string aX,.string bB,.string bE,.int .i64 bN,.int .i64 bO,.int .i64 bQ,.bool bF,.int .i64 bI,.string bD,.string bL]] w fun e w'=>∃ IH II:Value,e=.returned (.agg #[.string r1,.int .i64 r2,IH,II,.string r5,.string r6,.string r7,.int .i64 r8,.int .i64 r9,.int .i64 r10,.bool r11,.int .i64 r12,.string r13,.string r14])∧Kd.S k69 69 w' w.heap.size (fun k_=>some k_≠(II:Value).ownBlock) IH r3∧Kd.S k69 69 w' w.heap.size (fun k_=>some k_≠(IH:Value).ownBlock) II r4∧Below w.heap.size w w':=by
 have hu52:=Tryz.underlying52;have hu42:=Tryz.underlying42;have hu50:=Tryz.underlying50;have hu40:=Tryz.underlying40;have gQ:=am fY;have gR:=am eZ;clear fY eZ;have jC:=am fZ;have jD:=am fA;clear fZ fA;have HB:=am (Below.refl w.heap.size w);have H:((laws_toNameS.f k bJ).bind fun fN=>((laws_toNameS.f k bM).bind fun gP=>((laws_toDate.f bN bO bQ bF).bind fun rU=>(some (aJ,aH,fN,gP,aX,bB,bE,rU.1,rU.2.1,rU.2.2.1,rU.2.2.2,bI,bD,bL)))))=some (r1,r2,r3,r4,r5,r6,r7,r8,r9,r10,r11,r12,r13,r14):=h;clear h;replace H:=ob H;obtain ⟨fN,fC,H⟩:=H
 try dsimp only at H
 have A2:=am fC;clear fC;replace H:=ob H;obtain ⟨gP,dL,H⟩:=H
 try dsimp only at H
 have A3:=am dL;clear dL;replace H:=ob H;obtain ⟨⟨qG,rK,vL,xJ⟩,oL,H⟩:=H;replace H:(some (aJ,aH,fN,gP,aX,bB,bE,qG,rK,vL,xJ,bI,bD,bL))=some (r1,r2,r3,r4,r5,r6,r7,r8,r9,r10,r11,r12,r13,r14):=H;have A4:=am oL;clear oL;simp only [Option.some.injEq,Prod.mk.injEq] at H;obtain ⟨rfl,rfl,rfl,rfl,rfl,rfl,rfl,rfl,rfl,rfl,rfl,rfl,rfl,rfl⟩:=H;go_enter Tryz.func25,Tryz.ntmps25;go_wp2_with (first|((with_reducible refine gate_dst (N:=1) rfl ?_);refine box_event ?hg (N:=1) ?hd (cs:=#[.string aJ,.int .i64 aH,.slice dD bJ.length dE,.slice dF bM.length dG,.string aX,.string bB,.string bE,.int .i64 bN,.int .i64 bO,.int .i64 bQ,.bool bF,.int .i64 bI,.string bD,.string bL]) (t:=52) ?hr ?_;(case hd=>rfl);(case hg=>rfl);(case hr=>first|(go_simp;done)|(go_simp;rfl));intro rV hg w5 hbox hb;have lT:=am (hbox);have aXg:=am (bsz hg au46);have MK:=am (bsz hg au46);replace HB:=am (below_step au46 hb);clear hb hbox hg)|((with_reducible refine gate_dst (N:=2) rfl ?_);refine box_event ?hg (N:=2) ?hd (cs:=#[.string (⟨#[]⟩:ByteArray),.int .i64 0,.slice none 0 0,.slice none 0 0,.string (⟨#[]⟩:ByteArray),.string (⟨#[]⟩:ByteArray),.string (⟨#[]⟩:ByteArray),.int .i64 0,.int .i64 0,.int .i64 0,.bool false,.int .i64 0,.string (⟨#[]⟩:ByteArray),.string (⟨#[]⟩:ByteArray)]) (t:=42) ?hr ?_;(case hd=>rfl);(case hg=>rfl);(case hr=>first|(go_simp;done)|(go_simp;rfl));intro dI hg w6 hbox hb;have nA:=am (hbox);have aXh:=am (bsz hg au31);have a1K:=am (bsz hg au31);replace HB:=am (below_step au31 hb);have a6H:=am (bne (g:=rV) hg au65);have a6I:=am (ben (g:=rV) hg au65);replace lT:=am (blk_below (g:=rV) au65 hb);clear hb hbox hg)|((with_reducible refine gate_dst (N:=3) rfl ?_);refine box_event ?hg (N:=3) ?hd (cs:=#[.string (⟨#[]⟩:ByteArray),.int .i64 0,.slice none 0 0,.slice none 0 0,.string (⟨#[]⟩:ByteArray),.string (⟨#[]⟩:ByteArray),.string (⟨#[]⟩:ByteArray),.int .i64 0,.int .i64 0,.int .i64 0,.bool false,.int .i64 0,.string (⟨#[]⟩:ByteArray),.string (⟨#[]⟩:ByteArray)]) (t:=42) ?hr ?_;(case hd=>rfl);(case hg=>rfl);(case hr=>first|(go_simp;done)|(go_simp;rfl));intro eS hg w7 hbox hb;have kC:=am (hbox);have aXi:=am (bsz hg au15);have aeH:=am (bsz hg au15);replace HB:=am (below_step au15 hb);have kA:=am (bne (g:=rV) hg au65);have a6J:=am (ben (g:=rV) hg au65);replace lT:=am (blk_below (g:=rV) au65 hb);have eL:=am (bne (g:=dI) hg au66);have a6K:=am (ben (g:=dI) hg au66);replace nA:=am (blk_below (g:=dI) au66 hb);clear hb hbox hg;have avC:=a6H.out;have avD:=a6I.out;have avE:=kA.out;have avF:=a6J.out;obtain ⟨nM,KS,KT,KU,alK,alL,alM,alN,alO,alP,abF,abG,abH,abI,nN,KV,KW,KX,alQ,alR,alS,alT,alU,alV,abJ,abK,abL,abM⟩:=blkc14 lT.out;have a3G:=a6K.out;have a3H:=eL.out;obtain ⟨gZ,qA,qB,qC,aPW,aPX,aPY,aPZ,aQ0,aQ1,aIe,aIf,aIg,aIh,hD,qD,qE,qF,aQ2,aQ3,aQ4,aQ5,aQ6,aQ7,aIi,aIj,aIk,aIl⟩:=blkc14 kC.out)|((with_reducible refine gate_callee (f:=41) rfl ?_);refine goesL_ (some 12) rfl rfl Tryz.func41 (by kernel_rfl) rfl #[.slice dD bJ.length dE] rfl au45 ?_;(with_reducible refine (laws_toNameS.calls k _ _ bJ fN _ ?aU ?aV A2.out).mono ?_);(case aU=>exact Kd.C_below gQ.out au7);(case aV=>exact gR.out);rintro e mP ⟨b0M,rfl,ho0,hb⟩;refine ⟨_,rfl,?_⟩;have Eo:=am (Kd.S_lower ho0 (below_size au7));replace lT:=am (blk_below (g:=rV) (o:=.cells #[.string aJ,.int .i64 aH,.slice dD bJ.length dE,.slice dF bM.length dG,.string aX,.string bB,.string bE,.int .i64 bN,.int .i64 bO,.int .i64 bQ,.bool bF,.int .i64 bI,.string bD,.string bL] 52 (0,0)) (by (with_reducible repeat (first|refine blk_drewN ?_ _|refine blk_drew ?_|refine blk_alloc ?_ _));refine blk_far ?_ kA.out _;(with_reducible repeat (first|refine blk_drewN ?_ _|refine blk_drew ?_|refine blk_alloc ?_ _));refine blk_far ?_ kA.out _;(with_reducible repeat (first|refine blk_drewN ?_ _|refine blk_drew ?_|refine blk_alloc ?_ _));exact lT.out) hb);replace nA:=am (blk_below (g:=dI) (o:=.cells #[.string (⟨#[]⟩:ByteArray),.int .i64 0,.slice none 0 0,.slice none 0 0,.string (⟨#[]⟩:ByteArray),.string (⟨#[]⟩:ByteArray),.string (⟨#[]⟩:ByteArray),.int .i64 0,.int .i64 0,.int .i64 0,.bool false,.int .i64 0,.string (⟨#[]⟩:ByteArray),.string (⟨#[]⟩:ByteArray)] 42 (0,0)) (by (with_reducible repeat (first|refine blk_drewN ?_ _|refine blk_drew ?_|refine blk_alloc ?_ _));refine blk_far ?_ eL.out _;(with_reducible repeat (first|refine blk_drewN ?_ _|refine blk_drew ?_|refine blk_alloc ?_ _));refine blk_far ?_ eL.out _;(with_reducible repeat (first|refine blk_drewN ?_ _|refine blk_drew ?_|refine blk_alloc ?_ _));exact nA.out) hb);replace kC:=am (blk_below (g:=eS) (o:=.cells #[.string aJ,.int .i64 aH,.slice none 0 0,.slice none 0 0,.string (⟨#[]⟩:ByteArray),.string (⟨#[]⟩:ByteArray),.string (⟨#[]⟩:ByteArray),.int .i64 0,.int .i64 0,.int .i64 0,.bool false,.int .i64 0,.string (⟨#[]⟩:ByteArray),.string (⟨#[]⟩:ByteArray)] 42 (0,0)) (by (with_reducible repeat (first|refine blk_drewN ?_ _|refine blk_drew ?_|refine blk_alloc ?_ _));refine blk_put (cs:=#[.string aJ,.int .i64 0,.slice none 0 0,.slice none 0 0,.string (⟨#[]⟩:ByteArray),.string (⟨#[]⟩:ByteArray),.string (⟨#[]⟩:ByteArray),.int .i64 0,.int .i64 0,.int .i64 0,.bool false,.int .i64 0,.string (⟨#[]⟩:ByteArray),.string (⟨#[]⟩:ByteArray)]) ?_ 1 _ rfl;(with_reducible repeat (first|refine blk_drewN ?_ _|refine blk_drew ?_|refine blk_alloc ?_ _));refine blk_put (cs:=#[.string (⟨#[]⟩:ByteArray),.int .i64 0,.slice none 0 0,.slice none 0 0,.string (⟨#[]⟩:ByteArray),.string (⟨#[]⟩:ByteArray),.string (⟨#[]⟩:ByteArray),.int .i64 0,.int .i64 0,.int .i64 0,.bool false,.int .i64 0,.string (⟨#[]⟩:ByteArray),.string (⟨#[]⟩:ByteArray)]) ?_ 0 _ rfl;(with_reducible repeat (first|refine blk_drewN ?_ _|refine blk_drew ?_|refine blk_alloc ?_ _));exact kC.out) hb);replace HB:=am (below_step au7 hb);(try clear hb);(try clear ho0);obtain ⟨eT,eU,abN⟩:=Kd.S_slice Eo.out;subst abN;obtain ⟨gX,kP,kQ,kR,sH,sI,sJ,sK,sL,sM,pL,pM,pN,pO,gY,kS,kT,kU,sN,sO,sP,sQ,sR,sS,pP,pQ,pR,pS⟩:=blkc14 kC.out;obtain ⟨nU,pF,pG,pH,Uf,Ug,Uh,Ui,Uj,Uk,Pd,Pe,Pf,Ph,nV,pI,pJ,pK,Ul,Um,Un,Uo,Up,Uq,Pi,Pj,Pk,Pm⟩:=blkc14 lT.out)|((with_reducible refine gate_callee (f:=41) rfl ?_);refine goesL_ (some 16) rfl rfl Tryz.func41 (by kernel_rfl) rfl #[.slice dF bM.length dG] rfl au45 ?_;(with_reducible refine (laws_toNameS.calls k _ _ bM gP _ ?aU ?aV A3.out).mono ?_);(case aU=>exact Kd.C_below jC.out au7);(case aV=>exact jD.out);rintro e oP ⟨b0N,rfl,ho0,hb⟩;refine ⟨_,rfl,?_⟩;have Na:=am (Kd.S_lower (Kd.S_new' ho0 (Kd.S_lt au3)) (below_size au7));replace Eo:=am (Kd.S_elder' au3 (Kd.S_base ho0) hb);replace lT:=am (blk_below (g:=rV) (o:=.cells #[.string aJ,.int .i64 aH,.slice dD bJ.length dE,.slice dF bM.length dG,.string aX,.string bB,.string bE,.int .i64 bN,.int .i64 bO,.int .i64 bQ,.bool bF,.int .i64 bI,.string bD,.string bL] 52 (0,0)) (by (with_reducible repeat (first|refine blk_drewN ?_ _|refine blk_drew ?_|refine blk_alloc ?_ _));refine blk_far ?_ kA.out _;(with_reducible repeat (first|refine blk_drewN ?_ _|refine blk_drew ?_|refine blk_alloc ?_ _));exact lT.out) hb);replace nA:=am (blk_below (g:=dI) (o:=.cells #[.string (⟨#[]⟩:ByteArray),.int .i64 0,.slice none 0 0,.slice none 0 0,.string (⟨#[]⟩:ByteArray),.string (⟨#[]⟩:ByteArray),.string (⟨#[]⟩:ByteArray),.int .i64 0,.int .i64 0,.int .i64 0,.bool false,.int .i64 0,.string (⟨#[]⟩:ByteArray),.string (⟨#[]⟩:ByteArray)] 42 (0,0)) (by (with_reducible repeat (first|refine blk_drewN ?_ _|refine blk_drew ?_|refine blk_alloc ?_ _));refine blk_far ?_ eL.out _;(with_reducible repeat (first|refine blk_drewN ?_ _|refine blk_drew ?_|refine blk_alloc ?_ _));exact nA.out) hb);replace kC:=am (blk_below (g:=eS) (o:=.cells #[.string aJ,.int .i64 aH,.slice eT fN.length eU,.slice none 0 0,.string (⟨#[]⟩:ByteArray),.string (⟨#[]⟩:ByteArray),.string (⟨#[]⟩:ByteArray),.int .i64 0,.int .i64 0,.int .i64 0,.bool false,.int .i64 0,.string (⟨#[]⟩:ByteArray),.string (⟨#[]⟩:ByteArray)] 42 (0,0)) (by (with_reducible repeat (first|refine blk_drewN ?_ _|refine blk_drew ?_|refine blk_alloc ?_ _));refine blk_put (cs:=#[.string aJ,.int .i64 aH,.slice none 0 0,.slice none 0 0,.string (⟨#[]⟩:ByteArray),.string (⟨#[]⟩:ByteArray),.string (⟨#[]⟩:ByteArray),.int .i64 0,.int .i64 0,.int .i64 0,.bool false,.int .i64 0,.string (⟨#[]⟩:ByteArray),.string (⟨#[]⟩:ByteArray)]) ?_ 2 _ rfl;(with_reducible repeat (first|refine blk_drewN ?_ _|refine blk_drew ?_|refine blk_alloc ?_ _));exact kC.out) hb);replace HB:=am (below_step au7 hb);(try clear hb);(try clear ho0);obtain ⟨jT,jU,abO⟩:=Kd.S_slice Na.out;subst abO;obtain ⟨tJ,ES,ET,EU,Tg,Ti,Tj,Tk,Tl,Tm,OB,OC,OD,OE,tK,EV,EW,EX,Tn,Tp,Tq,Tr,Ts,Tt,OF,OG,OH,OI⟩:=blkc14 kC.out;obtain ⟨L3,L4,L5,L6,XL,XM,XN,XO,XP,XQ,QB,QC,QD,QE,L8,L9,La,Lb,XR,XS,XT,XU,XV,XW,QF,QG,QH,QI⟩:=blkc14 lT.out)|((with_reducible refine gate_callee (f:=42) rfl ?_);refine goesL_ (some 29) rfl rfl Tryz.func42 (by kernel_rfl) rfl #[.agg #[.int .i64 bN,.int .i64 bO,.int .i64 bQ,.bool bF]] rfl au45 ?_;(with_reducible refine (laws_toDate.calls bN bO bQ bF qG rK vL xJ _ A4.out).mono ?_);rintro e QJ ⟨rfl,hb⟩;refine ⟨_,rfl,?_⟩;replace Eo:=am (Kd.S_below (by (with_reducible repeat (first|apply Kd.S_alloc|apply Kd.S_drewN|apply Kd.S_drew));exact (Kd.S_mono (Kd.S_far (p:=⟨eS,6,none⟩) (Kd.S_far (p:=⟨eS,5,none⟩) (Kd.S_far (p:=⟨eS,4,none⟩) (Kd.S_far (p:=⟨eS,3,none⟩) (Kd.S_types Eo.out kC.out (by decide)) (fun _ hk=>hk.2) (.slice jT gP.length jU)) (fun _ hk=>hk.2) (.string aX)) (fun _ hk=>hk.2) (.string bB)) (fun _ hk=>hk.2) (.string bE)) (fun _ h_=>h_.1))) hb);replace Na:=am (Kd.S_below (by (with_reducible repeat (first|apply Kd.S_alloc|apply Kd.S_drewN|apply Kd.S_drew));exact (Kd.S_mono (Kd.S_far (p:=⟨eS,6,none⟩) (Kd.S_far (p:=⟨eS,5,none⟩) (Kd.S_far (p:=⟨eS,4,none⟩) (Kd.S_far (p:=⟨eS,3,none⟩) (Kd.S_types Na.out kC.out (by decide)) (fun _ hk=>hk.2) (.slice jT gP.length jU)) (fun _ hk=>hk.2) (.string aX)) (fun _ hk=>hk.2) (.string bB)) (fun _ hk=>hk.2) (.string bE)) (fun _ h_=>h_.1))) hb);replace lT:=am (blk_below (g:=rV) (o:=.cells #[.string aJ,.int .i64 aH,.slice dD bJ.length dE,.slice dF bM.length dG,.string aX,.string bB,.string bE,.int .i64 bN,.int .i64 bO,.int .i64 bQ,.bool bF,.int .i64 bI,.string bD,.string bL] 52 (0,0)) (by (with_reducible repeat (first|refine blk_drewN ?_ _|refine blk_drew ?_|refine blk_alloc ?_ _));refine blk_far ?_ kA.out _;(with_reducible repeat (first|refine blk_drewN ?_ _|refine blk_drew ?_|refine blk_alloc ?_ _));refine blk_far ?_ kA.out _;(with_reducible repeat (first|refine blk_drewN ?_ _|refine blk_drew ?_|refine blk_alloc ?_ _));refine blk_far ?_ kA.out _;(with_reducible repeat (first|refine blk_drewN ?_ _|refine blk_drew ?_|refine blk_alloc ?_ _));refine blk_far ?_ kA.out _;(with_reducible repeat (first|refine blk_drewN ?_ _|refine blk_drew ?_|refine blk_alloc ?_ _));exact lT.out) hb);replace nA:=am (blk_below (g:=dI) (o:=.cells #[.string (⟨#[]⟩:ByteArray),.int .i64 0,.slice none 0 0,.slice none 0 0,.string (⟨#[]⟩:ByteArray),.string (⟨#[]⟩:ByteArray),.string (⟨#[]⟩:ByteArray),.int .i64 0,.int .i64 0,.int .i64 0,.bool false,.int .i64 0,.string (⟨#[]⟩:ByteArray),.string (⟨#[]⟩:ByteArray)] 42 (0,0)) (by (with_reducible repeat (first|refine blk_drewN ?_ _|refine blk_drew ?_|refine blk_alloc ?_ _));refine blk_far ?_ eL.out _;(with_reducible repeat (first|refine blk_drewN ?_ _|refine blk_drew ?_|refine blk_alloc ?_ _));refine blk_far ?_ eL.out _;(with_reducible repeat (first|refine blk_drewN ?_ _|refine blk_drew ?_|refine blk_alloc ?_ _));refine blk_far ?_ eL.out _;(with_reducible repeat (first|refine blk_drewN ?_ _|refine blk_drew ?_|refine blk_alloc ?_ _));refine blk_far ?_ eL.out _;(with_reducible repeat (first|refine blk_drewN ?_ _|refine blk_drew ?_|refine blk_alloc ?_ _));exact nA.out) hb);replace kC:=am (blk_below (g:=eS) (o:=.cells #[.string aJ,.int .i64 aH,.slice eT fN.length eU,.slice jT gP.length jU,.string aX,.string bB,.string bE,.int .i64 0,.int .i64 0,.int .i64 0,.bool false,.int .i64 0,.string (⟨#[]⟩:ByteArray),.string (⟨#[]⟩:ByteArray)] 42 (0,0)) (by (with_reducible repeat (first|refine blk_drewN ?_ _|refine blk_drew ?_|refine blk_alloc ?_ _));refine blk_put (cs:=#[.string aJ,.int .i64 aH,.slice eT fN.length eU,.slice jT gP.length jU,.string aX,.string bB,.string (⟨#[]⟩:ByteArray),.int .i64 0,.int .i64 0,.int .i64 0,.bool false,.int .i64 0,.string (⟨#[]⟩:ByteArray),.string (⟨#[]⟩:ByteArray)]) ?_ 6 _ rfl;(with_reducible repeat (first|refine blk_drewN ?_ _|refine blk_drew ?_|refine blk_alloc ?_ _));refine blk_put (cs:=#[.string aJ,.int .i64 aH,.slice eT fN.length eU,.slice jT gP.length jU,.string aX,.string (⟨#[]⟩:ByteArray),.string (⟨#[]⟩:ByteArray),.int .i64 0,.int .i64 0,.int .i64 0,.bool false,.int .i64 0,.string (⟨#[]⟩:ByteArray),.string (⟨#[]⟩:ByteArray)]) ?_ 5 _ rfl;(with_reducible repeat (first|refine blk_drewN ?_ _|refine blk_drew ?_|refine blk_alloc ?_ _));refine blk_put (cs:=#[.string aJ,.int .i64 aH,.slice eT fN.length eU,.slice jT gP.length jU,.string (⟨#[]⟩:ByteArray),.string (⟨#[]⟩:ByteArray),.string (⟨#[]⟩:ByteArray),.int .i64 0,.int .i64 0,.int .i64 0,.bool false,.int .i64 0,.string (⟨#[]⟩:ByteArray),.string (⟨#[]⟩:ByteArray)]) ?_ 4 _ rfl;(with_reducible repeat (first|refine blk_drewN ?_ _|refine blk_drew ?_|refine blk_alloc ?_ _));refine blk_put (cs:=#[.string aJ,.int .i64 aH,.slice eT fN.length eU,.slice none 0 0,.string (⟨#[]⟩:ByteArray),.string (⟨#[]⟩:ByteArray),.string (⟨#[]⟩:ByteArray),.int .i64 0,.int .i64 0,.int .i64 0,.bool false,.int .i64 0,.string (⟨#[]⟩:ByteArray),.string (⟨#[]⟩:ByteArray)]) ?_ 3 _ rfl;(with_reducible repeat (first|refine blk_drewN ?_ _|refine blk_drew ?_|refine blk_alloc ?_ _));exact kC.out) hb);replace HB:=am (below_step au7 hb);(try clear hb);obtain ⟨sT,sU,sV,sW,EE,EF,EG,EH,EI,EJ,BE,BF,BG,BH,sX,sY,sZ,tA,EK,EL,EM,EN,EO,EP,BI,BJ,BK,BL⟩:=blkc14 kC.out;obtain ⟨LU,alW,alX,alY,alZ,amA,amB,amC,amD,amE,abP,abQ,abR,abS,LV,amF,amG,amH,amI,amJ,amK,amL,amM,amN,abT,abU,abV,abW⟩:=blkc14 lT.out;obtain ⟨tB,tC,tD,tE,Fa,Fb,Fc,Fe,Ff,Fg,BX,BZ,C0,C1,tF,tG,tH,tI,Fh,Fi,Fj,Fl,Fo,Fp,C2,C3,C4,C5⟩:=blkc14 nA.out));refine bodyPost_ret (results_cell_row rfl _ _ dI 42 #[.string aJ,.int .i64 aH,.slice eT fN.length eU,.slice jT gP.length jU,.string aX,.string bB,.string bE,.int .i64 qG,.int .i64 rK,.int .i64 vL,.bool xJ,.int .i64 bI,.string bD,.string bL] (0,0) _ rfl (by (with_reducible repeat (first|refine blk_drewN ?_ _|refine blk_drew ?_|refine blk_alloc ?_ _));apply put14;(with_reducible repeat (first|refine blk_drewN ?_ _|refine blk_drew ?_|refine blk_alloc ?_ _));refine blk_far ?_ eL.out _;(with_reducible repeat (first|refine blk_drewN ?_ _|refine blk_drew ?_|refine blk_alloc ?_ _));refine blk_far ?_ eL.out _;(with_reducible repeat (first|refine blk_drewN ?_ _|refine blk_drew ?_|refine blk_alloc ?_ _));refine blk_far ?_ eL.out _;(with_reducible repeat (first|refine blk_drewN ?_ _|refine blk_drew ?_|refine blk_alloc ?_ _));refine blk_far ?_ eL.out _;(with_reducible repeat (first|refine blk_drewN ?_ _|refine blk_drew ?_|refine blk_alloc ?_ _));refine blk_far ?_ eL.out _;(with_reducible repeat (first|refine blk_drewN ?_ _|refine blk_drew ?_|refine blk_alloc ?_ _));refine blk_far ?_ eL.out _;(with_reducible repeat (first|refine blk_drewN ?_ _|refine blk_drew ?_|refine blk_alloc ?_ _));refine blk_far ?_ eL.out _;(with_reducible repeat (first|refine blk_drewN ?_ _|refine blk_drew ?_|refine blk_alloc ?_ _));exact nA.out) Tryz.underlying42 rfl (by kernel_rfl)) rfl ?_;exact ⟨_,_,by first|rfl|(simp [errW_none,errW_some] <;> rfl)|(simp [*,errW_none,errW_some] <;> rfl),by (with_reducible repeat (first|apply Kd.S_alloc|apply Kd.S_drewN|apply Kd.S_drew));exact Kd.S_mono (Kd.S_far (p:=⟨dI,13,none⟩) (Kd.S_far (p:=⟨dI,12,none⟩) (Kd.S_far (p:=⟨dI,11,none⟩) (Kd.S_far (p:=⟨dI,10,none⟩) (Kd.S_far (p:=⟨dI,9,none⟩) (Kd.S_far (p:=⟨dI,8,none⟩) (Kd.S_far (p:=⟨dI,7,none⟩) (Kd.S_far (p:=⟨dI,6,none⟩) (Kd.S_far (p:=⟨dI,5,none⟩) (Kd.S_far (p:=⟨dI,4,none⟩) (Kd.S_far (p:=⟨dI,3,none⟩) (Kd.S_far (p:=⟨dI,2,none⟩) (Kd.S_far (p:=⟨dI,1,none⟩) (Kd.S_far (p:=⟨dI,0,none⟩) (Kd.S_far (p:=⟨eS,13,none⟩) (Kd.S_far (p:=⟨eS,12,none⟩) (Kd.S_far (p:=⟨eS,11,none⟩) (Kd.S_far (p:=⟨eS,10,none⟩) (Kd.S_far (p:=⟨eS,9,none⟩) (Kd.S_far (p:=⟨eS,8,none⟩) (Kd.S_far (p:=⟨eS,7,none⟩) (Kd.S_types (Kd.S_types Eo.out kC.out (by decide)) nA.out (by decide)) (fun _ hk=>hk.1.2) (.int .i64 qG)) (fun _ hk=>hk.1.2) (.int .i64 rK)) (fun _ hk=>hk.1.2) (.int .i64 vL)) (fun _ hk=>hk.1.2) (.bool xJ)) (fun _ hk=>hk.1.2) (.int .i64 bI)) (fun _ hk=>hk.1.2) (.string bD)) (fun _ hk=>hk.1.2) (.string bL)) (fun _ hk=>hk.2) (.string aJ)) (fun _ hk=>hk.2) (.int .i64 aH)) (fun _ hk=>hk.2) (.slice eT fN.length eU)) (fun _ hk=>hk.2) (.slice jT gP.length jU)) (fun _ hk=>hk.2) (.string aX)) (fun _ hk=>hk.2) (.string bB)) (fun _ hk=>hk.2) (.string bE)) (fun _ hk=>hk.2) (.int .i64 qG)) (fun _ hk=>hk.2) (.int .i64 rK)) (fun _ hk=>hk.2) (.int .i64 vL)) (fun _ hk=>hk.2) (.bool xJ)) (fun _ hk=>hk.2) (.int .i64 bI)) (fun _ hk=>hk.2) (.string bD)) (fun _ hk=>hk.2) (.string bL)) (fun _ hk=>hk.1.1.2),by (with_reducible repeat (first|apply Kd.S_alloc|apply Kd.S_drewN|apply Kd.S_drew));exact Kd.S_mono (Kd.S_far (p:=⟨dI,13,none⟩) (Kd.S_far (p:=⟨dI,12,none⟩) (Kd.S_far (p:=⟨dI,11,none⟩) (Kd.S_far (p:=⟨dI,10,none⟩) (Kd.S_far (p:=⟨dI,9,none⟩) (Kd.S_far (p:=⟨dI,8,none⟩) (Kd.S_far (p:=⟨dI,7,none⟩) (Kd.S_far (p:=⟨dI,6,none⟩) (Kd.S_far (p:=⟨dI,5,none⟩) (Kd.S_far (p:=⟨dI,4,none⟩) (Kd.S_far (p:=⟨dI,3,none⟩) (Kd.S_far (p:=⟨dI,2,none⟩) (Kd.S_far (p:=⟨dI,1,none⟩) (Kd.S_far (p:=⟨dI,0,none⟩) (Kd.S_far (p:=⟨eS,13,none⟩) (Kd.S_far (p:=⟨eS,12,none⟩) (Kd.S_far (p:=⟨eS,11,none⟩) (Kd.S_far (p:=⟨eS,10,none⟩) (Kd.S_far (p:=⟨eS,9,none⟩) (Kd.S_far (p:=⟨eS,8,none⟩) (Kd.S_far (p:=⟨eS,7,none⟩) (Kd.S_types (Kd.S_types Na.out kC.out (by decide)) nA.out (by decide)) (fun _ hk=>hk.1.2) (.int .i64 qG)) (fun _ hk=>hk.1.2) (.int .i64 rK)) (fun _ hk=>hk.1.2) (.int .i64 vL)) (fun _ hk=>hk.1.2) (.bool xJ)) (fun _ hk=>hk.1.2) (.int .i64 bI)) (fun _ hk=>hk.1.2) (.string bD)) (fun _ hk=>hk.1.2) (.string bL)) (fun _ hk=>hk.2) (.string aJ)) (fun _ hk=>hk.2) (.int .i64 aH)) (fun _ hk=>hk.2) (.slice eT fN.length eU)) (fun _ hk=>hk.2) (.slice jT gP.length jU)) (fun _ hk=>hk.2) (.string aX)) (fun _ hk=>hk.2) (.string bB)) (fun _ hk=>hk.2) (.string bE)) (fun _ hk=>hk.2) (.int .i64 qG)) (fun _ hk=>hk.2) (.int .i64 rK)) (fun _ hk=>hk.2) (.int .i64 vL)) (fun _ hk=>hk.2) (.bool xJ)) (fun _ hk=>hk.2) (.int .i64 bI)) (fun _ hk=>hk.2) (.string bD)) (fun _ hk=>hk.2) (.string bL)) (fun _ hk=>hk.1.1.2),by repeat (first|(with_reducible first|exact HB.out|apply below_alloc|apply pw_below_drewN|apply below_drew1|refine below_set ?_ MK.out|refine below_set ?_ a1K.out|refine below_set ?_ aeH.out)|exact HB.out)⟩
def laws_toEntryS.l0:Nat→List (S52)→List (S42)→Int→Option ((List (S42)))
 | 0,_,_,_=>none
 | k+1,x0,x3,x4=>if x4<(x0.length:Int) then (if 0≤x4 then ((laws_toEntry.f k ((rd_T52 x0 x4).f0) ((rd_T52 x0 x4).f1) ((rd_T52 x0 x4).f2) ((rd_T52 x0 x4).f3) ((rd_T52 x0 x4).f4) ((rd_T52 x0 x4).f5) ((rd_T52 x0 x4).f6) ((rd_T52 x0 x4).f7.f0) ((rd_T52 x0 x4).f7.f1) ((rd_T52 x0 x4).f7.f2) ((rd_T52 x0 x4).f7.f3) ((rd_T52 x0 x4).f8) ((rd_T52 x0 x4).f9) ((rd_T52 x0 x4).f10)).bind fun lD=>(if x4<(x3.length:Int) then (laws_toEntryS.l0 k x0 (x3.set (x4:Int).toNat (⟨lD.1,lD.2.1,lD.2.2.1,lD.2.2.2.1,lD.2.2.2.2.1,lD.2.2.2.2.2.1,lD.2.2.2.2.2.2.1,(⟨lD.2.2.2.2.2.2.2.1,lD.2.2.2.2.2.2.2.2.1,lD.2.2.2.2.2.2.2.2.2.1,lD.2.2.2.2.2.2.2.2.2.2.1⟩:S40),lD.2.2.2.2.2.2.2.2.2.2.2.1,lD.2.2.2.2.2.2.2.2.2.2.2.2.1,lD.2.2.2.2.2.2.2.2.2.2.2.2.2⟩:S42)) (wrap64 (x4+1))) else (none))) else (none)) else (some x3)
def laws_toEntryS.f (k:Nat) (l0:List (S52)):Option ((List (S42))):=if 0≤(l0.length:Int) then (if ((l0.length:Int):Int).toNat≤1466015503701 then (laws_toEntryS.l0 k l0 (List.replicate ((l0.length:Int):Int).toNat z42) 0) else (none)) else (none)
theorem laws_toEntryS.mono_l:∀ k,(∀ y0 y1 y2,LeO (laws_toEntryS.l0 k y0 y1 y2) (laws_toEntryS.l0 (k+1) y0 y1 y2))
 | 0=>fun _ _ _ r h=>by simp [laws_toEntryS.l0] at h
 | k+1=>by
  have ih0:=laws_toEntryS.mono_l k
  ·
   intro y0 y1 y2;unfold laws_toEntryS.l0
   repeat' first
   | (with_reducible exact ih0 _ _ _)
   | (with_reducible exact laws_toEntry.mono _ _ _ _ _ _ _ _ _ _ _ _ _ _ _)
   | (with_reducible exact LeO.refl _)
   | (with_reducible exact LeO.none _)
   | (with_reducible refine LeO.ite ?_ ?_)
   | (with_reducible refine LeO.bind ?_ (fun _=>?_))
   | exact ih0 _ _ _
   | exact laws_toEntry.mono _ _ _ _ _ _ _ _ _ _ _ _ _ _ _
   | exact LeO.none _
   | refine LeO.ite ?_ ?_
   | refine LeO.bind ?_ (fun _=>?_)
theorem laws_toEntryS.mono:∀ a0 k,LeO (laws_toEntryS.f k a0) (laws_toEntryS.f (k+1) a0):=by
 intro a0 k;have ih0:=laws_toEntryS.mono_l k;unfold laws_toEntryS.f
 repeat' first
   | (with_reducible exact ih0 _ _ _)
   | (with_reducible exact laws_toEntry.mono _ _ _ _ _ _ _ _ _ _ _ _ _ _ _)
   | (with_reducible exact LeO.refl _)
   | (with_reducible exact LeO.none _)
   | (with_reducible refine LeO.ite ?_ ?_)
   | (with_reducible refine LeO.bind ?_ (fun _=>?_))
   | exact ih0 _ _ _
   | exact laws_toEntry.mono _ _ _ _ _ _ _ _ _ _ _ _ _ _ _
   | exact LeO.none _
   | refine LeO.ite ?_ ?_
   | refine LeO.bind ?_ (fun _=>?_)
set_option maxHeartbeats 8000000 in
set_option maxRecDepth 100000 in
theorem laws_toEntryS.calls (k:Nat) (A0:Option Addr) (c0:Nat) (l0:List (S52)) (r:List (S42)) (w:World) (dH:Kd.C k52 w A0 l0.length l0) (cP:l0.length≤c0) (h:laws_toEntryS.f k l0=some r) :
  Calls Tryz.prog 15 #[.slice A0 l0.length c0] w fun e w'=>∃ dS:Value,e=.returned (dS)∧Kd.R k42 42 w' w.heap.size (fun _=>True) dS r∧Below w.heap.size w w':=by
 have hu52:=Tryz.underlying52;have hu42:=Tryz.underlying42;have cW:=am dH;have mM:=am cP;clear dH cP;have HB:=am (Below.refl w.heap.size w);have H:(if 0≤(l0.length:Int) then (if ((l0.length:Int):Int).toNat≤1466015503701 then (laws_toEntryS.l0 k l0 (List.replicate ((l0.length:Int):Int).toNat z42) 0) else (none)) else (none))=some r:=h;clear h;by_cases c2:0≤(l0.length:Int)
 ·
  rw [if_pos c2] at H;have c2b0:=eq_true c2;have c2b1:=dt c2;clear c2;by_cases c3:((l0.length:Int):Int).toNat≤1466015503701
  ·
   rw [if_pos c3] at H;have c3b0:=eq_true c3;have c3b1:=dt c3;clear c3
   obtain ⟨ayO,Ku⟩:∃ y_:List (S42),y_=(List.replicate ((l0.length:Int):Int).toNat z42):=⟨_,rfl⟩
   replace H:(laws_toEntryS.l0 k l0 ayO 0)=some r:=by first|(rw [Ku];with_reducible exact H)|(have H2_:=(Option.bind_some _ _).symm.trans H;rw [Ku];with_reducible exact H2_)|(have H2_:=(Option.bind_some _ _).symm.trans H;with_reducible exact H2_)|with_reducible exact H|(rw [Ku];exact H)|exact H
   have agG:=am Ku;clear Ku;have H':=am H;clear H;go_enter Tryz.func15,Tryz.ntmps15;go_wp2_with (first|((with_reducible refine gate_dst (N:=7) rfl ?_);refine Kd.R_make k42 _ 42 rfl (N:=7) rfl 26 _ _ rfl (l0.length:Int) rfl rfl Tryz.underlying26 (.agg #[(.string ⟨#[]⟩),(.int .i64 0),(.slice none 0 0),(.slice none 0 0),(.string ⟨#[]⟩),(.string ⟨#[]⟩),(.string ⟨#[]⟩),(.int .i64 0),(.int .i64 0),(.int .i64 0),(.bool false),(.int .i64 0),(.string ⟨#[]⟩),(.string ⟨#[]⟩)]) 192 info42 rfl (by decide) (by omega) z42 (ok:=fun _=>True) (okp:=fun _=>True) (k42_mkM _ _ _ z42 (Kd.R_nil _ _ _ _ _) (Kd.R_nil _ _ _ _ _)) (fun _ hk=>hk) trivial (od au87) (Nat.le_trans (Nat.mul_le_mul_right _ (od au87:(l0.length:Int).toNat≤1466015503701)) (by omega)) (Below.refl _ _) (Nat.le_refl _) ?_;intro aIm w4 ho5 hb hg_ hnew_;clear hg_ hnew_;(first|rw [← agG.out] at ho5|(simp only [Int.reduceToNat] at ho5;rw [← agG.out] at ho5));have aEg:=am (Kd.R_lower ho5 (below_size au46));replace HB:=am (below_step au46 hb);clear hb ho5))
   go_loopg [4] k (fun kq v4 w'=>∃ (aE:List (S42)) (aI:Int),v4=.int .i64 aI∧Aside0 (laws_toEntryS.l0 kq l0 aE aI=some r)∧Aside0 (kq≤k)∧Aside0 (Kd.R k42 42 w' w.heap.size (fun _=>True) aIm aE)∧Aside0 (Below w.heap.size w w'))
   case atStart=>exact ⟨(ayO),(0),au88,H',⟨Nat.le_refl _⟩,⟨by (with_reducible repeat (first|apply Kd.R_alloc|apply Kd.R_drewN|apply Kd.R_drew));exact aEg.out⟩,⟨by repeat (first|(with_reducible first|exact HB.out|apply below_alloc|apply pw_below_drewN|apply below_drew1)|exact HB.out)⟩⟩
   case round =>
    clear H'
    try clear c1
    try clear c2
    try clear c2b0
    try clear c2b1
    try clear p2
    try clear c3
    try clear c3b0
    try clear c3b1
    obtain ⟨aE,aI,rfl,HA,HK1,bS,HB⟩:=hrel
    cases gk with
    | zero=>exact absurd HA.out (by simp [laws_toEntryS.l0])
    | succ k1 =>
     have H:=HA.out;clear HA;simp only [laws_toEntryS.l0] at H;by_cases c6:aI<(l0.length:Int)
     ·
      rw [if_pos c6] at H;have c6b0:=dt c6;clear c6;by_cases c7:0≤aI
      ·
       rw [if_pos c7] at H;have c7b0:=dt c7;clear c7;replace H:=ob H;obtain ⟨⟨Jo,Jp,E5,E6,qH,Jq,CP,Jr,Js,Jt,Ju,Jv,Jw,Jx⟩,iW,H⟩:=H;replace H:(if aI<(aE.length:Int) then (laws_toEntryS.l0 k1 l0 (aE.set (aI:Int).toNat (⟨Jo,Jp,E5,E6,qH,Jq,CP,(⟨Jr,Js,Jt,Ju⟩:S40),Jv,Jw,Jx⟩:S42)) (wrap64 (aI+1))) else (none))=some r:=H;have A8:=am iW;clear iW;by_cases c9:aI<(aE.length:Int)
       ·
        rw [if_pos c9] at H;have c9b0:=dt c9;clear c9
        obtain ⟨abX,Kv⟩:∃ y_:List (S42),y_=(aE.set (aI:Int).toNat (⟨Jo,Jp,E5,E6,qH,Jq,CP,(⟨Jr,Js,Jt,Ju⟩:S40),Jv,Jw,Jx⟩:S42)):=⟨_,rfl⟩
        replace H:(laws_toEntryS.l0 k1 l0 abX (wrap64 (aI+1)))=some r:=by first|(rw [Kv];with_reducible exact H)|(have H2_:=(Option.bind_some _ _).symm.trans H;rw [Kv];with_reducible exact H2_)|(have H2_:=(Option.bind_some _ _).symm.trans H;with_reducible exact H2_)|with_reducible exact H|(rw [Kv];exact H)|exact H
        have aEh:=am Kv;clear Kv;have H':=am H;clear H;have abY:0≤(aI:Int):=od au87;have abZ:aI<(l0.length:Int):=od au87;obtain ⟨aXj,ayP,ayQ,ayR,ayS,aIn,Y5,Y6,Y7,Y8,Y9,Ya,Yb,Yc,Yd,Ye,R0,R1,R2,R3,Yf,Yg,Yh,Yi⟩:=at_T52 cW.out aI abY abZ
        cases aIn
        replace Y5:=bcl HB.out Y5;replace Y6:=bcl HB.out Y6;replace Y7:=bcl HB.out Y7;replace Y8:=bcl HB.out Y8;replace Y9:=bcl HB.out Y9;replace Ya:=bcl HB.out Ya;replace Yb:=bcl HB.out Yb;replace Yc:=bcl HB.out Yc;replace Yd:=bcl HB.out Yd;replace Ye:=bcl HB.out Ye;replace R0:=bcl HB.out R0;replace R1:=bcl HB.out R1;replace R2:=bcl HB.out R2;replace R3:=bcl HB.out R3;have amO:=am Yg;have amP:=am Yf;clear Yg Yf;have amQ:=am Yi;have amR:=am Yh;clear Yi Yh;replace abY:=eq_true abY;replace abZ:=eq_true abZ;go_wp2_with (first|((with_reducible refine gate_callee (f:=25) rfl ?_);refine goesL_ (some 20) rfl rfl Tryz.func25 (by kernel_rfl) rfl #[.agg #[.string ((rd_T52 l0 aI).f0),.int .i64 ((rd_T52 l0 aI).f1),.slice ayP ((rd_T52 l0 aI).f2).length ayQ,.slice ayR ((rd_T52 l0 aI).f3).length ayS,.string ((rd_T52 l0 aI).f4),.string ((rd_T52 l0 aI).f5),.string ((rd_T52 l0 aI).f6),.int .i64 ((rd_T52 l0 aI).f7.f0),.int .i64 ((rd_T52 l0 aI).f7.f1),.int .i64 ((rd_T52 l0 aI).f7.f2),.bool ((rd_T52 l0 aI).f7.f3),.int .i64 ((rd_T52 l0 aI).f8),.string ((rd_T52 l0 aI).f9),.string ((rd_T52 l0 aI).f10)]] rfl au45 ?_;(with_reducible refine (laws_toEntry.calls k1 ((rd_T52 l0 aI).f0) ((rd_T52 l0 aI).f1) _ _ ((rd_T52 l0 aI).f2) _ _ ((rd_T52 l0 aI).f3) ((rd_T52 l0 aI).f4) ((rd_T52 l0 aI).f5) ((rd_T52 l0 aI).f6) ((rd_T52 l0 aI).f7.f0) ((rd_T52 l0 aI).f7.f1) ((rd_T52 l0 aI).f7.f2) ((rd_T52 l0 aI).f7.f3) ((rd_T52 l0 aI).f8) ((rd_T52 l0 aI).f9) ((rd_T52 l0 aI).f10) Jo Jp E5 E6 qH Jq CP Jr Js Jt Ju Jv Jw Jx _ ?aU ?aV ?dY ?dZ A8.out).mono ?_);(case aU=>repeat (first|exact (Kd.C_below amO.out HB.out)|(with_reducible refine Kd.C_alloc ?_ _)|(with_reducible refine Kd.C_drewN ?_ _)|(with_reducible refine Kd.C_drew ?_)));(case aV=>exact amP.out);(case dY=>repeat (first|exact (Kd.C_below amQ.out HB.out)|(with_reducible refine Kd.C_alloc ?_ _)|(with_reducible refine Kd.C_drewN ?_ _)|(with_reducible refine Kd.C_drew ?_)));(case dZ=>exact amR.out);rintro e dM ⟨b0O,b0P,rfl,ho0,ho1,hb⟩;obtain ⟨R4,R5,ayT⟩:=Kd.S_slice ho1;subst ayT;obtain ⟨R6,R7,ayU⟩:=Kd.S_slice ho0;subst ayU;refine ⟨_,rfl,?_⟩;replace bS:=am (Kd.R_mono (Kd.R_told (Kd.R_told (Kd.R_old (by (with_reducible repeat (first|apply Kd.R_alloc|apply Kd.R_drewN|apply Kd.R_drew));exact bS.out) hb) (Kd.S_base ho0)) (Kd.S_base ho1)) (fun _ h_=>h_.1));have agH:=am (Kd.S_lower ho0 (below_size au46));have agI:=am (Kd.S_lower ho1 (below_size au46));replace HB:=am (below_step au46 hb);(try clear hb);(try clear ho0);(try clear ho1);have QQ:0≤(aI:Int):=od au87;have QR:(aI:Int)<((aE.length:Int):Int):=od au87;obtain ⟨go10,mU,CN,QS,abE,cl10,QT⟩:=Kd.R_form bS.out (by omega);(first|cases CN|(injection CN with ea_ en_ ec_;(first|subst ea_|(injection ea_ with ea_;subst ea_));subst ec_;clear en_));have kG:=am QS;have GG10:=am QT;clear QS abE QT;obtain ⟨aIc,a3Y,QU,fP,fQ⟩:=Kd.R_elem bS.out z42 (aI:Int) QQ QR;obtain ⟨ayV,ayW,rfl,ge10_2,ge10_3⟩:=k42_openM QU;have ayI:dM.cell? ⟨go10,(aI:Int).toNat*14,none⟩=some (.string ((rd_T42 aE aI).f0)):=fP 0 _ rfl;have ayJ:dM.cell? ⟨go10,(aI:Int).toNat*14+1,none⟩=some (.int .i64 ((rd_T42 aE aI).f1)):=fP 1 _ rfl;have ayK:dM.cell? ⟨go10,(aI:Int).toNat*14+2,none⟩=some (ayV):=fP 2 _ rfl;have ayL:dM.cell? ⟨go10,(aI:Int).toNat*14+3,none⟩=some (ayW):=fP 3 _ rfl;have aUw:dM.cell? ⟨go10,(aI:Int).toNat*14+4,none⟩=some (.string ((rd_T42 aE aI).f4)):=fP 4 _ rfl;have aUx:dM.cell? ⟨go10,(aI:Int).toNat*14+5,none⟩=some (.string ((rd_T42 aE aI).f5)):=fP 5 _ rfl;have aUy:dM.cell? ⟨go10,(aI:Int).toNat*14+6,none⟩=some (.string ((rd_T42 aE aI).f6)):=fP 6 _ rfl;have aUz:dM.cell? ⟨go10,(aI:Int).toNat*14+7,none⟩=some (.int .i64 ((rd_T42 aE aI).f7.f0)):=fP 7 _ rfl;have aUA:dM.cell? ⟨go10,(aI:Int).toNat*14+8,none⟩=some (.int .i64 ((rd_T42 aE aI).f7.f1)):=fP 8 _ rfl;have aUB:dM.cell? ⟨go10,(aI:Int).toNat*14+9,none⟩=some (.int .i64 ((rd_T42 aE aI).f7.f2)):=fP 9 _ rfl;have aQ8:dM.cell? ⟨go10,(aI:Int).toNat*14+10,none⟩=some (.bool ((rd_T42 aE aI).f7.f3)):=fP 10 _ rfl;have aQ9:dM.cell? ⟨go10,(aI:Int).toNat*14+11,none⟩=some (.int .i64 ((rd_T42 aE aI).f8)):=fP 11 _ rfl;have aQa:dM.cell? ⟨go10,(aI:Int).toNat*14+12,none⟩=some (.string ((rd_T42 aE aI).f9)):=fP 12 _ rfl;have aQb:dM.cell? ⟨go10,(aI:Int).toNat*14+13,none⟩=some (.string ((rd_T42 aE aI).f10)):=fP 13 _ rfl;have Nv:dM.frozen? ⟨go10,(aI:Int).toNat*14,none⟩=false:=fQ 0;have Nw:dM.frozen? ⟨go10,(aI:Int).toNat*14+1,none⟩=false:=fQ 1;have Nx:dM.frozen? ⟨go10,(aI:Int).toNat*14+2,none⟩=false:=fQ 2;have Ny:dM.frozen? ⟨go10,(aI:Int).toNat*14+3,none⟩=false:=fQ 3;have a4X:dM.frozen? ⟨go10,(aI:Int).toNat*14+4,none⟩=false:=fQ 4;have a4Y:dM.frozen? ⟨go10,(aI:Int).toNat*14+5,none⟩=false:=fQ 5;have a4Z:dM.frozen? ⟨go10,(aI:Int).toNat*14+6,none⟩=false:=fQ 6;have a5A:dM.frozen? ⟨go10,(aI:Int).toNat*14+7,none⟩=false:=fQ 7;have a5B:dM.frozen? ⟨go10,(aI:Int).toNat*14+8,none⟩=false:=fQ 8;have a5C:dM.frozen? ⟨go10,(aI:Int).toNat*14+9,none⟩=false:=fQ 9;have Sn:dM.frozen? ⟨go10,(aI:Int).toNat*14+10,none⟩=false:=fQ 10;have Sp:dM.frozen? ⟨go10,(aI:Int).toNat*14+11,none⟩=false:=fQ 11;have Sq:dM.frozen? ⟨go10,(aI:Int).toNat*14+12,none⟩=false:=fQ 12;have Sr:dM.frozen? ⟨go10,(aI:Int).toNat*14+13,none⟩=false:=fQ 13;clear a3Y fP fQ QU;replace QQ:=eq_true QQ;replace QR:=eq_true QR;have n_:=am (Kd.R_mono (ok':=(fun k_=>some k_≠((.slice R6 E5.length R7:Value):Value).ownBlock∧some k_≠((.slice R4 E6.length R5:Value):Value).ownBlock)) bS.out (fun k_ hk=>⟨hk.1.2,hk.2⟩));clear bS;have bS:=n_;clear n_;have a3Z:=am (show Kd.R k42 42 dM w.heap.size (fun _=>True) (.slice (some ⟨go10,0,none⟩) aE.length mU) aE from (by (with_reducible repeat (first|apply Kd.R_alloc|apply Kd.R_drewN|apply Kd.R_drew));exact Kd.R_mono bS.out (fun _ hk=>trivial)));obtain ⟨aId,N8,QV,fK,fR⟩:=Kd.R_elem a3Z.out z42 (aI:Int) (od au87) (by have h_:(aI:Int)<((aE.length:Int):Int):=od au87;first|exact h_|(have e_:=(Kd.R_reads' bS.out).1;omega)|simpa using h_);obtain ⟨aUC,aUD,rfl,ge12_2,ge12_3⟩:=k42_openM QV;have Jn:=Kd.R_seg a3Z.out (aI:Int) (od au87) (by have h_:(aI:Int)<((aE.length:Int):Int):=od au87;first|exact h_|(have e_:=(Kd.R_reads' bS.out).1;omega)|simpa using h_) (seg:=[.string Jo,.int .i64 Jp,(.slice R6 E5.length R7:Value),(.slice R4 E6.length R5:Value),.string qH,.string Jq,.string CP,.int .i64 Jr,.int .i64 Js,.int .i64 Jt,.bool Ju,.int .i64 Jv,.string Jw,.string Jx]) (j:=0) N8 fK (show 14≤14 from by decide) (x':=(⟨Jo,Jp,E5,E6,qH,Jq,CP,(⟨Jr,Js,Jt,Ju⟩:S40),Jv,Jw,Jx⟩:S42)) (k42_mkM _ _ _ (⟨Jo,Jp,E5,E6,qH,Jq,CP,(⟨Jr,Js,Jt,Ju⟩:S40),Jv,Jw,Jx⟩:S42) (Kd.R_mono (Kd.R_apart' ((Kd.S_R agH.out)) (Kd.R_typed bS.out) (by decide)) (fun k_ hk=>⟨trivial,fun e_=>(hk.2) (by rw [e_];rfl)⟩)) (Kd.R_mono (Kd.R_apart' ((Kd.S_R agI.out)) (Kd.R_typed bS.out) (by decide)) (fun k_ hk=>⟨trivial,fun e_=>(hk.2) (by rw [e_];rfl)⟩))) (fun _ hk=>hk);have QW:=fK 0 _ rfl;(try simp only [show (k42).sz=14 from rfl,Nat.mul_one,Nat.add_zero] at QW);have Dx:=fR 0;(try simp only [show (k42).sz=14 from rfl,Nat.mul_one,Nat.add_zero] at Dx);have QX:=fK 1 _ rfl;(try simp only [show (k42).sz=14 from rfl,Nat.mul_one,Nat.add_zero] at QX);have Dy:=fR 1;(try simp only [show (k42).sz=14 from rfl,Nat.mul_one,Nat.add_zero] at Dy);have QY:=fK 2 _ rfl;(try simp only [show (k42).sz=14 from rfl,Nat.mul_one,Nat.add_zero] at QY);have Dz:=fR 2;(try simp only [show (k42).sz=14 from rfl,Nat.mul_one,Nat.add_zero] at Dz);have QZ:=fK 3 _ rfl;(try simp only [show (k42).sz=14 from rfl,Nat.mul_one,Nat.add_zero] at QZ);have DC:=fR 3;(try simp only [show (k42).sz=14 from rfl,Nat.mul_one,Nat.add_zero] at DC);have ayX:=fK 4 _ rfl;(try simp only [show (k42).sz=14 from rfl,Nat.mul_one,Nat.add_zero] at ayX);have Nz:=fR 4;(try simp only [show (k42).sz=14 from rfl,Nat.mul_one,Nat.add_zero] at Nz);have ayY:=fK 5 _ rfl;(try simp only [show (k42).sz=14 from rfl,Nat.mul_one,Nat.add_zero] at ayY);have NA:=fR 5;(try simp only [show (k42).sz=14 from rfl,Nat.mul_one,Nat.add_zero] at NA);have ayZ:=fK 6 _ rfl;(try simp only [show (k42).sz=14 from rfl,Nat.mul_one,Nat.add_zero] at ayZ);have NB:=fR 6;(try simp only [show (k42).sz=14 from rfl,Nat.mul_one,Nat.add_zero] at NB);have azA:=fK 7 _ rfl;(try simp only [show (k42).sz=14 from rfl,Nat.mul_one,Nat.add_zero] at azA);have NC:=fR 7;(try simp only [show (k42).sz=14 from rfl,Nat.mul_one,Nat.add_zero] at NC);have azB:=fK 8 _ rfl;(try simp only [show (k42).sz=14 from rfl,Nat.mul_one,Nat.add_zero] at azB);have ND:=fR 8;(try simp only [show (k42).sz=14 from rfl,Nat.mul_one,Nat.add_zero] at ND);have azC:=fK 9 _ rfl;(try simp only [show (k42).sz=14 from rfl,Nat.mul_one,Nat.add_zero] at azC);have NE:=fR 9;(try simp only [show (k42).sz=14 from rfl,Nat.mul_one,Nat.add_zero] at NE);have amS:=fK 10 _ rfl;(try simp only [show (k42).sz=14 from rfl,Nat.mul_one,Nat.add_zero] at amS);have KO:=fR 10;(try simp only [show (k42).sz=14 from rfl,Nat.mul_one,Nat.add_zero] at KO);have amT:=fK 11 _ rfl;(try simp only [show (k42).sz=14 from rfl,Nat.mul_one,Nat.add_zero] at amT);have KP:=fR 11;(try simp only [show (k42).sz=14 from rfl,Nat.mul_one,Nat.add_zero] at KP);have amU:=fK 12 _ rfl;(try simp only [show (k42).sz=14 from rfl,Nat.mul_one,Nat.add_zero] at amU);have KQ:=fR 12;(try simp only [show (k42).sz=14 from rfl,Nat.mul_one,Nat.add_zero] at KQ);have amV:=fK 13 _ rfl;(try simp only [show (k42).sz=14 from rfl,Nat.mul_one,Nat.add_zero] at amV);have KR:=fR 13;(try simp only [show (k42).sz=14 from rfl,Nat.mul_one,Nat.add_zero] at KR);clear N8 fK fR QV)|((with_reducible refine gate_store (t:=42) (p:=21) rfl ?_);refine store_event (t:=42) (p:=21) (v:=?vo_w13) (w1:=((((((((((((((dM.setCell ⟨go10,(aI:Int).toNat*14,none⟩ (.string Jo)).setCell ⟨go10,(aI:Int).toNat*14+1,none⟩ (.int .i64 Jp)).setCell ⟨go10,(aI:Int).toNat*14+2,none⟩ ((.slice R6 E5.length R7:Value))).setCell ⟨go10,(aI:Int).toNat*14+3,none⟩ ((.slice R4 E6.length R5:Value))).setCell ⟨go10,(aI:Int).toNat*14+4,none⟩ (.string qH)).setCell ⟨go10,(aI:Int).toNat*14+5,none⟩ (.string Jq)).setCell ⟨go10,(aI:Int).toNat*14+6,none⟩ (.string CP)).setCell ⟨go10,(aI:Int).toNat*14+7,none⟩ (.int .i64 Jr)).setCell ⟨go10,(aI:Int).toNat*14+8,none⟩ (.int .i64 Js)).setCell ⟨go10,(aI:Int).toNat*14+9,none⟩ (.int .i64 Jt)).setCell ⟨go10,(aI:Int).toNat*14+10,none⟩ (.bool Ju)).setCell ⟨go10,(aI:Int).toNat*14+11,none⟩ (.int .i64 Jv)).setCell ⟨go10,(aI:Int).toNat*14+12,none⟩ (.string Jw)).setCell ⟨go10,(aI:Int).toNat*14+13,none⟩ (.string Jx))) ?hg ?ho ?hn ?hr ?_;(case ho=>rfl);(case hg=>rfl);(case hn=>rfl);(case hr=>first|(go_simp;done)|(go_simp;rfl));intro mP hw;have hg:dM.grownBy mP (some go10):=(by rw [hw];exact Jn.2);have hp_:Kd.R k42 42 mP w.heap.size (fun _=>True) (.slice (some ⟨go10,0,none⟩) aE.length mU) abX:=(by rw [hw,aEh.out];exact Jn.1);clear Jn;have dT:=am (hp_);have dU:=am ((by rw [hw];exact below_set (below_set (below_set (below_set (below_set (below_set (below_set (below_set (below_set (below_set (below_set (below_set (below_set (below_set (HB.out) kG.out) kG.out) kG.out) kG.out) kG.out) kG.out) kG.out) kG.out) kG.out) kG.out) kG.out) kG.out) kG.out) kG.out:Below w.heap.size w mP));clear bS;clear HB;clear agH;clear agI;have bS:=dT;have HB:=dU;clear dT dU;clear hg hw hp_))
        go_roundg k1
        case measure=>have:=HK1.out;omega
        case rel=>exact ⟨(abX),(wrap64 (aI+1)),au88,H',⟨by have:=HK1.out;omega⟩,⟨by (with_reducible repeat (first|apply Kd.R_alloc|apply Kd.R_drewN|apply Kd.R_drew));exact bS.out⟩,⟨by repeat (first|(with_reducible first|exact HB.out|apply below_alloc|apply pw_below_drewN|apply below_drew1)|exact HB.out)⟩⟩
       · rw [if_neg c9] at H;exact absurd H (by simp)
      · rw [if_neg c7] at H;exact absurd H (by simp)
     · rw [if_neg c6] at H;have c6b0:=df c6;clear c6;obtain rfl:=ojz H;go_wp2;go_ret;exact ⟨_,by first|rfl|(simp [errW_none,errW_some] <;> rfl)|(simp [*,errW_none,errW_some] <;> rfl),by (with_reducible repeat (first|apply Kd.R_alloc|apply Kd.R_drewN|apply Kd.R_drew));exact bS.out,by repeat (first|(with_reducible first|exact HB.out|apply below_alloc|apply pw_below_drewN|apply below_drew1)|exact HB.out)⟩
  · rw [if_neg c3] at H;exact absurd H (by simp)
 · rw [if_neg c2] at H;exact absurd H (by simp)
def laws_toLibrary.f (k:Nat) (aA:List (S52)):Option ((List (S42))):=(laws_toEntryS.f k aA).bind fun E7=>(some E7)
theorem laws_toLibrary.mono:∀ a0 k,LeO (laws_toLibrary.f k a0) (laws_toLibrary.f (k+1) a0):=by
 intro a0 k;unfold laws_toLibrary.f
 repeat' first
   | (with_reducible exact laws_toEntryS.mono _ _)
   | (with_reducible exact LeO.refl _)
   | (with_reducible exact LeO.none _)
   | (with_reducible refine LeO.ite ?_ ?_)
   | (with_reducible refine LeO.bind ?_ (fun _=>?_))
   | exact laws_toEntryS.mono _ _
   | exact LeO.none _
   | refine LeO.ite ?_ ?_
   | refine LeO.bind ?_ (fun _=>?_)
set_option maxHeartbeats 8000000 in
set_option maxRecDepth 100000 in
theorem laws_toLibrary.calls (k:Nat) (bH:Option Addr) (bA:Nat) (aA:List (S52)) (r:List (S42)) (w:World) (cE:Kd.C k52 w bH aA.length aA) (cA:aA.length≤bA) (h:laws_toLibrary.f k aA=some r) :
  Calls Tryz.prog 6 #[.agg #[.slice bH aA.length bA]] w fun e w'=>∃ dS:Value,e=.returned (.agg #[dS])∧Kd.R k42 42 w' w.heap.size (fun _=>True) dS r∧Below w.heap.size w w':=by
 have hu24:=Tryz.underlying24;have hu28:=Tryz.underlying28;have cM:=am cE;have eO:=am cA;clear cE cA;have HB:=am (Below.refl w.heap.size w);have H:((laws_toEntryS.f k aA).bind fun E7=>(some E7))=some r:=h;clear h;replace H:=ob H;obtain ⟨E7,fC,H⟩:=H
 try dsimp only at H
 have A2:=am fC;clear fC;obtain rfl:=ojz H;go_enter Tryz.func6,Tryz.ntmps6;go_wp2_with (first|((with_reducible refine gate_dst (N:=1) rfl ?_);refine box_event ?hg (N:=1) ?hd (cs:=#[.slice bH aA.length bA]) (t:=24) ?hr ?_;(case hd=>rfl);(case hg=>rfl);(case hr=>first|(go_simp;done)|(go_simp;rfl));intro xA hg w3 hbox hb;have Es:=am (hbox);have aXk:=am (bsz hg au46);have ML:=am (bsz hg au46);replace HB:=am (below_step au46 hb);clear hb hbox hg)|((with_reducible refine gate_dst (N:=2) rfl ?_);refine box_event ?hg (N:=2) ?hd (cs:=#[.slice none 0 0]) (t:=28) ?hr ?_;(case hd=>rfl);(case hg=>rfl);(case hr=>first|(go_simp;done)|(go_simp;rfl));intro CQ hg w4 hbox hb;have Bv:=am (hbox);have aXl:=am (bsz hg au32);have a1L:=am (bsz hg au32);replace HB:=am (below_step au32 hb);have a6L:=am (bne (g:=xA) hg au67);have a6M:=am (ben (g:=xA) hg au67);replace Es:=am (blk_below (g:=xA) au67 hb);clear hb hbox hg)|((with_reducible refine gate_dst (N:=3) rfl ?_);refine box_event ?hg (N:=3) ?hd (cs:=#[.slice none 0 0]) (t:=28) ?hr ?_;(case hd=>rfl);(case hg=>rfl);(case hr=>first|(go_simp;done)|(go_simp;rfl));intro a4A hg w5 hbox hb;have Kw:=am (hbox);have aXm:=am (bsz hg au16);have aeI:=am (bsz hg au16);replace HB:=am (below_step au16 hb);have a6N:=am (bne (g:=xA) hg au67);have a6O:=am (ben (g:=xA) hg au67);replace Es:=am (blk_below (g:=xA) au67 hb);have ME:=am (bne (g:=CQ) hg au68);have a6P:=am (ben (g:=CQ) hg au68);replace Bv:=am (blk_below (g:=CQ) au68 hb);clear hb hbox hg;have aaZ:=a6L.out;have abA:=a6M.out;have ayB:=a6N.out;have ayC:=a6O.out;have QO:w5.cell? ⟨xA,0,none⟩=some (.slice bH aA.length bA):=(blk_cell Es.out 0).trans rfl;have QP:=blk_frozen Es.out 0)|((with_reducible refine gate_callee (f:=15) rfl ?_);refine goesL_ (some 6) rfl rfl Tryz.func15 (by kernel_rfl) rfl #[.slice bH aA.length bA] rfl au45 ?_;(with_reducible refine (laws_toEntryS.calls k _ _ aA E7 _ ?aU ?aV A2.out).mono ?_);(case aU=>repeat (first|exact (Kd.C_below cM.out HB.out)|(with_reducible refine Kd.C_alloc ?_ _)|(with_reducible refine Kd.C_drewN ?_ _)|(with_reducible refine Kd.C_drew ?_)));(case aV=>exact eO.out);rintro e w9 ⟨b0Q,rfl,ho0,hb⟩;refine ⟨_,rfl,?_⟩;have agJ:=am (Kd.R_lower ho0 (below_size au8));replace Es:=am (blk_below (g:=xA) au67 hb);replace Bv:=am (blk_below (g:=CQ) au68 hb);replace Kw:=am (blk_below (g:=a4A) (by (with_reducible repeat (first|refine blk_drewN ?_ _|refine blk_drew ?_|refine blk_alloc ?_ _));exact Kw.out) hb);replace HB:=am (below_step au8 hb);(try clear hb);(try clear ho0);obtain ⟨xI,mU,CN⟩:=Kd.R_slice agJ.out;subst CN;have a3G:=a6P.out;have a3H:=ME.out;have gZ:w9.cell? ⟨a4A,0,none⟩=some (.slice none 0 0):=(blk_cell Kw.out 0).trans rfl;have hD:=blk_frozen Kw.out 0;have lV:w9.cell? ⟨CQ,0,none⟩=some (.slice none 0 0):=(blk_cell Bv.out 0).trans rfl;have lW:=blk_frozen Bv.out 0));refine bodyPost_ret (results_cell_row rfl _ _ CQ 28 #[.slice xI E7.length mU] (0,0) _ rfl (by (with_reducible repeat (first|refine blk_drewN ?_ _|refine blk_drew ?_|refine blk_alloc ?_ _));refine blk_put (cs:=#[.slice none 0 0]) ?_ 0 _ rfl;(with_reducible repeat (first|refine blk_drewN ?_ _|refine blk_drew ?_|refine blk_alloc ?_ _));refine blk_far ?_ ME.out _;(with_reducible repeat (first|refine blk_drewN ?_ _|refine blk_drew ?_|refine blk_alloc ?_ _));exact Bv.out) Tryz.underlying28 rfl (by kernel_rfl)) rfl ?_;exact ⟨_,by first|rfl|(simp [errW_none,errW_some] <;> rfl)|(simp [*,errW_none,errW_some] <;> rfl),by (with_reducible repeat (first|apply Kd.R_alloc|apply Kd.R_drewN|apply Kd.R_drew));exact Kd.R_mono (Kd.R_far (p:=⟨CQ,0,none⟩) (Kd.R_far (p:=⟨a4A,0,none⟩) (Kd.R_types (Kd.R_types agJ.out Kw.out (by decide)) Bv.out (by decide)) (fun _ hk=>hk.1.2) (.slice xI E7.length mU)) (fun _ hk=>hk.2) (.slice xI E7.length mU)) (fun _ hk=>trivial),by repeat (first|(with_reducible first|exact HB.out|apply below_alloc|apply pw_below_drewN|apply below_drew1|refine below_set ?_ ML.out|refine below_set ?_ a1L.out|refine below_set ?_ aeI.out)|exact HB.out)⟩
end Go.Proofs.YteagahcbffgjpaaGreatDoor.G

namespace Go.Proofs.YteagahcbffgjpaaGreatDoor.G
open Go.RowKit Go.Proofs.YteagahcbffgjpaaGreatDoorW.PrintWords Go.Proofs.YteagahcbffgjpaaGreatDoorW.PrintLast Go.Proofs.YteagahcbffgjpaaGreatDoorW.PrintMore
open Go.Proofs.YteagahcbffgjpaaGreatDoor.Gl Go.Proofs.YteagahcbffgjpaaGreatDoor.Ext
attribute [local go_sem] max2_int min2_int max_two min_two max_three min_three max_four min_four   -- for this text's walks alone
set_option linter.unusedVariables false
set_option linter.unusedSimpArgs false
def laws_eqName.f (k:Nat) (aA:List ByteArray) (aH:ByteArray) (aW:ByteArray) (aY:ByteArray) (gU:List ByteArray) (iB:ByteArray) (nH:ByteArray) (iO:ByteArray):Option (Bool):=(laws_eqStringS.f k aA gU).bind fun R8=>(if R8=true then (if aH.toList=iB.toList then (if aW.toList=nH.toList then (if aY.toList=iO.toList then (some true) else (some false)) else (some false)) else (some false)) else (some false))
theorem laws_eqName.mono:∀ a0 a1 a2 a3 a4 a5 a6 a7 k,LeO (laws_eqName.f k a0 a1 a2 a3 a4 a5 a6 a7) (laws_eqName.f (k+1) a0 a1 a2 a3 a4 a5 a6 a7):=by
 intro a0 a1 a2 a3 a4 a5 a6 a7 k;unfold laws_eqName.f
 repeat' first
   | (with_reducible exact laws_eqStringS.mono _ _ _)
   | (with_reducible exact LeO.refl _)
   | (with_reducible exact LeO.none _)
   | (with_reducible refine LeO.ite ?_ ?_)
   | (with_reducible refine LeO.bind ?_ (fun _=>?_))
   | exact laws_eqStringS.mono _ _ _
   | exact LeO.none _
   | refine LeO.ite ?_ ?_
   | refine LeO.bind ?_ (fun _=>?_)
set_option maxHeartbeats 8000000 in
set_option maxRecDepth 100000 in
theorem laws_eqName.calls (k:Nat) (bH:Option Addr) (bA:Nat) (aA:List ByteArray) (aH:ByteArray) (aW:ByteArray) (aY:ByteArray) (rG:Option Addr) (rH:Nat) (gU:List ByteArray) (iB:ByteArray) (nH:ByteArray) (iO:ByteArray) (w:World) (cE:Kd.C Kd.string w bH aA.length aA) (cA:aA.length≤bA) (Kx:Kd.C Kd.string w rG gU.length gU) (rR:gU.length≤rH) (h:laws_eqName.f k aA aH aW aY gU iB nH iO=some true) :
  Calls Tryz.prog 67 #[.agg #[.slice bH aA.length bA,.string aH,.string aW,.string aY],.agg #[.slice rG gU.length rH,.string iB,.string nH,.string iO]] w fun e w'=>e=.returned (.bool true)∧Below w.heap.size w w':=by
 have hu69:=Tryz.underlying69;have cM:=am cE;have eO:=am cA;clear cE cA;have a4B:=am Kx;have a4C:=am rR;clear Kx rR;have HB:=am (Below.refl w.heap.size w);have H:((laws_eqStringS.f k aA gU).bind fun R8=>(if R8=true then (if aH.toList=iB.toList then (if aW.toList=nH.toList then (if aY.toList=iO.toList then (some true) else (some false)) else (some false)) else (some false)) else (some false)))=some true:=h;clear h;replace H:=ob H;obtain ⟨R8,dL,H⟩:=H
 try dsimp only at H
 have A3:=am dL;clear dL;by_cases c4:R8=true
 ·
  subst c4;replace H:=(if_pos rfl).symm.trans H;by_cases c5:aH.toList=iB.toList
  ·
   rw [if_pos c5] at H;have c5b0:=qt c5;have c5b1:=bf c5;clear c5;by_cases c6:aW.toList=nH.toList
   ·
    rw [if_pos c6] at H;have c6b0:=qt c6;have c6b1:=bf c6;clear c6;by_cases c7:aY.toList=iO.toList
    · rw [if_pos c7] at H;have c7b0:=qt c7;have c7b1:=bf c7;clear c7;clear H;go_enter Tryz.func67,Tryz.ntmps67;go_wp2_with (first|((with_reducible refine gate_dst (N:=2) rfl ?_);refine box_event ?hg (N:=2) ?hd (cs:=#[.slice bH aA.length bA,.string aH,.string aW,.string aY]) (t:=69) ?hr ?_;(case hd=>rfl);(case hg=>rfl);(case hr=>first|(go_simp;done)|(go_simp;rfl));intro a4D hg w8 hbox hb;have a1S:=am (hbox);have aXn:=am (bsz hg au46);have aeO:=am (bsz hg au46);replace HB:=am (below_step au46 hb);clear hb hbox hg)|((with_reducible refine gate_dst (N:=3) rfl ?_);refine box_event ?hg (N:=3) ?hd (cs:=#[.slice rG gU.length rH,.string iB,.string nH,.string iO]) (t:=69) ?hr ?_;(case hd=>rfl);(case hg=>rfl);(case hr=>first|(go_simp;done)|(go_simp;rfl));intro aXo hg w9 hbox hb;have aEi:=am (hbox);have aXp:=am (bsz hg au33);have aEj:=am (bsz hg au33);replace HB:=am (below_step au33 hb);have a6Q:=am (bne (g:=a4D) hg au69);have a6R:=am (ben (g:=a4D) hg au69);replace a1S:=am (blk_below (g:=a4D) au69 hb);clear hb hbox hg;have aXq:=a6Q.out;have aXr:=a6R.out;obtain ⟨tU,tV,tW,tX,tY,tZ,uA,uB⟩:=blkc4 a1S.out;obtain ⟨gZ,qA,qB,qC,hD,qD,qE,qF⟩:=blkc4 aEi.out)|((with_reducible refine gate_callee (f:=80) rfl ?_);refine goesL_ (some 9) rfl rfl Tryz.func80 (by kernel_rfl) rfl #[.slice bH aA.length bA,.slice rG gU.length rH] rfl au45 ?_;(with_reducible refine (laws_eqStringS.calls k _ _ aA _ _ gU _ ?aU ?aV ?dY ?dZ A3.out).mono ?_);(case aU=>repeat (first|exact (Kd.C_below cM.out HB.out)|(with_reducible refine Kd.C_alloc ?_ _)|(with_reducible refine Kd.C_drewN ?_ _)|(with_reducible refine Kd.C_drew ?_)));(case aV=>exact eO.out);(case dY=>repeat (first|exact (Kd.C_below a4B.out HB.out)|(with_reducible refine Kd.C_alloc ?_ _)|(with_reducible refine Kd.C_drewN ?_ _)|(with_reducible refine Kd.C_drew ?_)));(case dZ=>exact a4C.out);rintro e w' ⟨rfl,⟨nd,rfl⟩⟩;refine ⟨_,rfl,?_⟩));go_ret;exact ⟨by first|rfl|(simp [errW_none,errW_some] <;> rfl)|(simp [*,errW_none,errW_some] <;> rfl),by repeat (first|(with_reducible first|exact HB.out|apply below_alloc|apply pw_below_drewN|apply below_drew1|refine below_set ?_ aeO.out|refine below_set ?_ aEj.out)|exact HB.out)⟩
    · rw [if_neg c7] at H;have c7b0:=qf c7;have c7b1:=bu c7;exact absurd H (by simp)
   · rw [if_neg c6] at H;have c6b0:=qf c6;have c6b1:=bu c6;exact absurd H (by simp)
  · rw [if_neg c5] at H;have c5b0:=qf c5;have c5b1:=bu c5;exact absurd H (by simp)
 · replace c4:=Bool.eq_false_iff.mpr c4;subst c4;replace H:=(if_neg (show ¬ (false=true) by decide)).symm.trans H;exact absurd H (by simp)
end Go.Proofs.YteagahcbffgjpaaGreatDoor.G
-- TRUE ALONE

namespace Go.Proofs.YteagahcbffgjpaaGreatDoor.G
open Go.RowKit Go.Proofs.YteagahcbffgjpaaGreatDoorW.PrintWords Go.Proofs.YteagahcbffgjpaaGreatDoorW.PrintLast Go.Proofs.YteagahcbffgjpaaGreatDoorW.PrintMore
open Go.Proofs.YteagahcbffgjpaaGreatDoor.Gl Go.Proofs.YteagahcbffgjpaaGreatDoor.Ext
attribute [local go_sem] max2_int min2_int max_two min_two max_three min_three max_four min_four   -- for this text's walks alone
set_option linter.unusedVariables false
set_option linter.unusedSimpArgs false
def laws_eqNameS.l0:Nat→List (S69)→List (S69)→Int→Option (Bool)
 | 0,_,_,_=>none
 | k+1,x0,x1,x5=>if x5<(x0.length:Int) then (if 0≤x5 then (if x5<(x1.length:Int) then ((laws_eqName.f k ((rd_T69 x0 x5).f0) ((rd_T69 x0 x5).f1) ((rd_T69 x0 x5).f2) ((rd_T69 x0 x5).f3) ((rd_T69 x1 x5).f0) ((rd_T69 x1 x5).f1) ((rd_T69 x1 x5).f2) ((rd_T69 x1 x5).f3)).bind fun acA=>(if acA=true then (laws_eqNameS.l0 k x0 x1 (wrap64 (x5+1))) else (some false))) else (none)) else (none)) else (some true)
def laws_eqNameS.f (k:Nat) (l0:List (S69)) (l1:List (S69)):Option (Bool):=if (l0.length:Int)=(l1.length:Int) then (laws_eqNameS.l0 k l0 l1 0) else (some false)
theorem laws_eqNameS.mono_l:∀ k,(∀ y0 y1 y2,LeO (laws_eqNameS.l0 k y0 y1 y2) (laws_eqNameS.l0 (k+1) y0 y1 y2))
 | 0=>fun _ _ _ r h=>by simp [laws_eqNameS.l0] at h
 | k+1=>by
  have ih0:=laws_eqNameS.mono_l k
  ·
   intro y0 y1 y2;unfold laws_eqNameS.l0
   repeat' first
   | (with_reducible exact ih0 _ _ _)
   | (with_reducible exact laws_eqName.mono _ _ _ _ _ _ _ _ _)
   | (with_reducible exact LeO.refl _)
   | (with_reducible exact LeO.none _)
   | (with_reducible refine LeO.ite ?_ ?_)
   | (with_reducible refine LeO.bind ?_ (fun _=>?_))
   | exact ih0 _ _ _
   | exact laws_eqName.mono _ _ _ _ _ _ _ _ _
   | exact LeO.none _
   | refine LeO.ite ?_ ?_
   | refine LeO.bind ?_ (fun _=>?_)
theorem laws_eqNameS.mono:∀ a0 a1 k,LeO (laws_eqNameS.f k a0 a1) (laws_eqNameS.f (k+1) a0 a1):=by
 intro a0 a1 k;have ih0:=laws_eqNameS.mono_l k;unfold laws_eqNameS.f
 repeat' first
   | (with_reducible exact ih0 _ _ _)
   | (with_reducible exact laws_eqName.mono _ _ _ _ _ _ _ _ _)
   | (with_reducible exact LeO.refl _)
   | (with_reducible exact LeO.none _)
   | (with_reducible refine LeO.ite ?_ ?_)
   | (with_reducible refine LeO.bind ?_ (fun _=>?_))
   | exact ih0 _ _ _
   | exact laws_eqName.mono _ _ _ _ _ _ _ _ _
   | exact LeO.none _
   | refine LeO.ite ?_ ?_
   | refine LeO.bind ?_ (fun _=>?_)
def laws_eqNameS.T6:Bool × List (List Nat × List Nat):=(true,[([],[]),([],[]),([0,1],[0,1]),([2],[2]),([],[]),([],[]),([4,5],[4,5]),([6],[6]),([3,7],[3,7]),([8],[8])])
def laws_eqNameS.B6:List Nat:=[0,0,3,7,0,0,48,112,255,511]
theorem laws_eqNameS.tab6:rtab .any (opsOf Tryz.f50 6)=laws_eqNameS.T6:=by kernel_rfl
theorem laws_eqNameS.bits6:waitsOk laws_eqNameS.T6.2 laws_eqNameS.B6=true:=by kernel_rfl
set_option maxHeartbeats 8000000 in
set_option maxRecDepth 100000 in
theorem laws_eqNameS.calls (k:Nat) (A0:Option Addr) (c0:Nat) (l0:List (S69)) (A1:Option Addr) (c1:Nat) (l1:List (S69)) (w:World) (dH:Kd.C k69 w A0 l0.length l0) (cP:l0.length≤c0) (IB:Kd.C k69 w A1 l1.length l1) (dK:l1.length≤c1) (h:laws_eqNameS.f k l0 l1=some true) :
  Calls Tryz.prog 50 #[.slice A0 l0.length c0,.slice A1 l1.length c1] w fun e w'=>e=.returned (.bool true)∧Below w.heap.size w w':=by
 obtain ⟨r,hr_⟩:∃ r,r=true:=⟨true,rfl⟩
 rw [← hr_] at h ⊢;have HRT:=am hr_;clear hr_;have hu69:=Tryz.underlying69;have cW:=am dH;have mM:=am cP;clear dH cP;have IE:=am IB;have HC1:=am dK;clear IB dK;have HB:=am (Below.refl w.heap.size w);have H:(if (l0.length:Int)=(l1.length:Int) then (laws_eqNameS.l0 k l0 l1 0) else (some false))=some r:=h;clear h;by_cases c3:(l0.length:Int)=(l1.length:Int)
 ·
  rw [if_pos c3] at H;have c3b0:=qt c3;have c3b1:=bf c3
  have c3b2:(l0.length == l1.length)=true:=by first|simpa using c3|(simp at c3 ⊢;omega)
  clear c3;have H':=am H;clear H;go_enter Tryz.func50,Tryz.ntmps50;go_wp2
  go_loopg [5] k (fun kq v5 w'=>∃ (aC:Int),v5=.int .i64 aC∧Aside0 (laws_eqNameS.l0 kq l0 l1 aC=some r)∧Aside0 (kq≤k)∧Aside0 (Below w.heap.size w w'))
  case atStart=>exact ⟨(0),au88,H',⟨Nat.le_refl _⟩,⟨by repeat (first|(with_reducible first|exact HB.out|apply below_alloc|apply pw_below_drewN|apply below_drew1)|exact HB.out)⟩⟩
  case round =>
   clear H'
   try clear c1
   try clear p2
   try clear c3
   try clear c3b0
   try clear c3b1
   try clear c3b2
   obtain ⟨aC,rfl,HA,HK1,HB⟩:=hrel
   cases gk with
   | zero=>exact absurd HA.out (by simp [laws_eqNameS.l0])
   | succ k1 =>
    have H:=HA.out;clear HA;simp only [laws_eqNameS.l0] at H;by_cases c4:aC<(l0.length:Int)
    ·
     rw [if_pos c4] at H;have c4b0:=dt c4;clear c4;by_cases c5:0≤aC
     ·
      rw [if_pos c5] at H;have c5b0:=dt c5;clear c5;by_cases c6:aC<(l1.length:Int)
      ·
       rw [if_pos c6] at H;have c6b0:=dt c6;clear c6;replace H:=ob H;obtain ⟨acA,jY,H⟩:=H
       try dsimp only at H
       have A7:=am jY;clear jY;by_cases c8:acA=true
       ·
        subst c8;replace H:=(if_pos rfl).symm.trans H;have H':=am H;clear H
        try go_wp2
        replace HB:=am (below_drew1 HB.out);have acB:0≤(aC:Int):=od au87;have acC:aC<(l0.length:Int):=od au87;obtain ⟨CR,a6S,a6T,aIo,Ha,Hb,Hc,Hd,Yj,Yk⟩:=at_T69 cW.out aC acB acC;have Yl:=Hd;have Ym:=Hc;have Yn:=Hb;have Yo:=Ha
        cases aIo
        replace Ha:=bcl HB.out Ha;replace Hb:=bcl HB.out Hb;replace Hc:=bcl HB.out Hc;replace Hd:=bcl HB.out Hd;have Yp:=am Yk;have amW:=am Yj;clear Yk Yj;replace acB:=eq_true acB;replace acC:=eq_true acC;have acD:0≤(aC:Int):=od au87;have acE:aC<(l1.length:Int):=od au87;obtain ⟨CS,a6U,a6V,aIp,He,Hf,Hg,Hh,Yq,Yr⟩:=at_T69 IE.out aC acD acE;have Ys:=Hh;have Yt:=Hg;have Yu:=Hf;have Yv:=He
        cases aIp
        replace He:=bcl HB.out He;replace Hf:=bcl HB.out Hf;replace Hg:=bcl HB.out Hg;replace Hh:=bcl HB.out Hh;have Yw:=am Yr;have amX:=am Yq;clear Yr Yq;replace acD:=eq_true acD;replace acE:=eq_true acE;refine start_ (n:=10) (S:=fun w'=>w'.cell? (CR.add ((aC).toNat*4))=some (.slice a6S ((rd_T69 l0 aC).f0).length a6T)∧w'.cell? ⟨(CR.add ((aC).toNat*4)).block,(CR.add ((aC).toNat*4)).off+1,none⟩=some (.string ((rd_T69 l0 aC).f1))∧w'.cell? ⟨(CR.add ((aC).toNat*4)).block,(CR.add ((aC).toNat*4)).off+2,none⟩=some (.string ((rd_T69 l0 aC).f2))∧w'.cell? ⟨(CR.add ((aC).toNat*4)).block,(CR.add ((aC).toNat*4)).off+3,none⟩=some (.string ((rd_T69 l0 aC).f3))∧w'.cell? (CS.add ((aC).toNat*4))=some (.slice a6U ((rd_T69 l1 aC).f0).length a6V)∧w'.cell? ⟨(CS.add ((aC).toNat*4)).block,(CS.add ((aC).toNat*4)).off+1,none⟩=some (.string ((rd_T69 l1 aC).f1))∧w'.cell? ⟨(CS.add ((aC).toNat*4)).block,(CS.add ((aC).toNat*4)).off+2,none⟩=some (.string ((rd_T69 l1 aC).f2))∧w'.cell? ⟨(CS.add ((aC).toNat*4)).block,(CS.add ((aC).toNat*4)).off+3,none⟩=some (.string ((rd_T69 l1 aC).f3))) (ds:=[]) #[false,false,false,false,false,false,false,false,false,false] (by kernel_rfl) rfl rfl ⟨(bcl HB.out Yo),(bcl HB.out Yn),(bcl HB.out Ym),(bcl HB.out Yl),(bcl HB.out Yv),(bcl HB.out Yu),(bcl HB.out Yt),(bcl HB.out Ys)⟩ (fun hHeld=>?_);refine with_tabW laws_eqNameS.tab6 laws_eqNameS.bits6 (fun HT_ HW_=>?_);generalize wr.drew=w9 at HB Yp Yw Ha Hb Hc Hd He Hf Hg Hh hHeld ⊢;refine pu_ 0 (some 17) #[true,false,false,false,false,false,false,false,false,false] HT_.out ?_;refine pu_ 1 (some 18) #[true,true,false,false,false,false,false,false,false,false] HT_.out ?_;refine pu_ 2 (some 19) #[true,true,true,false,false,false,false,false,false,false] HT_.out ?_;refine pu_ 4 (some 21) #[true,true,true,false,true,false,false,false,false,false] HT_.out ?_;refine pu_ 5 (some 22) #[true,true,true,false,true,true,false,false,false,false] HT_.out ?_;refine pu_ 6 (some 23) #[true,true,true,false,true,true,true,false,false,false] HT_.out ?_;refine ta4_ 3 (some 20) #[true,true,true,true,true,true,true,false,false,false] HT_.out HW_.out hHeld ?_;refine ta4_ 7 (some 24) #[true,true,true,true,true,true,true,true,false,false] HT_.out HW_.out hHeld ?_;refine on_ 8 (some 25) #[true,true,true,true,true,true,true,true,true,false] HT_.out (fun K hK=>?_);refine gs_ Tryz.func67 #[.agg #[.slice a6S ((rd_T69 l0 aC).f0).length a6T,.string ((rd_T69 l0 aC).f1),.string ((rd_T69 l0 aC).f2),.string ((rd_T69 l0 aC).f3)],.agg #[.slice a6U ((rd_T69 l1 aC).f0).length a6V,.string ((rd_T69 l1 aC).f1),.string ((rd_T69 l1 aC).f2),.string ((rd_T69 l1 aC).f3)]] ?_
        with_reducible refine (laws_eqName.calls k1 _ _ ((rd_T69 l0 aC).f0) ((rd_T69 l0 aC).f1) ((rd_T69 l0 aC).f2) ((rd_T69 l0 aC).f3) _ _ ((rd_T69 l1 aC).f0) ((rd_T69 l1 aC).f1) ((rd_T69 l1 aC).f2) ((rd_T69 l1 aC).f3) _ ?aU ?aV ?dY ?dZ A7.out).mono ?_
        (case aU=>repeat (first|exact (Kd.C_below Yp.out HB.out)|(with_reducible refine Kd.C_alloc ?_ _)|(with_reducible refine Kd.C_drewN ?_ _)|(with_reducible refine Kd.C_drew ?_)))
        (case aV=>exact amW.out)
        (case dY=>repeat (first|exact (Kd.C_below Yw.out HB.out)|(with_reducible refine Kd.C_alloc ?_ _)|(with_reducible refine Kd.C_drewN ?_ _)|(with_reducible refine Kd.C_drew ?_)))
        (case dZ=>exact amX.out)
        rintro e mN ⟨rfl,hb⟩;refine ⟨_,rfl,?_⟩;replace HB:=am (below_step au46 hb)
        (try clear hb)
        refine hK.out _ _ ⟨(bcl HB.out Yo),(bcl HB.out Yn),(bcl HB.out Ym),(bcl HB.out Yl),(bcl HB.out Yv),(bcl HB.out Yu),(bcl HB.out Yt),(bcl HB.out Ys)⟩ (fun hHeld=>?_);clear hK K;refine no_ (some 25) ?_;refine pu_ 9 (some 26) #[true,true,true,true,true,true,true,true,true,true] HT_.out ?_;refine done_ (done_of HT_.out (by kernel_rfl)) ?_
        try go_wp2
        go_roundg k1
        case measure=>have:=HK1.out;omega
        case rel=>exact ⟨(wrap64 (aC+1)),au88,H',⟨by have:=HK1.out;omega⟩,⟨by repeat (first|(with_reducible first|exact HB.out|apply below_alloc|apply pw_below_drewN|apply below_drew1)|exact HB.out)⟩⟩
       · replace c8:=Bool.eq_false_iff.mpr c8;subst c8;replace H:=(if_neg (show ¬ (false=true) by decide)).symm.trans H;exact absurd ((ojz H).trans HRT.out) (by simp)
      · rw [if_neg c6] at H;exact absurd H (by simp)
     · rw [if_neg c5] at H;exact absurd H (by simp)
    · rw [if_neg c4] at H;have c4b0:=df c4;clear c4;obtain rfl:=ojz H;go_wp2;go_ret;exact ax1
 ·
  rw [if_neg c3] at H;have c3b0:=qf c3;have c3b1:=bu c3
  have c3b2:(l0.length == l1.length)=false:=by first|simpa using c3|(simp at c3 ⊢;omega)
  exact absurd ((ojz H).trans HRT.out) (by simp)
end Go.Proofs.YteagahcbffgjpaaGreatDoor.G
-- TRUE ALONE

namespace Go.Proofs.YteagahcbffgjpaaGreatDoor.G
open Go.RowKit Go.Proofs.YteagahcbffgjpaaGreatDoorW.PrintWords Go.Proofs.YteagahcbffgjpaaGreatDoorW.PrintLast Go.Proofs.YteagahcbffgjpaaGreatDoorW.PrintMore
open Go.Proofs.YteagahcbffgjpaaGreatDoor.Gl Go.Proofs.YteagahcbffgjpaaGreatDoor.Ext
attribute [local go_sem] max2_int min2_int max_two min_two max_three min_three max_four min_four   -- for this text's walks alone
set_option linter.unusedVariables false
set_option linter.unusedSimpArgs false
def laws_eqDate.f (aJ:Int) (aH:Int) (aW:Int) (aY:Bool) (nI:Int) (iB:Int) (nH:Int) (iO:Bool):Option (Bool):=if aJ=nI then (if aH=iB then (if aW=nH then (if (aY != iO)=true then (some false) else (some true)) else (some false)) else (some false)) else (some false)
set_option maxHeartbeats 8000000 in
set_option maxRecDepth 100000 in
theorem laws_eqDate.calls (aJ:Int) (aH:Int) (aW:Int) (aY:Bool) (nI:Int) (iB:Int) (nH:Int) (iO:Bool) (w:World) (h:laws_eqDate.f aJ aH aW aY nI iB nH iO=some true) :
  Calls Tryz.prog 51 #[.agg #[.int .i64 aJ,.int .i64 aH,.int .i64 aW,.bool aY],.agg #[.int .i64 nI,.int .i64 iB,.int .i64 nH,.bool iO]] w fun e w'=>e=.returned (.bool true)∧Below w.heap.size w w':=by
 have hu40:=Tryz.underlying40;have HB:=am (Below.refl w.heap.size w);have H:(if aJ=nI then (if aH=iB then (if aW=nH then (if (aY != iO)=true then (some false) else (some true)) else (some false)) else (some false)) else (some false))=some true:=h;clear h;by_cases c3:aJ=nI
 ·
  rw [if_pos c3] at H;have c3b0:=qt c3;have c3b1:=bf c3;clear c3;by_cases c4:aH=iB
  ·
   rw [if_pos c4] at H;have c4b0:=qt c4;have c4b1:=bf c4;clear c4;by_cases c5:aW=nH
   ·
    rw [if_pos c5] at H;have c5b0:=qt c5;have c5b1:=bf c5;clear c5;by_cases c6:(aY != iO)=true
    ·
     rw [if_pos c6] at H;have c6b0:(aY != iO)=true:=c6
     (try (have c6b1:decide (aY=iO)=false:=by simpa using c6))
     (try (have c6b2:(aY == iO)=false:=by simpa using c6))
     (try (have c6b3:¬ (aY=iO):=by simpa using c6))
     clear c6;exact absurd H (by simp)
    ·
     rw [if_neg c6] at H
     have c6b0:(aY != iO)=false:=by simpa using c6
     (try (have c6b1:decide (aY=iO)=true:=by simpa using c6))
     (try (have c6b2:(aY == iO)=true:=by simpa using c6))
     clear c6;clear H;go_enter Tryz.func51,Tryz.ntmps51;go_wp2_with (first|((with_reducible refine gate_dst (N:=2) rfl ?_);refine box_event ?hg (N:=2) ?hd (cs:=#[.int .i64 aJ,.int .i64 aH,.int .i64 aW,.bool aY]) (t:=40) ?hr ?_;(case hd=>rfl);(case hg=>rfl);(case hr=>first|(go_simp;done)|(go_simp;rfl));intro a4E hg MF hbox hb;have a1T:=am (hbox);have aXs:=am (bsz hg au46);have aeP:=am (bsz hg au46);replace HB:=am (below_step au46 hb);clear hb hbox hg)|((with_reducible refine gate_dst (N:=3) rfl ?_);refine box_event ?hg (N:=3) ?hd (cs:=#[.int .i64 nI,.int .i64 iB,.int .i64 nH,.bool iO]) (t:=40) ?hr ?_;(case hd=>rfl);(case hg=>rfl);(case hr=>first|(go_simp;done)|(go_simp;rfl));intro aXt hg mP hbox hb;have aEk:=am (hbox);have aXu:=am (bsz hg au34);have aEl:=am (bsz hg au34);replace HB:=am (below_step au34 hb);have a6W:=am (bne (g:=a4E) hg au70);have a6X:=am (ben (g:=a4E) hg au70);replace a1T:=am (blk_below (g:=a4E) au70 hb);clear hb hbox hg;have aEm:=a6W.out;have aEn:=a6X.out;obtain ⟨gX,kP,kQ,kR,gY,kS,kT,kU⟩:=blkc4 a1T.out;obtain ⟨nU,pF,pG,pH,nV,pI,pJ,pK⟩:=blkc4 aEk.out));go_ret;exact ⟨by first|rfl|(simp [errW_none,errW_some] <;> rfl)|(simp [*,errW_none,errW_some] <;> rfl),by repeat (first|(with_reducible first|exact HB.out|apply below_alloc|apply pw_below_drewN|apply below_drew1|refine below_set ?_ aeP.out|refine below_set ?_ aEl.out)|exact HB.out)⟩
   · rw [if_neg c5] at H;have c5b0:=qf c5;have c5b1:=bu c5;exact absurd H (by simp)
  · rw [if_neg c4] at H;have c4b0:=qf c4;have c4b1:=bu c4;exact absurd H (by simp)
 · rw [if_neg c3] at H;have c3b0:=qf c3;have c3b1:=bu c3;exact absurd H (by simp)
end Go.Proofs.YteagahcbffgjpaaGreatDoor.G
-- TRUE ALONE
