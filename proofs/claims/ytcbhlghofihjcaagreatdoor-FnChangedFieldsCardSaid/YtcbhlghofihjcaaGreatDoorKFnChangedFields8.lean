/- Texts of this session for the law FnChangedFields, put together by a program (merge.py): each ends with its namespace; conditions stand with each theorem. -/
import Derived.Test.YtcbhlghofihjcaaGreatDoorKFnChangedFields2
import Derived.Test.YtcbhlghofihjcaaGreatDoorKFnChangedFields7
import Derived.Test.YtcbhlghofihjcaaGreatDoorKFnChangedFields5
import Derived.Test.YtcbhlghofihjcaaGreatDoorKFnChangedFields4
import Derived.Test.YtcbhlghofihjcaaGreatDoorKFnChangedFields6
set_option maxRecDepth 100000
namespace Go.Proofs.YtcbhlghofihjcaaGreatDoor.G
open Go.RowKit Go.Proofs.YtcbhlghofihjcaaGreatDoorW.PrintWords Go.Proofs.YtcbhlghofihjcaaGreatDoorW.PrintLast Go.Proofs.YtcbhlghofihjcaaGreatDoorW.PrintMore
open Go.Proofs.YtcbhlghofihjcaaGreatDoor.Gl Go.Proofs.YtcbhlghofihjcaaGreatDoor.Ext
attribute [local go_sem] max2_int min2_int max_two min_two max_three min_three max_four min_four   -- for this text's walks alone
set_option linter.unusedVariables false
set_option linter.unusedSimpArgs false
def laws_vNames.l0:Nat→List (S68)→List (S68)→Int→Option (Bool)
 | 0,_,_,_=>none
 | k+1,x0,x1,x5=>if x5<(x0.length:Int) then (if 0≤x5 then (if x5<(x1.length:Int) then ((laws_vName.f k ((rd_T68 x0 x5).f0) ((rd_T68 x0 x5).f1) ((rd_T68 x0 x5).f2) ((rd_T68 x0 x5).f3) ((rd_T68 x1 x5).f0) ((rd_T68 x1 x5).f1) ((rd_T68 x1 x5).f2) ((rd_T68 x1 x5).f3)).bind fun X5=>(if X5=true then (laws_vNames.l0 k x0 x1 (wrap64 (x5+1))) else (some false))) else (none)) else (none)) else (some true)
def laws_vNames.f (k:Nat) (l0:List (S68)) (l1:List (S68)):Option (Bool):=if (l0.length:Int)=(l1.length:Int) then (laws_vNames.l0 k l0 l1 0) else (some false)
theorem laws_vNames.mono_l:∀ k,(∀ y0 y1 y2,LeO (laws_vNames.l0 k y0 y1 y2) (laws_vNames.l0 (k+1) y0 y1 y2))
 | 0=>fun _ _ _ r h=>by simp [laws_vNames.l0] at h
 | k+1=>by
  have ih0:=laws_vNames.mono_l k
  ·
   intro y0 y1 y2;unfold laws_vNames.l0
   repeat' first
   | (with_reducible exact ih0 _ _ _)
   | (with_reducible exact laws_vName.mono _ _ _ _ _ _ _ _ _)
   | (with_reducible exact LeO.refl _)
   | (with_reducible exact LeO.none _)
   | (with_reducible refine LeO.ite ?_ ?_)
   | (with_reducible refine LeO.bind ?_ (fun _=>?_))
   | exact ih0 _ _ _
   | exact laws_vName.mono _ _ _ _ _ _ _ _ _
   | exact LeO.none _
   | refine LeO.ite ?_ ?_
   | refine LeO.bind ?_ (fun _=>?_)
theorem laws_vNames.mono:∀ a0 a1 k,LeO (laws_vNames.f k a0 a1) (laws_vNames.f (k+1) a0 a1):=by
 intro a0 a1 k;have ih0:=laws_vNames.mono_l k;unfold laws_vNames.f
 repeat' first
   | (with_reducible exact ih0 _ _ _)
   | (with_reducible exact laws_vName.mono _ _ _ _ _ _ _ _ _)
   | (with_reducible exact LeO.refl _)
   | (with_reducible exact LeO.none _)
   | (with_reducible refine LeO.ite ?_ ?_)
   | (with_reducible refine LeO.bind ?_ (fun _=>?_))
   | exact ih0 _ _ _
   | exact laws_vName.mono _ _ _ _ _ _ _ _ _
   | exact LeO.none _
   | refine LeO.ite ?_ ?_
   | refine LeO.bind ?_ (fun _=>?_)
def laws_vNames.T6:Bool × List (List Nat × List Nat):=(true,[([],[]),([],[]),([0,1],[0,1]),([2],[2]),([],[]),([],[]),([4,5],[4,5]),([6],[6]),([3,7],[3,7]),([8],[8])])
def laws_vNames.B6:List Nat:=[0,0,3,7,0,0,48,112,255,511]
theorem laws_vNames.tab6:rtab .any (opsOf Tryz.f20 6)=laws_vNames.T6:=by kernel_rfl
theorem laws_vNames.bits6:waitsOk laws_vNames.T6.2 laws_vNames.B6=true:=by kernel_rfl
set_option maxHeartbeats 8000000 in
theorem laws_vNames.calls (k:Nat) (A0:Option Addr) (c0:Nat) (l0:List (S68)) (A1:Option Addr) (c1:Nat) (l1:List (S68)) (r:Bool) (w:World) (dW:Kd.C k68 w A0 l0.length l0) (fT:l0.length≤c0) (zQ:Kd.C k68 w A1 l1.length l1) (EC:l1.length≤c1) (h:laws_vNames.f k l0 l1=some r) :
  Calls Tryz.prog 20 #[.slice A0 l0.length c0,.slice A1 l1.length c1] w fun e w'=>e=.returned (.bool r)∧Below w.heap.size w w':=by
 have hu68:=Tryz.underlying68;have iQ:=am dW;have zX:=am fT;clear dW fT;have qO:=am zQ;have HC1:=am EC;clear zQ EC;have HB:=am (Below.refl w.heap.size w);have H:(if (l0.length:Int)=(l1.length:Int) then (laws_vNames.l0 k l0 l1 0) else (some false))=some r:=h;clear h;by_cases c3:(l0.length:Int)=(l1.length:Int)
 ·
  rw [if_pos c3] at H;have c3b0:=qt c3;have c3b1:=bfz c3
  have c3b2:(l0.length == l1.length)=true:=by first|simpa using c3|(simp at c3 ⊢;omega)
  clear c3;have H':=am H;clear H;go_enter Tryz.func20,Tryz.ntmps20;go_wp2
  go_loopg [5] k (fun kq v5 w'=>∃ (bH:Int),v5=.int .i64 bH∧Aside0 (laws_vNames.l0 kq l0 l1 bH=some r)∧Aside0 (kq≤k)∧Aside0 (Below w.heap.size w w'))
  case atStart=>exact ⟨(0),au104,H',⟨Nat.le_refl _⟩,⟨by repeat (first|(with_reducible first|exact HB.out|apply below_alloc|apply pw_below_drewN|apply below_drew1)|exact HB.out)⟩⟩
  case round =>
   clear H'
   try clear c1
   try clear c2
   try clear p2
   try clear c3
   try clear c3b0
   try clear c3b1
   try clear c3b2
   obtain ⟨bH,rfl,HA,HK1,HB⟩:=hrel
   cases gk with
   | zero=>exact absurd HA.out (by simp [laws_vNames.l0])
   | succ k1 =>
    have H:=HA.out;clear HA;simp only [laws_vNames.l0] at H;by_cases c4:bH<(l0.length:Int)
    ·
     rw [if_pos c4] at H;have c4b0:=dt c4;clear c4;by_cases c5:0≤bH
     ·
      rw [if_pos c5] at H;have c5b0:=dt c5;clear c5;by_cases c6:bH<(l1.length:Int)
      ·
       rw [if_pos c6] at H;have c6b0:=dt c6;clear c6;replace H:=obz H;obtain ⟨X5,kP,H⟩:=H
       try dsimp only at H
       have A7:=am kP;clear kP;by_cases c8:X5=true
       ·
        subst c8;replace H:=(if_pos rfl).symm.trans H;have H':=am H;clear H
        try go_wp2
        replace HB:=am (below_drew1 HB.out);have Ja:0≤(bH:Int):=od au103;have Jb:bH<(l0.length:Int):=od au103;obtain ⟨mN,Fs,Ft,X6,oY,oZ,pA,pB,Dh,Di⟩:=at_T68 iQ.out bH Ja Jb;have Dj:=pB;have Dk:=pA;have Dl:=oZ;have Dm:=oY
        cases X6
        replace oY:=bcl HB.out oY;replace oZ:=bcl HB.out oZ;replace pA:=bcl HB.out pA;replace pB:=bcl HB.out pB;have Dn:=am Di;have MN:=am Dh;clear Di Dh;replace Ja:=eq_true Ja;replace Jb:=eq_true Jb;have Jc:0≤(bH:Int):=od au103;have Jd:bH<(l1.length:Int):=od au103;obtain ⟨mO,Fu,Fv,X7,pC,pD,pE,pF,Dp,Dq⟩:=at_T68 qO.out bH Jc Jd;have Ds:=pF;have Dt:=pE;have Du:=pD;have Dv:=pC
        cases X7
        replace pC:=bcl HB.out pC;replace pD:=bcl HB.out pD;replace pE:=bcl HB.out pE;replace pF:=bcl HB.out pF;have Dw:=am Dq;have MO:=am Dp;clear Dq Dp;replace Jc:=eq_true Jc;replace Jd:=eq_true Jd;refine start_ (n:=10) (S:=fun w'=>w'.cell? (mN.add ((bH).toNat*4))=some (.slice Fs ((rd_T68 l0 bH).f0).length Ft)∧w'.cell? ⟨(mN.add ((bH).toNat*4)).block,(mN.add ((bH).toNat*4)).off+1,none⟩=some (.string ((rd_T68 l0 bH).f1))∧w'.cell? ⟨(mN.add ((bH).toNat*4)).block,(mN.add ((bH).toNat*4)).off+2,none⟩=some (.string ((rd_T68 l0 bH).f2))∧w'.cell? ⟨(mN.add ((bH).toNat*4)).block,(mN.add ((bH).toNat*4)).off+3,none⟩=some (.string ((rd_T68 l0 bH).f3))∧w'.cell? (mO.add ((bH).toNat*4))=some (.slice Fu ((rd_T68 l1 bH).f0).length Fv)∧w'.cell? ⟨(mO.add ((bH).toNat*4)).block,(mO.add ((bH).toNat*4)).off+1,none⟩=some (.string ((rd_T68 l1 bH).f1))∧w'.cell? ⟨(mO.add ((bH).toNat*4)).block,(mO.add ((bH).toNat*4)).off+2,none⟩=some (.string ((rd_T68 l1 bH).f2))∧w'.cell? ⟨(mO.add ((bH).toNat*4)).block,(mO.add ((bH).toNat*4)).off+3,none⟩=some (.string ((rd_T68 l1 bH).f3))) (ds:=[]) #[false,false,false,false,false,false,false,false,false,false] (by kernel_rfl) rfl rfl ⟨(bcl HB.out Dm),(bcl HB.out Dl),(bcl HB.out Dk),(bcl HB.out Dj),(bcl HB.out Dv),(bcl HB.out Du),(bcl HB.out Dt),(bcl HB.out Ds)⟩ (fun hHeld=>?_);refine with_tabW laws_vNames.tab6 laws_vNames.bits6 (fun HT_ HW_=>?_);generalize wr.drew=w9 at HB Dn Dw oY oZ pA pB pC pD pE pF hHeld ⊢;refine pu_ 0 (some 17) #[true,false,false,false,false,false,false,false,false,false] HT_.out ?_;refine pu_ 1 (some 18) #[true,true,false,false,false,false,false,false,false,false] HT_.out ?_;refine pu_ 2 (some 19) #[true,true,true,false,false,false,false,false,false,false] HT_.out ?_;refine pu_ 4 (some 21) #[true,true,true,false,true,false,false,false,false,false] HT_.out ?_;refine pu_ 5 (some 22) #[true,true,true,false,true,true,false,false,false,false] HT_.out ?_;refine pu_ 6 (some 23) #[true,true,true,false,true,true,true,false,false,false] HT_.out ?_;refine ta2_ 3 (some 20) #[true,true,true,true,true,true,true,false,false,false] HT_.out HW_.out hHeld ?_;refine ta2_ 7 (some 24) #[true,true,true,true,true,true,true,true,false,false] HT_.out HW_.out hHeld ?_;refine on_ 8 (some 25) #[true,true,true,true,true,true,true,true,true,false] HT_.out (fun K hK=>?_);refine gs_ Tryz.func43 #[.agg #[.slice Fs ((rd_T68 l0 bH).f0).length Ft,.string ((rd_T68 l0 bH).f1),.string ((rd_T68 l0 bH).f2),.string ((rd_T68 l0 bH).f3)],.agg #[.slice Fu ((rd_T68 l1 bH).f0).length Fv,.string ((rd_T68 l1 bH).f1),.string ((rd_T68 l1 bH).f2),.string ((rd_T68 l1 bH).f3)]] ?_
        with_reducible refine (laws_vName.calls k1 _ _ ((rd_T68 l0 bH).f0) ((rd_T68 l0 bH).f1) ((rd_T68 l0 bH).f2) ((rd_T68 l0 bH).f3) _ _ ((rd_T68 l1 bH).f0) ((rd_T68 l1 bH).f1) ((rd_T68 l1 bH).f2) ((rd_T68 l1 bH).f3) true _ ?aE ?aG ?bU ?bV A7.out).mono ?_
        (case aE=>repeat (first|exact (Kd.C_below Dn.out HB.out)|(with_reducible refine Kd.C_alloc ?_ _)|(with_reducible refine Kd.C_drewN ?_ _)|(with_reducible refine Kd.C_drew ?_)))
        (case aG=>exact MN.out)
        (case bU=>repeat (first|exact (Kd.C_below Dw.out HB.out)|(with_reducible refine Kd.C_alloc ?_ _)|(with_reducible refine Kd.C_drewN ?_ _)|(with_reducible refine Kd.C_drew ?_)))
        (case bV=>exact MO.out)
        rintro e ER ⟨rfl,hb⟩;refine ⟨_,rfl,?_⟩;replace HB:=am (below_step au59 hb)
        (try clear hb)
        refine hK.out _ _ ⟨(bcl HB.out Dm),(bcl HB.out Dl),(bcl HB.out Dk),(bcl HB.out Dj),(bcl HB.out Dv),(bcl HB.out Du),(bcl HB.out Dt),(bcl HB.out Ds)⟩ (fun hHeld=>?_);clear hK K;refine no_ (some 25) ?_;refine pu_ 9 (some 26) #[true,true,true,true,true,true,true,true,true,true] HT_.out ?_;refine done_ (done_of HT_.out (by kernel_rfl)) ?_
        try go_wp2
        go_roundg k1
        case measure=>have:=HK1.out;omega
        case rel=>exact ⟨(wrap64 (bH+1)),au104,H',⟨by have:=HK1.out;omega⟩,⟨by repeat (first|(with_reducible first|exact HB.out|apply below_alloc|apply pw_below_drewN|apply below_drew1)|exact HB.out)⟩⟩
       ·
        replace c8:=Bool.eq_false_iff.mpr c8;subst c8;replace H:=(if_neg (show ¬ (false=true) by decide)).symm.trans H;obtain rfl:=ojz H
        try go_wp2
        replace HB:=am (below_drew1 HB.out);have Ja:0≤(bH:Int):=od au103;have Jb:bH<(l0.length:Int):=od au103;obtain ⟨mN,Fs,Ft,X6,oY,oZ,pA,pB,Dh,Di⟩:=at_T68 iQ.out bH Ja Jb;have Dj:=pB;have Dk:=pA;have Dl:=oZ;have Dm:=oY
        cases X6
        replace oY:=bcl HB.out oY;replace oZ:=bcl HB.out oZ;replace pA:=bcl HB.out pA;replace pB:=bcl HB.out pB;have Dn:=am Di;have MN:=am Dh;clear Di Dh;replace Ja:=eq_true Ja;replace Jb:=eq_true Jb;have Jc:0≤(bH:Int):=od au103;have Jd:bH<(l1.length:Int):=od au103;obtain ⟨mO,Fu,Fv,X7,pC,pD,pE,pF,Dp,Dq⟩:=at_T68 qO.out bH Jc Jd;have Ds:=pF;have Dt:=pE;have Du:=pD;have Dv:=pC
        cases X7
        replace pC:=bcl HB.out pC;replace pD:=bcl HB.out pD;replace pE:=bcl HB.out pE;replace pF:=bcl HB.out pF;have Dw:=am Dq;have MO:=am Dp;clear Dq Dp;replace Jc:=eq_true Jc;replace Jd:=eq_true Jd;refine start_ (n:=10) (S:=fun w'=>w'.cell? (mN.add ((bH).toNat*4))=some (.slice Fs ((rd_T68 l0 bH).f0).length Ft)∧w'.cell? ⟨(mN.add ((bH).toNat*4)).block,(mN.add ((bH).toNat*4)).off+1,none⟩=some (.string ((rd_T68 l0 bH).f1))∧w'.cell? ⟨(mN.add ((bH).toNat*4)).block,(mN.add ((bH).toNat*4)).off+2,none⟩=some (.string ((rd_T68 l0 bH).f2))∧w'.cell? ⟨(mN.add ((bH).toNat*4)).block,(mN.add ((bH).toNat*4)).off+3,none⟩=some (.string ((rd_T68 l0 bH).f3))∧w'.cell? (mO.add ((bH).toNat*4))=some (.slice Fu ((rd_T68 l1 bH).f0).length Fv)∧w'.cell? ⟨(mO.add ((bH).toNat*4)).block,(mO.add ((bH).toNat*4)).off+1,none⟩=some (.string ((rd_T68 l1 bH).f1))∧w'.cell? ⟨(mO.add ((bH).toNat*4)).block,(mO.add ((bH).toNat*4)).off+2,none⟩=some (.string ((rd_T68 l1 bH).f2))∧w'.cell? ⟨(mO.add ((bH).toNat*4)).block,(mO.add ((bH).toNat*4)).off+3,none⟩=some (.string ((rd_T68 l1 bH).f3))) (ds:=[]) #[false,false,false,false,false,false,false,false,false,false] (by kernel_rfl) rfl rfl ⟨(bcl HB.out Dm),(bcl HB.out Dl),(bcl HB.out Dk),(bcl HB.out Dj),(bcl HB.out Dv),(bcl HB.out Du),(bcl HB.out Dt),(bcl HB.out Ds)⟩ (fun hHeld=>?_);refine with_tabW laws_vNames.tab6 laws_vNames.bits6 (fun HT_ HW_=>?_);generalize wr.drew=Q9 at HB Dn Dw oY oZ pA pB pC pD pE pF hHeld ⊢;refine pu_ 0 (some 17) #[true,false,false,false,false,false,false,false,false,false] HT_.out ?_;refine pu_ 1 (some 18) #[true,true,false,false,false,false,false,false,false,false] HT_.out ?_;refine pu_ 2 (some 19) #[true,true,true,false,false,false,false,false,false,false] HT_.out ?_;refine pu_ 4 (some 21) #[true,true,true,false,true,false,false,false,false,false] HT_.out ?_;refine pu_ 5 (some 22) #[true,true,true,false,true,true,false,false,false,false] HT_.out ?_;refine pu_ 6 (some 23) #[true,true,true,false,true,true,true,false,false,false] HT_.out ?_;refine ta2_ 3 (some 20) #[true,true,true,true,true,true,true,false,false,false] HT_.out HW_.out hHeld ?_;refine ta2_ 7 (some 24) #[true,true,true,true,true,true,true,true,false,false] HT_.out HW_.out hHeld ?_;refine on_ 8 (some 25) #[true,true,true,true,true,true,true,true,true,false] HT_.out (fun K hK=>?_);refine gs_ Tryz.func43 #[.agg #[.slice Fs ((rd_T68 l0 bH).f0).length Ft,.string ((rd_T68 l0 bH).f1),.string ((rd_T68 l0 bH).f2),.string ((rd_T68 l0 bH).f3)],.agg #[.slice Fu ((rd_T68 l1 bH).f0).length Fv,.string ((rd_T68 l1 bH).f1),.string ((rd_T68 l1 bH).f2),.string ((rd_T68 l1 bH).f3)]] ?_
        with_reducible refine (laws_vName.calls k1 _ _ ((rd_T68 l0 bH).f0) ((rd_T68 l0 bH).f1) ((rd_T68 l0 bH).f2) ((rd_T68 l0 bH).f3) _ _ ((rd_T68 l1 bH).f0) ((rd_T68 l1 bH).f1) ((rd_T68 l1 bH).f2) ((rd_T68 l1 bH).f3) false _ ?aE ?aG ?bU ?bV A7.out).mono ?_
        (case aE=>repeat (first|exact (Kd.C_below Dn.out HB.out)|(with_reducible refine Kd.C_alloc ?_ _)|(with_reducible refine Kd.C_drewN ?_ _)|(with_reducible refine Kd.C_drew ?_)))
        (case aG=>exact MN.out)
        (case bU=>repeat (first|exact (Kd.C_below Dw.out HB.out)|(with_reducible refine Kd.C_alloc ?_ _)|(with_reducible refine Kd.C_drewN ?_ _)|(with_reducible refine Kd.C_drew ?_)))
        (case bV=>exact MO.out)
        rintro e EX ⟨rfl,hb⟩;refine ⟨_,rfl,?_⟩;replace HB:=am (below_step au59 hb)
        (try clear hb)
        refine hK.out _ _ ⟨(bcl HB.out Dm),(bcl HB.out Dl),(bcl HB.out Dk),(bcl HB.out Dj),(bcl HB.out Dv),(bcl HB.out Du),(bcl HB.out Dt),(bcl HB.out Ds)⟩ (fun hHeld=>?_);clear hK K;refine no_ (some 25) ?_;refine pu_ 9 (some 26) #[true,true,true,true,true,true,true,true,true,true] HT_.out ?_;refine done_ (done_of HT_.out (by kernel_rfl)) ?_
        try go_wp2
        go_ret;exact ax3
      · rw [if_neg c6] at H;exact absurd H (by simp)
     · rw [if_neg c5] at H;exact absurd H (by simp)
    · rw [if_neg c4] at H;have c4b0:=df c4;clear c4;obtain rfl:=ojz H;go_wp2;go_ret;exact ax3
 ·
  rw [if_neg c3] at H;have c3b0:=qf c3;have c3b1:=bu c3
  have c3b2:(l0.length == l1.length)=false:=by first|simpa using c3|(simp at c3 ⊢;omega)
  obtain rfl:=ojz H;go_enter Tryz.func20,Tryz.ntmps20;go_wp2;go_ret;exact ax3
end Go.Proofs.YtcbhlghofihjcaaGreatDoor.G

namespace Go.Proofs.YtcbhlghofihjcaaGreatDoor.G
open Go.RowKit Go.Proofs.YtcbhlghofihjcaaGreatDoorW.PrintWords Go.Proofs.YtcbhlghofihjcaaGreatDoorW.PrintLast Go.Proofs.YtcbhlghofihjcaaGreatDoorW.PrintMore
open Go.Proofs.YtcbhlghofihjcaaGreatDoor.Gl Go.Proofs.YtcbhlghofihjcaaGreatDoor.Ext
attribute [local go_sem] max2_int min2_int max_two min_two max_three min_three max_four min_four   -- for this text's walks alone
set_option linter.unusedVariables false
set_option linter.unusedSimpArgs false
attribute [local go_sem high] eqA26
def laws_vEntry.f (k:Nat) (aD:ByteArray) (aA:Int) (aN:List (S68)) (aQ:List (S68)) (bB:ByteArray) (bC:ByteArray) (bD:ByteArray) (aV:Int) (aY:Int) (bA:Int) (aH:Bool) (aI:Int) (aK:ByteArray) (aM:ByteArray) (cA:ByteArray) (bT:Int) (bR:List (S68)) (bS:List (S68)) (cD:ByteArray) (cE:ByteArray) (cF:ByteArray) (bW:Int) (bX:Int) (bZ:Int) (bM:Bool) (bO:Int) (bP:ByteArray) (bN:ByteArray):Option (Bool):=if aD.toList=cA.toList then (if aA=bT then ((laws_vNames.f k aN bR).bind fun Q0=>(if Q0=true then ((laws_vNames.f k aQ bS).bind fun Q6=>(if Q6=true then (if bB.toList=cD.toList then (if bC.toList=cE.toList then (if bD.toList=cF.toList then (if (aV == bW && (aY == bX && (bA == bZ && (aH == bM))))=true then (if aI=bO then (if aK.toList=bP.toList then (some (aM.toList == bN.toList)) else (some false)) else (some false)) else (some false)) else (some false)) else (some false)) else (some false)) else (some false))) else (some false))) else (some false)) else (some false)
theorem laws_vEntry.mono:∀ a0 a1 a2 a3 a4 a5 a6 a7 a8 a9 hJ hU hV hY nP AO AP AQ AR AU a20 a21 a22 a23 AV a25 AW AX k,LeO (laws_vEntry.f k a0 a1 a2 a3 a4 a5 a6 a7 a8 a9 hJ hU hV hY nP AO AP AQ AR AU a20 a21 a22 a23 AV a25 AW AX) (laws_vEntry.f (k+1) a0 a1 a2 a3 a4 a5 a6 a7 a8 a9 hJ hU hV hY nP AO AP AQ AR AU a20 a21 a22 a23 AV a25 AW AX):=by
 intro a0 a1 a2 a3 a4 a5 a6 a7 a8 a9 hJ hU hV hY nP AO AP AQ AR AU a20 a21 a22 a23 AV a25 AW AX k;unfold laws_vEntry.f
 repeat' first
   | (with_reducible exact laws_vNames.mono _ _ _)
   | (with_reducible exact LeO.refl _)
   | (with_reducible exact LeO.none _)
   | (with_reducible refine LeO.ite ?_ ?_)
   | (with_reducible refine LeO.bind ?_ (fun _=>?_))
   | exact laws_vNames.mono _ _ _
   | exact LeO.none _
   | refine LeO.ite ?_ ?_
   | refine LeO.bind ?_ (fun _=>?_)
theorem laws_vEntry.L0 {P:Prop} (h:P:=by
  go_enter Tryz.func9,Tryz.ntmps9;go_wp2_with (first|((with_reducible refine gate_dst (N:=2) rfl ?_);refine box_event ?hg (N:=2) ?hd (cs:=#[.string aD,.int .i64 aA,.slice cK aN.length cL,.slice cH aQ.length cI,.string bB,.string bC,.string bD,.int .i64 aV,.int .i64 aY,.int .i64 bA,.bool aH,.int .i64 aI,.string aK,.string aM]) (t:=28) ?hr ?_;(case hd=>rfl);(case hg=>rfl);(case hr=>first|(go_simp;done)|(go_simp;rfl));intro lF hg Xk hbox hb;have kO:=am (hbox);have Y0:=am (bsz hg au59);have Jh:=am (bsz hg au59);replace HB:=am (below_step au59 hb);clear hb hbox hg)|((with_reducible refine gate_dst (N:=3) rfl ?_);refine box_event ?hg (N:=3) ?hd (cs:=#[.string cA,.int .i64 bT,.slice eI bR.length eJ,.slice eK bS.length eL,.string cD,.string cE,.string cF,.int .i64 bW,.int .i64 bX,.int .i64 bZ,.bool bM,.int .i64 bO,.string bP,.string bN]) (t:=28) ?hr ?_;(case hd=>rfl);(case hg=>rfl);(case hr=>first|(go_simp;done)|(go_simp;rfl));intro Ew hg Ey hbox hb;have nA:=am (hbox);have Y1:=am (bsz hg au54);have MV:=am (bsz hg au54);replace HB:=am (below_step au54 hb);have wK:=am (bne (g:=lF) hg au87);have wL:=am (ben (g:=lF) hg au87);replace kO:=am (blk_below (g:=lF) au87 hb);clear hb hbox hg;have aMh:=wK.out;have aMi:=wL.out;obtain ⟨xG,xH,xI,xJ,M9,Ma,Mb,Mc,Md,Me,Iy,Iz,IA,IB,xK,xL,xM,xN,Mf,Mg,Mh,Mi,Mj,Mk,IC,ID,IE,IG⟩:=blkc14 kO.out;obtain ⟨xY,xZ,yA,yB,Rs,Rt,Ru,Rv,Rw,Rx,Ox,Oy,Oz,OA,yC,yD,yE,yF,Ry,Rz,RA,RB,RD,RE,OB,OC,OD,OE⟩:=blkc14 nA.out)|(go_at_call 20;(with_reducible refine (laws_vNames.calls k _ _ aN _ _ bR _ _ ?aE ?aG ?bU ?bV A5.out).mono ?_);(case aE=>repeat (first|exact (Kd.C_below fJ.out HB.out)|(with_reducible refine Kd.C_alloc ?_ _)|(with_reducible refine Kd.C_drewN ?_ _)|(with_reducible refine Kd.C_drew ?_)));(case aG=>exact fK.out);(case bU=>repeat (first|exact (Kd.C_below nC.out HB.out)|(with_reducible refine Kd.C_alloc ?_ _)|(with_reducible refine Kd.C_drewN ?_ _)|(with_reducible refine Kd.C_drew ?_)));(case bV=>exact nD.out);rintro e Xm ⟨rfl,hb⟩;replace kO:=am (blk_below (g:=lF) au87 hb);replace nA:=am (blk_below (g:=Ew) au88 hb);replace HB:=am (below_step au30 hb);(try clear hb);obtain ⟨BH,BI,BJ,BK,Lz,LA,LB,LC,LD,LE,Ig,Ih,Ii,Ij,BL,BM,BN,BO,LF,LG,LH,LJ,LK,LL,Ik,Il,Im,Io⟩:=blkc14 kO.out;obtain ⟨uS,uT,uU,uV,Gw,Gx,Gy,Gz,GA,GB,E4,E5,E6,E7,uW,uX,uY,uZ,GC,GD,GE,GF,GG,GH,E8,E9,Ea,Eb⟩:=blkc14 nA.out)|(go_at_call 20;(with_reducible refine (laws_vNames.calls k _ _ aQ _ _ bS _ _ ?aE ?aG ?bU ?bV A7.out).mono ?_);(case aE=>repeat (first|exact (Kd.C_below gB.out HB.out)|(with_reducible refine Kd.C_alloc ?_ _)|(with_reducible refine Kd.C_drewN ?_ _)|(with_reducible refine Kd.C_drew ?_)));(case aG=>exact gC.out);(case bU=>repeat (first|exact (Kd.C_below oW.out HB.out)|(with_reducible refine Kd.C_alloc ?_ _)|(with_reducible refine Kd.C_drewN ?_ _)|(with_reducible refine Kd.C_drew ?_)));(case bV=>exact oX.out);rintro e QA ⟨rfl,hb⟩;replace kO:=am (blk_below (g:=lF) au87 hb);replace nA:=am (blk_below (g:=Ew) au88 hb);replace HB:=am (below_step au30 hb);(try clear hb);obtain ⟨FF,FG,FH,FI,RF,RG,RH,RI,RJ,RL,OF,OG,OH,OI,FJ,FL,FM,FN,RN,RO,RP,RQ,RR,RS,OJ,OK,OL,OM⟩:=blkc14 kO.out;obtain ⟨SH,SI,SJ,SK,aIg,aIh,aIi,aIj,aIk,aIl,arV,arW,arX,arY,SL,SN,SO,SP,aIm,aIn,aIo,aIp,aIq,aIr,arZ,asA,asB,asC⟩:=blkc14 nA.out));go_ret
  exact ax13):P:=h
set_option maxHeartbeats 8000000 in
theorem laws_vEntry.calls (k:Nat) (aD:ByteArray) (aA:Int) (cK:Option Addr) (cL:Nat) (aN:List (S68)) (cH:Option Addr) (cI:Nat) (aQ:List (S68)) (bB:ByteArray) (bC:ByteArray) (bD:ByteArray) (aV:Int) (aY:Int) (bA:Int) (aH:Bool) (aI:Int) (aK:ByteArray) (aM:ByteArray) (cA:ByteArray) (bT:Int) (eI:Option Addr) (eJ:Nat) (bR:List (S68)) (eK:Option Addr) (eL:Nat) (bS:List (S68)) (cD:ByteArray) (cE:ByteArray) (cF:ByteArray) (bW:Int) (bX:Int) (bZ:Int) (bM:Bool) (bO:Int) (bP:ByteArray) (bN:ByteArray) (r:Bool) (w:World) (gF:Kd.C k68 w cK aN.length aN) (gG:aN.length≤cL) (gH:Kd.C k68 w cH aQ.length aQ) (gI:aQ.length≤cI) (tM:Kd.C k68 w eI bR.length bR) (tN:bR.length≤eJ) (tP:Kd.C k68 w eK bS.length bS) (tQ:bS.length≤eL) (h:laws_vEntry.f k aD aA aN aQ bB bC bD aV aY bA aH aI aK aM cA bT bR bS cD cE cF bW bX bZ bM bO bP bN=some r) :
  Calls Tryz.prog 9 #[.agg #[.string aD,.int .i64 aA,.slice cK aN.length cL,.slice cH aQ.length cI,.string bB,.string bC,.string bD,.int .i64 aV,.int .i64 aY,.int .i64 bA,.bool aH,.int .i64 aI,.string aK,.string aM],.agg #[.string cA,.int .i64 bT,.slice eI bR.length eJ,.slice eK bS.length eL,.string cD,.string cE,.string cF,.int .i64 bW,.int .i64 bX,.int .i64 bZ,.bool bM,.int .i64 bO,.string bP,.string bN]] w fun e w'=>e=.returned (.bool r)∧Below w.heap.size w w':=by
 have hu28:=Tryz.underlying28;have hu26:=Tryz.underlying26;have fJ:=am gF;have fK:=am gG;clear gF gG;have gB:=am gH;have gC:=am gI;clear gH gI;have nC:=am tM;have nD:=am tN;clear tM tN;have oW:=am tP;have oX:=am tQ;clear tP tQ;have HB:=am (Below.refl w.heap.size w);have H:(if aD.toList=cA.toList then (if aA=bT then ((laws_vNames.f k aN bR).bind fun Q0=>(if Q0=true then ((laws_vNames.f k aQ bS).bind fun Q6=>(if Q6=true then (if bB.toList=cD.toList then (if bC.toList=cE.toList then (if bD.toList=cF.toList then (if (aV == bW && (aY == bX && (bA == bZ && (aH == bM))))=true then (if aI=bO then (if aK.toList=bP.toList then (some (aM.toList == bN.toList)) else (some false)) else (some false)) else (some false)) else (some false)) else (some false)) else (some false)) else (some false))) else (some false))) else (some false)) else (some false))=some r:=h;clear h;by_cases c3:aD.toList=cA.toList
 ·
  rw [if_pos c3] at H;have c3b0:=qt c3;have c3b1:=bfz c3;clear c3;by_cases c4:aA=bT
  ·
   rw [if_pos c4] at H;have c4b0:=qt c4;have c4b1:=bfz c4;clear c4;replace H:=obz H;obtain ⟨Q0,nI,H⟩:=H
   try dsimp only at H
   have A5:=am nI;clear nI;by_cases c6:Q0=true
   ·
    subst c6;replace H:=(if_pos rfl).symm.trans H;replace H:=obz H;obtain ⟨Q6,kP,H⟩:=H
    try dsimp only at H
    have A7:=am kP;clear kP;by_cases c8:Q6=true
    ·
     subst c8;replace H:=(if_pos rfl).symm.trans H;by_cases c9:bB.toList=cD.toList
     ·
      rw [if_pos c9] at H;have c9b0:=qt c9;have c9b1:=bfz c9;clear c9;by_cases c10:bC.toList=cE.toList
      ·
       rw [if_pos c10] at H;have c10b0:=qt c10;have c10b1:=bfz c10;clear c10;by_cases cO:bD.toList=cF.toList
       ·
        rw [if_pos cO] at H;have c11b0:=qt cO;have c11b1:=bfz cO;clear cO;by_cases dD:(aV == bW && (aY == bX && (bA == bZ && (aH == bM))))=true
        ·
         rw [if_pos dD] at H;have c12b0:(aV == bW && (aY == bX && (bA == bZ && (aH == bM))))=true:=dD
         (try (have c12b1:decide (aV=bW && (aY == bX && (bA == bZ && (aH == bM))))=true:=by simpa using dD))
         (try (have c12b2:(aV == bW && (aY == bX && (bA == bZ && (aH == bM))))=true:=by simpa using dD))
         clear dD;by_cases dE:aI=bO
         ·
          rw [if_pos dE] at H;have c13b0:=qt dE;have c13b1:=bfz dE;clear dE;by_cases eY:aK.toList=bP.toList
          · rw [if_pos eY] at H;have c14b0:=qt eY;have c14b1:=bfz eY;clear eY;obtain rfl:=ojz H;exact laws_vEntry.L0
          · rw [if_neg eY] at H;have c14b0:=qf eY;have c14b1:=bu eY;obtain rfl:=ojz H;exact laws_vEntry.L0
         · rw [if_neg dE] at H;have c13b0:=qf dE;have c13b1:=bu dE;obtain rfl:=ojz H;exact laws_vEntry.L0
        ·
         rw [if_neg dD] at H
         have c12b0:(aV == bW && (aY == bX && (bA == bZ && (aH == bM))))=false:=by simpa using dD
         (try (have c12b1:decide (aV=bW && (aY == bX && (bA == bZ && (aH == bM))))=false:=by simpa using dD))
         (try (have c12b2:(aV == bW && (aY == bX && (bA == bZ && (aH == bM))))=false:=by simpa using dD))
         (try (have c12b3:¬ (aV=bW && (aY == bX && (bA == bZ && (aH == bM)))):=by simpa using dD))
         clear dD;obtain rfl:=ojz H;exact laws_vEntry.L0
       · rw [if_neg cO] at H;have c11b0:=qf cO;have c11b1:=bu cO;obtain rfl:=ojz H;exact laws_vEntry.L0
      · rw [if_neg c10] at H;have c10b0:=qf c10;have c10b1:=bu c10;obtain rfl:=ojz H;exact laws_vEntry.L0
     · rw [if_neg c9] at H;have c9b0:=qf c9;have c9b1:=bu c9;obtain rfl:=ojz H;exact laws_vEntry.L0
    · replace c8:=Bool.eq_false_iff.mpr c8;subst c8;replace H:=(if_neg (show ¬ (false=true) by decide)).symm.trans H;obtain rfl:=ojz H;go_enter Tryz.func9,Tryz.ntmps9;go_wp2_with (first|((with_reducible refine gate_dst (N:=2) rfl ?_);refine box_event ?hg (N:=2) ?hd (cs:=#[.string aD,.int .i64 aA,.slice cK aN.length cL,.slice cH aQ.length cI,.string bB,.string bC,.string bD,.int .i64 aV,.int .i64 aY,.int .i64 bA,.bool aH,.int .i64 aI,.string aK,.string aM]) (t:=28) ?hr ?_;(case hd=>rfl);(case hg=>rfl);(case hr=>first|(go_simp;done)|(go_simp;rfl));intro lF hg w92 hbox hb;have kO:=am (hbox);have Y0:=am (bsz hg au59);have Jh:=am (bsz hg au59);replace HB:=am (below_step au59 hb);clear hb hbox hg)|((with_reducible refine gate_dst (N:=3) rfl ?_);refine box_event ?hg (N:=3) ?hd (cs:=#[.string cA,.int .i64 bT,.slice eI bR.length eJ,.slice eK bS.length eL,.string cD,.string cE,.string cF,.int .i64 bW,.int .i64 bX,.int .i64 bZ,.bool bM,.int .i64 bO,.string bP,.string bN]) (t:=28) ?hr ?_;(case hd=>rfl);(case hg=>rfl);(case hr=>first|(go_simp;done)|(go_simp;rfl));intro Ew hg w93 hbox hb;have nA:=am (hbox);have Y1:=am (bsz hg au54);have MV:=am (bsz hg au54);replace HB:=am (below_step au54 hb);have wK:=am (bne (g:=lF) hg au87);have wL:=am (ben (g:=lF) hg au87);replace kO:=am (blk_below (g:=lF) au87 hb);clear hb hbox hg;have aMj:=wK.out;have aMk:=wL.out;obtain ⟨aIs,aIt,aIu,aIv,aIw,aIx,aIy,aIz,aIA,aIB,asD,asE,asF,asG,aIC,aID,aIE,aIF,aIG,aIH,aII,aIJ,aIK,aIL,asH,asI,asJ,asK⟩:=blkc14 kO.out;obtain ⟨aIM,aIN,aIO,aIP,aIQ,aIR,aIS,aIT,aIU,aIV,asL,asM,asN,asO,aIW,aIX,aIY,aIZ,aJ0,aJ1,aJ2,aJ3,aJ4,aJ5,asP,asQ,asR,asS⟩:=blkc14 nA.out)|(go_at_call 20;(with_reducible refine (laws_vNames.calls k _ _ aN _ _ bR _ _ ?aE ?aG ?bU ?bV A5.out).mono ?_);(case aE=>repeat (first|exact (Kd.C_below fJ.out HB.out)|(with_reducible refine Kd.C_alloc ?_ _)|(with_reducible refine Kd.C_drewN ?_ _)|(with_reducible refine Kd.C_drew ?_)));(case aG=>exact fK.out);(case bU=>repeat (first|exact (Kd.C_below nC.out HB.out)|(with_reducible refine Kd.C_alloc ?_ _)|(with_reducible refine Kd.C_drewN ?_ _)|(with_reducible refine Kd.C_drew ?_)));(case bV=>exact nD.out);rintro e w97 ⟨rfl,hb⟩;replace kO:=am (blk_below (g:=lF) au87 hb);replace nA:=am (blk_below (g:=Ew) au88 hb);replace HB:=am (below_step au30 hb);(try clear hb);obtain ⟨aJ6,aJ7,aJ8,aJ9,aJa,aJb,aJc,aJd,aJe,aJf,asT,asU,asV,asW,aJg,aJh,aJi,aJj,aJk,aJl,aJm,aJn,aJo,aJp,asX,asY,asZ,atA⟩:=blkc14 kO.out;obtain ⟨aJq,aJr,aJs,aJt,aJu,aJv,aJw,aJx,aJy,aJz,atB,atC,atD,atE,aJA,aJB,aJC,aJD,aJE,aJF,aJG,aJH,aJI,aJJ,atF,atG,atH,atI⟩:=blkc14 nA.out)|(go_at_call 20;(with_reducible refine (laws_vNames.calls k _ _ aQ _ _ bS _ _ ?aE ?aG ?bU ?bV A7.out).mono ?_);(case aE=>repeat (first|exact (Kd.C_below gB.out HB.out)|(with_reducible refine Kd.C_alloc ?_ _)|(with_reducible refine Kd.C_drewN ?_ _)|(with_reducible refine Kd.C_drew ?_)));(case aG=>exact gC.out);(case bU=>repeat (first|exact (Kd.C_below oW.out HB.out)|(with_reducible refine Kd.C_alloc ?_ _)|(with_reducible refine Kd.C_drewN ?_ _)|(with_reducible refine Kd.C_drew ?_)));(case bV=>exact oX.out);rintro e aNm ⟨rfl,hb⟩;replace kO:=am (blk_below (g:=lF) au87 hb);replace nA:=am (blk_below (g:=Ew) au88 hb);replace HB:=am (below_step au30 hb);(try clear hb)));go_ret;exact ax13
   · replace c6:=Bool.eq_false_iff.mpr c6;subst c6;replace H:=(if_neg (show ¬ (false=true) by decide)).symm.trans H;obtain rfl:=ojz H;go_enter Tryz.func9,Tryz.ntmps9;go_wp2_with (first|((with_reducible refine gate_dst (N:=2) rfl ?_);refine box_event ?hg (N:=2) ?hd (cs:=#[.string aD,.int .i64 aA,.slice cK aN.length cL,.slice cH aQ.length cI,.string bB,.string bC,.string bD,.int .i64 aV,.int .i64 aY,.int .i64 bA,.bool aH,.int .i64 aI,.string aK,.string aM]) (t:=28) ?hr ?_;(case hd=>rfl);(case hg=>rfl);(case hr=>first|(go_simp;done)|(go_simp;rfl));intro lF hg aNn hbox hb;have kO:=am (hbox);have Y0:=am (bsz hg au59);have Jh:=am (bsz hg au59);replace HB:=am (below_step au59 hb);clear hb hbox hg)|((with_reducible refine gate_dst (N:=3) rfl ?_);refine box_event ?hg (N:=3) ?hd (cs:=#[.string cA,.int .i64 bT,.slice eI bR.length eJ,.slice eK bS.length eL,.string cD,.string cE,.string cF,.int .i64 bW,.int .i64 bX,.int .i64 bZ,.bool bM,.int .i64 bO,.string bP,.string bN]) (t:=28) ?hr ?_;(case hd=>rfl);(case hg=>rfl);(case hr=>first|(go_simp;done)|(go_simp;rfl));intro Ew hg aNo hbox hb;have nA:=am (hbox);have Y1:=am (bsz hg au54);have MV:=am (bsz hg au54);replace HB:=am (below_step au54 hb);have wK:=am (bne (g:=lF) hg au87);have wL:=am (ben (g:=lF) hg au87);replace kO:=am (blk_below (g:=lF) au87 hb);clear hb hbox hg;have aKE:=wK.out;have aKF:=wL.out;obtain ⟨atJ,atK,atL,atM,atN,atO,atP,atQ,atS,atT,aeD,aeE,aeF,aeG,atU,atV,atW,atX,atY,atZ,auA,auB,auC,auD,aeH,aeI,aeJ,aeK⟩:=blkc14 kO.out;obtain ⟨auE,auF,auG,auH,auI,auJ,auK,auL,auM,auN,aeL,aeM,aeN,aeO,auO,auP,auQ,auR,auS,auT,auU,auV,auW,auX,aeP,aeQ,aeR,aeS⟩:=blkc14 nA.out)|(go_at_call 20;(with_reducible refine (laws_vNames.calls k _ _ aN _ _ bR _ _ ?aE ?aG ?bU ?bV A5.out).mono ?_);(case aE=>repeat (first|exact (Kd.C_below fJ.out HB.out)|(with_reducible refine Kd.C_alloc ?_ _)|(with_reducible refine Kd.C_drewN ?_ _)|(with_reducible refine Kd.C_drew ?_)));(case aG=>exact fK.out);(case bU=>repeat (first|exact (Kd.C_below nC.out HB.out)|(with_reducible refine Kd.C_alloc ?_ _)|(with_reducible refine Kd.C_drewN ?_ _)|(with_reducible refine Kd.C_drew ?_)));(case bV=>exact nD.out);rintro e aNp ⟨rfl,hb⟩;replace kO:=am (blk_below (g:=lF) au87 hb);replace nA:=am (blk_below (g:=Ew) au88 hb);replace HB:=am (below_step au30 hb);(try clear hb)));go_ret;exact ax13
  · rw [if_neg c4] at H;have c4b0:=qf c4;have c4b1:=bu c4;obtain rfl:=ojz H;exact laws_vEntry.L0
 · rw [if_neg c3] at H;have c3b0:=qf c3;have c3b1:=bu c3;obtain rfl:=ojz H;exact laws_vEntry.L0
end Go.Proofs.YtcbhlghofihjcaaGreatDoor.G

namespace Go.Proofs.YtcbhlghofihjcaaGreatDoor.G
open Go.RowKit Go.Proofs.YtcbhlghofihjcaaGreatDoor.Gl Go.Proofs.YtcbhlghofihjcaaGreatDoorW.PrintWords Go.Proofs.YtcbhlghofihjcaaGreatDoorW.PrintLast Go.Proofs.YtcbhlghofihjcaaGreatDoor.B Go.Proofs.YtcbhlghofihjcaaGreatDoor.Opn
set_option linter.unusedVariables false
set_option linter.unusedSimpArgs false
theorem vT_loop (d:Nat):∀ (a b:List ByteArray) (i:Nat),a.length=b.length→a.length<4611686018427387904→a.length-i=d→i≤a.length →
    Ev (fun k=>laws_vTexts.l0 k a b i) (decide (a.drop i=b.drop i)):=by
  induction d with
  | zero =>
    intro a b i hl hm hd hi;refine Ev.step (f:=fun _=>some (decide (a.drop i=b.drop i))) (fun k=>?_) (Ev.now _);simp only [laws_vTexts.l0];rw [if_neg (by omega),List.drop_of_length_le (by omega),List.drop_of_length_le (by omega)];simp
  | succ d ih =>
    intro a b i hl hm hd hi
    have hlt:i<a.length:=by omega
    have hlt':i<b.length:=by omega
    have hw:wrap64 ((i:Int)+1)=((i+1:Nat):Int):=by rw [w64 (by omega) (by omega)];rfl
    by_cases e:a[i]=b[i]
    · refine Ev.step (f:=fun k=>laws_vTexts.l0 k a b ((i+1:Nat):Int)) (fun k=>?_) (ev_eq (ih a b (i+1) hl hm (by omega) (by omega)) ?_)
      · simp only [laws_vTexts.l0]
        rw [if_pos (by omega),if_pos (by omega),if_pos (by omega),if_pos (by simp [rdOf,hlt,hlt',e]),hw]
      · simp only [List.drop_eq_getElem_cons hlt,List.drop_eq_getElem_cons hlt',e,List.cons.injEq,true_and]
    · refine Ev.step (f:=fun _=>some (decide (a.drop i=b.drop i))) (fun k=>?_) (Ev.now _)
      simp only [laws_vTexts.l0];rw [if_pos (by omega),if_pos (by omega),if_pos (by omega),if_neg (by simp [rdOf,hlt,hlt',toList_eq_iff,e])];simp only [List.drop_eq_getElem_cons hlt,List.drop_eq_getElem_cons hlt',List.cons.injEq,e,false_and,decide_false]
theorem vT_ev (a b:List ByteArray) (ha:a.length<4611686018427387904) (hb:b.length<4611686018427387904):Ev (fun k=>laws_vTexts.f k a b) (decide (a=b)):=by
  unfold laws_vTexts.f;by_cases h:a.length=b.length
  · exact ev_pos (by omega) (ev_eq (vT_loop a.length a b 0 h ha rfl (by omega)) (by simp))
  · exact ev_neg (by omega) (ev_eq (Ev.now false) (by rw [eq_comm,decide_eq_false_iff_not];rintro rfl;exact h rfl))
theorem vN_ev (G:List ByteArray) (P F S:ByteArray) (G':List ByteArray) (P' F' S':ByteArray) (h:G.length<4611686018427387904) (h':G'.length<4611686018427387904):Ev (fun k=>laws_vName.f k G P F S G' P' F' S') (decide (G=G') && (decide (P=P') && (decide (F=F') && decide (S=S')))):=by
  unfold laws_vName.f;refine Ev.bind (vT_ev G G' h h') ?_;by_cases e1:G=G'
  · refine ev_pos (by simpa using e1) ?_
    by_cases e2:P=P'
    · refine ev_pos (by rw [e2]) ?_
      by_cases e3:F=F'
      · refine ev_pos (by rw [e3]) (ev_eq (Ev.now _) ?_)
        rw [dt e1,dt e2,dt e3];by_cases e4:S=S'
        · simp [e4]
        · have:¬ S.toList=S'.toList:=fun z=>e4 (toList_eq_iff.1 z)
          simp [e4,this]
      · exact ev_neg (fun z=>e3 (toList_eq_iff.1 z)) (ev_eq (Ev.now _) (by simp [e3]))
    · exact ev_neg (fun z=>e2 (toList_eq_iff.1 z)) (ev_eq (Ev.now _) (by simp [e2]))
  · exact ev_neg (by simpa using e1) (ev_eq (Ev.now _) (by simp [e1]))
theorem rdV (l:List S68) (i:Nat) (h:i<l.length):rd_T68 l (i:Int)=l[i]:=by simp [rd_T68,h]
theorem nm_ext {x y:S68}:x=y ↔ (x.f0=y.f0∧x.f1=y.f1∧x.f2=y.f2∧x.f3=y.f3):=by
  cases x;cases y;simp
instance decN:DecidableEq S68:=fun x y=>decidable_of_iff _ nm_ext.symm
theorem decide_congr {p q:Prop} [Decidable p] [Decidable q] (h:p ↔ q):decide p=decide q:=by
  by_cases c:p
  · rw [dt c,dt (h.1 c)]
  · rw [df c,df (fun x=>c (h.2 x))]
theorem vL_ev (a b:List S68) (ha:a.length≤1000) (hb:b.length≤1000) (ga:∀ x∈a,x.f0.length≤1000) (gb:∀ x∈b,x.f0.length≤1000):Ev (fun k=>laws_vNames.f k a b) (decide (a=b)):=by
  have loop:a.length=b.length→∀ (d i:Nat),i≤a.length→a.length-i=d→Ev (fun k=>laws_vNames.l0 k a b (i:Int)) (decide (a.drop i=b.drop i)):=by
    intro hl d
    induction d with
    | zero =>
      intro i hi hd;refine Ev.step (f:=fun _=>some (decide (a.drop i=b.drop i))) (fun k=>?_) (Ev.now _);simp only [laws_vNames.l0];rw [if_neg (by omega),List.drop_of_length_le (by omega),List.drop_of_length_le (by omega)];simp
    | succ d ih =>
      intro i hi hd
      have hlt:i<a.length:=by omega
      have hlt':i<b.length:=by omega
      have hw:wrap64 ((i:Int)+1)=((i+1:Nat):Int):=by rw [w64 (by omega) (by omega)];rfl
      apply Ev.step (f:=fun k=>if (i:Int)<(a.length:Int) then (if (0:Int)≤(i:Int) then (if (i:Int)<(b.length:Int) then ((laws_vName.f k (a[i]).f0 (a[i]).f1 (a[i]).f2 (a[i]).f3 (b[i]).f0 (b[i]).f1 (b[i]).f2 (b[i]).f3).bind fun t=>(if t=true then (laws_vNames.l0 k a b ((i+1:Nat):Int)) else (some false))) else none) else none) else (some true))
      · intro k
        simp only [laws_vNames.l0,rdV a i hlt,rdV b i hlt',hw]
      · refine ev_pos (by omega) (ev_pos (by omega) (ev_pos (by omega) (Ev.bind (vN_ev _ _ _ _ _ _ _ _ (by have:=ga _ (List.getElem_mem hlt);omega) (by have:=gb _ (List.getElem_mem hlt');omega)) ?_)))
        rw [List.drop_eq_getElem_cons hlt,List.drop_eq_getElem_cons hlt'];by_cases e:a[i]=b[i]
        · have e':=nm_ext.1 e
          refine ev_pos (by simp [e'.1,e'.2.1,e'.2.2.1,e'.2.2.2]) (ev_eq (ih (i+1) (by omega) (by omega)) (decide_congr (by rw [e];exact ⟨fun h=>by rw [h],fun h=>by injection h⟩)))
        · refine ev_neg (fun z=>e (nm_ext.2 ?_)) (ev_eq (Ev.now false) (by rw [eq_comm,decide_eq_false_iff_not];intro h;injection h with h _;exact e h))
          simp only [Bool.and_eq_true,decide_eq_true_eq] at z;exact z
  unfold laws_vNames.f;by_cases h:a.length=b.length
  · exact ev_pos (by omega) (ev_eq (loop h _ 0 (by omega) rfl) (by simp))
  · exact ev_neg (by omega) (ev_eq (Ev.now false) (by rw [eq_comm,decide_eq_false_iff_not];rintro rfl;exact h rfl))
def AllEq (a b:EV):Prop:=a.K=b.K∧a.kd=b.kd∧a.A=b.A∧a.E=b.E∧a.T=b.T∧a.C=b.C∧a.P=b.P∧(a.y=b.y∧a.m=b.m∧a.d=b.d∧a.cc=b.cc)∧a.v=b.v∧a.Pg=b.Pg∧a.X=b.X
theorem nm_len {l:List S68} (h:FewN 6 200 l):l.length≤1000∧∀ x∈l,x.f0.length≤1000:=by
  refine ⟨by have:=h.1;omega,fun x hx=>?_⟩;have:=h.2 x hx;unfold bulkS1 bulkN bulkS at this;omega
theorem vE_ev (a b:EV) (ha:a.ok) (hb:b.ok) (r:Bool) (hr:r=true ↔ AllEq a b):Ev (fun k=>laws_vEntry.f k a.K a.kd a.A a.E a.T a.C a.P a.y a.m a.d a.cc a.v a.Pg a.X b.K b.kd b.A b.E b.T b.C b.P b.y b.m b.d b.cc b.v b.Pg b.X) r:=by
  have no:¬ AllEq a b→Ev (fun k=>(some false:Option Bool)) r:=fun h=>ev_eq (Ev.now false) (by cases r with
    | true=>exact absurd (hr.1 rfl) h
    | false=>rfl)
  have vA:=vL_ev a.A b.A (nm_len ha.a).1 (nm_len hb.a).1 (nm_len ha.a).2 (nm_len hb.a).2;have vE:=vL_ev a.E b.E (nm_len ha.ee).1 (nm_len hb.ee).1 (nm_len ha.ee).2 (nm_len hb.ee).2;unfold laws_vEntry.f;by_cases h1:a.K=b.K
  · refine ev_pos (toList_eq_iff.2 h1) ?_
    by_cases h2:a.kd=b.kd
    · refine ev_pos h2 (Ev.bind vA ?_)
      by_cases h3:a.A=b.A
      · refine ev_pos (dt h3) (Ev.bind vE ?_)
        by_cases h4:a.E=b.E
        · refine ev_pos (dt h4) ?_
          by_cases h5:a.T=b.T
          · refine ev_pos (toList_eq_iff.2 h5) ?_
            by_cases h6:a.C=b.C
            · refine ev_pos (toList_eq_iff.2 h6) ?_
              by_cases h7:a.P=b.P
              · refine ev_pos (toList_eq_iff.2 h7) ?_
                by_cases h8:a.y=b.y∧a.m=b.m∧a.d=b.d∧a.cc=b.cc
                · refine ev_pos (by simp [h8.1,h8.2.1,h8.2.2.1,h8.2.2.2]) ?_
                  by_cases h9:a.v=b.v
                  · refine ev_pos h9 ?_
                    by_cases h10:a.Pg=b.Pg
                    · refine ev_pos (toList_eq_iff.2 h10) (ev_eq (Ev.now _) ?_)
                      by_cases h11:a.X=b.X
                      · rw [hr.2 ⟨h1,h2,h3,h4,h5,h6,h7,h8,h9,h10,h11⟩,h11];simp
                      · have:r=false:=by
                          cases hq:r with
                          | true=>exact absurd (hr.1 hq).2.2.2.2.2.2.2.2.2.2 h11
                          | false=>rfl
                        rw [this]
                        simpa [toList_eq_iff] using h11
                    · exact ev_neg (fun x=>h10 (toList_eq_iff.1 x)) (no (fun x=>h10 x.2.2.2.2.2.2.2.2.2.1))
                  · exact ev_neg h9 (no (fun x=>h9 x.2.2.2.2.2.2.2.2.1))
                · exact ev_neg (fun x=>h8 (by simpa using x)) (no (fun x=>h8 x.2.2.2.2.2.2.2.1))
              · exact ev_neg (fun x=>h7 (toList_eq_iff.1 x)) (no (fun x=>h7 x.2.2.2.2.2.2.1))
            · exact ev_neg (fun x=>h6 (toList_eq_iff.1 x)) (no (fun x=>h6 x.2.2.2.2.2.1))
          · exact ev_neg (fun x=>h5 (toList_eq_iff.1 x)) (no (fun x=>h5 x.2.2.2.2.1))
        · exact ev_neg (by simp [h4]) (no (fun x=>h4 x.2.2.2.1))
      · exact ev_neg (by simp [h3]) (no (fun x=>h3 x.2.2.1))
    · exact ev_neg h2 (no (fun x=>h2 x.2.1))
  · exact ev_neg (fun x=>h1 (toList_eq_iff.1 x)) (no (fun x=>h1 x.1))
theorem okS_of {l:List S68} (h:FewN 6 200 l):(∀ x∈l,okS x)∧l.length≤1048576∧∀ x∈l,bulkN x.f0 x.f1 x.f2 x.f3≤1048576:=by
  refine ⟨fun x hx=>?_,by have:=h.1;omega,fun x hx=>?_⟩
  · have:=h.2 x hx
    unfold bulkS1 bulkN bulkS at this;exact ⟨by omega,by omega⟩
  · have:=h.2 x hx
    unfold bulkS1 at this;omega
structure EntV (e:EV):Prop where
  s:Ev (fun k=>spec_l4Entry.f k e.K e.kd e.A e.E e.T e.C e.P e.y e.m e.d e.cc e.v e.Pg e.X) (entD e.K e.kd e.A e.E e.T e.C e.P e.y e.m e.d e.cc e.v e.Pg e.X)
  i:Ev (fun k=>impl_IsValidEntry.f k e.K e.kd e.A e.E e.T e.C e.P e.y e.m e.d e.cc e.v e.Pg e.X) (entD e.K e.kd e.A e.E e.T e.C e.P e.y e.m e.d e.cc e.v e.Pg e.X)
  f:entD e.K e.kd e.A e.E e.T e.C e.P e.y e.m e.d e.cc e.v e.Pg e.X=true→∀ a,L a∈fld8→Ev (fun k=>spec_l4Field.f k e.K e.kd e.A e.E e.T e.C e.P e.y e.m e.d e.cc e.v e.Pg e.X a) ((txtF e.A e.E e.T e.C e.P e.y e.m e.d e.cc e.v e.Pg) a,true)∧Ev (fun k=>impl_fieldText.f k e.K e.kd e.A e.E e.T e.C e.P e.y e.m e.d e.cc e.v e.Pg e.X a) ((txtF e.A e.E e.T e.C e.P e.y e.m e.d e.cc e.v e.Pg) a)
theorem entV (e:EV) (ho:e.ok):EntV e:=by
  have oA:=okS_of ho.a;have oE:=okS_of ho.ee;refine ⟨spec_ent _ _ _ _ _ _ _ _ _ _ _ _ _ _ oA.1 oA.2.1 oE.1 oE.2.1,impl_ent _ _ _ _ _ _ _ _ _ _ _ _ _ _ oA.1 oA.2.1 oE.1 oE.2.1,fun g a ha=>?_⟩;unfold entD headE tailE at g;simp only [Bool.and_eq_true] at g
  have hv:0≤e.v∧e.v≤9999:=by
    have:=g.2.2.1.2;unfold volD at this
    simpa using this
  exact field_V _ _ _ _ _ _ _ _ _ _ _ _ _ _ a (n_ok g.1.2.2.1 oA.2.2) (n_ok g.1.2.2.2 oE.2.2) g.2.2.1.1 hv ha
theorem ev_get {α:Type} {f:Nat→Option α} {v:α} (h:Ev f v):∃ k0,∀ k,k0≤k→f k=some v:=h
theorem chg_law (a b:EV) (ha:a.ok) (hb:b.ok):∃ (k:Nat) (l:List ByteArray) (f:Bool),impl_ChangedFields.f k a.K a.kd a.A a.E a.T a.C a.P a.y a.m a.d a.cc a.v a.Pg a.X b.K b.kd b.A b.E b.T b.C b.P b.y b.m b.d b.cc b.v b.Pg b.X=some (l,f)∧impl_ChangedFields.f k b.K b.kd b.A b.E b.T b.C b.P b.y b.m b.d b.cc b.v b.Pg b.X a.K a.kd a.A a.E a.T a.C a.P a.y a.m a.d a.cc a.v a.Pg a.X=some (l,f)∧spec_ChangedFields.f k a.K a.kd a.A a.E a.T a.C a.P a.y a.m a.d a.cc a.v a.Pg a.X b.K b.kd b.A b.E b.T b.C b.P b.y b.m b.d b.cc b.v b.Pg b.X=some (l,f)∧laws_vTexts.f k l l=some true∧(f=true→laws_vEntry.f k a.K a.kd a.A a.E a.T a.C a.P a.y a.m a.d a.cc a.v a.Pg a.X b.K b.kd b.A b.E b.T b.C b.P b.y b.m b.d b.cc b.v b.Pg b.X=some ((l.length:Int) == 0)):=by
  obtain ⟨ax,ai,af⟩:=entV a ha;obtain ⟨bs,bi,bf⟩:=entV b hb;obtain ⟨e1,e2⟩:=chg_ev _ _ _ _ _ _ _ _ _ _ _ _ _ _ _ _ _ _ _ _ _ _ _ _ _ _ _ _ (txtF a.A a.E a.T a.C a.P a.y a.m a.d a.cc a.v a.Pg) (txtF b.A b.E b.T b.C b.P b.y b.m b.d b.cc b.v b.Pg) _ _ ax ai bs bi (fun h _=>af h) (fun _ h=>bf h);obtain ⟨_,e3⟩:=chg_ev _ _ _ _ _ _ _ _ _ _ _ _ _ _ _ _ _ _ _ _ _ _ _ _ _ _ _ _ (txtF b.A b.E b.T b.C b.P b.y b.m b.d b.cc b.v b.Pg) (txtF a.A a.E a.T a.C a.P a.y a.m a.d a.cc a.v a.Pg) _ _ bs bi ax ai (fun h _=>bf h) (fun _ h=>af h);by_cases g:entD a.K a.kd a.A a.E a.T a.C a.P a.y a.m a.d a.cc a.v a.Pg a.X=true∧entD b.K b.kd b.A b.E b.T b.C b.P b.y b.m b.d b.cc b.v b.Pg b.X=true
  · rw [if_pos g] at e1 e2
    rw [if_pos ⟨g.2,g.1⟩,chgL_comm] at e3;have hn:=chgL_len (txtF a.A a.E a.T a.C a.P a.y a.m a.d a.cc a.v a.Pg) (txtF b.A b.E b.T b.C b.P b.y b.m b.d b.cc b.v b.Pg) a.X b.X a.kd b.kd a.K b.K;have hz:=chgL_nil (txtF a.A a.E a.T a.C a.P a.y a.m a.d a.cc a.v a.Pg) (txtF b.A b.E b.T b.C b.P b.y b.m b.d b.cc b.v b.Pg) a.X b.X a.kd b.kd a.K b.K;generalize chgL (txtF a.A a.E a.T a.C a.P a.y a.m a.d a.cc a.v a.Pg) (txtF b.A b.E b.T b.C b.P b.y b.m b.d b.cc b.v b.Pg) a.X b.X a.kd b.kd a.K b.K=l at e1 e2 e3 hn hz
    have hq:((l.length:Int) == 0)=true ↔ AllEq a b:=by
      rw [beq_iff_eq]
      constructor
      · intro h0
        have hl:l=[]:=List.eq_nil_of_length_eq_zero (by omega);obtain ⟨q1,q2,q3,q4⟩:=hz.1 hl;obtain ⟨p1,p2,p3,p4,p5,p6,p7,p8⟩:=ent_inj g.1 g.2 q1;exact ⟨q4,q3,p1,p2,p3,p4,p5,p6,p7,p8,q2⟩
      · rintro ⟨q4,q3,p1,p2,p3,p4,p5,⟨p6,p7,p8,p9⟩,p10,mJ,q2⟩
        rw [hz.2 ⟨fun x _=>by rw [p1,p2,p3,p4,p5,p6,p7,p8,p9,p10,mJ],q2,q3,q4⟩];rfl
    obtain ⟨k1,h1⟩:=ev_get e1;obtain ⟨k2,h2⟩:=ev_get e2;obtain ⟨k3,h3⟩:=ev_get e3;obtain ⟨k4,h4⟩:=ev_get (vT_ev l l (by omega) (by omega));obtain ⟨k5,h5⟩:=ev_get (vE_ev a b ha hb _ hq);refine ⟨k1+k2+k3+k4+k5,l,true,h2 _ (by omega),h3 _ (by omega),h1 _ (by omega),?_,fun _=>h5 _ (by omega)⟩;rw [h4 _ (by omega),dt rfl]
  · rw [if_neg g] at e1 e2
    rw [if_neg (fun x=>g ⟨x.2,x.1⟩)] at e3;obtain ⟨k1,h1⟩:=ev_get e1;obtain ⟨k2,h2⟩:=ev_get e2;obtain ⟨k3,h3⟩:=ev_get e3;obtain ⟨k4,h4⟩:=ev_get (vT_ev [] [] (by simp) (by simp));refine ⟨k1+k2+k3+k4,[],false,h2 _ (by omega),h3 _ (by omega),h1 _ (by omega),?_,fun h=>by cases h⟩;rw [h4 _ (by omega),dt rfl]
end Go.Proofs.YtcbhlghofihjcaaGreatDoor.G

namespace Go.Proofs.YtcbhlghofihjcaaGreatDoor.G
open Go.RowKit Go.Proofs.YtcbhlghofihjcaaGreatDoorW.PrintWords Go.Proofs.YtcbhlghofihjcaaGreatDoorW.PrintLast Go.Proofs.YtcbhlghofihjcaaGreatDoorW.PrintMore
open Go.Proofs.YtcbhlghofihjcaaGreatDoor.Gl Go.Proofs.YtcbhlghofihjcaaGreatDoor.Ext
attribute [local go_sem] max2_int min2_int max_two min_two max_three min_three max_four min_four   -- for this text's walks alone
set_option linter.unusedVariables false
set_option linter.unusedSimpArgs false
def laws_vBig.f (l0:List Int):Option (Bool):=some (decide ((l0.length:Int)>65536))
set_option maxHeartbeats 8000000 in
theorem laws_vBig.calls (A0:Option Addr) (c0:Nat) (l0:List Int) (r:Bool) (w:World) (dW:Kd.C (Kd.int .u8) w A0 l0.length l0) (fT:l0.length≤c0) (h:laws_vBig.f l0=some r) :
  Calls Tryz.prog 4 #[.slice A0 l0.length c0] w fun e w'=>e=.returned (.bool r)∧Drawn0 w w':=by
 have iQ:=am dW;have zX:=am fT;clear dW fT;have H:(some (decide ((l0.length:Int)>65536)))=some r:=h;clear h;obtain rfl:=ojz H;go_enter Tryz.func4,Tryz.ntmps4;go_wp2;go_ret;exact ax1
end Go.Proofs.YtcbhlghofihjcaaGreatDoor.G

namespace Go.Proofs.YtcbhlghofihjcaaGreatDoor.G
open Go.RowKit Go.Proofs.YtcbhlghofihjcaaGreatDoorW.PrintWords Go.Proofs.YtcbhlghofihjcaaGreatDoorW.PrintLast Go.Proofs.YtcbhlghofihjcaaGreatDoorW.PrintMore Go.Proofs.YtcbhlghofihjcaaGreatDoor.B Go.Proofs.YtcbhlghofihjcaaGreatDoor.Gl Go.Proofs.YtcbhlghofihjcaaGreatDoor.Opn
set_option linter.unusedVariables false
set_option linter.unusedSimpArgs false
def laws_FnChangedFields.f (k:Nat) (l0:List Int):Option Bool:=if l0.length≤65536∧(l0.all (fun x=>decide (0≤x) && decide (x≤255)))=false then none else some true
structure LI (w W:World) (ga gb:Nat) (a b:EV) (A1:Option Addr) (c1:Nat) (A2:Option Addr) (c2:Nat) (A3:Option Addr) (c3:Nat) (A4:Option Addr) (c4:Nat):Prop where
 be:Below w.heap.size w W
 xa:W.heap[ga]?=some (.cells (a.cs (.slice A1 a.A.length c1) (.slice A2 a.E.length c2)) 28 (0,0))
 xb:W.heap[gb]?=some (.cells (b.cs (.slice A3 b.A.length c3) (.slice A4 b.E.length c4)) 28 (0,0))
 r1:Kd.R k68 68 W w.heap.size (fun k=>k≠ga∧k≠gb) (.slice A1 a.A.length c1) a.A
 r2:Kd.R k68 68 W w.heap.size (fun k=>k≠ga∧k≠gb) (.slice A2 a.E.length c2) a.E
 r3:Kd.R k68 68 W w.heap.size (fun k=>k≠ga∧k≠gb) (.slice A3 b.A.length c3) b.A
 r4:Kd.R k68 68 W w.heap.size (fun k=>k≠ga∧k≠gb) (.slice A4 b.E.length c4) b.E
section
variable {w W W1:World} {ga gb:Nat} {a b:EV} {A1:Option Addr} {c1:Nat} {A2:Option Addr} {c2:Nat} {A3:Option Addr} {c3:Nat} {A4:Option Addr} {c4:Nat}
theorem LI.below (h:LI w W ga gb a b A1 c1 A2 c2 A3 c3 A4 c4) (hb:Below W.heap.size W W1):LI w W1 ga gb a b A1 c1 A2 c2 A3 c3 A4 c4 :=
 ⟨below_step h.be hb,blk_below h.xa hb,blk_below h.xb hb,Kd.R_below h.r1 hb,Kd.R_below h.r2 hb,Kd.R_below h.r3 hb,Kd.R_below h.r4 hb⟩
theorem LI.new (hb:Below w.heap.size w W) (ha:W.heap[ga]?=some (.cells zer14 28 (0,0))) (hB:W.heap[gb]?=some (.cells zer14 28 (0,0))) (hga:w.heap.size≤ga) (hgb:w.heap.size≤gb) (hne:ga≠gb) (r1:Kd.R k68 68 W w.heap.size (fun _=>True) (.slice A1 a.A.length c1) a.A) (r2:Kd.R k68 68 W w.heap.size (fun _=>True) (.slice A2 a.E.length c2) a.E) (r3:Kd.R k68 68 W w.heap.size (fun _=>True) (.slice A3 b.A.length c3) b.A) (r4:Kd.R k68 68 W w.heap.size (fun _=>True) (.slice A4 b.E.length c4) b.E):LI w (W14 (W14 W ga a (.slice A1 a.A.length c1) (.slice A2 a.E.length c2)) gb b (.slice A3 b.A.length c3) (.slice A4 b.E.length c4)) ga gb a b A1 c1 A2 c2 A3 c3 A4 c4:=by
 have r:∀ {v:Value} {l:List S68},Kd.R k68 68 W w.heap.size (fun _=>True) v l→Kd.R k68 68 (W14 (W14 W ga a (.slice A1 a.A.length c1) (.slice A2 a.E.length c2)) gb b (.slice A3 b.A.length c3) (.slice A4 b.E.length c4)) w.heap.size (fun k=>k≠ga∧k≠gb) v l:=by
  intro v l hr;have h1:Kd.R k68 68 W w.heap.size (fun k=>k≠ga∧k≠gb) v l:=Kd.R_mono (Kd.R_types (Kd.R_types hr ha (by decide)) hB (by decide)) (fun _ hk=>⟨hk.1.2,hk.2⟩);exact W14.keep (Q:=fun X=>Kd.R k68 68 X w.heap.size (fun k=>k≠ga∧k≠gb) v l) (fun X j u q=>Kd.R_far (p:=⟨gb,j,none⟩) q (fun _ hk=>hk.2) u) (W14.keep (Q:=fun X=>Kd.R k68 68 X w.heap.size (fun k=>k≠ga∧k≠gb) v l) (fun X j u q=>Kd.R_far (p:=⟨ga,j,none⟩) q (fun _ hk=>hk.1) u) h1 a _ _) b _ _
 exact ⟨W14.keep (Q:=fun X=>Below w.heap.size w X) (fun X j u q=>q.setCell hgb u) (W14.keep (Q:=fun X=>Below w.heap.size w X) (fun X j u q=>q.setCell hga u) hb a _ _) b _ _,
  W14.keep (gb:=gb) (Q:=fun X=>X.heap[ga]?=some (.cells (a.cs (.slice A1 a.A.length c1) (.slice A2 a.E.length c2)) 28 (0,0))) (fun X j u q=>blk_far q (p:=⟨gb,j,none⟩) hne u) (put14 ha a _ _) b _ _,
  put14 (W14.keep (gb:=ga) (Q:=fun X=>X.heap[gb]?=some (.cells zer14 28 (0,0))) (fun X j u q=>blk_far q (p:=⟨ga,j,none⟩) hne.symm u) hB a _ _) b _ _,r r1,r r2,r r3,r r4⟩
end
theorem drawn_below {w w':World} (h:Drawn0 w w'):Below w.heap.size w w':=by
 obtain ⟨n,rfl⟩:=h;exact pw_below_drewN (Below.refl _ _) n
set_option maxHeartbeats 16000000 in
theorem laws_FnChangedFields.calls (k:Nat) (A0:Option Addr) (c0:Nat) (l0:List Int) (w:World) {gF2:Bool} (hG:GL true gF2 true w) (dW:Kd.C (Kd.int .u8) w A0 l0.length l0) (fT:l0.length≤c0) (h:laws_FnChangedFields.f k l0=some true) :
  Calls Tryz.prog 3 #[.slice A0 l0.length c0] w fun e w'=>e=.returned (.bool true)∧Below w.heap.size w w':=by
 have HG:=am hG;have HR:=am dW;have HC:=am fT;have HB:=am (Below.refl w.heap.size w);have hu:=Tryz.underlying28;clear hG dW fT;by_cases hL:l0.length≤65536
 ·
  have hT:BtL l0:=by
   refine ⟨hL,?_⟩;unfold laws_FnChangedFields.f at h;by_cases q:l0.all (fun x=>decide (0≤x) && decide (x≤255))=true
   ·
    intro x hx;have:=List.all_eq_true.1 q x hx
    simpa using this
   ·
    rw [if_pos ⟨hL,by simpa using q⟩] at h
    cases h
  have HT:=am hT;have HV:=am (show laws_vBig.f l0=some false from by unfold laws_vBig.f;rw [df (by omega)]);clear hT h hL;go_enter Tryz.func3,Tryz.ntmps3
  go_upto_region 9 with (first
   | (go_at_call 4;(refine (laws_vBig.calls A0 c0 l0 false _ HR.out HC.out HV.out).mono ?_);rintro e w1 ⟨rfl,hd⟩;have hb:=drawn_below hd;have n_:=am (Kd.C_below HR.out hb);clear HR;have HR:=n_;clear n_;have n_:=am (below_step HB.out hb);clear HB;have HB:=n_;clear n_;clear hd hb HV)
   | (go_at_call 5;(refine (drawC_rel A0 c0 l0 _ HR.out HC.out HT.out).mono ?_);rintro e w2 ⟨a,b,A1,c1,A2,c2,A3,c3,A4,c4,rfl,⟨h1,h2⟩,⟨h3,h4⟩,oa,ob,hb⟩;obtain ⟨k,l,f,q1,q2,q3,q4,q5⟩:=chg_law a b oa ob;have Q1:=am q1;have Q2:=am q2;have Q3:=am q3;have Q4:=am q4;have Q5:=am q5;clear q1 q2 q3 q4 q5;have hs_:=below_size HB.out;have qO:=am (Kd.R_lower h1 hs_);have Hf:=am (Kd.R_lower h2 hs_);have Q7:=am (Kd.R_lower h3 hs_);have Q8:=am (Kd.R_lower h4 hs_);have n_:=am (below_step HB.out hb);clear HB;have HB:=n_;clear n_;clear h1 h2 h3 h4 hs_ hb;have hff:(f != f)=false:=by simp)
   | ((with_reducible refine gate_dst (N:=3) rfl ?_);(try (refine gate_guard (by rfl) ?_;dsimp only));refine box_event ?hg (N:=3) ?hd (cs:=#[.string (⟨#[]⟩:ByteArray),.int .i64 0,.slice none 0 0,.slice none 0 0,.string (⟨#[]⟩:ByteArray),.string (⟨#[]⟩:ByteArray),.string (⟨#[]⟩:ByteArray),.int .i64 0,.int .i64 0,.int .i64 0,.bool false,.int .i64 0,.string (⟨#[]⟩:ByteArray),.string (⟨#[]⟩:ByteArray)]) (t:=28) ?hr ?_;(case hd=>rfl);(case hg=>rfl);(case hr=>first|(go_simp;done)|(go_simp;rfl));intro ga hg w3 hbox hb;have HGa:=am (show w.heap.size≤ga from by rw [hg];exact below_size HB.out);have n_:=am (below_step HB.out hb);clear HB;have HB:=n_;clear n_;have n_:=am (Kd.R_below qO.out hb);clear qO;have qO:=n_;clear n_;have n_:=am (Kd.R_below Hf.out hb);clear Hf;have Hf:=n_;clear n_;have n_:=am (Kd.R_below Q7.out hb);clear Q7;have Q7:=n_;clear n_;have n_:=am (Kd.R_below Q8.out hb);clear Q8;have Q8:=n_;clear n_;have HX:=am hbox;clear hg hbox hb)
   | ((with_reducible refine gate_dst (N:=4) rfl ?_);(try (refine gate_guard (by rfl) ?_;dsimp only));refine box_event ?hg (N:=4) ?hd (cs:=#[.string (⟨#[]⟩:ByteArray),.int .i64 0,.slice none 0 0,.slice none 0 0,.string (⟨#[]⟩:ByteArray),.string (⟨#[]⟩:ByteArray),.string (⟨#[]⟩:ByteArray),.int .i64 0,.int .i64 0,.int .i64 0,.bool false,.int .i64 0,.string (⟨#[]⟩:ByteArray),.string (⟨#[]⟩:ByteArray)]) (t:=28) ?hr ?_;(case hd=>rfl);(case hg=>rfl);(case hr=>first|(go_simp;done)|(go_simp;rfl));intro gb hg w4 hbox hb;have HGb:=am (show w.heap.size≤gb from by rw [hg];exact below_size HB.out);have HNe:=am (show ga≠gb from by rw [hg];exact Nat.ne_of_lt (blk_lt HX.out));have n_:=am (below_step HB.out hb);clear HB;have HB:=n_;clear n_;have n_:=am (Kd.R_below qO.out hb);clear qO;have qO:=n_;clear n_;have n_:=am (Kd.R_below Hf.out hb);clear Hf;have Hf:=n_;clear n_;have n_:=am (Kd.R_below Q7.out hb);clear Q7;have Q7:=n_;clear n_;have n_:=am (Kd.R_below Q8.out hb);clear Q8;have Q8:=n_;clear n_;have n_:=am (blk_below HX.out hb);clear HX;have HX:=n_;clear n_;have HY:=am hbox;have m1:=HNe.out;have m2:=HNe.out.symm;obtain ⟨⟨z0,z1,z2,z3,z4,z5,z6,z7,z8,z9,eR,eS,eT,eU⟩,y0,y1,y2,y3,y4,y5,y6,y7,y8,y9,cV,cW,cX,cY⟩:=zcells HX.out;obtain ⟨⟨t0,t1,t2,t3,t4,t5,t6,t7,t8,t9,F3,F4,F5,F6⟩,s0,s1,s2,s3,s4,s5,s6,s7,s8,s9,wR,wT,wU,wV⟩:=zcells HY.out;clear hg hbox hb)
   | (go_at_call 6;have HL:=am (LI.new HB.out HX.out HY.out HGa.out HGb.out HNe.out qO.out Hf.out Q7.out Q8.out);clear HX;(refine (impl_ChangedFields.calls (hG:=HG.out.below HL.out.be) k a.K a.kd A1 c1 a.A A2 c2 a.E a.T a.C a.P a.y a.m a.d a.cc a.v a.Pg a.X b.K b.kd A3 c3 b.A A4 c4 b.E b.T b.C b.P b.y b.m b.d b.cc b.v b.Pg b.X l f _ (Kd.R_reads' HL.out.r1).2.2 (Kd.R_reads' HL.out.r1).2.1 (Kd.R_reads' HL.out.r2).2.2 (Kd.R_reads' HL.out.r2).2.1 (Kd.R_reads' HL.out.r3).2.2 (Kd.R_reads' HL.out.r3).2.1 (Kd.R_reads' HL.out.r4).2.2 (Kd.R_reads' HL.out.r4).2.1 Q1.out).mono ?_);rintro e w5 ⟨v_,rfl,ho,hb⟩;obtain ⟨A5,c5,e_⟩:=Kd.R_slice ho;subst e_;have n_:=am (LI.below HL.out hb);clear HL;have HL:=n_;clear n_;skip;have wY:=am ho;clear ho hb;(try clear z0 z1 z2 z3 z4 z5 z6 z7 z8 z9 eR eS eT eU y0 y1 y2 y3 y4 y5 y6 y7 y8 y9 cV cW cX cY t0 t1 t2 t3 t4 t5 t6 t7 t8 t9 F3 F4 F5 F6 s0 s1 s2 s3 s4 s5 s6 s7 s8 s9 wR wT wU wV);obtain ⟨⟨z0,z1,z2,z3,z4,z5,z6,z7,z8,z9,eR,eS,eT,eU⟩,y0,y1,y2,y3,y4,y5,y6,y7,y8,y9,cV,cW,cX,cY⟩:=ecells HL.out.xa;obtain ⟨⟨t0,t1,t2,t3,t4,t5,t6,t7,t8,t9,F3,F4,F5,F6⟩,s0,s1,s2,s3,s4,s5,s6,s7,s8,s9,wR,wT,wU,wV⟩:=ecells HL.out.xb)
   | (go_at_call 6;(refine (impl_ChangedFields.calls (hG:=HG.out.below HL.out.be) k b.K b.kd A3 c3 b.A A4 c4 b.E b.T b.C b.P b.y b.m b.d b.cc b.v b.Pg b.X a.K a.kd A1 c1 a.A A2 c2 a.E a.T a.C a.P a.y a.m a.d a.cc a.v a.Pg a.X l f _ (Kd.R_reads' HL.out.r3).2.2 (Kd.R_reads' HL.out.r3).2.1 (Kd.R_reads' HL.out.r4).2.2 (Kd.R_reads' HL.out.r4).2.1 (Kd.R_reads' HL.out.r1).2.2 (Kd.R_reads' HL.out.r1).2.1 (Kd.R_reads' HL.out.r2).2.2 (Kd.R_reads' HL.out.r2).2.1 Q2.out).mono ?_);rintro e w6 ⟨v_,rfl,ho,hb⟩;obtain ⟨A6,c6,e_⟩:=Kd.R_slice ho;subst e_;have n_:=am (LI.below HL.out hb);clear HL;have HL:=n_;clear n_;have n_:=am (Kd.R_below wY.out hb);clear wY;have wY:=n_;clear n_;have Fw:=am ho;clear ho hb;(try clear z0 z1 z2 z3 z4 z5 z6 z7 z8 z9 eR eS eT eU y0 y1 y2 y3 y4 y5 y6 y7 y8 y9 cV cW cX cY t0 t1 t2 t3 t4 t5 t6 t7 t8 t9 F3 F4 F5 F6 s0 s1 s2 s3 s4 s5 s6 s7 s8 s9 wR wT wU wV);obtain ⟨⟨z0,z1,z2,z3,z4,z5,z6,z7,z8,z9,eR,eS,eT,eU⟩,y0,y1,y2,y3,y4,y5,y6,y7,y8,y9,cV,cW,cX,cY⟩:=ecells HL.out.xa;obtain ⟨⟨t0,t1,t2,t3,t4,t5,t6,t7,t8,t9,F3,F4,F5,F6⟩,s0,s1,s2,s3,s4,s5,s6,s7,s8,s9,wR,wT,wU,wV⟩:=ecells HL.out.xb)
   | (go_at_call 7;(refine (spec_ChangedFields.calls k a.K a.kd A1 c1 a.A A2 c2 a.E a.T a.C a.P a.y a.m a.d a.cc a.v a.Pg a.X b.K b.kd A3 c3 b.A A4 c4 b.E b.T b.C b.P b.y b.m b.d b.cc b.v b.Pg b.X l f _ (Kd.R_reads' HL.out.r1).2.2 (Kd.R_reads' HL.out.r1).2.1 (Kd.R_reads' HL.out.r2).2.2 (Kd.R_reads' HL.out.r2).2.1 (Kd.R_reads' HL.out.r3).2.2 (Kd.R_reads' HL.out.r3).2.1 (Kd.R_reads' HL.out.r4).2.2 (Kd.R_reads' HL.out.r4).2.1 Q3.out).mono ?_);rintro e w7 ⟨v_,rfl,ho,hb⟩;obtain ⟨A7,c7,e_⟩:=Kd.R_slice ho;subst e_;have n_:=am (LI.below HL.out hb);clear HL;have HL:=n_;clear n_;have n_:=am (Kd.R_below wY.out hb);clear wY;have wY:=n_;clear n_;have n_:=am (Kd.R_below Fw.out hb);clear Fw;have Fw:=n_;clear n_;have TK:=am trivial;have MS:=am ho;clear ho hb;(try clear z0 z1 z2 z3 z4 z5 z6 z7 z8 z9 eR eS eT eU y0 y1 y2 y3 y4 y5 y6 y7 y8 y9 cV cW cX cY t0 t1 t2 t3 t4 t5 t6 t7 t8 t9 F3 F4 F5 F6 s0 s1 s2 s3 s4 s5 s6 s7 s8 s9 wR wT wU wV);obtain ⟨⟨z0,z1,z2,z3,z4,z5,z6,z7,z8,z9,eR,eS,eT,eU⟩,y0,y1,y2,y3,y4,y5,y6,y7,y8,y9,cV,cW,cX,cY⟩:=ecells HL.out.xa;obtain ⟨⟨t0,t1,t2,t3,t4,t5,t6,t7,t8,t9,F3,F4,F5,F6⟩,s0,s1,s2,s3,s4,s5,s6,s7,s8,s9,wR,wT,wU,wV⟩:=ecells HL.out.xb)
   | (go_at_call 8;clear TK;(refine (laws_vTexts.calls k A5 c5 l A7 c7 l true _ (Kd.R_reads' wY.out).2.2 (Kd.R_reads' wY.out).2.1 (Kd.R_reads' MS.out).2.2 (Kd.R_reads' MS.out).2.1 Q4.out).mono ?_);rintro e w8 ⟨rfl,hd⟩;have hb:=drawn_below hd;have n_:=am (LI.below HL.out hb);clear HL;have HL:=n_;clear n_;have n_:=am (Kd.R_below wY.out hb);clear wY;have wY:=n_;clear n_;have n_:=am (Kd.R_below Fw.out hb);clear Fw;have Fw:=n_;clear n_;have n_:=am (Kd.R_below MS.out hb);clear MS;have MS:=n_;clear n_;clear hd hb;(try clear z0 z1 z2 z3 z4 z5 z6 z7 z8 z9 eR eS eT eU y0 y1 y2 y3 y4 y5 y6 y7 y8 y9 cV cW cX cY t0 t1 t2 t3 t4 t5 t6 t7 t8 t9 F3 F4 F5 F6 s0 s1 s2 s3 s4 s5 s6 s7 s8 s9 wR wT wU wV);obtain ⟨⟨z0,z1,z2,z3,z4,z5,z6,z7,z8,z9,eR,eS,eT,eU⟩,y0,y1,y2,y3,y4,y5,y6,y7,y8,y9,cV,cW,cX,cY⟩:=ecells HL.out.xa;obtain ⟨⟨t0,t1,t2,t3,t4,t5,t6,t7,t8,t9,F3,F4,F5,F6⟩,s0,s1,s2,s3,s4,s5,s6,s7,s8,s9,wR,wT,wU,wV⟩:=ecells HL.out.xb)
   | (go_at_call 8;skip;(refine (laws_vTexts.calls k A6 c6 l A5 c5 l true _ (Kd.R_reads' Fw.out).2.2 (Kd.R_reads' Fw.out).2.1 (Kd.R_reads' wY.out).2.2 (Kd.R_reads' wY.out).2.1 Q4.out).mono ?_);rintro e w9 ⟨rfl,hd⟩;have hb:=drawn_below hd;have n_:=am (LI.below HL.out hb);clear HL;have HL:=n_;clear n_;have n_:=am (Kd.R_below wY.out hb);clear wY;have wY:=n_;clear n_;have n_:=am (Kd.R_below Fw.out hb);clear Fw;have Fw:=n_;clear n_;have n_:=am (Kd.R_below MS.out hb);clear MS;have MS:=n_;clear n_;clear hd hb;(try clear z0 z1 z2 z3 z4 z5 z6 z7 z8 z9 eR eS eT eU y0 y1 y2 y3 y4 y5 y6 y7 y8 y9 cV cW cX cY t0 t1 t2 t3 t4 t5 t6 t7 t8 t9 F3 F4 F5 F6 s0 s1 s2 s3 s4 s5 s6 s7 s8 s9 wR wT wU wV);obtain ⟨⟨z0,z1,z2,z3,z4,z5,z6,z7,z8,z9,eR,eS,eT,eU⟩,y0,y1,y2,y3,y4,y5,y6,y7,y8,y9,cV,cW,cX,cY⟩:=ecells HL.out.xa;obtain ⟨⟨t0,t1,t2,t3,t4,t5,t6,t7,t8,t9,F3,F4,F5,F6⟩,s0,s1,s2,s3,s4,s5,s6,s7,s8,s9,wR,wT,wU,wV⟩:=ecells HL.out.xb))
  cases f with
  | false =>
   go_wp2;go_ret;exact ⟨rfl,HL.out.be⟩
  | true =>
   go_wp2_with (first
    | (go_at_call 9;(refine (laws_vEntry.calls k a.K a.kd A1 c1 a.A A2 c2 a.E a.T a.C a.P a.y a.m a.d a.cc a.v a.Pg a.X b.K b.kd A3 c3 b.A A4 c4 b.E b.T b.C b.P b.y b.m b.d b.cc b.v b.Pg b.X _ _ (Kd.R_reads' HL.out.r1).2.2 (Kd.R_reads' HL.out.r1).2.1 (Kd.R_reads' HL.out.r2).2.2 (Kd.R_reads' HL.out.r2).2.1 (Kd.R_reads' HL.out.r3).2.2 (Kd.R_reads' HL.out.r3).2.1 (Kd.R_reads' HL.out.r4).2.2 (Kd.R_reads' HL.out.r4).2.1 (Q5.out rfl)).mono ?_);rintro e ER ⟨rfl,hb⟩;have n_:=am (LI.below HL.out hb);clear HL;have HL:=n_;clear n_;clear hb))
   go_ret;exact ⟨by simp,HL.out.be⟩
 ·
  have HV:=am (show laws_vBig.f l0=some true from by unfold laws_vBig.f;rw [dt (by omega)]);go_enter Tryz.func3,Tryz.ntmps3
  go_wp2_with (first
   | (go_at_call 4;(refine (laws_vBig.calls A0 c0 l0 true _ HR.out HC.out HV.out).mono ?_);rintro e w1 ⟨rfl,hd⟩;have hb:=drawn_below hd;have n_:=am (below_step HB.out hb);clear HB;have HB:=n_;clear n_;clear hd hb))
  go_ret;exact ⟨rfl,HB.out⟩
end Go.Proofs.YtcbhlghofihjcaaGreatDoor.G

namespace Go.Proofs.YtcbhlghofihjcaaGreatDoor.G
open Go.Proofs.YtcbhlghofihjcaaGreatDoor.Opn
open Go.RowKit Go.Proofs.YtcbhlghofihjcaaGreatDoorW.PrintWords Go.Proofs.YtcbhlghofihjcaaGreatDoorW.PrintLast Go.Proofs.YtcbhlghofihjcaaGreatDoorW.PrintMore
open Go.Proofs.YtcbhlghofihjcaaGreatDoor.Gl Go.Proofs.YtcbhlghofihjcaaGreatDoor.Ext
attribute [local go_sem] max2_int min2_int max_two min_two max_three min_three max_four min_four   -- for this text's walks alone
set_option linter.unusedVariables false
set_option linter.unusedSimpArgs false
def laws_FnChangedFields.Pur:Prop:=∀ (l0:List Int),okList (okInt .u8) l0→∃ k,laws_FnChangedFields.f k l0=some true
theorem laws_FnChangedFields.wlk (P:laws_FnChangedFields.Pur) (A0:Option Addr) (c0:Nat) (l0:List Int) (w:World) (dW:Kd.C (Kd.int .u8) w A0 l0.length l0) (fT:l0.length≤c0) {gF2:Bool} (hG:GL true gF2 true w) (bl0:okList (okInt .u8) l0) :
    Calls Tryz.prog 3 #[.slice A0 l0.length c0] w fun e w'=>e=.returned (.bool true)∧Below w.heap.size w w':=by
  obtain ⟨k,h⟩:=P l0 bl0;refine (laws_FnChangedFields.calls k A0 c0 l0 w hG dW fT h).mono ?_;rintro e w' ⟨rfl,hd⟩;exact ⟨rfl,hd⟩
end Go.Proofs.YtcbhlghofihjcaaGreatDoor.G

namespace Go.Proofs.YtcbhlghofihjcaaGreatDoor.Pure
open Go.RowKit Go.Proofs.YtcbhlghofihjcaaGreatDoor.G Go.Proofs.YtcbhlghofihjcaaGreatDoorW.PrintWords Go.Proofs.YtcbhlghofihjcaaGreatDoorW.PrintLast Go.Proofs.YtcbhlghofihjcaaGreatDoor.B Go.Proofs.YtcbhlghofihjcaaGreatDoor.Opn
set_option linter.unusedVariables false
set_option linter.unusedSimpArgs false
theorem FnChangedFields:laws_FnChangedFields.Pur:=by
  intro l0 h;refine ⟨0,?_⟩;unfold laws_FnChangedFields.f;rw [if_neg];rintro ⟨h1,h2⟩;have hb:=(bt_of h h1).2
  have:l0.all (fun x=>decide (0≤x) && decide (x≤255))=true:=List.all_eq_true.2 (fun x hx=>by
    have:=hb x hx;simp only [Bool.and_eq_true,decide_eq_true_eq]
    exact this)
  rw [h2] at this
  cases this
end Go.Proofs.YtcbhlghofihjcaaGreatDoor.Pure
