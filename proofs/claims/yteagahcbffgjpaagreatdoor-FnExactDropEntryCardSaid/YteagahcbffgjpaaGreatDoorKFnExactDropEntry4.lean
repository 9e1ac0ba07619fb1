/- Texts of this session for the law FnExactDropEntry, put together by a program (merge.py): each ends with its namespace; conditions stand with each theorem. -/
import Derived.Test.YteagahcbffgjpaaGreatDoorKFnExactDropEntry2
import Derived.Test.YteagahcbffgjpaaGreatDoorKFnExactDropEntry3
namespace Go.Proofs.YteagahcbffgjpaaGreatDoor.G
open Go.RowKit Go.Proofs.YteagahcbffgjpaaGreatDoorW.PrintWords Go.Proofs.YteagahcbffgjpaaGreatDoorW.PrintLast Go.Proofs.YteagahcbffgjpaaGreatDoorW.PrintMore
open Go.Proofs.YteagahcbffgjpaaGreatDoor.Gl Go.Proofs.YteagahcbffgjpaaGreatDoor.Ext
attribute [local go_sem] max2_int min2_int max_two min_two max_three min_three max_four min_four   -- for this text's walks alone
set_option linter.unusedVariables false
set_option linter.unusedSimpArgs false
def impl_areNames_1.f (k:Nat) (aA:List ByteArray) (aH:ByteArray) (aW:ByteArray) (aY:ByteArray):Option (Bool):=(impl_IsValidName.f k aA aH aW aY).bind fun uZ=>(some (!uZ))
theorem impl_areNames_1.mono:∀ a0 a1 a2 a3 k,LeO (impl_areNames_1.f k a0 a1 a2 a3) (impl_areNames_1.f (k+1) a0 a1 a2 a3):=by
 intro a0 a1 a2 a3 k;unfold impl_areNames_1.f
 repeat' first
   | (with_reducible exact impl_IsValidName.mono _ _ _ _ _)
   | (with_reducible exact LeO.refl _)
   | (with_reducible exact LeO.none _)
   | (with_reducible refine LeO.ite ?_ ?_)
   | (with_reducible refine LeO.bind ?_ (fun _=>?_))
   | exact impl_IsValidName.mono _ _ _ _ _
   | exact LeO.none _
   | refine LeO.ite ?_ ?_
   | refine LeO.bind ?_ (fun _=>?_)
set_option maxHeartbeats 8000000 in
set_option maxRecDepth 100000 in
theorem impl_areNames_1.calls (k:Nat) (bH:Option Addr) (bA:Nat) (aA:List ByteArray) (aH:ByteArray) (aW:ByteArray) (aY:ByteArray) (r:Bool) (w:World) {gF1 gF2 gF3:Bool} (hG:GL gF1 gF2 gF3 w) (cE:Kd.C Kd.string w bH aA.length aA) (cA:aA.length≤bA) (h:impl_areNames_1.f k aA aH aW aY=some r) :
  Calls Tryz.prog 62 #[.agg #[.slice bH aA.length bA,.string aH,.string aW,.string aY]] w fun e w'=>e=.returned (.bool r)∧Below w.heap.size w w':=by
 have HG:=am hG;clear hG;have hu69:=Tryz.underlying69;have cM:=am cE;have eO:=am cA;clear cE cA;have HB:=am (Below.refl w.heap.size w);have H:((impl_IsValidName.f k aA aH aW aY).bind fun uZ=>(some (!uZ)))=some r:=h;clear h;replace H:=ob H;obtain ⟨uZ,fC,H⟩:=H
 try dsimp only at H
 have A2:=am fC;clear fC;obtain rfl:=ojz H;go_enter Tryz.func62,Tryz.ntmps62;go_wp2_with (first|((with_reducible refine gate_dst (N:=1) rfl ?_);refine box_event ?hg (N:=1) ?hd (cs:=#[.slice bH aA.length bA,.string aH,.string aW,.string aY]) (t:=69) ?hr ?_;(case hd=>rfl);(case hg=>rfl);(case hr=>first|(go_simp;done)|(go_simp;rfl));intro aDL hg w3 hbox hb;have a3Q:=am (hbox);have aWX:=am (bsz hg au46);have afQ:=am (bsz hg au46);replace HB:=am (below_step au46 hb);clear hb hbox hg;obtain ⟨mX,qU,qV,qW,mY,qX,qY,qZ⟩:=blkc4 a3Q.out)|((with_reducible refine gate_callee (f:=63) rfl ?_);refine goesL_ (some 4) rfl rfl Tryz.func63 (by kernel_rfl) rfl #[.agg #[.slice bH aA.length bA,.string aH,.string aW,.string aY]] rfl au45 ?_;(with_reducible refine (impl_IsValidName.calls (hG:=au0) k _ _ aA aH aW aY uZ _ ?aU ?aV A2.out).mono ?_);(case aU=>repeat (first|exact (Kd.C_below cM.out HB.out)|(with_reducible refine Kd.C_alloc ?_ _)|(with_reducible refine Kd.C_drewN ?_ _)|(with_reducible refine Kd.C_drew ?_)));(case aV=>exact eO.out);rintro e w5 ⟨rfl,hb⟩;refine ⟨_,rfl,?_⟩;replace a3Q:=am (blk_below (g:=aDL) (by (with_reducible repeat (first|refine blk_drewN ?_ _|refine blk_drew ?_|refine blk_alloc ?_ _));exact a3Q.out) hb);replace HB:=am (below_step (by repeat (first|(with_reducible first|exact HB.out|apply below_alloc|apply pw_below_drewN|apply below_drew1|refine below_set ?_ afQ.out)|exact HB.out)) hb);(try clear hb)));go_ret;exact ⟨by first|rfl|(simp [errW_none,errW_some] <;> rfl)|(simp [*,errW_none,errW_some] <;> rfl),by repeat (first|(with_reducible first|exact HB.out|apply below_alloc|apply pw_below_drewN|apply below_drew1|refine below_set ?_ afQ.out)|exact HB.out)⟩
def impl_Name_73_at_62.l0:Nat→List (S69)→Int→Int→Option (Int)
 | 0,_,_,_=>none
 | k+1,x0,x7,x8=>if x8<x7 then (if 0≤x8 then (if x8<(x0.length:Int) then ((impl_areNames_1.f k ((rd_T69 x0 x8).f0) ((rd_T69 x0 x8).f1) ((rd_T69 x0 x8).f2) ((rd_T69 x0 x8).f3)).bind fun pT=>(if pT=true then (some x8) else (impl_Name_73_at_62.l0 k x0 x7 (wrap64 (x8+1))))) else (none)) else (none)) else (some (-1))
def impl_Name_73_at_62.f (k:Nat) (l0:List (S69)) :Option (Int):=impl_Name_73_at_62.l0 k l0 (l0.length:Int) 0
theorem impl_Name_73_at_62.mono_l:∀ k,(∀ y0 y1 y2,LeO (impl_Name_73_at_62.l0 k y0 y1 y2) (impl_Name_73_at_62.l0 (k+1) y0 y1 y2))
 | 0=>fun _ _ _ r h=>by simp [impl_Name_73_at_62.l0] at h
 | k+1=>by
  have ih0:=impl_Name_73_at_62.mono_l k
  ·
   intro y0 y1 y2;unfold impl_Name_73_at_62.l0
   repeat' first
   | (with_reducible exact ih0 _ _ _)
   | (with_reducible exact impl_areNames_1.mono _ _ _ _ _)
   | (with_reducible exact LeO.refl _)
   | (with_reducible exact LeO.none _)
   | (with_reducible refine LeO.ite ?_ ?_)
   | (with_reducible refine LeO.bind ?_ (fun _=>?_))
   | exact ih0 _ _ _
   | exact impl_areNames_1.mono _ _ _ _ _
   | exact LeO.none _
   | refine LeO.ite ?_ ?_
   | refine LeO.bind ?_ (fun _=>?_)
theorem impl_Name_73_at_62.mono:∀ a0 k,LeO (impl_Name_73_at_62.f k a0) (impl_Name_73_at_62.f (k+1) a0):=by
 intro a0 k;have ih0:=impl_Name_73_at_62.mono_l k;unfold impl_Name_73_at_62.f
 repeat' first
   | (with_reducible exact ih0 _ _ _)
   | (with_reducible exact impl_areNames_1.mono _ _ _ _ _)
   | (with_reducible exact LeO.refl _)
   | (with_reducible exact LeO.none _)
   | (with_reducible refine LeO.ite ?_ ?_)
   | (with_reducible refine LeO.bind ?_ (fun _=>?_))
   | exact ih0 _ _ _
   | exact impl_areNames_1.mono _ _ _ _ _
   | exact LeO.none _
   | refine LeO.ite ?_ ?_
   | refine LeO.bind ?_ (fun _=>?_)
set_option maxHeartbeats 8000000 in
set_option maxRecDepth 100000 in
theorem impl_Name_73_at_62.calls (k:Nat) (A0:Option Addr) (c0:Nat) (l0:List (S69))  (r:Int) (w:World) {gF1 gF2 gF3:Bool} (hG:GL gF1 gF2 gF3 w) (dH:Kd.C k69 w A0 l0.length l0) (cP:l0.length≤c0) (h:impl_Name_73_at_62.f k l0=some r) :
  Calls Tryz.prog 73 #[.slice A0 l0.length c0,.func (.func 62) #[] #[]] w fun e w'=>e=.returned (.int .i64 r)∧Below w.heap.size w w':=by
 have HG:=am hG;clear hG;have hu69:=Tryz.underlying69;have cW:=am dH;have mM:=am cP;clear dH cP;have HB:=am (Below.refl w.heap.size w);have H:(impl_Name_73_at_62.l0 k l0 (l0.length:Int) 0)=some r:=h;clear h;have H':=am H;clear H;go_enter Tryz.func73,Tryz.ntmps73;go_wp2
 go_loopg [8] k (fun kq v8 w'=>∃ (aD:Int),v8=.int .i64 aD∧Aside0 (impl_Name_73_at_62.l0 kq l0 (l0.length:Int) aD=some r)∧Aside0 (kq≤k)∧Aside0 (Below w.heap.size w w'))
 case atStart=>exact ⟨(0),au88,H',⟨Nat.le_refl _⟩,⟨by repeat (first|(with_reducible first|exact HB.out|apply below_alloc|apply pw_below_drewN|apply below_drew1)|exact HB.out)⟩⟩
 case round =>
  clear H'
  try clear p2
  obtain ⟨aD,rfl,HA,HK1,HB⟩:=hrel
  cases gk with
  | zero=>exact absurd HA.out (by simp [impl_Name_73_at_62.l0])
  | succ k1 =>
   have H:=HA.out;clear HA;simp only [impl_Name_73_at_62.l0] at H;by_cases c3:aD<(l0.length:Int)
   ·
    rw [if_pos c3] at H;have c3b0:=dt c3;clear c3;by_cases c4:0≤aD
    ·
     rw [if_pos c4] at H;have c4b0:=dt c4;clear c4;by_cases c5:aD<(l0.length:Int)
     ·
      rw [if_pos c5] at H;have c5b0:=dt c5;clear c5;replace H:=ob H;obtain ⟨pT,iV,H⟩:=H
      try dsimp only at H
      have A6:=am iV;clear iV;by_cases c7:pT=true
      ·
       subst c7;replace H:=(if_pos rfl).symm.trans H;obtain rfl:=ojz H;have nD:0≤(aD:Int):=od au87;have nE:aD<(l0.length:Int):=od au87;obtain ⟨a3O,Ol,Om,IZ,pX,xP,xQ,xR,xS,xT⟩:=at_T69 cW.out aD nD nE
       cases IZ
       replace pX:=bcl HB.out pX;replace xP:=bcl HB.out xP;replace xQ:=bcl HB.out xQ;replace xR:=bcl HB.out xR;have Lk:=am xT;have Ll:=am xS;clear xT xS;replace nD:=eq_true nD;replace nE:=eq_true nE;go_wp2_with (first|((with_reducible refine gate_tmp (t:=11) rfl ?_);refine goesLt_ (t:=11) (show _=Value.func (.func 62) #[] #[] from rfl) (some 16) rfl rfl Tryz.func62 (by kernel_rfl) rfl #[.agg #[.slice Ol ((rd_T69 l0 aD).f0).length Om,.string ((rd_T69 l0 aD).f1),.string ((rd_T69 l0 aD).f2),.string ((rd_T69 l0 aD).f3)]] rfl au45 ?_;(with_reducible refine (impl_areNames_1.calls (hG:=au0) k1 _ _ ((rd_T69 l0 aD).f0) ((rd_T69 l0 aD).f1) ((rd_T69 l0 aD).f2) ((rd_T69 l0 aD).f3) true _ ?aU ?aV A6.out).mono ?_);(case aU=>repeat (first|exact (Kd.C_below Lk.out HB.out)|(with_reducible refine Kd.C_alloc ?_ _)|(with_reducible refine Kd.C_drewN ?_ _)|(with_reducible refine Kd.C_drew ?_)));(case aV=>exact Ll.out);rintro e w8 ⟨rfl,hb⟩;refine ⟨_,rfl,?_⟩;replace HB:=am (below_step au46 hb);(try clear hb)));go_ret;exact ax1
      ·
       replace c7:=Bool.eq_false_iff.mpr c7;subst c7;replace H:=(if_neg (show ¬ (false=true) by decide)).symm.trans H;have H':=am H;clear H;have nD:0≤(aD:Int):=od au87;have nE:aD<(l0.length:Int):=od au87;obtain ⟨a3O,Ol,Om,IZ,pX,xP,xQ,xR,xS,xT⟩:=at_T69 cW.out aD nD nE
       cases IZ
       replace pX:=bcl HB.out pX;replace xP:=bcl HB.out xP;replace xQ:=bcl HB.out xQ;replace xR:=bcl HB.out xR;have Lk:=am xT;have Ll:=am xS;clear xT xS;replace nD:=eq_true nD;replace nE:=eq_true nE;go_wp2_with (first|((with_reducible refine gate_tmp (t:=11) rfl ?_);refine goesLt_ (t:=11) (show _=Value.func (.func 62) #[] #[] from rfl) (some 16) rfl rfl Tryz.func62 (by kernel_rfl) rfl #[.agg #[.slice Ol ((rd_T69 l0 aD).f0).length Om,.string ((rd_T69 l0 aD).f1),.string ((rd_T69 l0 aD).f2),.string ((rd_T69 l0 aD).f3)]] rfl au45 ?_;(with_reducible refine (impl_areNames_1.calls (hG:=au0) k1 _ _ ((rd_T69 l0 aD).f0) ((rd_T69 l0 aD).f1) ((rd_T69 l0 aD).f2) ((rd_T69 l0 aD).f3) false _ ?aU ?aV A6.out).mono ?_);(case aU=>repeat (first|exact (Kd.C_below Lk.out HB.out)|(with_reducible refine Kd.C_alloc ?_ _)|(with_reducible refine Kd.C_drewN ?_ _)|(with_reducible refine Kd.C_drew ?_)));(case aV=>exact Ll.out);rintro e w9 ⟨rfl,hb⟩;refine ⟨_,rfl,?_⟩;replace HB:=am (below_step au46 hb);(try clear hb)))
       go_roundg k1
       case measure=>have:=HK1.out;omega
       case rel=>exact ⟨(wrap64 (aD+1)),au88,H',⟨by have:=HK1.out;omega⟩,⟨by repeat (first|(with_reducible first|exact HB.out|apply below_alloc|apply pw_below_drewN|apply below_drew1)|exact HB.out)⟩⟩
     · rw [if_neg c5] at H;exact absurd H (by simp)
    · rw [if_neg c4] at H;exact absurd H (by simp)
   · rw [if_neg c3] at H;have c3b0:=df c3;clear c3;obtain rfl:=ojz H;go_wp2;go_ret;exact ax1
def impl_Name_61_at_62.f (k:Nat) (l0:List (S69)) :Option (Bool):=(impl_Name_73_at_62.f k l0).bind fun lJ=>(some (decide (lJ ≥ 0)))
theorem impl_Name_61_at_62.mono:∀ a0 k,LeO (impl_Name_61_at_62.f k a0) (impl_Name_61_at_62.f (k+1) a0):=by
 intro a0 k;unfold impl_Name_61_at_62.f
 repeat' first
   | (with_reducible exact impl_Name_73_at_62.mono _ _)
   | (with_reducible exact LeO.refl _)
   | (with_reducible exact LeO.none _)
   | (with_reducible refine LeO.ite ?_ ?_)
   | (with_reducible refine LeO.bind ?_ (fun _=>?_))
   | exact impl_Name_73_at_62.mono _ _
   | exact LeO.none _
   | refine LeO.ite ?_ ?_
   | refine LeO.bind ?_ (fun _=>?_)
set_option maxHeartbeats 8000000 in
set_option maxRecDepth 100000 in
theorem impl_Name_61_at_62.calls (k:Nat) (A0:Option Addr) (c0:Nat) (l0:List (S69))  (r:Bool) (w:World) {gF1 gF2 gF3:Bool} (hG:GL gF1 gF2 gF3 w) (dH:Kd.C k69 w A0 l0.length l0) (cP:l0.length≤c0) (h:impl_Name_61_at_62.f k l0=some r) :
  Calls Tryz.prog 61 #[.slice A0 l0.length c0,.func (.func 62) #[] #[]] w fun e w'=>e=.returned (.bool r)∧Below w.heap.size w w':=by
 have HG:=am hG;clear hG;have cW:=am dH;have mM:=am cP;clear dH cP;have HB:=am (Below.refl w.heap.size w);have H:((impl_Name_73_at_62.f k l0).bind fun lJ=>(some (decide (lJ ≥ 0))))=some r:=h;clear h;replace H:=ob H;obtain ⟨lJ,dL,H⟩:=H
 try dsimp only at H
 have A3:=am dL;clear dL;obtain rfl:=ojz H;go_enter Tryz.func61,Tryz.ntmps61;go_wp2_with (first|((with_reducible refine gate_callee (f:=73) rfl ?_);refine goesL_ (some 7) rfl rfl Tryz.func73 (by kernel_rfl) rfl #[.slice A0 l0.length c0,.func (.func 62) #[] #[]] rfl au45 ?_;(with_reducible refine (impl_Name_73_at_62.calls (hG:=au0) k _ _ l0  lJ _ ?aU ?aV A3.out).mono ?_);(case aU=>repeat (first|exact cW.out|(with_reducible refine Kd.C_alloc ?_ _)|(with_reducible refine Kd.C_drewN ?_ _)|(with_reducible refine Kd.C_drew ?_)));(case aV=>exact mM.out);rintro e w4 ⟨rfl,hb⟩;refine ⟨_,rfl,?_⟩;replace HB:=am (below_step au46 hb);(try clear hb)));go_ret;exact ax1
def impl_areNames.f (k:Nat) (l0:List (S69)):Option (Bool):=if (l0.length:Int)≤4 then ((impl_Name_61_at_62.f k l0).bind fun pV=>(some (!pV))) else (some false)
theorem impl_areNames.mono:∀ a0 k,LeO (impl_areNames.f k a0) (impl_areNames.f (k+1) a0):=by
 intro a0 k;unfold impl_areNames.f
 repeat' first
   | (with_reducible exact impl_Name_61_at_62.mono _ _)
   | (with_reducible exact LeO.refl _)
   | (with_reducible exact LeO.none _)
   | (with_reducible refine LeO.ite ?_ ?_)
   | (with_reducible refine LeO.bind ?_ (fun _=>?_))
   | exact impl_Name_61_at_62.mono _ _
   | exact LeO.none _
   | refine LeO.ite ?_ ?_
   | refine LeO.bind ?_ (fun _=>?_)
set_option maxHeartbeats 8000000 in
set_option maxRecDepth 100000 in
theorem impl_areNames.calls (k:Nat) (A0:Option Addr) (c0:Nat) (l0:List (S69)) (r:Bool) (w:World) {gF1 gF2 gF3:Bool} (hG:GL gF1 gF2 gF3 w) (dH:Kd.C k69 w A0 l0.length l0) (cP:l0.length≤c0) (h:impl_areNames.f k l0=some r) :
  Calls Tryz.prog 45 #[.slice A0 l0.length c0] w fun e w'=>e=.returned (.bool r)∧Below w.heap.size w w':=by
 have HG:=am hG;clear hG;have cW:=am dH;have mM:=am cP;clear dH cP;have HB:=am (Below.refl w.heap.size w);have H:(if (l0.length:Int)≤4 then ((impl_Name_61_at_62.f k l0).bind fun pV=>(some (!pV))) else (some false))=some r:=h;clear h;by_cases c2:(l0.length:Int)≤4
 ·
  rw [if_pos c2] at H;have c2b0:=dt c2;have c2b1:decide (l0.length≤4)=true:=dt (by omega);clear c2;replace H:=ob H;obtain ⟨pV,dL,H⟩:=H
  try dsimp only at H
  have A3:=am dL;clear dL;obtain rfl:=ojz H;go_enter Tryz.func45,Tryz.ntmps45;go_wp2_with (first|(go_at_call 61;(with_reducible refine (impl_Name_61_at_62.calls (hG:=au0) k _ _ l0  pV _ ?aU ?aV A3.out).mono ?_);(case aU=>repeat (first|exact cW.out|(with_reducible refine Kd.C_alloc ?_ _)|(with_reducible refine Kd.C_drewN ?_ _)|(with_reducible refine Kd.C_drew ?_)));(case aV=>exact mM.out);rintro e w4 ⟨rfl,hb⟩;replace HB:=am (below_step au46 hb);(try clear hb)));go_ret;exact ax1
 · rw [if_neg c2] at H;have c2b0:=df c2;have c2b1:decide (l0.length≤4)=false:=df (by omega);clear c2;obtain rfl:=ojz H;go_enter Tryz.func45,Tryz.ntmps45;go_wp2;go_ret;exact ax1
theorem eqA40 (d:Nat) (w:World) (x0 y0:Int) (x1 y1:Int) (x2 y2:Int) (x3 y3:Bool) :
  (Op.equalIn (d+2) 40 (.agg #[.int .i64 x0,.int .i64 x1,.int .i64 x2,.bool x3]) (.agg #[.int .i64 y0,.int .i64 y1,.int .i64 y2,.bool y3])).run Tryz.prog w=.ok (x0 == y0 && (x1 == y1 && (x2 == y2 && (x3 == y3)))) w:=by
 refine eqA_of Tryz.underlying40 (by kernel_rfl) ?_;refine eqf_cons (by rfl) (by go_simp;rfl) (by go_simp;rfl) (by go_simp) ?_;refine eqf_cons (by rfl) (by go_simp;rfl) (by go_simp;rfl) (by go_simp) ?_;refine eqf_cons (by rfl) (by go_simp;rfl) (by go_simp;rfl) (by go_simp) ?_;exact eqf_last (by rfl) (by go_simp;rfl) (by go_simp;rfl) (by go_simp)
def impl_daysInMonth.f (a0:Int) (a1:Int):Option (Int):=if a1=2 then (if (Int.tmod a0 4)=0 then (if (Int.tmod a0 100)=0 then (if (Int.tmod a0 400)=0 then (some 29) else (some 28)) else (some 29)) else (some 28)) else (if a1=4 then (some 30) else (if a1=6 then (some 30) else (if a1=9 then (some 30) else (if a1=11 then (some 30) else (some 31)))))
set_option maxHeartbeats 8000000 in
set_option maxRecDepth 100000 in
theorem impl_daysInMonth.calls (a0:Int) (a1:Int) (r:Int) (w:World) (h:impl_daysInMonth.f a0 a1=some r) :
  Calls Tryz.prog 64 #[.int .i64 a0,.int .i64 a1] w fun e w'=>e=.returned (.int .i64 r)∧Drawn0 w w':=by
 have H:(if a1=2 then (if (Int.tmod a0 4)=0 then (if (Int.tmod a0 100)=0 then (if (Int.tmod a0 400)=0 then (some 29) else (some 28)) else (some 29)) else (some 28)) else (if a1=4 then (some 30) else (if a1=6 then (some 30) else (if a1=9 then (some 30) else (if a1=11 then (some 30) else (some 31))))))=some r:=h;clear h;by_cases c3:a1=2
 ·
  rw [if_pos c3] at H;have c3b0:=qt c3;have c3b1:=bf c3;clear c3;by_cases c4:(Int.tmod a0 4)=0
  ·
   rw [if_pos c4] at H;have c4b0:=qt c4;have c4b1:=bf c4;clear c4;by_cases c5:(Int.tmod a0 100)=0
   ·
    rw [if_pos c5] at H;have c5b0:=qt c5;have c5b1:=bf c5;clear c5;by_cases c6:(Int.tmod a0 400)=0
    · rw [if_pos c6] at H;have c6b0:=qt c6;have c6b1:=bf c6;clear c6;obtain rfl:=ojz H;go_enter Tryz.func64,Tryz.ntmps64;go_wp2;go_ret;exact ax0
    · rw [if_neg c6] at H;have c6b0:=qf c6;have c6b1:=bu c6;obtain rfl:=ojz H;go_enter Tryz.func64,Tryz.ntmps64;go_wp2;go_ret;exact ax0
   · rw [if_neg c5] at H;have c5b0:=qf c5;have c5b1:=bu c5;obtain rfl:=ojz H;go_enter Tryz.func64,Tryz.ntmps64;go_wp2;go_ret;exact ax0
  · rw [if_neg c4] at H;have c4b0:=qf c4;have c4b1:=bu c4;obtain rfl:=ojz H;go_enter Tryz.func64,Tryz.ntmps64;go_wp2;go_ret;exact ax0
 ·
  rw [if_neg c3] at H;have c3b0:=qf c3;have c3b1:=bu c3;by_cases c7:a1=4
  · rw [if_pos c7] at H;have c7b0:=qt c7;have c7b1:=bf c7;clear c7;obtain rfl:=ojz H;go_enter Tryz.func64,Tryz.ntmps64;go_wp2;go_ret;exact ax0
  ·
   rw [if_neg c7] at H;have c7b0:=qf c7;have c7b1:=bu c7;by_cases c8:a1=6
   · rw [if_pos c8] at H;have c8b0:=qt c8;have c8b1:=bf c8;clear c8;obtain rfl:=ojz H;go_enter Tryz.func64,Tryz.ntmps64;go_wp2;go_ret;exact ax0
   ·
    rw [if_neg c8] at H;have c8b0:=qf c8;have c8b1:=bu c8;by_cases c9:a1=9
    · rw [if_pos c9] at H;have c9b0:=qt c9;have c9b1:=bf c9;clear c9;obtain rfl:=ojz H;go_enter Tryz.func64,Tryz.ntmps64;go_wp2;go_ret;exact ax0
    ·
     rw [if_neg c9] at H;have c9b0:=qf c9;have c9b1:=bu c9;by_cases c10:a1=11
     · rw [if_pos c10] at H;have c10b0:=qt c10;have c10b1:=bf c10;clear c10;obtain rfl:=ojz H;go_enter Tryz.func64,Tryz.ntmps64;go_wp2;go_ret;exact ax0
     · rw [if_neg c10] at H;have c10b0:=qf c10;have c10b1:=bu c10;obtain rfl:=ojz H;go_enter Tryz.func64,Tryz.ntmps64;go_wp2;go_ret;exact ax0
end Go.Proofs.YteagahcbffgjpaaGreatDoor.G

namespace Go.Proofs.YteagahcbffgjpaaGreatDoor.G
open Go.RowKit Go.Proofs.YteagahcbffgjpaaGreatDoorW.PrintWords Go.Proofs.YteagahcbffgjpaaGreatDoorW.PrintLast Go.Proofs.YteagahcbffgjpaaGreatDoorW.PrintMore
open Go.Proofs.YteagahcbffgjpaaGreatDoor.Gl Go.Proofs.YteagahcbffgjpaaGreatDoor.Ext
attribute [local go_sem] max2_int min2_int max_two min_two max_three min_three max_four min_four   -- for this text's walks alone
set_option linter.unusedVariables false
set_option linter.unusedSimpArgs false
attribute [local go_sem high] eqA40
def impl_IsValidDate.j0:Nat→Bool→Int→Int→Int→Bool→Option (Bool)
 | 0,_,_,_,_,_=>none
 | k+1,x24,ahZ,Td,Te,aJO=>if x24=true then (some false) else (if Td=0 then (some (Te == 0)) else ((impl_daysInMonth.f ahZ Td).bind fun iZ=>((impl_inside.f Te 0 iZ).bind fun nC=>(some nC))))
def impl_IsValidDate.f (k:Nat) (aJ:Int) (aH:Int) (aW:Int) (aY:Bool):Option (Bool):=if (aJ == 0 && (aH == 0 && (aW == 0 && (!aY))))=true then (some true) else ((impl_inside.f aJ 1 2999).bind fun pU=>(if pU=true then ((impl_inside.f aH 0 12).bind fun uV=>(if uV=true then (if aY=true then (impl_IsValidDate.j0 k (aH != 0) aJ aH aW aY) else (impl_IsValidDate.j0 k false aJ aH aW aY)) else (impl_IsValidDate.j0 k true aJ aH aW aY))) else (impl_IsValidDate.j0 k true aJ aH aW aY)))
theorem impl_IsValidDate.mono_l:∀ k,(∀ y0 y1 y2 y3 y4,LeO (impl_IsValidDate.j0 k y0 y1 y2 y3 y4) (impl_IsValidDate.j0 (k+1) y0 y1 y2 y3 y4))
 | 0=>fun _ _ _ _ _ r h=>by simp [impl_IsValidDate.j0] at h
 | k+1=>by
  have ih0:=impl_IsValidDate.mono_l k
  ·
   intro y0 y1 y2 y3 y4;unfold impl_IsValidDate.j0
   repeat' first
   | (with_reducible exact ih0 _ _ _ _ _)
   | (with_reducible exact LeO.refl _)
   | (with_reducible exact LeO.none _)
   | (with_reducible refine LeO.ite ?_ ?_)
   | (with_reducible refine LeO.bind ?_ (fun _=>?_))
   | exact ih0 _ _ _ _ _
   | exact LeO.none _
   | refine LeO.ite ?_ ?_
   | refine LeO.bind ?_ (fun _=>?_)
theorem impl_IsValidDate.mono:∀ a0 a1 a2 a3 k,LeO (impl_IsValidDate.f k a0 a1 a2 a3) (impl_IsValidDate.f (k+1) a0 a1 a2 a3):=by
 intro a0 a1 a2 a3 k;have ih0:=impl_IsValidDate.mono_l k;unfold impl_IsValidDate.f
 repeat' first
   | (with_reducible exact ih0 _ _ _ _ _)
   | (with_reducible exact LeO.refl _)
   | (with_reducible exact LeO.none _)
   | (with_reducible refine LeO.ite ?_ ?_)
   | (with_reducible refine LeO.bind ?_ (fun _=>?_))
   | exact ih0 _ _ _ _ _
   | exact LeO.none _
   | refine LeO.ite ?_ ?_
   | refine LeO.bind ?_ (fun _=>?_)
set_option maxRecDepth 100000 in
theorem impl_IsValidDate.L0 {P:Prop} (h:P:=by
  go_wp2_with (first|(go_at_call 47;(with_reducible refine (impl_inside.calls aJ 1 2999 _ _ A8.out).mono ?_);rintro e w' ⟨rfl,⟨nd,rfl⟩⟩;(try first|exact ⟨rfl,_,World.drewN_drewN _ _ _⟩|exact ⟨rfl,_,Eq.trans (World.drewN_drewN _ _ _) (congrArg (World.drewN _) (Nat.add_assoc _ _ _))⟩))|(go_at_call 47;(with_reducible refine (impl_inside.calls aH 0 12 _ _ rO.out).mono ?_);rintro e w' ⟨rfl,⟨nd,rfl⟩⟩;(try first|exact ⟨rfl,_,World.drewN_drewN _ _ _⟩|exact ⟨rfl,_,Eq.trans (World.drewN_drewN _ _ _) (congrArg (World.drewN _) (Nat.add_assoc _ _ _))⟩)))
  repeat (go_quiet (first|(go_at_call 47;(with_reducible refine (impl_inside.calls aJ 1 2999 _ _ A8.out).mono ?_);rintro e w' ⟨rfl,⟨nd,rfl⟩⟩;(try first|exact ⟨rfl,_,World.drewN_drewN _ _ _⟩|exact ⟨rfl,_,Eq.trans (World.drewN_drewN _ _ _) (congrArg (World.drewN _) (Nat.add_assoc _ _ _))⟩))|(go_at_call 47;(with_reducible refine (impl_inside.calls aH 0 12 _ _ rO.out).mono ?_);rintro e w' ⟨rfl,⟨nd,rfl⟩⟩;(try first|exact ⟨rfl,_,World.drewN_drewN _ _ _⟩|exact ⟨rfl,_,Eq.trans (World.drewN_drewN _ _ _) (congrArg (World.drewN _) (Nat.add_assoc _ _ _))⟩)));try go_wp2_with (first|(go_at_call 47;(with_reducible refine (impl_inside.calls aJ 1 2999 _ _ A8.out).mono ?_);rintro e w' ⟨rfl,⟨nd,rfl⟩⟩;(try first|exact ⟨rfl,_,World.drewN_drewN _ _ _⟩|exact ⟨rfl,_,Eq.trans (World.drewN_drewN _ _ _) (congrArg (World.drewN _) (Nat.add_assoc _ _ _))⟩))|(go_at_call 47;(with_reducible refine (impl_inside.calls aH 0 12 _ _ rO.out).mono ?_);rintro e w' ⟨rfl,⟨nd,rfl⟩⟩;(try first|exact ⟨rfl,_,World.drewN_drewN _ _ _⟩|exact ⟨rfl,_,Eq.trans (World.drewN_drewN _ _ _) (congrArg (World.drewN _) (Nat.add_assoc _ _ _))⟩))))
  go_meet
  case rel=>first|(exact ⟨_,((aH != 0)),au88,H',⟨by first|omega|exact Nat.le_refl _⟩,⟨by (with_reducible repeat (first|refine blk_drewN ?_ _|refine blk_drew ?_|refine blk_alloc ?_ _));exact fJ.out⟩,⟨by repeat (first|(with_reducible first|exact HB.out|apply below_alloc|apply pw_below_drewN|apply below_drew1|refine below_set ?_ qM.out)|exact HB.out)⟩⟩)|(exact ⟨_,(false),au88,H',⟨by first|omega|exact Nat.le_refl _⟩,⟨by (with_reducible repeat (first|refine blk_drewN ?_ _|refine blk_drew ?_|refine blk_alloc ?_ _));exact fJ.out⟩,⟨by repeat (first|(with_reducible first|exact HB.out|apply below_alloc|apply pw_below_drewN|apply below_drew1|refine below_set ?_ qM.out)|exact HB.out)⟩⟩)|(exact ⟨_,(true),au88,H',⟨by first|omega|exact Nat.le_refl _⟩,⟨by (with_reducible repeat (first|refine blk_drewN ?_ _|refine blk_drew ?_|refine blk_alloc ?_ _));exact fJ.out⟩,⟨by repeat (first|(with_reducible first|exact HB.out|apply below_alloc|apply pw_below_drewN|apply below_drew1|refine below_set ?_ qM.out)|exact HB.out)⟩⟩)):P:=h
set_option maxHeartbeats 8000000 in
set_option maxRecDepth 100000 in
theorem impl_IsValidDate.calls (k:Nat) (aJ:Int) (aH:Int) (aW:Int) (aY:Bool) (r:Bool) (w:World) (h:impl_IsValidDate.f k aJ aH aW aY=some r) :
  Calls Tryz.prog 46 #[.agg #[.int .i64 aJ,.int .i64 aH,.int .i64 aW,.bool aY]] w fun e w'=>e=.returned (.bool r)∧Below w.heap.size w w':=by
 have hu40:=Tryz.underlying40;have HB:=am (Below.refl w.heap.size w);have H:(if (aJ == 0 && (aH == 0 && (aW == 0 && (!aY))))=true then (some true) else ((impl_inside.f aJ 1 2999).bind fun pU=>(if pU=true then ((impl_inside.f aH 0 12).bind fun uV=>(if uV=true then (if aY=true then (impl_IsValidDate.j0 k (aH != 0) aJ aH aW aY) else (impl_IsValidDate.j0 k false aJ aH aW aY)) else (impl_IsValidDate.j0 k true aJ aH aW aY))) else (impl_IsValidDate.j0 k true aJ aH aW aY))))=some r:=h;clear h;by_cases c2:(aJ == 0 && (aH == 0 && (aW == 0 && (!aY))))=true
 ·
  rw [if_pos c2] at H;have c2b0:(aJ == 0 && (aH == 0 && (aW == 0 && (!aY))))=true:=c2
  (try (have c2b1:decide (aJ=0 && (aH == 0 && (aW == 0 && (!aY))))=true:=by simpa using c2))
  (try (have c2b2:(aJ == 0 && (aH == 0 && (aW == 0 && (!aY))))=true:=by simpa using c2))
  clear c2;obtain rfl:=ojz H;go_enter Tryz.func46,Tryz.ntmps46;go_wp2_with (first|((with_reducible refine gate_dst (N:=1) rfl ?_);refine box_event ?hg (N:=1) ?hd (cs:=#[.int .i64 aJ,.int .i64 aH,.int .i64 aW,.bool aY]) (t:=40) ?hr ?_;(case hd=>rfl);(case hg=>rfl);(case hr=>first|(go_simp;done)|(go_simp;rfl));intro ER hg w3 hbox hb;have fJ:=am (hbox);have Kh:=am (bsz hg au46);have qM:=am (bsz hg au46);replace HB:=am (below_step au46 hb);clear hb hbox hg;obtain ⟨mX,qU,qV,qW,mY,qX,qY,qZ⟩:=blkc4 fJ.out))
  repeat (go_quiet (first|((with_reducible refine gate_dst (N:=1) rfl ?_);refine box_event ?hg (N:=1) ?hd (cs:=#[.int .i64 aJ,.int .i64 aH,.int .i64 aW,.bool aY]) (t:=40) ?hr ?_;(case hd=>rfl);(case hg=>rfl);(case hr=>first|(go_simp;done)|(go_simp;rfl));intro ER hg w3 hbox hb;have fJ:=am (hbox);have Kh:=am (bsz hg au46);have qM:=am (bsz hg au46);replace HB:=am (below_step au46 hb);clear hb hbox hg;obtain ⟨mX,qU,qV,qW,mY,qX,qY,qZ⟩:=blkc4 fJ.out));try go_wp2_with (first|((with_reducible refine gate_dst (N:=1) rfl ?_);refine box_event ?hg (N:=1) ?hd (cs:=#[.int .i64 aJ,.int .i64 aH,.int .i64 aW,.bool aY]) (t:=40) ?hr ?_;(case hd=>rfl);(case hg=>rfl);(case hr=>first|(go_simp;done)|(go_simp;rfl));intro ER hg w3 hbox hb;have fJ:=am (hbox);have Kh:=am (bsz hg au46);have qM:=am (bsz hg au46);replace HB:=am (below_step au46 hb);clear hb hbox hg;obtain ⟨mX,qU,qV,qW,mY,qX,qY,qZ⟩:=blkc4 fJ.out)))
  go_ret;exact ax3
 ·
  rw [if_neg c2] at H
  have c2b0:(aJ == 0 && (aH == 0 && (aW == 0 && (!aY))))=false:=by simpa using c2
  (try (have c2b1:decide (aJ=0 && (aH == 0 && (aW == 0 && (!aY))))=false:=by simpa using c2))
  (try (have c2b2:(aJ == 0 && (aH == 0 && (aW == 0 && (!aY))))=false:=by simpa using c2))
  (try (have c2b3:¬ (aJ=0 && (aH == 0 && (aW == 0 && (!aY)))):=by simpa using c2))
  clear c2;have On:=am H;clear H;go_enter Tryz.func46,Tryz.ntmps46
  go_upto_region 3 with (first|((with_reducible refine gate_dst (N:=1) rfl ?_);refine box_event ?hg (N:=1) ?hd (cs:=#[.int .i64 aJ,.int .i64 aH,.int .i64 aW,.bool aY]) (t:=40) ?hr ?_;(case hd=>rfl);(case hg=>rfl);(case hr=>first|(go_simp;done)|(go_simp;rfl));intro ER hg w6 hbox hb;have fJ:=am (hbox);have Kh:=am (bsz hg au46);have qM:=am (bsz hg au46);replace HB:=am (below_step au46 hb);clear hb hbox hg;obtain ⟨kN,lK,lL,lM,kO,lN,lO,lP⟩:=blkc4 fJ.out))
  repeat (go_quiet (first|((with_reducible refine gate_dst (N:=1) rfl ?_);refine box_event ?hg (N:=1) ?hd (cs:=#[.int .i64 aJ,.int .i64 aH,.int .i64 aW,.bool aY]) (t:=40) ?hr ?_;(case hd=>rfl);(case hg=>rfl);(case hr=>first|(go_simp;done)|(go_simp;rfl));intro ER hg w6 hbox hb;have fJ:=am (hbox);have Kh:=am (bsz hg au46);have qM:=am (bsz hg au46);replace HB:=am (below_step au46 hb);clear hb hbox hg;obtain ⟨kN,lK,lL,lM,kO,lN,lO,lP⟩:=blkc4 fJ.out));go_upto_region 3 with (first|((with_reducible refine gate_dst (N:=1) rfl ?_);refine box_event ?hg (N:=1) ?hd (cs:=#[.int .i64 aJ,.int .i64 aH,.int .i64 aW,.bool aY]) (t:=40) ?hr ?_;(case hd=>rfl);(case hg=>rfl);(case hr=>first|(go_simp;done)|(go_simp;rfl));intro ER hg w6 hbox hb;have fJ:=am (hbox);have Kh:=am (bsz hg au46);have qM:=am (bsz hg au46);replace HB:=am (below_step au46 hb);clear hb hbox hg;obtain ⟨kN,lK,lL,lM,kO,lN,lO,lP⟩:=blkc4 fJ.out)))
  (try simp only [Act.put,List.setIfInBounds_toArray,List.set_cons_zero,List.set_cons_succ])
  go_cut [24] (fun v24 wc=>∃ (kq:Nat) (N1:Bool),v24=.bool N1∧Aside0 (impl_IsValidDate.j0 kq N1 aJ aH aW aY=some r)∧Aside0 (kq≤k)∧Aside0 (wc.heap[ER]?=some (.cells #[.int .i64 aJ,.int .i64 aH,.int .i64 aW,.bool aY] 40 (0,0)))∧Aside0 (Below w.heap.size w wc))
  case first =>
   have H:=On.out;clear On;replace H:=ob H;obtain ⟨pU,iW,H⟩:=H
   try dsimp only at H
   have A8:=am iW;clear iW;by_cases c9:pU=true
   ·
    subst c9;replace H:=(if_pos rfl).symm.trans H;replace H:=ob H;obtain ⟨uV,oT,H⟩:=H
    try dsimp only at H
    have rO:=am oT;clear oT;by_cases cI:uV=true
    ·
     subst cI;replace H:=(if_pos rfl).symm.trans H;by_cases eA:aY=true
     · subst eA;replace H:=(if_pos rfl).symm.trans H;have H':=am H;clear H;obtain ⟨lV,nO,nP,nQ,lW,nR,nS,nT⟩:=blkc4 fJ.out;exact impl_IsValidDate.L0
     · replace eA:=Bool.eq_false_iff.mpr eA;subst eA;replace H:=(if_neg (show ¬ (false=true) by decide)).symm.trans H;have H':=am H;clear H;obtain ⟨rX,rY,rZ,sB,sC,sD,sF,sG⟩:=blkc4 fJ.out;exact impl_IsValidDate.L0
    · replace cI:=Bool.eq_false_iff.mpr cI;subst cI;replace H:=(if_neg (show ¬ (false=true) by decide)).symm.trans H;have H':=am H;clear H;obtain ⟨gX,kP,kQ,kR,gY,kS,kT,kU⟩:=blkc4 fJ.out;exact impl_IsValidDate.L0
   ·
    replace c9:=Bool.eq_false_iff.mpr c9;subst c9;replace H:=(if_neg (show ¬ (false=true) by decide)).symm.trans H;have H':=am H;clear H;obtain ⟨nU,pF,pG,pH,nV,pI,pJ,pK⟩:=blkc4 fJ.out;go_wp2_with (first|(go_at_call 47;(with_reducible refine (impl_inside.calls aJ 1 2999 _ _ A8.out).mono ?_);rintro e w' ⟨rfl,⟨nd,rfl⟩⟩;(try first|exact ⟨rfl,_,World.drewN_drewN _ _ _⟩|exact ⟨rfl,_,Eq.trans (World.drewN_drewN _ _ _) (congrArg (World.drewN _) (Nat.add_assoc _ _ _))⟩)))
    repeat (go_quiet (first|(go_at_call 47;(with_reducible refine (impl_inside.calls aJ 1 2999 _ _ A8.out).mono ?_);rintro e w' ⟨rfl,⟨nd,rfl⟩⟩;(try first|exact ⟨rfl,_,World.drewN_drewN _ _ _⟩|exact ⟨rfl,_,Eq.trans (World.drewN_drewN _ _ _) (congrArg (World.drewN _) (Nat.add_assoc _ _ _))⟩)));try go_wp2_with (first|(go_at_call 47;(with_reducible refine (impl_inside.calls aJ 1 2999 _ _ A8.out).mono ?_);rintro e w' ⟨rfl,⟨nd,rfl⟩⟩;(try first|exact ⟨rfl,_,World.drewN_drewN _ _ _⟩|exact ⟨rfl,_,Eq.trans (World.drewN_drewN _ _ _) (congrArg (World.drewN _) (Nat.add_assoc _ _ _))⟩))))
    go_meet
    case rel=>exact ⟨_,(true),au88,H',⟨by first|omega|exact Nat.le_refl _⟩,⟨by (with_reducible repeat (first|refine blk_drewN ?_ _|refine blk_drew ?_|refine blk_alloc ?_ _));exact fJ.out⟩,⟨by repeat (first|(with_reducible first|exact HB.out|apply below_alloc|apply pw_below_drewN|apply below_drew1|refine below_set ?_ qM.out)|exact HB.out)⟩⟩
  case rest =>
   clear On
   try clear c1
   try clear c2
   try clear c2b0
   try clear c2b1
   try clear c2b2
   try clear p2
   try clear c4
   try clear c9
   try clear cI
   try clear eA
   try clear lV nO nP nQ lW nR nS nT
   try clear rX rY rZ sB sC sD sF sG
   try clear gX kP kQ kR gY kS kT kU
   try clear nU pF pG pH nV pI pJ pK
   try clear mX qU qV qW mY qX qY qZ
   try clear kN lK lL lM kO lN lO lP
   obtain ⟨kq,N1,rfl,HA,HJ4,fJ,HB⟩:=hcut
   cases kq with
   | zero=>exact absurd HA.out (by simp [impl_IsValidDate.j0])
   | succ kj4 =>
    have H:=HA.out;clear HA;simp only [impl_IsValidDate.j0] at H;by_cases mO:N1=true
    ·
     subst mO;replace H:=(if_pos rfl).symm.trans H;obtain rfl:=ojz H;go_wp2
     repeat (go_quiet (fail);try go_wp2)
     go_ret;exact ax3
    ·
     replace mO:=Bool.eq_false_iff.mpr mO;subst mO;replace H:=(if_neg (show ¬ (false=true) by decide)).symm.trans H;by_cases jB:aH=0
     ·
      rw [if_pos jB] at H;have c18b0:=qt jB;have c18b1:=bf jB;clear jB;obtain rfl:=ojz H;obtain ⟨tJ,ES,ET,EU,tK,EV,EW,EX⟩:=blkc4 fJ.out;go_wp2
      repeat (go_quiet (fail);try go_wp2)
      go_ret;exact ax3
     ·
      rw [if_neg jB] at H;have c18b0:=qf jB;have c18b1:=bu jB;replace H:=ob H;obtain ⟨iZ,Oo,H⟩:=H
      try dsimp only at H
      have fC:=am Oo;clear Oo;replace H:=ob H;obtain ⟨nC,oU,H⟩:=H
      try dsimp only at H
      have xU:=am oU;clear oU;obtain rfl:=ojz H;obtain ⟨sT,sU,sV,sW,sX,sY,sZ,tA⟩:=blkc4 fJ.out;go_wp2_with (first|(go_at_call 64;(with_reducible refine (impl_daysInMonth.calls aJ aH iZ _ fC.out).mono ?_);rintro e w' ⟨rfl,⟨nd,rfl⟩⟩;(try first|exact ⟨rfl,_,World.drewN_drewN _ _ _⟩|exact ⟨rfl,_,Eq.trans (World.drewN_drewN _ _ _) (congrArg (World.drewN _) (Nat.add_assoc _ _ _))⟩))|(go_at_call 47;(with_reducible refine (impl_inside.calls aW 0 iZ nC _ xU.out).mono ?_);rintro e w' ⟨rfl,⟨nd,rfl⟩⟩;(try first|exact ⟨rfl,_,World.drewN_drewN _ _ _⟩|exact ⟨rfl,_,Eq.trans (World.drewN_drewN _ _ _) (congrArg (World.drewN _) (Nat.add_assoc _ _ _))⟩)))
      repeat (go_quiet (first|(go_at_call 64;(with_reducible refine (impl_daysInMonth.calls aJ aH iZ _ fC.out).mono ?_);rintro e w' ⟨rfl,⟨nd,rfl⟩⟩;(try first|exact ⟨rfl,_,World.drewN_drewN _ _ _⟩|exact ⟨rfl,_,Eq.trans (World.drewN_drewN _ _ _) (congrArg (World.drewN _) (Nat.add_assoc _ _ _))⟩))|(go_at_call 47;(with_reducible refine (impl_inside.calls aW 0 iZ nC _ xU.out).mono ?_);rintro e w' ⟨rfl,⟨nd,rfl⟩⟩;(try first|exact ⟨rfl,_,World.drewN_drewN _ _ _⟩|exact ⟨rfl,_,Eq.trans (World.drewN_drewN _ _ _) (congrArg (World.drewN _) (Nat.add_assoc _ _ _))⟩)));try go_wp2_with (first|(go_at_call 64;(with_reducible refine (impl_daysInMonth.calls aJ aH iZ _ fC.out).mono ?_);rintro e w' ⟨rfl,⟨nd,rfl⟩⟩;(try first|exact ⟨rfl,_,World.drewN_drewN _ _ _⟩|exact ⟨rfl,_,Eq.trans (World.drewN_drewN _ _ _) (congrArg (World.drewN _) (Nat.add_assoc _ _ _))⟩))|(go_at_call 47;(with_reducible refine (impl_inside.calls aW 0 iZ nC _ xU.out).mono ?_);rintro e w' ⟨rfl,⟨nd,rfl⟩⟩;(try first|exact ⟨rfl,_,World.drewN_drewN _ _ _⟩|exact ⟨rfl,_,Eq.trans (World.drewN_drewN _ _ _) (congrArg (World.drewN _) (Nat.add_assoc _ _ _))⟩))))
      go_ret;exact ax3
end Go.Proofs.YteagahcbffgjpaaGreatDoor.G

namespace Go.Proofs.YteagahcbffgjpaaGreatDoor.G
open Go.RowKit Go.Proofs.YteagahcbffgjpaaGreatDoorW.PrintWords Go.Proofs.YteagahcbffgjpaaGreatDoorW.PrintLast Go.Proofs.YteagahcbffgjpaaGreatDoorW.PrintMore
open Go.Proofs.YteagahcbffgjpaaGreatDoor.Gl Go.Proofs.YteagahcbffgjpaaGreatDoor.Ext
attribute [local go_sem] max2_int min2_int max_two min_two max_three min_three max_four min_four   -- for this text's walks alone
set_option linter.unusedVariables false
set_option linter.unusedSimpArgs false
def strings_trimLeftByte.l0:Nat→ByteArray→Int→Option (ByteArray)
 | 0,_,_=>none
 | k+1,x0,x1=>if (x0.size:Int)>0 then (if 0<(x0.size:Int) then (if (bt x0 0)=x1 then (if 1≤(x0.size:Int) then (strings_trimLeftByte.l0 k (x0.extract 1 x0.size) x1) else (none)) else (some x0)) else (none)) else (some x0)
def strings_trimLeftByte.f (k:Nat) (a0:ByteArray) (a1:Int):Option (ByteArray):=strings_trimLeftByte.l0 k a0 a1
theorem strings_trimLeftByte.mono_l:∀ k,(∀ y0 y1,LeO (strings_trimLeftByte.l0 k y0 y1) (strings_trimLeftByte.l0 (k+1) y0 y1))
 | 0=>fun _ _ r h=>by simp [strings_trimLeftByte.l0] at h
 | k+1=>by
  have ih0:=strings_trimLeftByte.mono_l k
  ·
   intro y0 y1;unfold strings_trimLeftByte.l0
   repeat' first
   | (with_reducible exact ih0 _ _)
   | (with_reducible exact LeO.refl _)
   | (with_reducible exact LeO.none _)
   | (with_reducible refine LeO.ite ?_ ?_)
   | (with_reducible refine LeO.bind ?_ (fun _=>?_))
   | exact ih0 _ _
   | exact LeO.none _
   | refine LeO.ite ?_ ?_
   | refine LeO.bind ?_ (fun _=>?_)
theorem strings_trimLeftByte.mono:∀ a0 a1 k,LeO (strings_trimLeftByte.f k a0 a1) (strings_trimLeftByte.f (k+1) a0 a1):=by
 intro a0 a1 k;have ih0:=strings_trimLeftByte.mono_l k;unfold strings_trimLeftByte.f
 repeat' first
   | (with_reducible exact ih0 _ _)
   | (with_reducible exact LeO.refl _)
   | (with_reducible exact LeO.none _)
   | (with_reducible refine LeO.ite ?_ ?_)
   | (with_reducible refine LeO.bind ?_ (fun _=>?_))
   | exact ih0 _ _
   | exact LeO.none _
   | refine LeO.ite ?_ ?_
   | refine LeO.bind ?_ (fun _=>?_)
set_option maxHeartbeats 8000000 in
set_option maxRecDepth 100000 in
theorem strings_trimLeftByte.calls (k:Nat) (a0:ByteArray) (a1:Int) (r:ByteArray) (w:World) (h:strings_trimLeftByte.f k a0 a1=some r) :
  Calls Tryz.prog 87 #[.string a0,.int .u8 a1] w fun e w'=>e=.returned (.string r)∧Drawn0 w w':=by
 have H:(strings_trimLeftByte.l0 k a0 a1)=some r:=h;clear h;have H':=am H;clear H;go_enter Tryz.func87,Tryz.ntmps87;go_wp2
 go_loopg [0] k (fun kq v0 w'=>∃ (cF:ByteArray),v0=.string cF∧Aside0 (strings_trimLeftByte.l0 kq cF a1=some r)∧Aside0 (kq≤k)∧Drawn0 w w')
 case atStart=>exact ⟨(a0),au88,H',⟨Nat.le_refl _⟩,by repeat (first|exact Drawn0.refl _|apply Drawn0.step)⟩
 case round =>
  clear H'
  try clear p2
  obtain ⟨cF,rfl,HA,HK1,⟨m1,rfl⟩⟩:=hrel
  cases gk with
  | zero=>exact absurd HA.out (by simp [strings_trimLeftByte.l0])
  | succ k1 =>
   have H:=HA.out;clear HA;simp only [strings_trimLeftByte.l0] at H;by_cases c3:(cF.size:Int)>0
   ·
    rw [if_pos c3] at H;have c3b0:=dt c3;have c3b1:decide (0<cF.size)=true:=dt (by omega);clear c3;by_cases c4:0<(cF.size:Int)
    ·
     rw [if_pos c4] at H;have c4b0:=dt c4;have c4b1:decide (0<cF.size)=true:=dt (by omega);clear c4;by_cases c6:(bt cF 0)=a1
     ·
      rw [if_pos c6] at H;have c6b0:=qt c6;have c6b1:=bf c6;clear c6;by_cases c7:1≤(cF.size:Int)
      ·
       rw [if_pos c7] at H;have c7b0:=eq_true c7;have c7b1:=dt c7;clear c7;have H':=am H;clear H
       have p5:0≤(0:Int):=(by omega)
       have q5:0<cF.size:=(by have:(0:Int)<(cF.size:Int):=od au87;omega)
       have DF:∀ h:0<cF.size,((cF[0]'h).toNat:Int)=bt cF 0:=bt_at cF 0;clear p5;have qi5:(0<(cF.size:Int))=True:=eq_true (od au87);replace q5:=eq_true q5;go_wp2
       go_roundg k1
       case measure=>have:=HK1.out;omega
       case rel=>exact ⟨(cF.extract 1 cF.size),au88,H',⟨by have:=HK1.out;omega⟩,by repeat (first|exact Drawn0.refl _|apply Drawn0.step)⟩
      · rw [if_neg c7] at H;exact absurd H (by simp)
     ·
      rw [if_neg c6] at H;have c6b0:=qf c6;have c6b1:=bu c6;obtain rfl:=ojz H
      have p5:0≤(0:Int):=(by omega)
      have q5:0<cF.size:=(by have:(0:Int)<(cF.size:Int):=od au87;omega)
      have DF:∀ h:0<cF.size,((cF[0]'h).toNat:Int)=bt cF 0:=bt_at cF 0;clear p5;have qi5:(0<(cF.size:Int))=True:=eq_true (od au87);replace q5:=eq_true q5;go_wp2;go_ret;exact ax0
    · rw [if_neg c4] at H;exact absurd H (by simp)
   · rw [if_neg c3] at H;have c3b0:=df c3;have c3b1:decide (0<cF.size)=false:=df (by omega);clear c3;obtain rfl:=ojz H;go_wp2;go_ret;exact ax0
def strings_trimRightByte.l0:Nat→ByteArray→Int→Option (ByteArray)
 | 0,_,_=>none
 | k+1,x0,x1=>if (x0.size:Int)>0 then (if 0≤(wrap64 ((x0.size:Int)-1)) then (if (wrap64 ((x0.size:Int)-1))<(x0.size:Int) then (if (bt x0 (wrap64 ((x0.size:Int)-1)))=x1 then (if (wrap64 ((x0.size:Int)-1))≤(x0.size:Int) then (strings_trimRightByte.l0 k (x0.extract 0 ((wrap64 ((x0.size:Int)-1)):Int).toNat) x1) else (none)) else (some x0)) else (none)) else (none)) else (some x0)
def strings_trimRightByte.f (k:Nat) (a0:ByteArray) (a1:Int):Option (ByteArray):=strings_trimRightByte.l0 k a0 a1
theorem strings_trimRightByte.mono_l:∀ k,(∀ y0 y1,LeO (strings_trimRightByte.l0 k y0 y1) (strings_trimRightByte.l0 (k+1) y0 y1))
 | 0=>fun _ _ r h=>by simp [strings_trimRightByte.l0] at h
 | k+1=>by
  have ih0:=strings_trimRightByte.mono_l k
  ·
   intro y0 y1;unfold strings_trimRightByte.l0
   repeat' first
   | (with_reducible exact ih0 _ _)
   | (with_reducible exact LeO.refl _)
   | (with_reducible exact LeO.none _)
   | (with_reducible refine LeO.ite ?_ ?_)
   | (with_reducible refine LeO.bind ?_ (fun _=>?_))
   | exact ih0 _ _
   | exact LeO.none _
   | refine LeO.ite ?_ ?_
   | refine LeO.bind ?_ (fun _=>?_)
theorem strings_trimRightByte.mono:∀ a0 a1 k,LeO (strings_trimRightByte.f k a0 a1) (strings_trimRightByte.f (k+1) a0 a1):=by
 intro a0 a1 k;have ih0:=strings_trimRightByte.mono_l k;unfold strings_trimRightByte.f
 repeat' first
   | (with_reducible exact ih0 _ _)
   | (with_reducible exact LeO.refl _)
   | (with_reducible exact LeO.none _)
   | (with_reducible refine LeO.ite ?_ ?_)
   | (with_reducible refine LeO.bind ?_ (fun _=>?_))
   | exact ih0 _ _
   | exact LeO.none _
   | refine LeO.ite ?_ ?_
   | refine LeO.bind ?_ (fun _=>?_)
set_option maxHeartbeats 8000000 in
set_option maxRecDepth 100000 in
theorem strings_trimRightByte.calls (k:Nat) (a0:ByteArray) (a1:Int) (r:ByteArray) (w:World) (h:strings_trimRightByte.f k a0 a1=some r) :
  Calls Tryz.prog 88 #[.string a0,.int .u8 a1] w fun e w'=>e=.returned (.string r)∧Drawn0 w w':=by
 have H:(strings_trimRightByte.l0 k a0 a1)=some r:=h;clear h;have H':=am H;clear H;go_enter Tryz.func88,Tryz.ntmps88;go_wp2
 go_loopg [0] k (fun kq v0 w'=>∃ (cF:ByteArray),v0=.string cF∧Aside0 (strings_trimRightByte.l0 kq cF a1=some r)∧Aside0 (kq≤k)∧Drawn0 w w')
 case atStart=>exact ⟨(a0),au88,H',⟨Nat.le_refl _⟩,by repeat (first|exact Drawn0.refl _|apply Drawn0.step)⟩
 case round =>
  clear H'
  try clear p2
  obtain ⟨cF,rfl,HA,HK1,⟨m1,rfl⟩⟩:=hrel
  cases gk with
  | zero=>exact absurd HA.out (by simp [strings_trimRightByte.l0])
  | succ k1 =>
   have H:=HA.out;clear HA;simp only [strings_trimRightByte.l0] at H;by_cases c3:(cF.size:Int)>0
   ·
    rw [if_pos c3] at H;have c3b0:=dt c3;have c3b1:decide (0<cF.size)=true:=dt (by omega);clear c3
    obtain ⟨pB,Oq⟩:∃ j_:Int,(wrap64 ((cF.size:Int)-1))=j_:=⟨_,rfl⟩
    replace H:(if 0≤(pB) then (if (pB)<(cF.size:Int) then (if (bt cF (pB))=a1 then (if (pB)≤(cF.size:Int) then (strings_trimRightByte.l0 k1 (cF.extract 0 ((pB):Int).toNat) a1) else (none)) else (some cF)) else (none)) else (none))=some r:=by first|(rw [Oq] at H;exact H)|(simp only [Oq] at H ⊢;exact H)
    have hji4w:(IntKind.i64.wrap ((cF.size:Int)-1))=pB:=(i64_w _).trans Oq;by_cases c5:0≤(pB)
    ·
     rw [if_pos c5] at H;have c5b0:=dt c5;clear c5;by_cases c6:(pB)<(cF.size:Int)
     ·
      rw [if_pos c6] at H;have c6b0:=dt c6;clear c6;by_cases c8:(bt cF (pB))=a1
      ·
       rw [if_pos c8] at H;have c8b0:=qt c8;have c8b1:=bf c8;clear c8;have c9b0:=eq_true (od au87:0≤(pB));by_cases c10:(pB)≤(cF.size:Int)
       ·
        rw [if_pos c10] at H;have c10b0:=eq_true c10;have c10b1:=dt c10;clear c10;have H':=am H;clear H;have p7:0≤((pB):Int):=od au87;have q7:(pB)<(cF.size:Int):=od au87;have DG:=bt_at cF (pB);replace p7:=eq_true p7;replace q7:=eq_true q7;go_wp2
        go_roundg k1
        case measure=>have:=HK1.out;omega
        case rel=>exact ⟨(cF.extract 0 ((pB):Int).toNat),(by first|rfl|(simp;done)|(simp only [← Oq] <;> (first|rfl|simp))|(simp [*];done)),H',⟨by have:=HK1.out;omega⟩,by repeat (first|exact Drawn0.refl _|apply Drawn0.step)⟩
       · rw [if_neg c10] at H;exact absurd H (by simp)
      · rw [if_neg c8] at H;have c8b0:=qf c8;have c8b1:=bu c8;obtain rfl:=ojz H;have p7:0≤((pB):Int):=od au87;have q7:(pB)<(cF.size:Int):=od au87;have DG:=bt_at cF (pB);replace p7:=eq_true p7;replace q7:=eq_true q7;go_wp2;go_ret;exact ⟨by first|rfl|(simp;done)|(simp only [← Oq] <;> (first|rfl|simp))|(simp [*];done),by repeat (first|exact Drawn0.refl _|apply Drawn0.step)⟩
     · rw [if_neg c6] at H;exact absurd H (by simp)
    · rw [if_neg c5] at H;exact absurd H (by simp)
   · rw [if_neg c3] at H;have c3b0:=df c3;have c3b1:decide (0<cF.size)=false:=df (by omega);clear c3;obtain rfl:=ojz H;go_wp2;go_ret;exact ax0
mutual
def strings_Trim.j0:Nat→ByteArray→ByteArray→Bool→Option (ByteArray)
 | 0,_,_,_=>none
 | k+1,x0,x1,Og=>if Og=true then (some x0) else (if (x1.size:Int)=1 then (if 0<(x1.size:Int) then (strings_Trim.j1 k x0 x1 (decide ((bt x1 0)<128))) else (none)) else (strings_Trim.j1 k x0 x1 false))
def strings_Trim.j1:Nat→ByteArray→ByteArray→Bool→Option (ByteArray)
 | 0,_,_,_=>none
 | k+1,x0,x1,x21=>if x21=true then (if 0<(x1.size:Int) then ((strings_trimRightByte.f k x0 (bt x1 0)).bind fun DW=>((strings_trimLeftByte.f k DW (bt x1 0)).bind fun uZ=>(some uZ))) else (none)) else (none)
end
def strings_Trim.f (k:Nat) (a0:ByteArray) (a1:ByteArray):Option (ByteArray):=if a0.toList=([]:List UInt8) then (strings_Trim.j0 k a0 a1 true) else (strings_Trim.j0 k a0 a1 (a1.toList == ([]:List UInt8)))
theorem strings_Trim.mono_l:∀ k,(∀ y0 y1 y2,LeO (strings_Trim.j0 k y0 y1 y2) (strings_Trim.j0 (k+1) y0 y1 y2))∧(∀ y0 y1 y2,LeO (strings_Trim.j1 k y0 y1 y2) (strings_Trim.j1 (k+1) y0 y1 y2))
 | 0=>⟨fun _ _ _ r h=>by simp [strings_Trim.j0] at h,fun _ _ _ r h=>by simp [strings_Trim.j1] at h⟩
 | k+1=>by
  obtain ⟨ih0,ih1⟩:=strings_Trim.mono_l k;refine ⟨?_,?_⟩
  ·
   intro y0 y1 y2;unfold strings_Trim.j0
   repeat' first
   | (with_reducible exact ih0 _ _ _)
   | (with_reducible exact ih1 _ _ _)
   | (with_reducible exact strings_trimLeftByte.mono _ _ _)
   | (with_reducible exact strings_trimRightByte.mono _ _ _)
   | (with_reducible exact LeO.refl _)
   | (with_reducible exact LeO.none _)
   | (with_reducible refine LeO.ite ?_ ?_)
   | (with_reducible refine LeO.bind ?_ (fun _=>?_))
   | exact ih0 _ _ _
   | exact ih1 _ _ _
   | exact strings_trimLeftByte.mono _ _ _
   | exact strings_trimRightByte.mono _ _ _
   | exact LeO.none _
   | refine LeO.ite ?_ ?_
   | refine LeO.bind ?_ (fun _=>?_)
  ·
   intro y0 y1 y2;unfold strings_Trim.j1
   repeat' first
   | (with_reducible exact ih0 _ _ _)
   | (with_reducible exact ih1 _ _ _)
   | (with_reducible exact strings_trimLeftByte.mono _ _ _)
   | (with_reducible exact strings_trimRightByte.mono _ _ _)
   | (with_reducible exact LeO.refl _)
   | (with_reducible exact LeO.none _)
   | (with_reducible refine LeO.ite ?_ ?_)
   | (with_reducible refine LeO.bind ?_ (fun _=>?_))
   | exact ih0 _ _ _
   | exact ih1 _ _ _
   | exact strings_trimLeftByte.mono _ _ _
   | exact strings_trimRightByte.mono _ _ _
   | exact LeO.none _
   | refine LeO.ite ?_ ?_
   | refine LeO.bind ?_ (fun _=>?_)
theorem strings_Trim.mono:∀ a0 a1 k,LeO (strings_Trim.f k a0 a1) (strings_Trim.f (k+1) a0 a1):=by
 intro a0 a1 k;obtain ⟨ih0,ih1⟩:=strings_Trim.mono_l k;unfold strings_Trim.f
 repeat' first
   | (with_reducible exact ih0 _ _ _)
   | (with_reducible exact ih1 _ _ _)
   | (with_reducible exact strings_trimLeftByte.mono _ _ _)
   | (with_reducible exact strings_trimRightByte.mono _ _ _)
   | (with_reducible exact LeO.refl _)
   | (with_reducible exact LeO.none _)
   | (with_reducible refine LeO.ite ?_ ?_)
   | (with_reducible refine LeO.bind ?_ (fun _=>?_))
   | exact ih0 _ _ _
   | exact ih1 _ _ _
   | exact strings_trimLeftByte.mono _ _ _
   | exact strings_trimRightByte.mono _ _ _
   | exact LeO.none _
   | refine LeO.ite ?_ ?_
   | refine LeO.bind ?_ (fun _=>?_)
set_option maxHeartbeats 8000000 in
set_option maxRecDepth 100000 in
theorem strings_Trim.calls (k:Nat) (a0:ByteArray) (a1:ByteArray) (r:ByteArray) (w:World) (h:strings_Trim.f k a0 a1=some r) :
  Calls Tryz.prog 79 #[.string a0,.string a1] w fun e w'=>e=.returned (.string r)∧Below w.heap.size w w':=by
 have HB:=am (Below.refl w.heap.size w);have H:(if a0.toList=([]:List UInt8) then (strings_Trim.j0 k a0 a1 true) else (strings_Trim.j0 k a0 a1 (a1.toList == ([]:List UInt8))))=some r:=h;clear h;have Ot:=am H;clear H;go_enter Tryz.func79,Tryz.ntmps79
 go_upto_region 1 with (fail)
 repeat (go_quiet (fail);go_upto_region 1 with (fail))
 go_cut [12] (fun v12 wc=>∃ (kq:Nat) (N2:Bool),v12=.bool N2∧Aside0 (strings_Trim.j0 kq a0 a1 N2=some r)∧Aside0 (kq≤k)∧Aside0 (Below w.heap.size w wc))
 case first =>
  have H:=Ot.out;clear Ot;by_cases c4:a0.toList=([]:List UInt8)
  ·
   rw [if_pos c4] at H;have c4b0:=qt c4;have c4b1:=bf c4;clear c4
   (first|rw [c4b0]|(simp only [i64_w,i32_w];rw [c4b0])|skip)
   have H':=am H;clear H;go_wp2
   repeat (go_quiet (fail);try go_wp2)
   go_meet
   case rel=>exact ⟨_,(true),au88,H',⟨by first|omega|exact Nat.le_refl _⟩,⟨by repeat (first|(with_reducible first|exact HB.out|apply below_alloc|apply pw_below_drewN|apply below_drew1)|exact HB.out)⟩⟩
  ·
   rw [if_neg c4] at H;have c4b0:=qf c4;have c4b1:=bu c4
   (first|rw [c4b0]|(simp only [i64_w,i32_w];rw [c4b0])|skip)
   have H':=am H;clear H;go_wp2
   repeat (go_quiet (fail);try go_wp2)
   go_meet
   case rel=>exact ⟨_,((a1.toList == ([]:List UInt8))),au88,H',⟨by first|omega|exact Nat.le_refl _⟩,⟨by repeat (first|(with_reducible first|exact HB.out|apply below_alloc|apply pw_below_drewN|apply below_drew1)|exact HB.out)⟩⟩
 case rest =>
  clear Ot
  try clear p2
  try clear c4
  try clear c4b0
  try clear c4b1
  obtain ⟨kq,N2,rfl,HA,Ou,HB⟩:=hcut
  cases kq with
  | zero=>exact absurd HA.out (by simp [strings_Trim.j0])
  | succ kj2 =>
   have H:=HA.out;clear HA;simp only [strings_Trim.j0] at H;by_cases c5:N2=true
   ·
    subst c5;replace H:=(if_pos rfl).symm.trans H;obtain rfl:=ojz H;go_wp2
    repeat (go_quiet (fail);try go_wp2)
    go_ret;exact ax1
   ·
    replace c5:=Bool.eq_false_iff.mpr c5;subst c5;replace H:=(if_neg (show ¬ (false=true) by decide)).symm.trans H;have HC6:=am H;clear H
    go_upto_region 3 with (fail)
    repeat (go_quiet (fail);go_upto_region 3 with (fail))
    go_cut [21] (fun v21 wc=>∃ (kq:Nat) (N3:Bool),v21=.bool N3∧Aside0 (strings_Trim.j1 kq a0 a1 N3=some r)∧Aside0 (kq≤kj2)∧Aside0 (Below w.heap.size w wc))
    case first =>
     have H:=HC6.out;clear HC6;by_cases c7:(a1.size:Int)=1
     ·
      rw [if_pos c7] at H;have c7b0:=qt c7;have c7b1:=bf c7;clear c7
      (first|rw [c7b0]|(simp only [i64_w,i32_w];rw [c7b0])|skip)
      by_cases c8:0<(a1.size:Int)
      ·
       rw [if_pos c8] at H;have c8b0:=dt c8;have c8b1:decide (0<a1.size)=true:=dt (by omega);clear c8;have H':=am H;clear H
       have p9:0≤(0:Int):=(by omega)
       have q9:0<a1.size:=(by have:(0:Int)<(a1.size:Int):=od au87;omega)
       have NG:∀ h:0<a1.size,((a1[0]'h).toNat:Int)=bt a1 0:=bt_at a1 0;clear p9;have qi9:(0<(a1.size:Int))=True:=eq_true (od au87);replace q9:=eq_true q9;go_wp2
       repeat (go_quiet (fail);try go_wp2)
       go_meet
       case rel=>exact ⟨_,(decide ((bt a1 0)<128)),au88,H',⟨by have:=Ou.out;first|omega|exact Nat.le_refl _⟩,⟨by repeat (first|(with_reducible first|exact HB.out|apply below_alloc|apply pw_below_drewN|apply below_drew1)|exact HB.out)⟩⟩
      · rw [if_neg c8] at H;exact absurd H (by simp)
     ·
      rw [if_neg c7] at H;have c7b0:=qf c7;have c7b1:=bu c7
      (first|rw [c7b0]|(simp only [i64_w,i32_w];rw [c7b0])|skip)
      have H':=am H;clear H;go_wp2
      repeat (go_quiet (fail);try go_wp2)
      go_meet
      case rel=>exact ⟨_,(false),au88,H',⟨by have:=Ou.out;first|omega|exact Nat.le_refl _⟩,⟨by repeat (first|(with_reducible first|exact HB.out|apply below_alloc|apply pw_below_drewN|apply below_drew1)|exact HB.out)⟩⟩
    case rest =>
     clear HC6
     try clear p2
     try clear c4
     try clear c4b0
     try clear c4b1
     try clear c5
     try clear c7
     try clear c7b0
     try clear c7b1
     try clear c8
     try clear c8b0
     try clear c8b1
     try clear p9
     try clear q9
     try clear NG
     try clear qi9
     try clear p2
     try clear p9
     try clear q9
     obtain ⟨kq,N3,rfl,HA,HJ5,HB⟩:=hcut
     cases kq with
     | zero=>exact absurd HA.out (by simp [strings_Trim.j1])
     | succ Tf =>
      have H:=HA.out;clear HA;simp only [strings_Trim.j1] at H;by_cases c10:N3=true
      ·
       subst c10;replace H:=(if_pos rfl).symm.trans H;by_cases cI:0<(a1.size:Int)
       ·
        rw [if_pos cI] at H;have c11b0:=dt cI;have c11b1:decide (0<a1.size)=true:=dt (by omega);clear cI;replace H:=ob H;obtain ⟨DW,uW,H⟩:=H
        try dsimp only at H
        have Kf:=am uW;clear uW;replace H:=ob H;obtain ⟨uZ,uU,H⟩:=H
        try dsimp only at H
        have xO:=am uU;clear uU;obtain rfl:=ojz H
        have wX:0≤(0:Int):=(by omega)
        have rM:0<a1.size:=(by have:(0:Int)<(a1.size:Int):=od au87;omega)
        have rI:∀ h:0<a1.size,((a1[0]'h).toNat:Int)=bt a1 0:=bt_at a1 0;clear wX;have a8F:(0<(a1.size:Int))=True:=eq_true (od au87);replace rM:=eq_true rM;go_wp2_with (first|(go_at_call 88;(with_reducible refine (strings_trimRightByte.calls Tf a0 (bt a1 0) DW _ Kf.out).mono ?_);rintro e w' ⟨rfl,⟨nd,rfl⟩⟩;(try first|exact ⟨rfl,_,World.drewN_drewN _ _ _⟩|exact ⟨rfl,_,Eq.trans (World.drewN_drewN _ _ _) (congrArg (World.drewN _) (Nat.add_assoc _ _ _))⟩);have jX:0≤(0:Int):=(by omega);have iU:0<a1.size:=(by have:(0:Int)<(a1.size:Int):=od au87;omega);have BM:∀ h:0<a1.size,((a1[0]'h).toNat:Int)=bt a1 0:=bt_at a1 0;clear jX;have awG:(0<(a1.size:Int))=True:=eq_true (od au87);replace iU:=eq_true iU)|(go_at_call 87;(with_reducible refine (strings_trimLeftByte.calls Tf DW (bt a1 0) uZ _ xO.out).mono ?_);rintro e w' ⟨rfl,⟨nd,rfl⟩⟩;(try first|exact ⟨rfl,_,World.drewN_drewN _ _ _⟩|exact ⟨rfl,_,Eq.trans (World.drewN_drewN _ _ _) (congrArg (World.drewN _) (Nat.add_assoc _ _ _))⟩)))
        repeat (go_quiet (first|(go_at_call 88;(with_reducible refine (strings_trimRightByte.calls Tf a0 (bt a1 0) DW _ Kf.out).mono ?_);rintro e w' ⟨rfl,⟨nd,rfl⟩⟩;(try first|exact ⟨rfl,_,World.drewN_drewN _ _ _⟩|exact ⟨rfl,_,Eq.trans (World.drewN_drewN _ _ _) (congrArg (World.drewN _) (Nat.add_assoc _ _ _))⟩);have jX:0≤(0:Int):=(by omega);have iU:0<a1.size:=(by have:(0:Int)<(a1.size:Int):=od au87;omega);have BM:∀ h:0<a1.size,((a1[0]'h).toNat:Int)=bt a1 0:=bt_at a1 0;clear jX;have awG:(0<(a1.size:Int))=True:=eq_true (od au87);replace iU:=eq_true iU)|(go_at_call 87;(with_reducible refine (strings_trimLeftByte.calls Tf DW (bt a1 0) uZ _ xO.out).mono ?_);rintro e w' ⟨rfl,⟨nd,rfl⟩⟩;(try first|exact ⟨rfl,_,World.drewN_drewN _ _ _⟩|exact ⟨rfl,_,Eq.trans (World.drewN_drewN _ _ _) (congrArg (World.drewN _) (Nat.add_assoc _ _ _))⟩)));try go_wp2_with (first|(go_at_call 88;(with_reducible refine (strings_trimRightByte.calls Tf a0 (bt a1 0) DW _ Kf.out).mono ?_);rintro e w' ⟨rfl,⟨nd,rfl⟩⟩;(try first|exact ⟨rfl,_,World.drewN_drewN _ _ _⟩|exact ⟨rfl,_,Eq.trans (World.drewN_drewN _ _ _) (congrArg (World.drewN _) (Nat.add_assoc _ _ _))⟩);have jX:0≤(0:Int):=(by omega);have iU:0<a1.size:=(by have:(0:Int)<(a1.size:Int):=od au87;omega);have BM:∀ h:0<a1.size,((a1[0]'h).toNat:Int)=bt a1 0:=bt_at a1 0;clear jX;have awG:(0<(a1.size:Int))=True:=eq_true (od au87);replace iU:=eq_true iU)|(go_at_call 87;(with_reducible refine (strings_trimLeftByte.calls Tf DW (bt a1 0) uZ _ xO.out).mono ?_);rintro e w' ⟨rfl,⟨nd,rfl⟩⟩;(try first|exact ⟨rfl,_,World.drewN_drewN _ _ _⟩|exact ⟨rfl,_,Eq.trans (World.drewN_drewN _ _ _) (congrArg (World.drewN _) (Nat.add_assoc _ _ _))⟩))))
        go_ret;exact ax1
       · rw [if_neg cI] at H;exact absurd H (by simp)
      · replace c10:=Bool.eq_false_iff.mpr c10;subst c10;replace H:=(if_neg (show ¬ (false=true) by decide)).symm.trans H;exact absurd H (by simp)
def impl_isPrintable.l0:Nat→ByteArray→Int→Option (Bool)
 | 0,_,_=>none
 | k+1,x0,x3=>if x3<(x0.size:Int) then (if 0≤x3 then (if (bt x0 x3)<32 then (some false) else (if (bt x0 x3)>126 then (some false) else (impl_isPrintable.l0 k x0 (wrap64 (x3+1))))) else (none)) else ((strings_Trim.f k x0 (⟨#[32]⟩:ByteArray)).bind fun a8I=>(some (a8I.toList == x0.toList)))
def impl_isPrintable.f (k:Nat) (a0:ByteArray):Option (Bool):=impl_isPrintable.l0 k a0 0
theorem impl_isPrintable.mono_l:∀ k,(∀ y0 y1,LeO (impl_isPrintable.l0 k y0 y1) (impl_isPrintable.l0 (k+1) y0 y1))
 | 0=>fun _ _ r h=>by simp [impl_isPrintable.l0] at h
 | k+1=>by
  have ih0:=impl_isPrintable.mono_l k
  ·
   intro y0 y1;unfold impl_isPrintable.l0
   repeat' first
   | (with_reducible exact ih0 _ _)
   | (with_reducible exact strings_Trim.mono _ _ _)
   | (with_reducible exact LeO.refl _)
   | (with_reducible exact LeO.none _)
   | (with_reducible refine LeO.ite ?_ ?_)
   | (with_reducible refine LeO.bind ?_ (fun _=>?_))
   | exact ih0 _ _
   | exact strings_Trim.mono _ _ _
   | exact LeO.none _
   | refine LeO.ite ?_ ?_
   | refine LeO.bind ?_ (fun _=>?_)
theorem impl_isPrintable.mono:∀ a0 k,LeO (impl_isPrintable.f k a0) (impl_isPrintable.f (k+1) a0):=by
 intro a0 k;have ih0:=impl_isPrintable.mono_l k;unfold impl_isPrintable.f
 repeat' first
   | (with_reducible exact ih0 _ _)
   | (with_reducible exact strings_Trim.mono _ _ _)
   | (with_reducible exact LeO.refl _)
   | (with_reducible exact LeO.none _)
   | (with_reducible refine LeO.ite ?_ ?_)
   | (with_reducible refine LeO.bind ?_ (fun _=>?_))
   | exact ih0 _ _
   | exact strings_Trim.mono _ _ _
   | exact LeO.none _
   | refine LeO.ite ?_ ?_
   | refine LeO.bind ?_ (fun _=>?_)
set_option maxHeartbeats 8000000 in
set_option maxRecDepth 100000 in
theorem impl_isPrintable.calls (k:Nat) (a0:ByteArray) (r:Bool) (w:World) (h:impl_isPrintable.f k a0=some r) :
  Calls Tryz.prog 65 #[.string a0] w fun e w'=>e=.returned (.bool r)∧Below w.heap.size w w':=by
 have HB:=am (Below.refl w.heap.size w);have H:(impl_isPrintable.l0 k a0 0)=some r:=h;clear h;have H':=am H;clear H;go_enter Tryz.func65,Tryz.ntmps65;go_wp2
 go_loopg [3] k (fun kq v3 w'=>∃ (aE:Int),v3=.int .i64 aE∧Aside0 (impl_isPrintable.l0 kq a0 aE=some r)∧Aside0 (kq≤k)∧Aside0 (Below w.heap.size w w'))
 case atStart=>exact ⟨(0),au88,H',⟨Nat.le_refl _⟩,⟨by repeat (first|(with_reducible first|exact HB.out|apply below_alloc|apply pw_below_drewN|apply below_drew1)|exact HB.out)⟩⟩
 case round =>
  clear H';obtain ⟨aE,rfl,HA,HK1,HB⟩:=hrel
  cases gk with
  | zero=>exact absurd HA.out (by simp [impl_isPrintable.l0])
  | succ k1 =>
   have H:=HA.out;clear HA;simp only [impl_isPrintable.l0] at H;by_cases c2:aE<(a0.size:Int)
   ·
    rw [if_pos c2] at H;have c2b0:=dt c2;clear c2;by_cases c3:0≤aE
    ·
     rw [if_pos c3] at H;have c3b0:=dt c3;clear c3;by_cases c5:(bt a0 aE)<32
     · rw [if_pos c5] at H;have c5b0:=dt c5;clear c5;obtain rfl:=ojz H;have p4:0≤(aE:Int):=od au87;have q4:aE<(a0.size:Int):=od au87;have Mz:=bt_at a0 aE;replace p4:=eq_true p4;replace q4:=eq_true q4;go_wp2;go_ret;exact ax1
     ·
      rw [if_neg c5] at H;have c5b0:=df c5;clear c5;by_cases c7:(bt a0 aE)>126
      · rw [if_pos c7] at H;have c7b0:=dt c7;clear c7;obtain rfl:=ojz H;have p4:0≤(aE:Int):=od au87;have q4:aE<(a0.size:Int):=od au87;have Mz:=bt_at a0 aE;replace p4:=eq_true p4;replace q4:=eq_true q4;have p6:0≤(aE:Int):=od au87;have q6:aE<(a0.size:Int):=od au87;have qN:=bt_at a0 aE;replace p6:=eq_true p6;replace q6:=eq_true q6;go_wp2;go_ret;exact ax1
      ·
       rw [if_neg c7] at H;have c7b0:=df c7;clear c7;have H':=am H;clear H;have p4:0≤(aE:Int):=od au87;have q4:aE<(a0.size:Int):=od au87;have Mz:=bt_at a0 aE;replace p4:=eq_true p4;replace q4:=eq_true q4;have p6:0≤(aE:Int):=od au87;have q6:aE<(a0.size:Int):=od au87;have qN:=bt_at a0 aE;replace p6:=eq_true p6;replace q6:=eq_true q6;go_wp2
       go_roundg k1
       case measure=>have:=HK1.out;omega
       case rel=>exact ⟨(wrap64 (aE+1)),au88,H',⟨by have:=HK1.out;omega⟩,⟨by repeat (first|(with_reducible first|exact HB.out|apply below_alloc|apply pw_below_drewN|apply below_drew1)|exact HB.out)⟩⟩
    · rw [if_neg c3] at H;exact absurd H (by simp)
   ·
    rw [if_neg c2] at H;have c2b0:=df c2;clear c2;replace H:=ob H;obtain ⟨a8I,iW,H⟩:=H
    try dsimp only at H
    have A8:=am iW;clear iW;obtain rfl:=ojz H;go_wp2_with (first|((with_reducible refine gate_callee (f:=79) rfl ?_);refine goesL_ (some 21) rfl rfl Tryz.func79 (by kernel_rfl) rfl #[.string a0,.string (⟨#[32]⟩:ByteArray)] rfl au45 ?_;(with_reducible refine (strings_Trim.calls k1 a0 (⟨#[32]⟩:ByteArray) a8I _ A8.out).mono ?_);rintro e w9 ⟨rfl,hb⟩;refine ⟨_,rfl,?_⟩;replace HB:=am (below_step au46 hb);(try clear hb)));go_ret;exact ax1
def impl_isText.f (k:Nat) (a0:ByteArray):Option (Bool):=if (a0.size:Int)≤40 then ((impl_isPrintable.f k a0).bind fun Ov=>(some Ov)) else (some false)
theorem impl_isText.mono:∀ a0 k,LeO (impl_isText.f k a0) (impl_isText.f (k+1) a0):=by
 intro a0 k;unfold impl_isText.f
 repeat' first
   | (with_reducible exact impl_isPrintable.mono _ _)
   | (with_reducible exact LeO.refl _)
   | (with_reducible exact LeO.none _)
   | (with_reducible refine LeO.ite ?_ ?_)
   | (with_reducible refine LeO.bind ?_ (fun _=>?_))
   | exact impl_isPrintable.mono _ _
   | exact LeO.none _
   | refine LeO.ite ?_ ?_
   | refine LeO.bind ?_ (fun _=>?_)
set_option maxHeartbeats 8000000 in
set_option maxRecDepth 100000 in
theorem impl_isText.calls (k:Nat) (a0:ByteArray) (r:Bool) (w:World) (h:impl_isText.f k a0=some r) :
  Calls Tryz.prog 48 #[.string a0] w fun e w'=>e=.returned (.bool r)∧Below w.heap.size w w':=by
 have HB:=am (Below.refl w.heap.size w);have H:(if (a0.size:Int)≤40 then ((impl_isPrintable.f k a0).bind fun Ov=>(some Ov)) else (some false))=some r:=h;clear h;by_cases c2:(a0.size:Int)≤40
 ·
  rw [if_pos c2] at H;have c2b0:=dt c2;have c2b1:decide (a0.size≤40)=true:=dt (by omega);clear c2;replace H:=ob H;obtain ⟨Ov,dL,H⟩:=H
  try dsimp only at H
  have A3:=am dL;clear dL;obtain rfl:=ojz H;go_enter Tryz.func48,Tryz.ntmps48;go_wp2_with (first|(go_at_call 65;(with_reducible refine (impl_isPrintable.calls k a0 Ov _ A3.out).mono ?_);rintro e w4 ⟨rfl,hb⟩;replace HB:=am (below_step au46 hb);(try clear hb)));go_ret;exact ax1
 · rw [if_neg c2] at H;have c2b0:=df c2;have c2b1:decide (a0.size≤40)=false:=df (by omega);clear c2;obtain rfl:=ojz H;go_enter Tryz.func48,Tryz.ntmps48;go_wp2;go_ret;exact ax1
def impl_IsValidEntry.j0:Nat→Bool→ByteArray→Int→List (S69)→List (S69)→ByteArray→ByteArray→ByteArray→Int→Int→Int→Bool→Int→ByteArray→ByteArray→Option (Bool)
 | 0,_,_,_,_,_,_,_,_,_,_,_,_,_,_,_=>none
 | k+1,x36,aiA,aJP,aJQ,aJR,aiB,aiC,aiD,aJS,aJT,aJU,aJV,aJW,aiE,Lm=>if x36=true then (some false) else ((impl_isText.f k aiB).bind fun Ow=>(if Ow=true then ((impl_isText.f k aiC).bind fun a8J=>(if a8J=true then ((impl_isText.f k aiD).bind fun Ox=>(if Ox=true then ((impl_isText.f k aiE).bind fun a8K=>(if a8K=true then (if Lm.toList=([]:List UInt8) then (some true) else ((impl_isKey.f k Lm).bind fun a8L=>(if a8L=true then (some (Lm.toList != aiA.toList)) else (some false)))) else (some false))) else (some false))) else (some false))) else (some false)))
def impl_IsValidEntry.f (k:Nat) (aJ:ByteArray) (aH:Int) (bJ:List (S69)) (bM:List (S69)) (aX:ByteArray) (bB:ByteArray) (bE:ByteArray) (bN:Int) (bO:Int) (bQ:Int) (bF:Bool) (bI:Int) (bD:ByteArray) (bL:ByteArray):Option (Bool):=(impl_isKey.f k aJ).bind fun Oy=>(if Oy=true then ((impl_isKind.f aH).bind fun Oz=>(if Oz=true then ((impl_areNames.f k bJ).bind fun vB=>(if vB=true then ((impl_areNames.f k bM).bind fun OA=>(if OA=true then ((impl_IsValidDate.f k bN bO bQ bF).bind fun J0=>(if J0=true then ((impl_inside.f bI 0 9999).bind fun Ln=>(impl_IsValidEntry.j0 k (!Ln) aJ aH bJ bM aX bB bE bN bO bQ bF bI bD bL)) else (impl_IsValidEntry.j0 k true aJ aH bJ bM aX bB bE bN bO bQ bF bI bD bL))) else (impl_IsValidEntry.j0 k true aJ aH bJ bM aX bB bE bN bO bQ bF bI bD bL))) else (impl_IsValidEntry.j0 k true aJ aH bJ bM aX bB bE bN bO bQ bF bI bD bL))) else (impl_IsValidEntry.j0 k true aJ aH bJ bM aX bB bE bN bO bQ bF bI bD bL))) else (impl_IsValidEntry.j0 k true aJ aH bJ bM aX bB bE bN bO bQ bF bI bD bL))
theorem impl_IsValidEntry.mono_l:∀ k,(∀ y0 y1 y2 y3 y4 y5 y6 y7 y8 y9 Dn DX DY DZ E0,LeO (impl_IsValidEntry.j0 k y0 y1 y2 y3 y4 y5 y6 y7 y8 y9 Dn DX DY DZ E0) (impl_IsValidEntry.j0 (k+1) y0 y1 y2 y3 y4 y5 y6 y7 y8 y9 Dn DX DY DZ E0))
 | 0=>fun _ _ _ _ _ _ _ _ _ _ _ _ _ _ _ r h=>by simp [impl_IsValidEntry.j0] at h
 | k+1=>by
  have ih0:=impl_IsValidEntry.mono_l k
  ·
   intro y0 y1 y2 y3 y4 y5 y6 y7 y8 y9 Dn DX DY DZ E0;unfold impl_IsValidEntry.j0
   repeat' first
   | (with_reducible exact ih0 _ _ _ _ _ _ _ _ _ _ _ _ _ _ _)
   | (with_reducible exact impl_IsValidDate.mono _ _ _ _ _)
   | (with_reducible exact impl_areNames.mono _ _)
   | (with_reducible exact impl_isKey.mono _ _)
   | (with_reducible exact impl_isText.mono _ _)
   | (with_reducible exact LeO.refl _)
   | (with_reducible exact LeO.none _)
   | (with_reducible refine LeO.ite ?_ ?_)
   | (with_reducible refine LeO.bind ?_ (fun _=>?_))
   | exact ih0 _ _ _ _ _ _ _ _ _ _ _ _ _ _ _
   | exact impl_IsValidDate.mono _ _ _ _ _
   | exact impl_areNames.mono _ _
   | exact impl_isKey.mono _ _
   | exact impl_isText.mono _ _
   | exact LeO.none _
   | refine LeO.ite ?_ ?_
   | refine LeO.bind ?_ (fun _=>?_)
theorem impl_IsValidEntry.mono:∀ a0 a1 a2 a3 a4 a5 a6 a7 a8 a9 iG iH iI iJ k,LeO (impl_IsValidEntry.f k a0 a1 a2 a3 a4 a5 a6 a7 a8 a9 iG iH iI iJ) (impl_IsValidEntry.f (k+1) a0 a1 a2 a3 a4 a5 a6 a7 a8 a9 iG iH iI iJ):=by
 intro a0 a1 a2 a3 a4 a5 a6 a7 a8 a9 iG iH iI iJ k;have ih0:=impl_IsValidEntry.mono_l k;unfold impl_IsValidEntry.f
 repeat' first
   | (with_reducible exact ih0 _ _ _ _ _ _ _ _ _ _ _ _ _ _ _)
   | (with_reducible exact impl_IsValidDate.mono _ _ _ _ _)
   | (with_reducible exact impl_areNames.mono _ _)
   | (with_reducible exact impl_isKey.mono _ _)
   | (with_reducible exact impl_isText.mono _ _)
   | (with_reducible exact LeO.refl _)
   | (with_reducible exact LeO.none _)
   | (with_reducible refine LeO.ite ?_ ?_)
   | (with_reducible refine LeO.bind ?_ (fun _=>?_))
   | exact ih0 _ _ _ _ _ _ _ _ _ _ _ _ _ _ _
   | exact impl_IsValidDate.mono _ _ _ _ _
   | exact impl_areNames.mono _ _
   | exact impl_isKey.mono _ _
   | exact impl_isText.mono _ _
   | exact LeO.none _
   | refine LeO.ite ?_ ?_
   | refine LeO.bind ?_ (fun _=>?_)
set_option maxRecDepth 100000 in
theorem impl_IsValidEntry.L0 {P:Prop} (h:P:=by
  go_wp2_with (first|((with_reducible refine gate_callee (f:=43) rfl ?_);refine goesL_ (some 5) rfl rfl Tryz.func43 (by kernel_rfl) rfl #[.string aJ] rfl au45 ?_;(with_reducible refine (impl_isKey.calls k aJ _ _ A4.out).mono ?_);rintro e w' ⟨rfl,⟨nd,rfl⟩⟩;refine ⟨_,rfl,?_⟩)|(go_at_call 44;(with_reducible refine (impl_isKind.calls aH _ _ A6.out).mono ?_);rintro e w' ⟨rfl,⟨nd,rfl⟩⟩)|(go_at_call 45;(with_reducible refine (impl_areNames.calls (hG:=au0) k _ _ bJ _ _ ?aU ?aV A8.out).mono ?_);(case aU=>repeat (first|exact (Kd.C_below gQ.out au25)|(with_reducible refine Kd.C_alloc ?_ _)|(with_reducible refine Kd.C_drewN ?_ _)|(with_reducible refine Kd.C_drew ?_)));(case aV=>exact gR.out);rintro e vC ⟨rfl,hb⟩;replace bZ:=am (blk_below (g:=fB) au56 hb);replace HB:=am (below_step au25 hb);(try clear hb);obtain ⟨tL,tM,tN,tP,EY,EZ,F0,F1,F2,F3,BO,BP,BQ,BR,tQ,tR,tS,tT,F4,F5,F6,F7,F8,F9,BS,BU,BV,BW⟩:=blkc14 bZ.out)|(go_at_call 45;(with_reducible refine (impl_areNames.calls (hG:=au0) k _ _ bM _ _ ?aU ?aV rO.out).mono ?_);(case aU=>repeat (first|exact (Kd.C_below jC.out HB.out)|(with_reducible refine Kd.C_alloc ?_ _)|(with_reducible refine Kd.C_drewN ?_ _)|(with_reducible refine Kd.C_drew ?_)));(case aV=>exact jD.out);rintro e nW ⟨rfl,hb⟩;replace bZ:=am (blk_below (g:=fB) au56 hb);replace HB:=am (below_step au25 hb);(try clear hb);obtain ⟨tJ,ES,ET,EU,Tg,Ti,Tj,Tk,Tl,Tm,OB,OC,OD,OE,tK,EV,EW,EX,Tn,Tp,Tq,Tr,Ts,Tt,OF,OG,OH,OI⟩:=blkc14 bZ.out)|(go_at_call 46;(with_reducible refine (impl_IsValidDate.calls k bN bO bQ bF _ _ uT.out).mono ?_);rintro e Dp ⟨rfl,hb⟩;replace bZ:=am (blk_below (g:=fB) au56 hb);replace HB:=am (below_step au25 hb);(try clear hb);obtain ⟨Lc,Ld,Le,Lf,Tu,Tv,Tw,Tx,Ty,Tz,OJ,OK,OL,OM,Lg,Lh,Li,Lj,TA,TB,TC,TD,TE,TF,ON,OO,OP,OQ⟩:=blkc14 bZ.out)|(go_at_call 47;(with_reducible refine (impl_inside.calls bI 0 9999 Ln _ A14.out).mono ?_);rintro e w' ⟨rfl,⟨nd,rfl⟩⟩));go_meet
  case rel=>first|(exact ⟨_,(!Ln),au88,H',⟨by first|omega|exact Nat.le_refl _⟩,⟨by (with_reducible repeat (first|refine blk_drewN ?_ _|refine blk_drew ?_|refine blk_alloc ?_ _));exact bZ.out⟩,⟨by repeat (first|(with_reducible first|exact HB.out|apply below_alloc|apply pw_below_drewN|apply below_drew1|refine below_set ?_ Bt.out)|exact HB.out)⟩⟩)|(exact ⟨_,(true),au88,H',⟨by first|omega|exact Nat.le_refl _⟩,⟨by (with_reducible repeat (first|refine blk_drewN ?_ _|refine blk_drew ?_|refine blk_alloc ?_ _));exact bZ.out⟩,⟨by repeat (first|(with_reducible first|exact HB.out|apply below_alloc|apply pw_below_drewN|apply below_drew1|refine below_set ?_ Bt.out)|exact HB.out)⟩⟩)):P:=h
set_option maxRecDepth 100000 in
theorem impl_IsValidEntry.L1 {P:Prop} (h:P:=by
  go_wp2_with (first|((with_reducible refine gate_callee (f:=48) rfl ?_);refine goesL_ (some 39) rfl rfl Tryz.func48 (by kernel_rfl) rfl #[.string aX] rfl au45 ?_;(with_reducible refine (impl_isText.calls eY aX _ _ A37.out).mono ?_);rintro e w58 ⟨rfl,hb⟩;refine ⟨_,rfl,?_⟩;replace bZ:=am (blk_below (g:=fB) au56 hb);replace HB:=am (below_step au25 hb);(try clear hb);obtain ⟨aJX,aJY,aJZ,aK0,aK1,aK2,aK3,aK4,aK5,aK6,aFO,aFP,aFQ,aFR,aK7,aK8,aK9,aKa,aKb,aKc,aKd,aKe,aKf,aKg,aFS,aFT,aFU,aFV⟩:=blkc14 bZ.out)|(go_at_call 48;(with_reducible refine (impl_isText.calls eY bB _ _ A39.out).mono ?_);rintro e w60 ⟨rfl,hb⟩;replace bZ:=am (blk_below (g:=fB) au56 hb);replace HB:=am (below_step au25 hb);(try clear hb);obtain ⟨aKh,aKi,aKj,aKk,aKl,aKm,aKn,aKo,aKp,aKq,aFW,aFX,aFY,aFZ,aKr,aKs,aKt,aKu,aKv,aKw,aKx,aKy,aKz,aKA,aG0,aG1,aG2,aG3⟩:=blkc14 bZ.out)|(go_at_call 48;(with_reducible refine (impl_isText.calls eY bE _ _ A41.out).mono ?_);rintro e w62 ⟨rfl,hb⟩;replace bZ:=am (blk_below (g:=fB) au56 hb);replace HB:=am (below_step au25 hb);(try clear hb);obtain ⟨aKB,aKC,aKD,aKE,aKF,aKG,aKH,aKI,aKJ,aKK,aG4,aG5,aG6,aG7,aKL,aKM,aKN,aKO,aKP,aKQ,aKR,aKS,aKT,aKU,aG8,aG9,aGa,aGb⟩:=blkc14 bZ.out)|(go_at_call 48;(with_reducible refine (impl_isText.calls eY bD _ _ A43.out).mono ?_);rintro e w64 ⟨rfl,hb⟩;replace bZ:=am (blk_below (g:=fB) au56 hb);replace HB:=am (below_step au25 hb);(try clear hb);obtain ⟨aKV,aKW,aKX,aKY,aKZ,aL0,aL1,aL2,aL3,aL4,aGc,aGd,aGe,aGf,aL5,aL6,aL7,aL8,aL9,aLa,aLb,aLc,aLd,aLe,aGg,aGh,aGi,aGj⟩:=blkc14 bZ.out)|(go_at_call 43;(with_reducible refine (impl_isKey.calls eY bL _ _ A55.out).mono ?_);rintro e w' ⟨rfl,⟨nd,rfl⟩⟩));go_ret
  exact ax4):P:=h
set_option maxHeartbeats 8000000 in
set_option maxRecDepth 100000 in
theorem impl_IsValidEntry.calls (k:Nat) (aJ:ByteArray) (aH:Int) (dD:Option Addr) (dE:Nat) (bJ:List (S69)) (dF:Option Addr) (dG:Nat) (bM:List (S69)) (aX:ByteArray) (bB:ByteArray) (bE:ByteArray) (bN:Int) (bO:Int) (bQ:Int) (bF:Bool) (bI:Int) (bD:ByteArray) (bL:ByteArray) (r:Bool) (w:World) {gF1 gF2 gF3:Bool} (hG:GL gF1 gF2 gF3 w) (fY:Kd.C k69 w dD bJ.length bJ) (eZ:bJ.length≤dE) (fZ:Kd.C k69 w dF bM.length bM) (fA:bM.length≤dG) (h:impl_IsValidEntry.f k aJ aH bJ bM aX bB bE bN bO bQ bF bI bD bL=some r) :
  Calls Tryz.prog 28 #[.agg #[.string aJ,.int .i64 aH,.slice dD bJ.length dE,.slice dF bM.length dG,.string aX,.string bB,.string bE,.int .i64 bN,.int .i64 bO,.int .i64 bQ,.bool bF,.int .i64 bI,.string bD,.string bL]] w fun e w'=>e=.returned (.bool r)∧Below w.heap.size w w':=by
 have HG:=am hG;clear hG;have hu42:=Tryz.underlying42;have hu40:=Tryz.underlying40;have gQ:=am fY;have gR:=am eZ;clear fY eZ;have jC:=am fZ;have jD:=am fA;clear fZ fA;have HB:=am (Below.refl w.heap.size w);have H:((impl_isKey.f k aJ).bind fun Oy=>(if Oy=true then ((impl_isKind.f aH).bind fun Oz=>(if Oz=true then ((impl_areNames.f k bJ).bind fun vB=>(if vB=true then ((impl_areNames.f k bM).bind fun OA=>(if OA=true then ((impl_IsValidDate.f k bN bO bQ bF).bind fun J0=>(if J0=true then ((impl_inside.f bI 0 9999).bind fun Ln=>(impl_IsValidEntry.j0 k (!Ln) aJ aH bJ bM aX bB bE bN bO bQ bF bI bD bL)) else (impl_IsValidEntry.j0 k true aJ aH bJ bM aX bB bE bN bO bQ bF bI bD bL))) else (impl_IsValidEntry.j0 k true aJ aH bJ bM aX bB bE bN bO bQ bF bI bD bL))) else (impl_IsValidEntry.j0 k true aJ aH bJ bM aX bB bE bN bO bQ bF bI bD bL))) else (impl_IsValidEntry.j0 k true aJ aH bJ bM aX bB bE bN bO bQ bF bI bD bL))) else (impl_IsValidEntry.j0 k true aJ aH bJ bM aX bB bE bN bO bQ bF bI bD bL)))=some r:=h;clear h;have hJ:=am H;clear H;go_enter Tryz.func28,Tryz.ntmps28
 go_upto_region 1 with (first|((with_reducible refine gate_dst (N:=1) rfl ?_);refine box_event ?hg (N:=1) ?hd (cs:=#[.string aJ,.int .i64 aH,.slice dD bJ.length dE,.slice dF bM.length dG,.string aX,.string bB,.string bE,.int .i64 bN,.int .i64 bO,.int .i64 bQ,.bool bF,.int .i64 bI,.string bD,.string bL]) (t:=42) ?hr ?_;(case hd=>rfl);(case hg=>rfl);(case hr=>first|(go_simp;done)|(go_simp;rfl));intro fB hg w3 hbox hb;have bZ:=am (hbox);have aWY:=am (bsz hg au46);have Bt:=am (bsz hg au46);replace HB:=am (below_step au46 hb);clear hb hbox hg))
 (try simp only [Act.put,List.setIfInBounds_toArray,List.set_cons_zero,List.set_cons_succ])
 go_cut [36] (fun v36 wc=>∃ (kq:Nat) (N4:Bool),v36=.bool N4∧Aside0 (impl_IsValidEntry.j0 kq N4 aJ aH bJ bM aX bB bE bN bO bQ bF bI bD bL=some r)∧Aside0 (kq≤k)∧Aside0 (wc.heap[fB]?=some (.cells #[.string aJ,.int .i64 aH,(.slice dD bJ.length dE),(.slice dF bM.length dG),.string aX,.string bB,.string bE,.int .i64 bN,.int .i64 bO,.int .i64 bQ,.bool bF,.int .i64 bI,.string bD,.string bL] 42 (0,0)))∧Aside0 (Below w.heap.size w wc))
 case first =>
  have H:=hJ.out;clear hJ;replace H:=ob H;obtain ⟨Oy,oL,H⟩:=H
  try dsimp only at H
  have A4:=am oL;clear oL;by_cases c5:Oy=true
  ·
   subst c5;replace H:=(if_pos rfl).symm.trans H;replace H:=ob H;obtain ⟨Oz,iV,H⟩:=H
   try dsimp only at H
   have A6:=am iV;clear iV;by_cases c7:Oz=true
   ·
    subst c7;replace H:=(if_pos rfl).symm.trans H;replace H:=ob H;obtain ⟨vB,iW,H⟩:=H
    try dsimp only at H
    have A8:=am iW;clear iW;by_cases c9:vB=true
    ·
     subst c9;replace H:=(if_pos rfl).symm.trans H;replace H:=ob H;obtain ⟨OA,oT,H⟩:=H
     try dsimp only at H
     have rO:=am oT;clear oT;by_cases cI:OA=true
     ·
      subst cI;replace H:=(if_pos rfl).symm.trans H;replace H:=ob H;obtain ⟨J0,oQ,H⟩:=H
      try dsimp only at H
      have uT:=am oQ;clear oQ;by_cases cV:J0=true
      ·
       subst cV;replace H:=(if_pos rfl).symm.trans H;replace H:=ob H;obtain ⟨Ln,Oh,H⟩:=H
       try dsimp only at H
       have A14:=am Oh;clear Oh;have H':=am H;clear H;obtain ⟨gX,kP,kQ,kR,sH,sI,sJ,sK,sL,sM,pL,pM,pN,pO,gY,kS,kT,kU,sN,sO,sP,sQ,sR,sS,pP,pQ,pR,pS⟩:=blkc14 bZ.out;exact impl_IsValidEntry.L0
      ·
       replace cV:=Bool.eq_false_iff.mpr cV;subst cV;replace H:=(if_neg (show ¬ (false=true) by decide)).symm.trans H;have H':=am H;clear H;obtain ⟨sT,sU,sV,sW,EE,EF,EG,EH,EI,EJ,BE,BF,BG,BH,sX,sY,sZ,tA,EK,EL,EM,EN,EO,EP,BI,BJ,BK,BL⟩:=blkc14 bZ.out;go_wp2_with (first|((with_reducible refine gate_callee (f:=43) rfl ?_);refine goesL_ (some 5) rfl rfl Tryz.func43 (by kernel_rfl) rfl #[.string aJ] rfl au45 ?_;(with_reducible refine (impl_isKey.calls k aJ _ _ A4.out).mono ?_);rintro e w' ⟨rfl,⟨nd,rfl⟩⟩;refine ⟨_,rfl,?_⟩)|(go_at_call 44;(with_reducible refine (impl_isKind.calls aH _ _ A6.out).mono ?_);rintro e w' ⟨rfl,⟨nd,rfl⟩⟩)|(go_at_call 45;(with_reducible refine (impl_areNames.calls (hG:=au0) k _ _ bJ _ _ ?aU ?aV A8.out).mono ?_);(case aU=>repeat (first|exact (Kd.C_below gQ.out au25)|(with_reducible refine Kd.C_alloc ?_ _)|(with_reducible refine Kd.C_drewN ?_ _)|(with_reducible refine Kd.C_drew ?_)));(case aV=>exact gR.out);rintro e w23 ⟨rfl,hb⟩;replace bZ:=am (blk_below (g:=fB) au56 hb);replace HB:=am (below_step au25 hb);(try clear hb);obtain ⟨tB,tC,tD,tE,Fa,Fb,Fc,Fe,Ff,Fg,BX,BZ,C0,C1,tF,tG,tH,tI,Fh,Fi,Fj,Fl,Fo,Fp,C2,C3,C4,C5⟩:=blkc14 bZ.out)|(go_at_call 45;(with_reducible refine (impl_areNames.calls (hG:=au0) k _ _ bM _ _ ?aU ?aV rO.out).mono ?_);(case aU=>repeat (first|exact (Kd.C_below jC.out HB.out)|(with_reducible refine Kd.C_alloc ?_ _)|(with_reducible refine Kd.C_drewN ?_ _)|(with_reducible refine Kd.C_drew ?_)));(case aV=>exact jD.out);rintro e w25 ⟨rfl,hb⟩;replace bZ:=am (blk_below (g:=fB) au56 hb);replace HB:=am (below_step au25 hb);(try clear hb);obtain ⟨TG,TH,TI,TJ,TK,TL,TM,TN,TP,TQ,OS,OT,OU,OV,TR,TS,TT,TU,TV,TW,TX,TY,TZ,U0,OW,OX,OY,OZ⟩:=blkc14 bZ.out)|(go_at_call 46;(with_reducible refine (impl_IsValidDate.calls k bN bO bQ bF _ _ uT.out).mono ?_);rintro e w27 ⟨rfl,hb⟩;replace bZ:=am (blk_below (g:=fB) au56 hb);replace HB:=am (below_step au25 hb);(try clear hb)));go_meet
       case rel=>exact ⟨_,(true),au88,H',⟨by first|omega|exact Nat.le_refl _⟩,⟨by (with_reducible repeat (first|refine blk_drewN ?_ _|refine blk_drew ?_|refine blk_alloc ?_ _));exact bZ.out⟩,⟨by repeat (first|(with_reducible first|exact HB.out|apply below_alloc|apply pw_below_drewN|apply below_drew1|refine below_set ?_ Bt.out)|exact HB.out)⟩⟩
     ·
      replace cI:=Bool.eq_false_iff.mpr cI;subst cI;replace H:=(if_neg (show ¬ (false=true) by decide)).symm.trans H;have H':=am H;clear H;obtain ⟨xV,Fq,Fs,Ft,Lo,Lp,Lq,Lr,Ls,Lt,J1,J2,J3,J4,xW,Fu,Fv,Fw,Lu,Lv,Lw,Lx,Ly,Lz,J5,J6,J7,J8⟩:=blkc14 bZ.out;go_wp2_with (first|((with_reducible refine gate_callee (f:=43) rfl ?_);refine goesL_ (some 5) rfl rfl Tryz.func43 (by kernel_rfl) rfl #[.string aJ] rfl au45 ?_;(with_reducible refine (impl_isKey.calls k aJ _ _ A4.out).mono ?_);rintro e w' ⟨rfl,⟨nd,rfl⟩⟩;refine ⟨_,rfl,?_⟩)|(go_at_call 44;(with_reducible refine (impl_isKind.calls aH _ _ A6.out).mono ?_);rintro e w' ⟨rfl,⟨nd,rfl⟩⟩)|(go_at_call 45;(with_reducible refine (impl_areNames.calls (hG:=au0) k _ _ bJ _ _ ?aU ?aV A8.out).mono ?_);(case aU=>repeat (first|exact (Kd.C_below gQ.out au25)|(with_reducible refine Kd.C_alloc ?_ _)|(with_reducible refine Kd.C_drewN ?_ _)|(with_reducible refine Kd.C_drew ?_)));(case aV=>exact gR.out);rintro e w29 ⟨rfl,hb⟩;replace bZ:=am (blk_below (g:=fB) au56 hb);replace HB:=am (below_step au25 hb);(try clear hb);obtain ⟨xX,xY,xZ,yA,Fx,Fy,Fz,FA,FB,FC,C6,C7,C8,C9,yB,yC,yD,yE,FD,FE,FF,FG,FH,FI,Ca,Cb,Cc,Cd⟩:=blkc14 bZ.out)|(go_at_call 45;(with_reducible refine (impl_areNames.calls (hG:=au0) k _ _ bM _ _ ?aU ?aV rO.out).mono ?_);(case aU=>repeat (first|exact (Kd.C_below jC.out HB.out)|(with_reducible refine Kd.C_alloc ?_ _)|(with_reducible refine Kd.C_drewN ?_ _)|(with_reducible refine Kd.C_drew ?_)));(case aV=>exact jD.out);rintro e w31 ⟨rfl,hb⟩;replace bZ:=am (blk_below (g:=fB) au56 hb);replace HB:=am (below_step au25 hb);(try clear hb)));go_meet
      case rel=>exact ⟨_,(true),au88,H',⟨by first|omega|exact Nat.le_refl _⟩,⟨by (with_reducible repeat (first|refine blk_drewN ?_ _|refine blk_drew ?_|refine blk_alloc ?_ _));exact bZ.out⟩,⟨by repeat (first|(with_reducible first|exact HB.out|apply below_alloc|apply pw_below_drewN|apply below_drew1|refine below_set ?_ Bt.out)|exact HB.out)⟩⟩
    ·
     replace c9:=Bool.eq_false_iff.mpr c9;subst c9;replace H:=(if_neg (show ¬ (false=true) by decide)).symm.trans H;have H':=am H;clear H;obtain ⟨aiF,aiG,aiH,aiI,aiJ,aiK,aiL,aiM,aiN,aiO,a8M,a8N,a8O,a8P,aiP,aiQ,aiR,aiS,aiT,aiU,aiV,aiW,aiX,aiY,a8Q,a8R,a8S,a8T⟩:=blkc14 bZ.out;go_wp2_with (first|((with_reducible refine gate_callee (f:=43) rfl ?_);refine goesL_ (some 5) rfl rfl Tryz.func43 (by kernel_rfl) rfl #[.string aJ] rfl au45 ?_;(with_reducible refine (impl_isKey.calls k aJ _ _ A4.out).mono ?_);rintro e w' ⟨rfl,⟨nd,rfl⟩⟩;refine ⟨_,rfl,?_⟩)|(go_at_call 44;(with_reducible refine (impl_isKind.calls aH _ _ A6.out).mono ?_);rintro e w' ⟨rfl,⟨nd,rfl⟩⟩)|(go_at_call 45;(with_reducible refine (impl_areNames.calls (hG:=au0) k _ _ bJ _ _ ?aU ?aV A8.out).mono ?_);(case aU=>repeat (first|exact (Kd.C_below gQ.out au25)|(with_reducible refine Kd.C_alloc ?_ _)|(with_reducible refine Kd.C_drewN ?_ _)|(with_reducible refine Kd.C_drew ?_)));(case aV=>exact gR.out);rintro e w33 ⟨rfl,hb⟩;replace bZ:=am (blk_below (g:=fB) au56 hb);replace HB:=am (below_step au25 hb);(try clear hb)));go_meet
     case rel=>exact ⟨_,(true),au88,H',⟨by first|omega|exact Nat.le_refl _⟩,⟨by (with_reducible repeat (first|refine blk_drewN ?_ _|refine blk_drew ?_|refine blk_alloc ?_ _));exact bZ.out⟩,⟨by repeat (first|(with_reducible first|exact HB.out|apply below_alloc|apply pw_below_drewN|apply below_drew1|refine below_set ?_ Bt.out)|exact HB.out)⟩⟩
   · replace c7:=Bool.eq_false_iff.mpr c7;subst c7;replace H:=(if_neg (show ¬ (false=true) by decide)).symm.trans H;have H':=am H;clear H;obtain ⟨FJ,LA,LB,LC,U1,U2,U3,U4,U5,U6,P0,P1,P2,P3,FL,LD,LE,LF,U7,U8,U9,Ua,Ub,Uc,P4,P5,P6,P7⟩:=blkc14 bZ.out;exact impl_IsValidEntry.L0
  · replace c5:=Bool.eq_false_iff.mpr c5;subst c5;replace H:=(if_neg (show ¬ (false=true) by decide)).symm.trans H;have H':=am H;clear H;obtain ⟨aiZ,ajA,ajB,ajC,ajD,ajE,ajF,ajG,ajH,ajI,a8U,a8V,a8W,a8X,ajJ,ajK,ajL,ajM,ajN,ajO,ajP,ajQ,ajR,ajS,a8Y,a8Z,a9A,a9B⟩:=blkc14 bZ.out;exact impl_IsValidEntry.L0
 case rest =>
  clear hJ
  try clear c1
  try clear c2
  try clear p2
  try clear c4
  try clear c5
  try clear c7
  try clear c9
  try clear cI
  try clear cV
  try clear Dq
  try clear gX kP pL pM pN pO kQ kR sH sI sJ sK sL sM gY kS pP pQ pR pS kT kU sN sO sP sQ sR sS
  try clear tL tM BO BP BQ BR tN tP EY EZ F0 F1 F2 F3 tQ tR BS BU BV BW tS tT F4 F5 F6 F7 F8 F9
  try clear tJ ES OB OC OD OE ET EU Tg Ti Tj Tk Tl Tm tK EV OF OG OH OI EW EX Tn Tp Tq Tr Ts Tt
  try clear Lc Ld OJ OK OL OM Le Lf Tu Tv Tw Tx Ty Tz Lg Lh ON OO OP OQ Li Lj TA TB TC TD TE TF
  try clear sT sU BE BF BG BH sV sW EE EF EG EH EI EJ sX sY BI BJ BK BL sZ tA EK EL EM EN EO EP
  try clear tB tC BX BZ C0 C1 tD tE Fa Fb Fc Fe Ff Fg tF tG C2 C3 C4 C5 tH tI Fh Fi Fj Fl Fo Fp
  try clear TG TH OS OT OU OV TI TJ TK TL TM TN TP TQ TR TS OW OX OY OZ TT TU TV TW TX TY TZ U0
  try clear xV Fq J1 J2 J3 J4 Fs Ft Lo Lp Lq Lr Ls Lt xW Fu J5 J6 J7 J8 Fv Fw Lu Lv Lw Lx Ly Lz
  try clear xX xY C6 C7 C8 C9 xZ yA Fx Fy Fz FA FB FC yB yC Ca Cb Cc Cd yD yE FD FE FF FG FH FI
  try clear aiF aiG a8M a8N a8O a8P aiH aiI aiJ aiK aiL aiM aiN aiO aiP aiQ a8Q a8R a8S a8T aiR aiS aiT aiU aiV aiW aiX aiY
  try clear FJ LA P0 P1 P2 P3 LB LC U1 U2 U3 U4 U5 U6 FL LD P4 P5 P6 P7 LE LF U7 U8 U9 Ua Ub Uc
  try clear aiZ ajA a8U a8V a8W a8X ajB ajC ajD ajE ajF ajG ajH ajI ajJ ajK a8Y a8Z a9A a9B ajL ajM ajN ajO ajP ajQ ajR ajS
  obtain ⟨kq,N4,rfl,HA,hO,bZ,HB⟩:=hcut
  cases kq with
  | zero=>exact absurd HA.out (by simp [impl_IsValidEntry.j0])
  | succ eY =>
   have H:=HA.out;clear HA;simp only [impl_IsValidEntry.j0] at H;by_cases Ki:N4=true
   · subst Ki;replace H:=(if_pos rfl).symm.trans H;obtain rfl:=ojz H;exact impl_IsValidEntry.L1
   ·
    replace Ki:=Bool.eq_false_iff.mpr Ki;subst Ki;replace H:=(if_neg (show ¬ (false=true) by decide)).symm.trans H;replace H:=ob H;obtain ⟨Ow,awH,H⟩:=H
    try dsimp only at H
    have A37:=am awH;clear awH;by_cases c38:Ow=true
    ·
     subst c38;replace H:=(if_pos rfl).symm.trans H;replace H:=ob H;obtain ⟨a8J,awI,H⟩:=H
     try dsimp only at H
     have A39:=am awI;clear awI;by_cases c40:a8J=true
     ·
      subst c40;replace H:=(if_pos rfl).symm.trans H;replace H:=ob H;obtain ⟨Ox,P8,H⟩:=H
      try dsimp only at H
      have A41:=am P8;clear P8;by_cases Kj:Ox=true
      ·
       subst Kj;replace H:=(if_pos rfl).symm.trans H;replace H:=ob H;obtain ⟨a8K,awJ,H⟩:=H
       try dsimp only at H
       have A43:=am awJ;clear awJ;by_cases c44:a8K=true
       ·
        subst c44;replace H:=(if_pos rfl).symm.trans H;by_cases P9:bL.toList=([]:List UInt8)
        · rw [if_pos P9] at H;have c45b0:=qt P9;have c45b1:=bf P9;clear P9;obtain rfl:=ojz H;obtain ⟨Ud,ajT,ajU,ajV,ajW,ajX,ajY,ajZ,akA,akB,a9C,a9D,a9E,a9F,Ue,akC,akD,akE,akF,akG,akH,akI,akJ,akK,a9G,a9H,a9I,a9J⟩:=blkc14 bZ.out;exact impl_IsValidEntry.L1
        ·
         rw [if_neg P9] at H;have c45b0:=qf P9;have c45b1:=bu P9;replace H:=ob H;obtain ⟨a8L,awK,H⟩:=H
         try dsimp only at H
         have A55:=am awK;clear awK;by_cases c56:a8L=true
         · subst c56;replace H:=(if_pos rfl).symm.trans H;obtain rfl:=ojz H;obtain ⟨aLf,aLg,aLh,aLi,aLj,aLk,aLl,aLm,aLn,aLo,aGk,aGl,aGm,aGn,aLp,aLq,aLr,aLs,aLt,aLu,aLv,aLw,aLx,aLy,aGo,aGp,aGq,aGr⟩:=blkc14 bZ.out;exact impl_IsValidEntry.L1
         · replace c56:=Bool.eq_false_iff.mpr c56;subst c56;replace H:=(if_neg (show ¬ (false=true) by decide)).symm.trans H;obtain rfl:=ojz H;obtain ⟨aLz,aLA,aLB,aLC,aLD,aLE,aLF,aLG,aLH,aLI,aGs,aGt,aGu,aGv,aLJ,aLK,aLL,aLM,aLN,aLO,aLP,aLQ,aLR,aLS,aGw,aGx,aGy,aGz⟩:=blkc14 bZ.out;exact impl_IsValidEntry.L1
       · replace c44:=Bool.eq_false_iff.mpr c44;subst c44;replace H:=(if_neg (show ¬ (false=true) by decide)).symm.trans H;obtain rfl:=ojz H;obtain ⟨aLT,aLU,aLV,aLW,aLX,aLY,aLZ,aM0,aM1,aM2,aGA,aGB,aGC,aGD,aM3,aM4,aM5,aM6,aM7,aM8,aM9,aMa,aMb,aMc,aGE,aGF,aGG,aGH⟩:=blkc14 bZ.out;go_wp2_with (first|((with_reducible refine gate_callee (f:=48) rfl ?_);refine goesL_ (some 39) rfl rfl Tryz.func48 (by kernel_rfl) rfl #[.string aX] rfl au45 ?_;(with_reducible refine (impl_isText.calls eY aX _ _ A37.out).mono ?_);rintro e w76 ⟨rfl,hb⟩;refine ⟨_,rfl,?_⟩;replace bZ:=am (blk_below (g:=fB) au56 hb);replace HB:=am (below_step au25 hb);(try clear hb);obtain ⟨aMd,aMe,aMf,aMg,aMh,aMi,aMj,aMk,aMl,aMm,aGI,aGJ,aGK,aGL,aMn,aMo,aMp,aMq,aMr,aMs,aMt,aMu,aMv,aMw,aGM,aGN,aGO,aGP⟩:=blkc14 bZ.out)|(go_at_call 48;(with_reducible refine (impl_isText.calls eY bB _ _ A39.out).mono ?_);rintro e w78 ⟨rfl,hb⟩;replace bZ:=am (blk_below (g:=fB) au56 hb);replace HB:=am (below_step au25 hb);(try clear hb);obtain ⟨aMx,aMy,aMz,aMA,aMB,aMC,aMD,aME,aMF,aMG,aGQ,aGR,aGS,aGT,aMH,aMI,aMJ,aMK,aML,aMM,aMN,aMO,aMP,aMQ,aGU,aGV,aGW,aGX⟩:=blkc14 bZ.out)|(go_at_call 48;(with_reducible refine (impl_isText.calls eY bE _ _ A41.out).mono ?_);rintro e w80 ⟨rfl,hb⟩;replace bZ:=am (blk_below (g:=fB) au56 hb);replace HB:=am (below_step au25 hb);(try clear hb);obtain ⟨aMR,aMS,aMT,aMU,aMV,aMW,aMX,aMY,aMZ,aN0,aGY,aGZ,aH0,aH1,aN1,aN2,aN3,aN4,aN5,aN6,aN7,aN8,aN9,aNa,aH2,aH3,aH4,aH5⟩:=blkc14 bZ.out)|(go_at_call 48;(with_reducible refine (impl_isText.calls eY bD _ _ A43.out).mono ?_);rintro e w82 ⟨rfl,hb⟩;replace bZ:=am (blk_below (g:=fB) au56 hb);replace HB:=am (below_step au25 hb);(try clear hb)));go_ret;exact ax4
      · replace Kj:=Bool.eq_false_iff.mpr Kj;subst Kj;replace H:=(if_neg (show ¬ (false=true) by decide)).symm.trans H;obtain rfl:=ojz H;obtain ⟨aNb,aNc,aNd,aNe,aNf,aNg,aNh,aNi,aNj,aNk,aH6,aH7,aH8,aH9,aNl,aNm,aNn,aNo,aNp,aNq,aNr,aNs,aNt,aNu,aHa,aHb,aHc,aHd⟩:=blkc14 bZ.out;go_wp2_with (first|((with_reducible refine gate_callee (f:=48) rfl ?_);refine goesL_ (some 39) rfl rfl Tryz.func48 (by kernel_rfl) rfl #[.string aX] rfl au45 ?_;(with_reducible refine (impl_isText.calls eY aX _ _ A37.out).mono ?_);rintro e w84 ⟨rfl,hb⟩;refine ⟨_,rfl,?_⟩;replace bZ:=am (blk_below (g:=fB) au56 hb);replace HB:=am (below_step au25 hb);(try clear hb);obtain ⟨aNv,aNw,aNx,aNy,aNz,aNA,aNB,aNC,aND,aNE,aHe,aHf,aHg,aHh,aNF,aNG,aNH,aNI,aNJ,aNK,aNL,aNM,aNN,aNO,aHi,aHj,aHk,aHl⟩:=blkc14 bZ.out)|(go_at_call 48;(with_reducible refine (impl_isText.calls eY bB _ _ A39.out).mono ?_);rintro e w86 ⟨rfl,hb⟩;replace bZ:=am (blk_below (g:=fB) au56 hb);replace HB:=am (below_step au25 hb);(try clear hb);obtain ⟨aNP,aNQ,aNR,aNS,aNT,aNU,aNV,aNW,aNX,aNY,aHm,aHn,aHo,aHp,aNZ,aO0,aO1,aO2,aO3,aO4,aO5,aO6,aO7,aO8,aHq,aHr,aHs,aHt⟩:=blkc14 bZ.out)|(go_at_call 48;(with_reducible refine (impl_isText.calls eY bE _ _ A41.out).mono ?_);rintro e w88 ⟨rfl,hb⟩;replace bZ:=am (blk_below (g:=fB) au56 hb);replace HB:=am (below_step au25 hb);(try clear hb)));go_ret;exact ax4
     · replace c40:=Bool.eq_false_iff.mpr c40;subst c40;replace H:=(if_neg (show ¬ (false=true) by decide)).symm.trans H;obtain rfl:=ojz H;obtain ⟨aO9,aOa,aOb,aOc,aOd,aOe,aOf,aOg,aOh,aOi,aHu,aHv,aHw,aHx,aOj,aOk,aOl,aOm,aOn,aOo,aOp,aOq,aOr,aOs,aHy,aHz,aHA,aHB⟩:=blkc14 bZ.out;go_wp2_with (first|((with_reducible refine gate_callee (f:=48) rfl ?_);refine goesL_ (some 39) rfl rfl Tryz.func48 (by kernel_rfl) rfl #[.string aX] rfl au45 ?_;(with_reducible refine (impl_isText.calls eY aX _ _ A37.out).mono ?_);rintro e w90 ⟨rfl,hb⟩;refine ⟨_,rfl,?_⟩;replace bZ:=am (blk_below (g:=fB) au56 hb);replace HB:=am (below_step au25 hb);(try clear hb);obtain ⟨aOt,aOu,aOv,aOw,aOx,aOy,aOz,aOA,aOB,aOC,aHC,aHD,aHE,aHF,aOD,aOE,aOF,aOG,aOH,aOI,aOJ,aOK,aOL,aOM,aHG,aHH,aHI,aHJ⟩:=blkc14 bZ.out)|(go_at_call 48;(with_reducible refine (impl_isText.calls eY bB _ _ A39.out).mono ?_);rintro e w92 ⟨rfl,hb⟩;replace bZ:=am (blk_below (g:=fB) au56 hb);replace HB:=am (below_step au25 hb);(try clear hb)));go_ret;exact ax4
    · replace c38:=Bool.eq_false_iff.mpr c38;subst c38;replace H:=(if_neg (show ¬ (false=true) by decide)).symm.trans H;obtain rfl:=ojz H;obtain ⟨aON,aOO,aOP,aOQ,aOR,aOS,aOT,aOU,aOV,aOW,aHK,aHL,aHM,aHN,aOX,aOY,aOZ,aP0,aP1,aP2,aP3,aP4,aP5,aP6,aHO,aHP,aHQ,aHR⟩:=blkc14 bZ.out;go_wp2_with (first|((with_reducible refine gate_callee (f:=48) rfl ?_);refine goesL_ (some 39) rfl rfl Tryz.func48 (by kernel_rfl) rfl #[.string aX] rfl au45 ?_;(with_reducible refine (impl_isText.calls eY aX _ _ A37.out).mono ?_);rintro e w94 ⟨rfl,hb⟩;refine ⟨_,rfl,?_⟩;replace bZ:=am (blk_below (g:=fB) au56 hb);replace HB:=am (below_step au25 hb);(try clear hb)));go_ret;exact ax4
end Go.Proofs.YteagahcbffgjpaaGreatDoor.G

namespace Go.Proofs.YteagahcbffgjpaaGreatDoor.G
open Go.RowKit Go.Proofs.YteagahcbffgjpaaGreatDoorW.PrintWords Go.Proofs.YteagahcbffgjpaaGreatDoorW.PrintLast Go.Proofs.YteagahcbffgjpaaGreatDoorW.PrintMore
open Go.Proofs.YteagahcbffgjpaaGreatDoor.Gl Go.Proofs.YteagahcbffgjpaaGreatDoor.Ext
attribute [local go_sem] max2_int min2_int max_two min_two max_three min_three max_four min_four   -- for this text's walks alone
set_option linter.unusedVariables false
set_option linter.unusedSimpArgs false
attribute [local go_sem high] gtr_s geq_s leq_s
def impl_IsValidLibrary.l0:Nat→List (S42)→Int→Int→List (S42)→Option (Bool)
 | 0,_,_,_,_=>none
 | k+1,x6,x7,x8,yF=>if x8<x7 then (if 0≤x8 then (if x8<(x6.length:Int) then ((impl_IsValidEntry.f k ((rd_T42 x6 x8).f0) ((rd_T42 x6 x8).f1) ((rd_T42 x6 x8).f2) ((rd_T42 x6 x8).f3) ((rd_T42 x6 x8).f4) ((rd_T42 x6 x8).f5) ((rd_T42 x6 x8).f6) ((rd_T42 x6 x8).f7.f0) ((rd_T42 x6 x8).f7.f1) ((rd_T42 x6 x8).f7.f2) ((rd_T42 x6 x8).f7.f3) ((rd_T42 x6 x8).f8) ((rd_T42 x6 x8).f9) ((rd_T42 x6 x8).f10)).bind fun a9K=>(if a9K=true then (if x8>0 then (if 0≤(wrap64 (x8-1)) then (if (wrap64 (x8-1))<(yF.length:Int) then (if ((Op.bytesLess (((rd_T42 yF (wrap64 (x8-1))).f0).toList) (((rd_T42 x6 x8).f0).toList))=true) then (impl_IsValidLibrary.l0 k x6 x7 (wrap64 (x8+1)) yF) else (some false)) else (none)) else (none)) else (impl_IsValidLibrary.l0 k x6 x7 (wrap64 (x8+1)) yF)) else (some false))) else (none)) else (none)) else (some (decide ((yF.length:Int)≤8)))
def impl_IsValidLibrary.f (k:Nat) (aA:List (S42)):Option (Bool):=impl_IsValidLibrary.l0 k aA (aA.length:Int) 0 aA
theorem impl_IsValidLibrary.mono_l:∀ k,(∀ y0 y1 y2 y3,LeO (impl_IsValidLibrary.l0 k y0 y1 y2 y3) (impl_IsValidLibrary.l0 (k+1) y0 y1 y2 y3))
 | 0=>fun _ _ _ _ r h=>by simp [impl_IsValidLibrary.l0] at h
 | k+1=>by
  have ih0:=impl_IsValidLibrary.mono_l k
  ·
   intro y0 y1 y2 y3;unfold impl_IsValidLibrary.l0
   repeat' first
   | (with_reducible exact ih0 _ _ _ _)
   | (with_reducible exact impl_IsValidEntry.mono _ _ _ _ _ _ _ _ _ _ _ _ _ _ _)
   | (with_reducible exact LeO.refl _)
   | (with_reducible exact LeO.none _)
   | (with_reducible refine LeO.ite ?_ ?_)
   | (with_reducible refine LeO.bind ?_ (fun _=>?_))
   | exact ih0 _ _ _ _
   | exact impl_IsValidEntry.mono _ _ _ _ _ _ _ _ _ _ _ _ _ _ _
   | exact LeO.none _
   | refine LeO.ite ?_ ?_
   | refine LeO.bind ?_ (fun _=>?_)
theorem impl_IsValidLibrary.mono:∀ a0 k,LeO (impl_IsValidLibrary.f k a0) (impl_IsValidLibrary.f (k+1) a0):=by
 intro a0 k;have ih0:=impl_IsValidLibrary.mono_l k;unfold impl_IsValidLibrary.f
 repeat' first
   | (with_reducible exact ih0 _ _ _ _)
   | (with_reducible exact impl_IsValidEntry.mono _ _ _ _ _ _ _ _ _ _ _ _ _ _ _)
   | (with_reducible exact LeO.refl _)
   | (with_reducible exact LeO.none _)
   | (with_reducible refine LeO.ite ?_ ?_)
   | (with_reducible refine LeO.bind ?_ (fun _=>?_))
   | exact ih0 _ _ _ _
   | exact impl_IsValidEntry.mono _ _ _ _ _ _ _ _ _ _ _ _ _ _ _
   | exact LeO.none _
   | refine LeO.ite ?_ ?_
   | refine LeO.bind ?_ (fun _=>?_)
def impl_IsValidLibrary.T4:Bool × List (List Nat × List Nat):=(true,[([],[]),([0],[0]),([1],[1]),([2,1],[2]),([3],[3]),([4,3],[3,4]),([5,3,3],[3,5]),([6],[6]),([7,6],[6,7]),([6],[6]),([9,6],[6,9]),([8,10,6],[6,8,10]),([11,6],[6,11]),([12,6],[6,12]),([6],[6]),([14,6],[6,14]),([13,15,6],[6,13,15]),([6,16,3],[3,6,16]),([3,17],[3,17])])
def impl_IsValidLibrary.B4:List Nat:=[0,1,3,7,15,31,63,127,255,127,639,2047,4095,8191,127,16511,65535,131071,262143]
theorem impl_IsValidLibrary.tab4:rtab .any (opsOf Tryz.f17 4)=impl_IsValidLibrary.T4:=by kernel_rfl
theorem impl_IsValidLibrary.bits4:waitsOk impl_IsValidLibrary.T4.2 impl_IsValidLibrary.B4=true:=by kernel_rfl
set_option maxRecDepth 100000 in
theorem impl_IsValidLibrary.L0 {P:Prop} (h:P:=by
  try go_wp2_with (first|((with_reducible refine gate_dst (N:=4) rfl ?_);refine box_event ?hg (N:=4) ?hd (cs:=#[.string (⟨#[]⟩:ByteArray),.int .i64 0,.slice none 0 0,.slice none 0 0,.string (⟨#[]⟩:ByteArray),.string (⟨#[]⟩:ByteArray),.string (⟨#[]⟩:ByteArray),.int .i64 0,.int .i64 0,.int .i64 0,.bool false,.int .i64 0,.string (⟨#[]⟩:ByteArray),.string (⟨#[]⟩:ByteArray)]) (t:=42) ?hr ?_;(case hd=>rfl);(case hg=>rfl);(case hr=>first|(go_simp;done)|(go_simp;rfl));intro aN hg rL hbox hb;have bR:=am (hbox);have aDM:=am (bsz hg au26);have wM:=am (bsz hg au26);replace HB:=am (below_step au26 hb);have cB:=am (bne (g:=lC) hg au57);have E1:=am (ben (g:=lC) hg au57);replace eN:=am (blk_below (g:=lC) au57 hb);clear hb hbox hg;have aWZ:=E1.out;have aX0:=cB.out;obtain ⟨nU,pF,pG,pH,Uf,Ug,Uh,Ui,Uj,Uk,Pd,Pe,Pf,Ph,nV,pI,pJ,pK,Ul,Um,Un,Uo,Up,Uq,Pi,Pj,Pk,Pm⟩:=blkc14 bR.out))
  have dT:Aside0 (((((((((((((((rL.setCell ⟨aN,0,none⟩ (.string ((rd_T42 aA aD).f0))).setCell ⟨aN,1,none⟩ (.int .i64 ((rd_T42 aA aD).f1))).setCell ⟨aN,2,none⟩ (.slice cN ((rd_T42 aA aD).f2).length cO)).setCell ⟨aN,3,none⟩ (.slice cQ ((rd_T42 aA aD).f3).length cR)).setCell ⟨aN,4,none⟩ (.string ((rd_T42 aA aD).f4))).setCell ⟨aN,5,none⟩ (.string ((rd_T42 aA aD).f5))).setCell ⟨aN,6,none⟩ (.string ((rd_T42 aA aD).f6))).setCell ⟨aN,7,none⟩ (.int .i64 ((rd_T42 aA aD).f7.f0))).setCell ⟨aN,8,none⟩ (.int .i64 ((rd_T42 aA aD).f7.f1))).setCell ⟨aN,9,none⟩ (.int .i64 ((rd_T42 aA aD).f7.f2))).setCell ⟨aN,10,none⟩ (.bool ((rd_T42 aA aD).f7.f3))).setCell ⟨aN,11,none⟩ (.int .i64 ((rd_T42 aA aD).f8))).setCell ⟨aN,12,none⟩ (.string ((rd_T42 aA aD).f9))).setCell ⟨aN,13,none⟩ (.string ((rd_T42 aA aD).f10))).heap[lC]?=some (.cells #[.slice (some dJ) aA.length bA] 28 (0,0))):=⟨by (with_reducible repeat (first|refine blk_drewN ?_ _|refine blk_drew ?_|refine blk_alloc ?_ _));refine blk_far ?_ cB.out _;(with_reducible repeat (first|refine blk_drewN ?_ _|refine blk_drew ?_|refine blk_alloc ?_ _));refine blk_far ?_ cB.out _;(with_reducible repeat (first|refine blk_drewN ?_ _|refine blk_drew ?_|refine blk_alloc ?_ _));refine blk_far ?_ cB.out _;(with_reducible repeat (first|refine blk_drewN ?_ _|refine blk_drew ?_|refine blk_alloc ?_ _));refine blk_far ?_ cB.out _;(with_reducible repeat (first|refine blk_drewN ?_ _|refine blk_drew ?_|refine blk_alloc ?_ _));refine blk_far ?_ cB.out _;(with_reducible repeat (first|refine blk_drewN ?_ _|refine blk_drew ?_|refine blk_alloc ?_ _));refine blk_far ?_ cB.out _;(with_reducible repeat (first|refine blk_drewN ?_ _|refine blk_drew ?_|refine blk_alloc ?_ _));refine blk_far ?_ cB.out _;(with_reducible repeat (first|refine blk_drewN ?_ _|refine blk_drew ?_|refine blk_alloc ?_ _));refine blk_far ?_ cB.out _;(with_reducible repeat (first|refine blk_drewN ?_ _|refine blk_drew ?_|refine blk_alloc ?_ _));refine blk_far ?_ cB.out _;(with_reducible repeat (first|refine blk_drewN ?_ _|refine blk_drew ?_|refine blk_alloc ?_ _));refine blk_far ?_ cB.out _;(with_reducible repeat (first|refine blk_drewN ?_ _|refine blk_drew ?_|refine blk_alloc ?_ _));refine blk_far ?_ cB.out _;(with_reducible repeat (first|refine blk_drewN ?_ _|refine blk_drew ?_|refine blk_alloc ?_ _));refine blk_far ?_ cB.out _;(with_reducible repeat (first|refine blk_drewN ?_ _|refine blk_drew ?_|refine blk_alloc ?_ _));refine blk_far ?_ cB.out _;(with_reducible repeat (first|refine blk_drewN ?_ _|refine blk_drew ?_|refine blk_alloc ?_ _));refine blk_far ?_ cB.out _;(with_reducible repeat (first|refine blk_drewN ?_ _|refine blk_drew ?_|refine blk_alloc ?_ _));exact eN.out⟩
  have dU:Aside0 (((((((((((((((rL.setCell ⟨aN,0,none⟩ (.string ((rd_T42 aA aD).f0))).setCell ⟨aN,1,none⟩ (.int .i64 ((rd_T42 aA aD).f1))).setCell ⟨aN,2,none⟩ (.slice cN ((rd_T42 aA aD).f2).length cO)).setCell ⟨aN,3,none⟩ (.slice cQ ((rd_T42 aA aD).f3).length cR)).setCell ⟨aN,4,none⟩ (.string ((rd_T42 aA aD).f4))).setCell ⟨aN,5,none⟩ (.string ((rd_T42 aA aD).f5))).setCell ⟨aN,6,none⟩ (.string ((rd_T42 aA aD).f6))).setCell ⟨aN,7,none⟩ (.int .i64 ((rd_T42 aA aD).f7.f0))).setCell ⟨aN,8,none⟩ (.int .i64 ((rd_T42 aA aD).f7.f1))).setCell ⟨aN,9,none⟩ (.int .i64 ((rd_T42 aA aD).f7.f2))).setCell ⟨aN,10,none⟩ (.bool ((rd_T42 aA aD).f7.f3))).setCell ⟨aN,11,none⟩ (.int .i64 ((rd_T42 aA aD).f8))).setCell ⟨aN,12,none⟩ (.string ((rd_T42 aA aD).f9))).setCell ⟨aN,13,none⟩ (.string ((rd_T42 aA aD).f10))).heap[aN]?=some (.cells #[.string ((rd_T42 aA aD).f0),.int .i64 ((rd_T42 aA aD).f1),.slice cN ((rd_T42 aA aD).f2).length cO,.slice cQ ((rd_T42 aA aD).f3).length cR,.string ((rd_T42 aA aD).f4),.string ((rd_T42 aA aD).f5),.string ((rd_T42 aA aD).f6),.int .i64 ((rd_T42 aA aD).f7.f0),.int .i64 ((rd_T42 aA aD).f7.f1),.int .i64 ((rd_T42 aA aD).f7.f2),.bool ((rd_T42 aA aD).f7.f3),.int .i64 ((rd_T42 aA aD).f8),.string ((rd_T42 aA aD).f9),.string ((rd_T42 aA aD).f10)] 42 (0,0))):=⟨by (with_reducible repeat (first|refine blk_drewN ?_ _|refine blk_drew ?_|refine blk_alloc ?_ _));apply put14;(with_reducible repeat (first|refine blk_drewN ?_ _|refine blk_drew ?_|refine blk_alloc ?_ _));exact bR.out⟩
  have fH:Aside0 (Below w.heap.size w ((((((((((((((rL.setCell ⟨aN,0,none⟩ (.string ((rd_T42 aA aD).f0))).setCell ⟨aN,1,none⟩ (.int .i64 ((rd_T42 aA aD).f1))).setCell ⟨aN,2,none⟩ (.slice cN ((rd_T42 aA aD).f2).length cO)).setCell ⟨aN,3,none⟩ (.slice cQ ((rd_T42 aA aD).f3).length cR)).setCell ⟨aN,4,none⟩ (.string ((rd_T42 aA aD).f4))).setCell ⟨aN,5,none⟩ (.string ((rd_T42 aA aD).f5))).setCell ⟨aN,6,none⟩ (.string ((rd_T42 aA aD).f6))).setCell ⟨aN,7,none⟩ (.int .i64 ((rd_T42 aA aD).f7.f0))).setCell ⟨aN,8,none⟩ (.int .i64 ((rd_T42 aA aD).f7.f1))).setCell ⟨aN,9,none⟩ (.int .i64 ((rd_T42 aA aD).f7.f2))).setCell ⟨aN,10,none⟩ (.bool ((rd_T42 aA aD).f7.f3))).setCell ⟨aN,11,none⟩ (.int .i64 ((rd_T42 aA aD).f8))).setCell ⟨aN,12,none⟩ (.string ((rd_T42 aA aD).f9))).setCell ⟨aN,13,none⟩ (.string ((rd_T42 aA aD).f10)))):=⟨by repeat (first|(with_reducible first|exact HB.out|apply below_alloc|apply pw_below_drewN|apply below_drew1|refine below_set ?_ qJ.out|refine below_set ?_ wM.out)|exact HB.out)⟩
  (try clear eN)
  (try clear bR)
  (try clear HB)
  generalize ((((((((((((((rL.setCell ⟨aN,0,none⟩ (.string ((rd_T42 aA aD).f0))).setCell ⟨aN,1,none⟩ (.int .i64 ((rd_T42 aA aD).f1))).setCell ⟨aN,2,none⟩ (.slice cN ((rd_T42 aA aD).f2).length cO)).setCell ⟨aN,3,none⟩ (.slice cQ ((rd_T42 aA aD).f3).length cR)).setCell ⟨aN,4,none⟩ (.string ((rd_T42 aA aD).f4))).setCell ⟨aN,5,none⟩ (.string ((rd_T42 aA aD).f5))).setCell ⟨aN,6,none⟩ (.string ((rd_T42 aA aD).f6))).setCell ⟨aN,7,none⟩ (.int .i64 ((rd_T42 aA aD).f7.f0))).setCell ⟨aN,8,none⟩ (.int .i64 ((rd_T42 aA aD).f7.f1))).setCell ⟨aN,9,none⟩ (.int .i64 ((rd_T42 aA aD).f7.f2))).setCell ⟨aN,10,none⟩ (.bool ((rd_T42 aA aD).f7.f3))).setCell ⟨aN,11,none⟩ (.int .i64 ((rd_T42 aA aD).f8))).setCell ⟨aN,12,none⟩ (.string ((rd_T42 aA aD).f9))).setCell ⟨aN,13,none⟩ (.string ((rd_T42 aA aD).f10)))=oP at dT dU fH ⊢;have eN:=dT;have bR:=dU;have HB:=fH;clear dT dU fH;replace eN:=am (blk_drew eN.out);replace bR:=am (blk_drew bR.out);replace HB:=am (below_drew1 HB.out);have a9L:0≤((cT):Int):=od au87;have a9M:(cT)<(aA.length:Int):=od au87;obtain ⟨aDN,awL,awM,awN,awO,aHS,FM,FN,FO,FP,FQ,FR,FS,FT,FU,FV,Ce,Cf,Cg,Ch,Ur,Us,Ut,Uu⟩:=at_T42 cM.out (cT) a9L a9M;have Pn:=Ch;have Po:=Cg;have Pp:=Cf;have Pq:=Ce;have Uv:=FV;have Uw:=FU;have Ux:=FT;have Uy:=FS;have Uz:=FR;have UA:=FQ;have UB:=FP;have UC:=FO;have UD:=FN;have UE:=FM
  obtain rfl:dJ=aDN:=(by injection aHS)
  replace FM:=bcl HB.out FM;replace FN:=bcl HB.out FN;replace FO:=bcl HB.out FO;replace FP:=bcl HB.out FP;replace FQ:=bcl HB.out FQ;replace FR:=bcl HB.out FR;replace FS:=bcl HB.out FS;replace FT:=bcl HB.out FT;replace FU:=bcl HB.out FU;replace FV:=bcl HB.out FV;replace Ce:=bcl HB.out Ce;replace Cf:=bcl HB.out Cf;replace Cg:=bcl HB.out Cg;replace Ch:=bcl HB.out Ch;have akL:=am Us;have aP7:=am Ur;clear Us Ur;have akM:=am Uu;have aP8:=am Ut;clear Uu Ut;replace a9L:=eq_true a9L;replace a9M:=eq_true a9M;refine start_ (n:=19) (S:=fun w'=>w'.cell? ⟨aN,0,none⟩=some (.string ((rd_T42 aA aD).f0))∧w'.cell? ⟨aN,1,none⟩=some (.int .i64 ((rd_T42 aA aD).f1))∧w'.cell? ⟨aN,2,none⟩=some (.slice cN ((rd_T42 aA aD).f2).length cO)∧w'.cell? ⟨aN,3,none⟩=some (.slice cQ ((rd_T42 aA aD).f3).length cR)∧w'.cell? ⟨aN,4,none⟩=some (.string ((rd_T42 aA aD).f4))∧w'.cell? ⟨aN,5,none⟩=some (.string ((rd_T42 aA aD).f5))∧w'.cell? ⟨aN,6,none⟩=some (.string ((rd_T42 aA aD).f6))∧w'.cell? ⟨aN,7,none⟩=some (.int .i64 ((rd_T42 aA aD).f7.f0))∧w'.cell? ⟨aN,8,none⟩=some (.int .i64 ((rd_T42 aA aD).f7.f1))∧w'.cell? ⟨aN,9,none⟩=some (.int .i64 ((rd_T42 aA aD).f7.f2))∧w'.cell? ⟨aN,10,none⟩=some (.bool ((rd_T42 aA aD).f7.f3))∧w'.cell? ⟨aN,11,none⟩=some (.int .i64 ((rd_T42 aA aD).f8))∧w'.cell? ⟨aN,12,none⟩=some (.string ((rd_T42 aA aD).f9))∧w'.cell? ⟨aN,13,none⟩=some (.string ((rd_T42 aA aD).f10))∧w'.cell? ⟨lC,0,none⟩=some (.slice (some dJ) aA.length bA)∧w'.cell? (dJ.add (((cT)).toNat*14))=some (.string ((rd_T42 aA (cT)).f0))∧w'.cell? ⟨(dJ.add (((cT)).toNat*14)).block,(dJ.add (((cT)).toNat*14)).off+1,none⟩=some (.int .i64 ((rd_T42 aA (cT)).f1))∧w'.cell? ⟨(dJ.add (((cT)).toNat*14)).block,(dJ.add (((cT)).toNat*14)).off+2,none⟩=some (.slice awL ((rd_T42 aA (cT)).f2).length awM)∧w'.cell? ⟨(dJ.add (((cT)).toNat*14)).block,(dJ.add (((cT)).toNat*14)).off+3,none⟩=some (.slice awN ((rd_T42 aA (cT)).f3).length awO)∧w'.cell? ⟨(dJ.add (((cT)).toNat*14)).block,(dJ.add (((cT)).toNat*14)).off+4,none⟩=some (.string ((rd_T42 aA (cT)).f4))∧w'.cell? ⟨(dJ.add (((cT)).toNat*14)).block,(dJ.add (((cT)).toNat*14)).off+5,none⟩=some (.string ((rd_T42 aA (cT)).f5))∧w'.cell? ⟨(dJ.add (((cT)).toNat*14)).block,(dJ.add (((cT)).toNat*14)).off+6,none⟩=some (.string ((rd_T42 aA (cT)).f6))∧w'.cell? ⟨(dJ.add (((cT)).toNat*14)).block,(dJ.add (((cT)).toNat*14)).off+7,none⟩=some (.int .i64 ((rd_T42 aA (cT)).f7.f0))∧w'.cell? ⟨(dJ.add (((cT)).toNat*14)).block,(dJ.add (((cT)).toNat*14)).off+8,none⟩=some (.int .i64 ((rd_T42 aA (cT)).f7.f1))∧w'.cell? ⟨(dJ.add (((cT)).toNat*14)).block,(dJ.add (((cT)).toNat*14)).off+9,none⟩=some (.int .i64 ((rd_T42 aA (cT)).f7.f2))∧w'.cell? ⟨(dJ.add (((cT)).toNat*14)).block,(dJ.add (((cT)).toNat*14)).off+10,none⟩=some (.bool ((rd_T42 aA (cT)).f7.f3))∧w'.cell? ⟨(dJ.add (((cT)).toNat*14)).block,(dJ.add (((cT)).toNat*14)).off+11,none⟩=some (.int .i64 ((rd_T42 aA (cT)).f8))∧w'.cell? ⟨(dJ.add (((cT)).toNat*14)).block,(dJ.add (((cT)).toNat*14)).off+12,none⟩=some (.string ((rd_T42 aA (cT)).f9))∧w'.cell? ⟨(dJ.add (((cT)).toNat*14)).block,(dJ.add (((cT)).toNat*14)).off+13,none⟩=some (.string ((rd_T42 aA (cT)).f10))) (ds:=[]) #[false,false,false,false,false,false,false,false,false,false,false,false,false,false,false,false,false,false,false] (by kernel_rfl) rfl rfl ⟨(blk_cell bR.out 0).trans rfl,(blk_cell bR.out 1).trans rfl,(blk_cell bR.out 2).trans rfl,(blk_cell bR.out 3).trans rfl,(blk_cell bR.out 4).trans rfl,(blk_cell bR.out 5).trans rfl,(blk_cell bR.out 6).trans rfl,(blk_cell bR.out 7).trans rfl,(blk_cell bR.out 8).trans rfl,(blk_cell bR.out 9).trans rfl,(blk_cell bR.out 10).trans rfl,(blk_cell bR.out 11).trans rfl,(blk_cell bR.out 12).trans rfl,(blk_cell bR.out 13).trans rfl,(blk_cell eN.out 0).trans rfl,(bcl HB.out UE),(bcl HB.out UD),(bcl HB.out UC),(bcl HB.out UB),(bcl HB.out UA),(bcl HB.out Uz),(bcl HB.out Uy),(bcl HB.out Ux),(bcl HB.out Uw),(bcl HB.out Uv),(bcl HB.out Pq),(bcl HB.out Pp),(bcl HB.out Po),(bcl HB.out Pn)⟩ (fun hHeld=>?_);refine with_tabW impl_IsValidLibrary.tab4 impl_IsValidLibrary.bits4 (fun HT_ HW_=>?_);generalize oP.drew=nW at eN bR HB akL akM FM FN Ce Cf Cg Ch FO FP FQ FR FS FT FU FV hHeld ⊢;refine ta2_ 0 (some 13) #[true,false,false,false,false,false,false,false,false,false,false,false,false,false,false,false,false,false,false] HT_.out HW_.out hHeld ?_;refine on_ 1 (some 14) #[true,true,false,false,false,false,false,false,false,false,false,false,false,false,false,false,false,false,false] HT_.out (fun K hK=>?_);refine gs_ Tryz.func28 #[.agg #[.string ((rd_T42 aA aD).f0),.int .i64 ((rd_T42 aA aD).f1),.slice cN ((rd_T42 aA aD).f2).length cO,.slice cQ ((rd_T42 aA aD).f3).length cR,.string ((rd_T42 aA aD).f4),.string ((rd_T42 aA aD).f5),.string ((rd_T42 aA aD).f6),.int .i64 ((rd_T42 aA aD).f7.f0),.int .i64 ((rd_T42 aA aD).f7.f1),.int .i64 ((rd_T42 aA aD).f7.f2),.bool ((rd_T42 aA aD).f7.f3),.int .i64 ((rd_T42 aA aD).f8),.string ((rd_T42 aA aD).f9),.string ((rd_T42 aA aD).f10)]] ?_
  with_reducible refine (impl_IsValidEntry.calls (hG:=au0) k1 ((rd_T42 aA aD).f0) ((rd_T42 aA aD).f1) _ _ ((rd_T42 aA aD).f2) _ _ ((rd_T42 aA aD).f3) ((rd_T42 aA aD).f4) ((rd_T42 aA aD).f5) ((rd_T42 aA aD).f6) ((rd_T42 aA aD).f7.f0) ((rd_T42 aA aD).f7.f1) ((rd_T42 aA aD).f7.f2) ((rd_T42 aA aD).f7.f3) ((rd_T42 aA aD).f8) ((rd_T42 aA aD).f9) ((rd_T42 aA aD).f10) _ _ ?aU ?aV ?dY ?dZ A7.out).mono ?_
  (case aU=>repeat (first|exact (Kd.C_below yG.out HB.out)|(with_reducible refine Kd.C_alloc ?_ _)|(with_reducible refine Kd.C_drewN ?_ _)|(with_reducible refine Kd.C_drew ?_)))
  (case aV=>exact yH.out)
  (case dY=>repeat (first|exact (Kd.C_below yI.out HB.out)|(with_reducible refine Kd.C_alloc ?_ _)|(with_reducible refine Kd.C_drewN ?_ _)|(with_reducible refine Kd.C_drew ?_)))
  (case dZ=>exact yJ.out)
  rintro e xM ⟨rfl,hb⟩;refine ⟨_,rfl,?_⟩;replace eN:=am (blk_below (g:=lC) au57 hb);replace bR:=am (blk_below (g:=aN) au58 hb);replace HB:=am (below_step au12 hb)
  (try clear hb)
  refine hK.out _ _ ⟨(blk_cell bR.out 0).trans rfl,(blk_cell bR.out 1).trans rfl,(blk_cell bR.out 2).trans rfl,(blk_cell bR.out 3).trans rfl,(blk_cell bR.out 4).trans rfl,(blk_cell bR.out 5).trans rfl,(blk_cell bR.out 6).trans rfl,(blk_cell bR.out 7).trans rfl,(blk_cell bR.out 8).trans rfl,(blk_cell bR.out 9).trans rfl,(blk_cell bR.out 10).trans rfl,(blk_cell bR.out 11).trans rfl,(blk_cell bR.out 12).trans rfl,(blk_cell bR.out 13).trans rfl,(blk_cell eN.out 0).trans rfl,(bcl HB.out UE),(bcl HB.out UD),(bcl HB.out UC),(bcl HB.out UB),(bcl HB.out UA),(bcl HB.out Uz),(bcl HB.out Uy),(bcl HB.out Ux),(bcl HB.out Uw),(bcl HB.out Uv),(bcl HB.out Pq),(bcl HB.out Pp),(bcl HB.out Po),(bcl HB.out Pn)⟩ (fun hHeld=>?_);clear hK K;refine no_ (some 14) ?_;refine pu_ 2 (some 15) #[true,true,true,false,false,false,false,false,false,false,false,false,false,false,false,false,false,false,false] HT_.out ?_;refine pu_ 3 (some 16) #[true,true,true,true,false,false,false,false,false,false,false,false,false,false,false,false,false,false,false] HT_.out ?_;refine pu_ 4 (some 17) #[true,true,true,true,true,false,false,false,false,false,false,false,false,false,false,false,false,false,false] HT_.out ?_;refine pu_ 5 (some 18) #[true,true,true,true,true,true,false,false,false,false,false,false,false,false,false,false,false,false,false] HT_.out ?_;refine pu_ 6 (some 19) #[true,true,true,true,true,true,true,false,false,false,false,false,false,false,false,false,false,false,false] HT_.out ?_;refine pu_ 7 (some 20) #[true,true,true,true,true,true,true,true,false,false,false,false,false,false,false,false,false,false,false] HT_.out ?_;refine pu_ 9 (some 22) #[true,true,true,true,true,true,true,true,false,true,false,false,false,false,false,false,false,false,false] HT_.out ?_;refine pu_ 10 (some 23) #[true,true,true,true,true,true,true,true,false,true,true,false,false,false,false,false,false,false,false] HT_.out ?_;refine pu_ 14 (some 27) #[true,true,true,true,true,true,true,true,false,true,true,false,false,false,true,false,false,false,false] HT_.out ?_;refine ta2_ 8 (some 21) #[true,true,true,true,true,true,true,true,true,true,true,false,false,false,true,false,false,false,false] HT_.out HW_.out hHeld ?_;refine pu_ 11 (some 24) #[true,true,true,true,true,true,true,true,true,true,true,true,false,false,true,false,false,false,false] HT_.out ?_;refine pu_ 12 (some 25) #[true,true,true,true,true,true,true,true,true,true,true,true,true,false,true,false,false,false,false] HT_.out ?_;refine ta2_ 13 (some 26) #[true,true,true,true,true,true,true,true,true,true,true,true,true,true,true,false,false,false,false] HT_.out HW_.out hHeld ?_;refine ta2_ 15 (some 28) #[true,true,true,true,true,true,true,true,true,true,true,true,true,true,true,true,false,false,false] HT_.out HW_.out hHeld ?_;refine pu_ 16 (some 29) #[true,true,true,true,true,true,true,true,true,true,true,true,true,true,true,true,true,false,false] HT_.out ?_;refine pu_ 17 (some 30) #[true,true,true,true,true,true,true,true,true,true,true,true,true,true,true,true,true,true,false] HT_.out ?_;refine pu_ 18 (some 31) #[true,true,true,true,true,true,true,true,true,true,true,true,true,true,true,true,true,true,true] HT_.out ?_;refine done_ (done_of HT_.out (by kernel_rfl)) ?_
  try go_wp2
  first
  |
   have g_:(Op.bytesLess (((rd_T42 aA (cT)).f0).toList) (((rd_T42 aA aD).f0).toList))=true:=c13b0;clear g_
   go_roundg k1
   case measure=>have:=HK1.out;omega
   case rel=>exact ⟨(wrap64 (aD+1)),au88,H',⟨by have:=HK1.out;omega⟩,⟨by (with_reducible repeat (first|refine blk_drewN ?_ _|refine blk_drew ?_|refine blk_alloc ?_ _));exact eN.out⟩,⟨by repeat (first|(with_reducible first|exact HB.out|apply below_alloc|apply pw_below_drewN|apply below_drew1|refine below_set ?_ qJ.out|refine below_set ?_ wM.out)|exact HB.out)⟩⟩
  |
   have g_:(Op.bytesLess (((rd_T42 aA (cT)).f0).toList) (((rd_T42 aA aD).f0).toList))=false:=c13b0;clear g_;go_ret
   exact ⟨by first|rfl|(simp [errW_none,errW_some] <;> rfl)|(simp only [← Kk];first|rfl|(simp [errW_none,errW_some] <;> rfl))|(simp [*,errW_none,errW_some] <;> rfl),by repeat (first|(with_reducible first|exact HB.out|apply below_alloc|apply pw_below_drewN|apply below_drew1|refine below_set ?_ qJ.out|refine below_set ?_ wM.out)|exact HB.out)⟩):P:=h
set_option maxRecDepth 100000 in
theorem impl_IsValidLibrary.L1 {P:Prop} (h:P:=by
  try go_wp2_with (first|((with_reducible refine gate_dst (N:=4) rfl ?_);refine box_event ?hg (N:=4) ?hd (cs:=#[.string (⟨#[]⟩:ByteArray),.int .i64 0,.slice none 0 0,.slice none 0 0,.string (⟨#[]⟩:ByteArray),.string (⟨#[]⟩:ByteArray),.string (⟨#[]⟩:ByteArray),.int .i64 0,.int .i64 0,.int .i64 0,.bool false,.int .i64 0,.string (⟨#[]⟩:ByteArray),.string (⟨#[]⟩:ByteArray)]) (t:=42) ?hr ?_;(case hd=>rfl);(case hg=>rfl);(case hr=>first|(go_simp;done)|(go_simp;rfl));intro aN hg w32 hbox hb;have bR:=am (hbox);have aDM:=am (bsz hg au26);have wM:=am (bsz hg au26);replace HB:=am (below_step au26 hb);have cB:=am (bne (g:=lC) hg au57);have E1:=am (ben (g:=lC) hg au57);replace eN:=am (blk_below (g:=lC) au57 hb);clear hb hbox hg;have aDO:=E1.out;have aDP:=cB.out;obtain ⟨FJ,LA,LB,LC,U1,U2,U3,U4,U5,U6,P0,P1,P2,P3,FL,LD,LE,LF,U7,U8,U9,Ua,Ub,Uc,P4,P5,P6,P7⟩:=blkc14 bR.out))
  have dT:Aside0 (((((((((((((((w32.setCell ⟨aN,0,none⟩ (.string ((rd_T42 aA aD).f0))).setCell ⟨aN,1,none⟩ (.int .i64 ((rd_T42 aA aD).f1))).setCell ⟨aN,2,none⟩ (.slice cN ((rd_T42 aA aD).f2).length cO)).setCell ⟨aN,3,none⟩ (.slice cQ ((rd_T42 aA aD).f3).length cR)).setCell ⟨aN,4,none⟩ (.string ((rd_T42 aA aD).f4))).setCell ⟨aN,5,none⟩ (.string ((rd_T42 aA aD).f5))).setCell ⟨aN,6,none⟩ (.string ((rd_T42 aA aD).f6))).setCell ⟨aN,7,none⟩ (.int .i64 ((rd_T42 aA aD).f7.f0))).setCell ⟨aN,8,none⟩ (.int .i64 ((rd_T42 aA aD).f7.f1))).setCell ⟨aN,9,none⟩ (.int .i64 ((rd_T42 aA aD).f7.f2))).setCell ⟨aN,10,none⟩ (.bool ((rd_T42 aA aD).f7.f3))).setCell ⟨aN,11,none⟩ (.int .i64 ((rd_T42 aA aD).f8))).setCell ⟨aN,12,none⟩ (.string ((rd_T42 aA aD).f9))).setCell ⟨aN,13,none⟩ (.string ((rd_T42 aA aD).f10))).heap[lC]?=some (.cells #[.slice (some dJ) aA.length bA] 28 (0,0))):=⟨by (with_reducible repeat (first|refine blk_drewN ?_ _|refine blk_drew ?_|refine blk_alloc ?_ _));refine blk_far ?_ cB.out _;(with_reducible repeat (first|refine blk_drewN ?_ _|refine blk_drew ?_|refine blk_alloc ?_ _));refine blk_far ?_ cB.out _;(with_reducible repeat (first|refine blk_drewN ?_ _|refine blk_drew ?_|refine blk_alloc ?_ _));refine blk_far ?_ cB.out _;(with_reducible repeat (first|refine blk_drewN ?_ _|refine blk_drew ?_|refine blk_alloc ?_ _));refine blk_far ?_ cB.out _;(with_reducible repeat (first|refine blk_drewN ?_ _|refine blk_drew ?_|refine blk_alloc ?_ _));refine blk_far ?_ cB.out _;(with_reducible repeat (first|refine blk_drewN ?_ _|refine blk_drew ?_|refine blk_alloc ?_ _));refine blk_far ?_ cB.out _;(with_reducible repeat (first|refine blk_drewN ?_ _|refine blk_drew ?_|refine blk_alloc ?_ _));refine blk_far ?_ cB.out _;(with_reducible repeat (first|refine blk_drewN ?_ _|refine blk_drew ?_|refine blk_alloc ?_ _));refine blk_far ?_ cB.out _;(with_reducible repeat (first|refine blk_drewN ?_ _|refine blk_drew ?_|refine blk_alloc ?_ _));refine blk_far ?_ cB.out _;(with_reducible repeat (first|refine blk_drewN ?_ _|refine blk_drew ?_|refine blk_alloc ?_ _));refine blk_far ?_ cB.out _;(with_reducible repeat (first|refine blk_drewN ?_ _|refine blk_drew ?_|refine blk_alloc ?_ _));refine blk_far ?_ cB.out _;(with_reducible repeat (first|refine blk_drewN ?_ _|refine blk_drew ?_|refine blk_alloc ?_ _));refine blk_far ?_ cB.out _;(with_reducible repeat (first|refine blk_drewN ?_ _|refine blk_drew ?_|refine blk_alloc ?_ _));refine blk_far ?_ cB.out _;(with_reducible repeat (first|refine blk_drewN ?_ _|refine blk_drew ?_|refine blk_alloc ?_ _));refine blk_far ?_ cB.out _;(with_reducible repeat (first|refine blk_drewN ?_ _|refine blk_drew ?_|refine blk_alloc ?_ _));exact eN.out⟩
  have dU:Aside0 (((((((((((((((w32.setCell ⟨aN,0,none⟩ (.string ((rd_T42 aA aD).f0))).setCell ⟨aN,1,none⟩ (.int .i64 ((rd_T42 aA aD).f1))).setCell ⟨aN,2,none⟩ (.slice cN ((rd_T42 aA aD).f2).length cO)).setCell ⟨aN,3,none⟩ (.slice cQ ((rd_T42 aA aD).f3).length cR)).setCell ⟨aN,4,none⟩ (.string ((rd_T42 aA aD).f4))).setCell ⟨aN,5,none⟩ (.string ((rd_T42 aA aD).f5))).setCell ⟨aN,6,none⟩ (.string ((rd_T42 aA aD).f6))).setCell ⟨aN,7,none⟩ (.int .i64 ((rd_T42 aA aD).f7.f0))).setCell ⟨aN,8,none⟩ (.int .i64 ((rd_T42 aA aD).f7.f1))).setCell ⟨aN,9,none⟩ (.int .i64 ((rd_T42 aA aD).f7.f2))).setCell ⟨aN,10,none⟩ (.bool ((rd_T42 aA aD).f7.f3))).setCell ⟨aN,11,none⟩ (.int .i64 ((rd_T42 aA aD).f8))).setCell ⟨aN,12,none⟩ (.string ((rd_T42 aA aD).f9))).setCell ⟨aN,13,none⟩ (.string ((rd_T42 aA aD).f10))).heap[aN]?=some (.cells #[.string ((rd_T42 aA aD).f0),.int .i64 ((rd_T42 aA aD).f1),.slice cN ((rd_T42 aA aD).f2).length cO,.slice cQ ((rd_T42 aA aD).f3).length cR,.string ((rd_T42 aA aD).f4),.string ((rd_T42 aA aD).f5),.string ((rd_T42 aA aD).f6),.int .i64 ((rd_T42 aA aD).f7.f0),.int .i64 ((rd_T42 aA aD).f7.f1),.int .i64 ((rd_T42 aA aD).f7.f2),.bool ((rd_T42 aA aD).f7.f3),.int .i64 ((rd_T42 aA aD).f8),.string ((rd_T42 aA aD).f9),.string ((rd_T42 aA aD).f10)] 42 (0,0))):=⟨by (with_reducible repeat (first|refine blk_drewN ?_ _|refine blk_drew ?_|refine blk_alloc ?_ _));apply put14;(with_reducible repeat (first|refine blk_drewN ?_ _|refine blk_drew ?_|refine blk_alloc ?_ _));exact bR.out⟩
  have fH:Aside0 (Below w.heap.size w ((((((((((((((w32.setCell ⟨aN,0,none⟩ (.string ((rd_T42 aA aD).f0))).setCell ⟨aN,1,none⟩ (.int .i64 ((rd_T42 aA aD).f1))).setCell ⟨aN,2,none⟩ (.slice cN ((rd_T42 aA aD).f2).length cO)).setCell ⟨aN,3,none⟩ (.slice cQ ((rd_T42 aA aD).f3).length cR)).setCell ⟨aN,4,none⟩ (.string ((rd_T42 aA aD).f4))).setCell ⟨aN,5,none⟩ (.string ((rd_T42 aA aD).f5))).setCell ⟨aN,6,none⟩ (.string ((rd_T42 aA aD).f6))).setCell ⟨aN,7,none⟩ (.int .i64 ((rd_T42 aA aD).f7.f0))).setCell ⟨aN,8,none⟩ (.int .i64 ((rd_T42 aA aD).f7.f1))).setCell ⟨aN,9,none⟩ (.int .i64 ((rd_T42 aA aD).f7.f2))).setCell ⟨aN,10,none⟩ (.bool ((rd_T42 aA aD).f7.f3))).setCell ⟨aN,11,none⟩ (.int .i64 ((rd_T42 aA aD).f8))).setCell ⟨aN,12,none⟩ (.string ((rd_T42 aA aD).f9))).setCell ⟨aN,13,none⟩ (.string ((rd_T42 aA aD).f10)))):=⟨by repeat (first|(with_reducible first|exact HB.out|apply below_alloc|apply pw_below_drewN|apply below_drew1|refine below_set ?_ qJ.out|refine below_set ?_ wM.out)|exact HB.out)⟩
  (try clear eN)
  (try clear bR)
  (try clear HB)
  generalize ((((((((((((((w32.setCell ⟨aN,0,none⟩ (.string ((rd_T42 aA aD).f0))).setCell ⟨aN,1,none⟩ (.int .i64 ((rd_T42 aA aD).f1))).setCell ⟨aN,2,none⟩ (.slice cN ((rd_T42 aA aD).f2).length cO)).setCell ⟨aN,3,none⟩ (.slice cQ ((rd_T42 aA aD).f3).length cR)).setCell ⟨aN,4,none⟩ (.string ((rd_T42 aA aD).f4))).setCell ⟨aN,5,none⟩ (.string ((rd_T42 aA aD).f5))).setCell ⟨aN,6,none⟩ (.string ((rd_T42 aA aD).f6))).setCell ⟨aN,7,none⟩ (.int .i64 ((rd_T42 aA aD).f7.f0))).setCell ⟨aN,8,none⟩ (.int .i64 ((rd_T42 aA aD).f7.f1))).setCell ⟨aN,9,none⟩ (.int .i64 ((rd_T42 aA aD).f7.f2))).setCell ⟨aN,10,none⟩ (.bool ((rd_T42 aA aD).f7.f3))).setCell ⟨aN,11,none⟩ (.int .i64 ((rd_T42 aA aD).f8))).setCell ⟨aN,12,none⟩ (.string ((rd_T42 aA aD).f9))).setCell ⟨aN,13,none⟩ (.string ((rd_T42 aA aD).f10)))=w35 at dT dU fH ⊢;have eN:=dT;have bR:=dU;have HB:=fH;clear dT dU fH;replace eN:=am (blk_drew eN.out);replace bR:=am (blk_drew bR.out);replace HB:=am (below_drew1 HB.out);refine start_ (n:=19) (S:=fun w'=>w'.cell? ⟨aN,0,none⟩=some (.string ((rd_T42 aA aD).f0))∧w'.cell? ⟨aN,1,none⟩=some (.int .i64 ((rd_T42 aA aD).f1))∧w'.cell? ⟨aN,2,none⟩=some (.slice cN ((rd_T42 aA aD).f2).length cO)∧w'.cell? ⟨aN,3,none⟩=some (.slice cQ ((rd_T42 aA aD).f3).length cR)∧w'.cell? ⟨aN,4,none⟩=some (.string ((rd_T42 aA aD).f4))∧w'.cell? ⟨aN,5,none⟩=some (.string ((rd_T42 aA aD).f5))∧w'.cell? ⟨aN,6,none⟩=some (.string ((rd_T42 aA aD).f6))∧w'.cell? ⟨aN,7,none⟩=some (.int .i64 ((rd_T42 aA aD).f7.f0))∧w'.cell? ⟨aN,8,none⟩=some (.int .i64 ((rd_T42 aA aD).f7.f1))∧w'.cell? ⟨aN,9,none⟩=some (.int .i64 ((rd_T42 aA aD).f7.f2))∧w'.cell? ⟨aN,10,none⟩=some (.bool ((rd_T42 aA aD).f7.f3))∧w'.cell? ⟨aN,11,none⟩=some (.int .i64 ((rd_T42 aA aD).f8))∧w'.cell? ⟨aN,12,none⟩=some (.string ((rd_T42 aA aD).f9))∧w'.cell? ⟨aN,13,none⟩=some (.string ((rd_T42 aA aD).f10))) (ds:=[]) #[false,false,false,false,false,false,false,false,false,false,false,false,false,false,false,false,false,false,false] (by kernel_rfl) rfl rfl ⟨(blk_cell bR.out 0).trans rfl,(blk_cell bR.out 1).trans rfl,(blk_cell bR.out 2).trans rfl,(blk_cell bR.out 3).trans rfl,(blk_cell bR.out 4).trans rfl,(blk_cell bR.out 5).trans rfl,(blk_cell bR.out 6).trans rfl,(blk_cell bR.out 7).trans rfl,(blk_cell bR.out 8).trans rfl,(blk_cell bR.out 9).trans rfl,(blk_cell bR.out 10).trans rfl,(blk_cell bR.out 11).trans rfl,(blk_cell bR.out 12).trans rfl,(blk_cell bR.out 13).trans rfl⟩ (fun hHeld=>?_);refine with_tabW impl_IsValidLibrary.tab4 impl_IsValidLibrary.bits4 (fun HT_ HW_=>?_);generalize w35.drew=w36 at eN bR HB hHeld ⊢;refine ta0_ 0 (some 13) #[true,false,false,false,false,false,false,false,false,false,false,false,false,false,false,false,false,false,false] HT_.out HW_.out hHeld ?_;refine on_ 1 (some 14) #[true,true,false,false,false,false,false,false,false,false,false,false,false,false,false,false,false,false,false] HT_.out (fun K hK=>?_);refine gs_ Tryz.func28 #[.agg #[.string ((rd_T42 aA aD).f0),.int .i64 ((rd_T42 aA aD).f1),.slice cN ((rd_T42 aA aD).f2).length cO,.slice cQ ((rd_T42 aA aD).f3).length cR,.string ((rd_T42 aA aD).f4),.string ((rd_T42 aA aD).f5),.string ((rd_T42 aA aD).f6),.int .i64 ((rd_T42 aA aD).f7.f0),.int .i64 ((rd_T42 aA aD).f7.f1),.int .i64 ((rd_T42 aA aD).f7.f2),.bool ((rd_T42 aA aD).f7.f3),.int .i64 ((rd_T42 aA aD).f8),.string ((rd_T42 aA aD).f9),.string ((rd_T42 aA aD).f10)]] ?_
  with_reducible refine (impl_IsValidEntry.calls (hG:=au0) k1 ((rd_T42 aA aD).f0) ((rd_T42 aA aD).f1) _ _ ((rd_T42 aA aD).f2) _ _ ((rd_T42 aA aD).f3) ((rd_T42 aA aD).f4) ((rd_T42 aA aD).f5) ((rd_T42 aA aD).f6) ((rd_T42 aA aD).f7.f0) ((rd_T42 aA aD).f7.f1) ((rd_T42 aA aD).f7.f2) ((rd_T42 aA aD).f7.f3) ((rd_T42 aA aD).f8) ((rd_T42 aA aD).f9) ((rd_T42 aA aD).f10) _ _ ?aU ?aV ?dY ?dZ A7.out).mono ?_
  (case aU=>repeat (first|exact (Kd.C_below yG.out HB.out)|(with_reducible refine Kd.C_alloc ?_ _)|(with_reducible refine Kd.C_drewN ?_ _)|(with_reducible refine Kd.C_drew ?_)))
  (case aV=>exact yH.out)
  (case dY=>repeat (first|exact (Kd.C_below yI.out HB.out)|(with_reducible refine Kd.C_alloc ?_ _)|(with_reducible refine Kd.C_drewN ?_ _)|(with_reducible refine Kd.C_drew ?_)))
  (case dZ=>exact yJ.out)
  rintro e w37 ⟨rfl,hb⟩;refine ⟨_,rfl,?_⟩;replace eN:=am (blk_below (g:=lC) au57 hb);replace bR:=am (blk_below (g:=aN) au58 hb);replace HB:=am (below_step au12 hb)
  (try clear hb)
  refine hK.out _ _ ⟨(blk_cell bR.out 0).trans rfl,(blk_cell bR.out 1).trans rfl,(blk_cell bR.out 2).trans rfl,(blk_cell bR.out 3).trans rfl,(blk_cell bR.out 4).trans rfl,(blk_cell bR.out 5).trans rfl,(blk_cell bR.out 6).trans rfl,(blk_cell bR.out 7).trans rfl,(blk_cell bR.out 8).trans rfl,(blk_cell bR.out 9).trans rfl,(blk_cell bR.out 10).trans rfl,(blk_cell bR.out 11).trans rfl,(blk_cell bR.out 12).trans rfl,(blk_cell bR.out 13).trans rfl⟩ (fun hHeld=>?_);clear hK K;refine no_ (some 14) ?_;refine pu_ 2 (some 15) #[true,true,true,false,false,false,false,false,false,false,false,false,false,false,false,false,false,false,false] HT_.out ?_;refine pu_ 3 (some 16) #[true,true,true,true,false,false,false,false,false,false,false,false,false,false,false,false,false,false,false] HT_.out ?_
  first
  |
   refine pure_ (i:=4) (N:=some 17) (v:=undef) (a':=?_) #[true,true,true,true,true,false,false,false,false,false,false,false,false,false,false,false,false,false,false] rfl rfl (any_of HT_.out (by kernel_rfl)) (fun _ _ _ h=>h) (Or.inr ⟨by rfl,rfl⟩) ?_ ?_
   rotate_left
   · simp only [Act.put,List.setIfInBounds_toArray,List.set_cons_zero,List.set_cons_succ,i64_w,i32_w];rfl
   refine pure_ (i:=5) (N:=some 18) (v:=undef) (a':=?_) #[true,true,true,true,true,true,false,false,false,false,false,false,false,false,false,false,false,false,false] rfl rfl (any_of HT_.out (by kernel_rfl)) (fun _ _ _ h=>h) (Or.inr ⟨by rfl,rfl⟩) ?_ ?_
   rotate_left
   · simp only [Act.put,List.setIfInBounds_toArray,List.set_cons_zero,List.set_cons_succ,i64_w,i32_w];rfl
   refine pure_ (i:=6) (N:=some 19) (v:=undef) (a':=?_) #[true,true,true,true,true,true,true,false,false,false,false,false,false,false,false,false,false,false,false] rfl rfl (any_of HT_.out (by kernel_rfl)) (fun _ _ _ h=>h) (Or.inr ⟨by rfl,rfl⟩) ?_ ?_
   rotate_left
   · simp only [Act.put,List.setIfInBounds_toArray,List.set_cons_zero,List.set_cons_succ,i64_w,i32_w];rfl
   refine pure_ (i:=7) (N:=some 20) (v:=undef) (a':=?_) #[true,true,true,true,true,true,true,true,false,false,false,false,false,false,false,false,false,false,false] rfl rfl (any_of HT_.out (by kernel_rfl)) (fun _ _ _ h=>h) (Or.inr ⟨by rfl,rfl⟩) ?_ ?_
   rotate_left
   · simp only [Act.put,List.setIfInBounds_toArray,List.set_cons_zero,List.set_cons_succ,i64_w,i32_w];rfl
   refine pure_ (i:=8) (N:=some 21) (v:=undef) (a':=?_) #[true,true,true,true,true,true,true,true,true,false,false,false,false,false,false,false,false,false,false] rfl rfl (any_of HT_.out (by kernel_rfl)) (fun _ _ _ h=>h) (Or.inr ⟨by rfl,rfl⟩) ?_ ?_
   rotate_left
   · simp only [Act.put,List.setIfInBounds_toArray,List.set_cons_zero,List.set_cons_succ,i64_w,i32_w];rfl
   refine pure_ (i:=9) (N:=some 22) (v:=undef) (a':=?_) #[true,true,true,true,true,true,true,true,true,true,false,false,false,false,false,false,false,false,false] rfl rfl (any_of HT_.out (by kernel_rfl)) (fun _ _ _ h=>h) (Or.inr ⟨by rfl,rfl⟩) ?_ ?_
   rotate_left
   · simp only [Act.put,List.setIfInBounds_toArray,List.set_cons_zero,List.set_cons_succ,i64_w,i32_w];rfl
   refine pure_ (i:=10) (N:=some 23) (v:=undef) (a':=?_) #[true,true,true,true,true,true,true,true,true,true,true,false,false,false,false,false,false,false,false] rfl rfl (any_of HT_.out (by kernel_rfl)) (fun _ _ _ h=>h) (Or.inr ⟨by rfl,rfl⟩) ?_ ?_
   rotate_left
   · simp only [Act.put,List.setIfInBounds_toArray,List.set_cons_zero,List.set_cons_succ,i64_w,i32_w];rfl
   refine pure_ (i:=11) (N:=some 24) (v:=undef) (a':=?_) #[true,true,true,true,true,true,true,true,true,true,true,true,false,false,false,false,false,false,false] rfl rfl (any_of HT_.out (by kernel_rfl)) (fun _ _ _ h=>h) (Or.inr ⟨by rfl,rfl⟩) ?_ ?_
   rotate_left
   · simp only [Act.put,List.setIfInBounds_toArray,List.set_cons_zero,List.set_cons_succ,i64_w,i32_w];rfl
   refine pure_ (i:=12) (N:=some 25) (v:=undef) (a':=?_) #[true,true,true,true,true,true,true,true,true,true,true,true,true,false,false,false,false,false,false] rfl rfl (any_of HT_.out (by kernel_rfl)) (fun _ _ _ h=>h) (Or.inr ⟨by rfl,rfl⟩) ?_ ?_
   rotate_left
   · simp only [Act.put,List.setIfInBounds_toArray,List.set_cons_zero,List.set_cons_succ,i64_w,i32_w];rfl
   refine pure_ (i:=13) (N:=some 26) (v:=undef) (a':=?_) #[true,true,true,true,true,true,true,true,true,true,true,true,true,true,false,false,false,false,false] rfl rfl (any_of HT_.out (by kernel_rfl)) (fun _ _ _ h=>h) (Or.inr ⟨by rfl,rfl⟩) ?_ ?_
   rotate_left
   · simp only [Act.put,List.setIfInBounds_toArray,List.set_cons_zero,List.set_cons_succ,i64_w,i32_w];rfl
   refine pure_ (i:=14) (N:=some 27) (v:=undef) (a':=?_) #[true,true,true,true,true,true,true,true,true,true,true,true,true,true,true,false,false,false,false] rfl rfl (any_of HT_.out (by kernel_rfl)) (fun _ _ _ h=>h) (Or.inr ⟨by rfl,rfl⟩) ?_ ?_
   rotate_left
   · simp only [Act.put,List.setIfInBounds_toArray,List.set_cons_zero,List.set_cons_succ,i64_w,i32_w];rfl
   refine pure_ (i:=15) (N:=some 28) (v:=undef) (a':=?_) #[true,true,true,true,true,true,true,true,true,true,true,true,true,true,true,true,false,false,false] rfl rfl (any_of HT_.out (by kernel_rfl)) (fun _ _ _ h=>h) (Or.inr ⟨by rfl,rfl⟩) ?_ ?_
   rotate_left
   · simp only [Act.put,List.setIfInBounds_toArray,List.set_cons_zero,List.set_cons_succ,i64_w,i32_w];rfl
   refine pure_ (i:=16) (N:=some 29) (v:=undef) (a':=?_) #[true,true,true,true,true,true,true,true,true,true,true,true,true,true,true,true,true,false,false] rfl rfl (any_of HT_.out (by kernel_rfl)) (fun _ _ _ h=>h) (Or.inr ⟨by rfl,rfl⟩) ?_ ?_
   rotate_left
   · simp only [Act.put,List.setIfInBounds_toArray,List.set_cons_zero,List.set_cons_succ,i64_w,i32_w];rfl
   refine pure_ (i:=17) (N:=some 30) (v:=undef) (a':=?_) #[true,true,true,true,true,true,true,true,true,true,true,true,true,true,true,true,true,true,false] rfl rfl (any_of HT_.out (by kernel_rfl)) (fun _ _ _ h=>h) (Or.inr ⟨by rfl,rfl⟩) ?_ ?_
   rotate_left
   · simp only [Act.put,List.setIfInBounds_toArray,List.set_cons_zero,List.set_cons_succ,i64_w,i32_w];rfl
   refine pu_ 18 (some 31) #[true,true,true,true,true,true,true,true,true,true,true,true,true,true,true,true,true,true,true] HT_.out ?_;refine done_ (done_of HT_.out (by kernel_rfl)) ?_
   try go_wp2
   go_ret;exact ⟨by first|rfl|(simp [errW_none,errW_some] <;> rfl)|(simp [*,errW_none,errW_some] <;> rfl),by repeat (first|(with_reducible first|exact HB.out|apply below_alloc|apply pw_below_drewN|apply below_drew1|refine below_set ?_ qJ.out|refine below_set ?_ wM.out)|exact HB.out)⟩
  |
   have g_:decide (0<aD)=false:=c9b0;clear g_;refine pu_ 4 (some 17) #[true,true,true,true,true,false,false,false,false,false,false,false,false,false,false,false,false,false,false] HT_.out ?_;refine pu_ 5 (some 18) #[true,true,true,true,true,true,false,false,false,false,false,false,false,false,false,false,false,false,false] HT_.out ?_;refine pu_ 6 (some 19) #[true,true,true,true,true,true,true,false,false,false,false,false,false,false,false,false,false,false,false] HT_.out ?_;refine pure_ (i:=7) (N:=some 20) (v:=undef) (a':=?_) #[true,true,true,true,true,true,true,true,false,false,false,false,false,false,false,false,false,false,false] rfl rfl (any_of HT_.out (by kernel_rfl)) (fun _ _ _ h=>h) (Or.inr ⟨by rfl,rfl⟩) ?_ ?_
   rotate_left
   · simp only [Act.put,List.setIfInBounds_toArray,List.set_cons_zero,List.set_cons_succ,i64_w,i32_w];rfl
   refine pure_ (i:=8) (N:=some 21) (v:=undef) (a':=?_) #[true,true,true,true,true,true,true,true,true,false,false,false,false,false,false,false,false,false,false] rfl rfl (any_of HT_.out (by kernel_rfl)) (fun _ _ _ h=>h) (Or.inr ⟨by rfl,rfl⟩) ?_ ?_
   rotate_left
   · simp only [Act.put,List.setIfInBounds_toArray,List.set_cons_zero,List.set_cons_succ,i64_w,i32_w];rfl
   refine pure_ (i:=9) (N:=some 22) (v:=undef) (a':=?_) #[true,true,true,true,true,true,true,true,true,true,false,false,false,false,false,false,false,false,false] rfl rfl (any_of HT_.out (by kernel_rfl)) (fun _ _ _ h=>h) (Or.inr ⟨by rfl,rfl⟩) ?_ ?_
   rotate_left
   · simp only [Act.put,List.setIfInBounds_toArray,List.set_cons_zero,List.set_cons_succ,i64_w,i32_w];rfl
   refine pure_ (i:=10) (N:=some 23) (v:=undef) (a':=?_) #[true,true,true,true,true,true,true,true,true,true,true,false,false,false,false,false,false,false,false] rfl rfl (any_of HT_.out (by kernel_rfl)) (fun _ _ _ h=>h) (Or.inr ⟨by rfl,rfl⟩) ?_ ?_
   rotate_left
   · simp only [Act.put,List.setIfInBounds_toArray,List.set_cons_zero,List.set_cons_succ,i64_w,i32_w];rfl
   refine pure_ (i:=11) (N:=some 24) (v:=undef) (a':=?_) #[true,true,true,true,true,true,true,true,true,true,true,true,false,false,false,false,false,false,false] rfl rfl (any_of HT_.out (by kernel_rfl)) (fun _ _ _ h=>h) (Or.inr ⟨by rfl,rfl⟩) ?_ ?_
   rotate_left
   · simp only [Act.put,List.setIfInBounds_toArray,List.set_cons_zero,List.set_cons_succ,i64_w,i32_w];rfl
   refine pure_ (i:=12) (N:=some 25) (v:=undef) (a':=?_) #[true,true,true,true,true,true,true,true,true,true,true,true,true,false,false,false,false,false,false] rfl rfl (any_of HT_.out (by kernel_rfl)) (fun _ _ _ h=>h) (Or.inr ⟨by rfl,rfl⟩) ?_ ?_
   rotate_left
   · simp only [Act.put,List.setIfInBounds_toArray,List.set_cons_zero,List.set_cons_succ,i64_w,i32_w];rfl
   refine pure_ (i:=13) (N:=some 26) (v:=undef) (a':=?_) #[true,true,true,true,true,true,true,true,true,true,true,true,true,true,false,false,false,false,false] rfl rfl (any_of HT_.out (by kernel_rfl)) (fun _ _ _ h=>h) (Or.inr ⟨by rfl,rfl⟩) ?_ ?_
   rotate_left
   · simp only [Act.put,List.setIfInBounds_toArray,List.set_cons_zero,List.set_cons_succ,i64_w,i32_w];rfl
   refine pure_ (i:=14) (N:=some 27) (v:=undef) (a':=?_) #[true,true,true,true,true,true,true,true,true,true,true,true,true,true,true,false,false,false,false] rfl rfl (any_of HT_.out (by kernel_rfl)) (fun _ _ _ h=>h) (Or.inr ⟨by rfl,rfl⟩) ?_ ?_
   rotate_left
   · simp only [Act.put,List.setIfInBounds_toArray,List.set_cons_zero,List.set_cons_succ,i64_w,i32_w];rfl
   refine pure_ (i:=15) (N:=some 28) (v:=undef) (a':=?_) #[true,true,true,true,true,true,true,true,true,true,true,true,true,true,true,true,false,false,false] rfl rfl (any_of HT_.out (by kernel_rfl)) (fun _ _ _ h=>h) (Or.inr ⟨by rfl,rfl⟩) ?_ ?_
   rotate_left
   · simp only [Act.put,List.setIfInBounds_toArray,List.set_cons_zero,List.set_cons_succ,i64_w,i32_w];rfl
   refine pure_ (i:=16) (N:=some 29) (v:=undef) (a':=?_) #[true,true,true,true,true,true,true,true,true,true,true,true,true,true,true,true,true,false,false] rfl rfl (any_of HT_.out (by kernel_rfl)) (fun _ _ _ h=>h) (Or.inr ⟨by rfl,rfl⟩) ?_ ?_
   rotate_left
   · simp only [Act.put,List.setIfInBounds_toArray,List.set_cons_zero,List.set_cons_succ,i64_w,i32_w];rfl
   refine pu_ 17 (some 30) #[true,true,true,true,true,true,true,true,true,true,true,true,true,true,true,true,true,true,false] HT_.out ?_;refine pu_ 18 (some 31) #[true,true,true,true,true,true,true,true,true,true,true,true,true,true,true,true,true,true,true] HT_.out ?_;refine done_ (done_of HT_.out (by kernel_rfl)) ?_
   try go_wp2
   go_roundg k1
   case measure=>have:=HK1.out;omega
   case rel=>exact ⟨(wrap64 (aD+1)),au88,H',⟨by have:=HK1.out;omega⟩,⟨by (with_reducible repeat (first|refine blk_drewN ?_ _|refine blk_drew ?_|refine blk_alloc ?_ _));exact eN.out⟩,⟨by repeat (first|(with_reducible first|exact HB.out|apply below_alloc|apply pw_below_drewN|apply below_drew1|refine below_set ?_ qJ.out|refine below_set ?_ wM.out)|exact HB.out)⟩⟩):P:=h
set_option maxHeartbeats 8000000 in
set_option maxRecDepth 100000 in
theorem impl_IsValidLibrary.calls (k:Nat) (bH:Option Addr) (bA:Nat) (aA:List (S42)) (r:Bool) (w:World) {gF1 gF2 gF3:Bool} (hG:GL gF1 gF2 gF3 w) (cE:Kd.C k42 w bH aA.length aA) (cA:aA.length≤bA) (h:impl_IsValidLibrary.f k aA=some r) :
  Calls Tryz.prog 17 #[.agg #[.slice bH aA.length bA]] w fun e w'=>e=.returned (.bool r)∧Below w.heap.size w w':=by
 have HG:=am hG;clear hG;have hu28:=Tryz.underlying28;have hu42:=Tryz.underlying42;have cM:=am cE;have eO:=am cA;clear cE cA;have HB:=am (Below.refl w.heap.size w);have H:(impl_IsValidLibrary.l0 k aA (aA.length:Int) 0 aA)=some r:=h;clear h;have H':=am H;clear H;go_enter Tryz.func17,Tryz.ntmps17;go_wp2_with (first|((with_reducible refine gate_dst (N:=1) rfl ?_);refine box_event ?hg (N:=1) ?hd (cs:=#[.slice bH aA.length bA]) (t:=28) ?hr ?_;(case hd=>rfl);(case hg=>rfl);(case hr=>first|(go_simp;done)|(go_simp;rfl));intro lC hg w2 hbox hb;have eN:=am (hbox);have aX1:=am (bsz hg au46);have qJ:=am (bsz hg au46);replace HB:=am (below_step au46 hb);clear hb hbox hg;have awP:w2.cell? ⟨lC,0,none⟩=some (.slice bH aA.length bA):=(blk_cell eN.out 0).trans rfl;have awQ:=blk_frozen eN.out 0))
 go_loopg [8] k (fun kq v8 w'=>∃ (aD:Int),v8=.int .i64 aD∧Aside0 (impl_IsValidLibrary.l0 kq aA (aA.length:Int) aD aA=some r)∧Aside0 (kq≤k)∧Aside0 (w'.heap[lC]?=some (.cells #[(.slice bH aA.length bA)] 28 (0,0)))∧Aside0 (Below w.heap.size w w'))
 case atStart=>exact ⟨(0),au88,H',⟨Nat.le_refl _⟩,⟨by (with_reducible repeat (first|refine blk_drewN ?_ _|refine blk_drew ?_|refine blk_alloc ?_ _));exact eN.out⟩,⟨by repeat (first|(with_reducible first|exact HB.out|apply below_alloc|apply pw_below_drewN|apply below_drew1|refine below_set ?_ qJ.out)|exact HB.out)⟩⟩
 case round =>
  clear H'
  try clear c1
  try clear p2
  try clear awP awQ
  obtain ⟨aD,rfl,HA,HK1,eN,HB⟩:=hrel
  cases gk with
  | zero=>exact absurd HA.out (by simp [impl_IsValidLibrary.l0])
  | succ k1 =>
   have H:=HA.out;clear HA;simp only [impl_IsValidLibrary.l0] at H;by_cases c4:aD<(aA.length:Int)
   ·
    rw [if_pos c4] at H;have c4b0:=dt c4;clear c4;by_cases c5:0≤aD
    ·
     rw [if_pos c5] at H;have c5b0:=dt c5;clear c5;by_cases c6:aD<(aA.length:Int)
     ·
      rw [if_pos c6] at H;have c6b0:=dt c6;clear c6;replace H:=ob H;obtain ⟨a9K,jY,H⟩:=H
      try dsimp only at H
      have A7:=am jY;clear jY;by_cases c8:a9K=true
      ·
       subst c8;replace H:=(if_pos rfl).symm.trans H;by_cases c9:aD>0
       ·
        rw [if_pos c9] at H;have c9b0:=dt c9;clear c9
        obtain ⟨cT,Kk⟩:∃ j_:Int,(wrap64 (aD-1))=j_:=⟨_,rfl⟩
        replace H:(if 0≤(cT) then (if (cT)<(aA.length:Int) then (if ((Op.bytesLess (((rd_T42 aA (cT)).f0).toList) (((rd_T42 aA aD).f0).toList))=true) then (impl_IsValidLibrary.l0 k1 aA (aA.length:Int) (wrap64 (aD+1)) aA) else (some false)) else (none)) else (none))=some r:=by first|(rw [Kk] at H;exact H)|(simp only [Kk] at H ⊢;exact H)
        (try rw [Kk] at A7)
        have hji10w:(IntKind.i64.wrap (aD-1))=cT:=(i64_w _).trans Kk;by_cases cI:0≤(cT)
        ·
         rw [if_pos cI] at H;have c11b0:=dt cI;clear cI;by_cases eA:(cT)<(aA.length:Int)
         ·
          rw [if_pos eA] at H;have c12b0:=dt eA;clear eA;by_cases cV:((Op.bytesLess (((rd_T42 aA (cT)).f0).toList) (((rd_T42 aA aD).f0).toList))=true)
          ·
           rw [if_pos cV] at H;have c13b0:(Op.bytesLess (((rd_T42 aA (cT)).f0).toList) (((rd_T42 aA aD).f0).toList))=true:=cV;clear cV;have H':=am H;clear H;have nF:0≤(aD:Int):=od au87;have nG:aD<(aA.length:Int):=od au87;obtain ⟨dJ,cN,cO,cQ,cR,J9,jF,jG,jH,jI,jJ,jK,jL,jM,jN,jO,hV,hY,hZ,iA,jP,jQ,jR,jS⟩:=at_T42 cM.out aD nF nG
           cases J9
           replace jF:=bcl HB.out jF;replace jG:=bcl HB.out jG;replace jH:=bcl HB.out jH;replace jI:=bcl HB.out jI;replace jJ:=bcl HB.out jJ;replace jK:=bcl HB.out jK;replace jL:=bcl HB.out jL;replace jM:=bcl HB.out jM;replace jN:=bcl HB.out jN;replace jO:=bcl HB.out jO;replace hV:=bcl HB.out hV;replace hY:=bcl HB.out hY;replace hZ:=bcl HB.out hZ;replace iA:=bcl HB.out iA;have yG:=am jQ;have yH:=am jP;clear jQ jP;have yI:=am jS;have yJ:=am jR;clear jS jR;replace nF:=eq_true nF;replace nG:=eq_true nG;exact impl_IsValidLibrary.L0
          ·
           rw [if_neg cV] at H
           have c13b0:(Op.bytesLess (((rd_T42 aA (cT)).f0).toList) (((rd_T42 aA aD).f0).toList))=false:=by simpa using cV
           clear cV;obtain rfl:=ojz H;have nF:0≤(aD:Int):=od au87;have nG:aD<(aA.length:Int):=od au87;obtain ⟨dJ,cN,cO,cQ,cR,J9,jF,jG,jH,jI,jJ,jK,jL,jM,jN,jO,hV,hY,hZ,iA,jP,jQ,jR,jS⟩:=at_T42 cM.out aD nF nG
           cases J9
           replace jF:=bcl HB.out jF;replace jG:=bcl HB.out jG;replace jH:=bcl HB.out jH;replace jI:=bcl HB.out jI;replace jJ:=bcl HB.out jJ;replace jK:=bcl HB.out jK;replace jL:=bcl HB.out jL;replace jM:=bcl HB.out jM;replace jN:=bcl HB.out jN;replace jO:=bcl HB.out jO;replace hV:=bcl HB.out hV;replace hY:=bcl HB.out hY;replace hZ:=bcl HB.out hZ;replace iA:=bcl HB.out iA;have yG:=am jQ;have yH:=am jP;clear jQ jP;have yI:=am jS;have yJ:=am jR;clear jS jR;replace nF:=eq_true nF;replace nG:=eq_true nG;exact impl_IsValidLibrary.L0
         · rw [if_neg eA] at H;exact absurd H (by simp)
        · rw [if_neg cI] at H;exact absurd H (by simp)
       ·
        rw [if_neg c9] at H;have c9b0:=df c9;clear c9;have H':=am H;clear H;have nF:0≤(aD:Int):=od au87;have nG:aD<(aA.length:Int):=od au87;obtain ⟨dJ,cN,cO,cQ,cR,J9,jF,jG,jH,jI,jJ,jK,jL,jM,jN,jO,hV,hY,hZ,iA,jP,jQ,jR,jS⟩:=at_T42 cM.out aD nF nG
        cases J9
        replace jF:=bcl HB.out jF;replace jG:=bcl HB.out jG;replace jH:=bcl HB.out jH;replace jI:=bcl HB.out jI;replace jJ:=bcl HB.out jJ;replace jK:=bcl HB.out jK;replace jL:=bcl HB.out jL;replace jM:=bcl HB.out jM;replace jN:=bcl HB.out jN;replace jO:=bcl HB.out jO;replace hV:=bcl HB.out hV;replace hY:=bcl HB.out hY;replace hZ:=bcl HB.out hZ;replace iA:=bcl HB.out iA;have yG:=am jQ;have yH:=am jP;clear jQ jP;have yI:=am jS;have yJ:=am jR;clear jS jR;replace nF:=eq_true nF;replace nG:=eq_true nG;exact impl_IsValidLibrary.L1
      ·
       replace c8:=Bool.eq_false_iff.mpr c8;subst c8;replace H:=(if_neg (show ¬ (false=true) by decide)).symm.trans H;obtain rfl:=ojz H;have nF:0≤(aD:Int):=od au87;have nG:aD<(aA.length:Int):=od au87;obtain ⟨dJ,cN,cO,cQ,cR,J9,jF,jG,jH,jI,jJ,jK,jL,jM,jN,jO,hV,hY,hZ,iA,jP,jQ,jR,jS⟩:=at_T42 cM.out aD nF nG
       cases J9
       replace jF:=bcl HB.out jF;replace jG:=bcl HB.out jG;replace jH:=bcl HB.out jH;replace jI:=bcl HB.out jI;replace jJ:=bcl HB.out jJ;replace jK:=bcl HB.out jK;replace jL:=bcl HB.out jL;replace jM:=bcl HB.out jM;replace jN:=bcl HB.out jN;replace jO:=bcl HB.out jO;replace hV:=bcl HB.out hV;replace hY:=bcl HB.out hY;replace hZ:=bcl HB.out hZ;replace iA:=bcl HB.out iA;have yG:=am jQ;have yH:=am jP;clear jQ jP;have yI:=am jS;have yJ:=am jR;clear jS jR;replace nF:=eq_true nF;replace nG:=eq_true nG;exact impl_IsValidLibrary.L1
     · rw [if_neg c6] at H;exact absurd H (by simp)
    · rw [if_neg c5] at H;exact absurd H (by simp)
   · rw [if_neg c4] at H;have c4b0:=df c4;clear c4;obtain rfl:=ojz H;have akN:wr.cell? ⟨lC,0,none⟩=some (.slice bH aA.length bA):=(blk_cell eN.out 0).trans rfl;have akO:=blk_frozen eN.out 0;go_wp2;go_ret;exact ⟨by first|rfl|(simp [errW_none,errW_some] <;> rfl)|(simp [*,errW_none,errW_some] <;> rfl),by repeat (first|(with_reducible first|exact HB.out|apply below_alloc|apply pw_below_drewN|apply below_drew1|refine below_set ?_ qJ.out)|exact HB.out)⟩
end Go.Proofs.YteagahcbffgjpaaGreatDoor.G

namespace Go.Proofs.YteagahcbffgjpaaGreatDoor.G
open Go.RowKit Go.Proofs.YteagahcbffgjpaaGreatDoorW.PrintWords Go.Proofs.YteagahcbffgjpaaGreatDoorW.PrintLast Go.Proofs.YteagahcbffgjpaaGreatDoorW.PrintMore
open Go.Proofs.YteagahcbffgjpaaGreatDoor.Gl Go.Proofs.YteagahcbffgjpaaGreatDoor.Ext
attribute [local go_sem] max2_int min2_int max_two min_two max_three min_three max_four min_four   -- for this text's walks alone
set_option linter.unusedVariables false
set_option linter.unusedSimpArgs false
def impl_entryIndex.ix (a:ByteArray):List S42→Int→Int
 | [],_=>-1
 | x :: r,i=>if x.f0.toList=a.toList then i else impl_entryIndex.ix a r (i+1)
def impl_entryIndex.f (l0:List S42) (a1:ByteArray):Option Int:=if l0.length≤4611686018427387904 then some (impl_entryIndex.ix a1 l0 0) else none
set_option maxHeartbeats 8000000 in
set_option maxRecDepth 100000 in
theorem impl_entryIndex.key (g:Nat) (a s0:ByteArray) (n1:Int) (A2:Option Addr) (m2 c2:Nat) (A3:Option Addr) (m3 c3:Nat) (s4 s5 s6:ByteArray) (n7 n8 n9:Int) (b10:Bool) (n11:Int) (IC ID:ByteArray) (W:World) (hk:W.cell? ⟨g,0,none⟩=some (.string a)) :
  Calls Tryz.prog 27 #[.agg #[.string s0,.int .i64 n1,.slice A2 m2 c2,.slice A3 m3 c3,.string s4,.string s5,.string s6,.int .i64 n7,.int .i64 n8,.int .i64 n9,.bool b10,.int .i64 n11,.string IC,.string ID],.pointer (some ⟨g,0,none⟩)] W fun e w'=>e=.returned (.bool (s0.toList == a.toList))∧Below W.heap.size W w':=by
 have hu:=Tryz.underlying42;have hu2:=Tryz.underlying40;have HK:=am hk;clear hk;go_enter Tryz.func27,Tryz.ntmps27;go_wp2_with (first|((with_reducible refine gate_dst (N:=2) rfl ?_);refine box_event ?hg (N:=2) ?hd (cs:=#[.string s0,.int .i64 n1,.slice A2 m2 c2,.slice A3 m3 c3,.string s4,.string s5,.string s6,.int .i64 n7,.int .i64 n8,.int .i64 n9,.bool b10,.int .i64 n11,.string IC,.string ID]) (t:=42) ?hr ?_;(case hd=>rfl);(case hg=>rfl);(case hr=>first|(go_simp;done)|(go_simp;rfl));intro gb hg w3 hbox hb;have hb0:=am hb;have hK:=(hb.cell (World.block_lt_of_cell? W _ HK.out)).trans HK.out;have cP:w3.cell? ⟨gb,0,none⟩=some (.string s0):=(blk_cell hbox 0).trans rfl;clear hb hbox hg));go_ret;exact ⟨by first|rfl|simp,by repeat (first|exact hb0.out|apply pw_below_drewN|apply below_drew1)⟩
theorem impl_entryIndex.ix_at (a:ByteArray) (l:List S42) (i:Nat) (hi:i<l.length):impl_entryIndex.ix a (l.drop i) i=if (rd_T42 l (i:Int)).f0.toList=a.toList then (i:Int) else impl_entryIndex.ix a (l.drop (i+1)) ((i+1:Nat):Int):=by
 rw [List.drop_eq_getElem_cons hi]
 have:rd_T42 l (i:Int)=l[i]:=by simp [rd_T42,hi]
 rw [this];rfl
set_option maxHeartbeats 8000000 in
set_option maxRecDepth 100000 in
theorem impl_entryIndex.index (g:Nat) (a:ByteArray) (A0:Option Addr) (c0:Nat) (l:List S42) (w:World) (hr:Kd.C k42 w A0 l.length l) (hl:l.length≤4611686018427387904) (hk:w.cell? ⟨g,0,none⟩=some (.string a)) :
  Calls Tryz.prog 26 #[.slice A0 l.length c0,.func (.func 27) #[] #[.pointer (some ⟨g,0,none⟩)]] w fun e w'=>e=.returned (.int .i64 (impl_entryIndex.ix a l 0))∧Below w.heap.size w w':=by
 have HR:=am hr;have HK:=am hk;have HL:=am hl;have HB:=am (Below.refl w.heap.size w)
 obtain ⟨kk,hkk⟩:∃ kk,kk=l.length+1:=⟨_,rfl⟩
 have HKK:=am hkk;clear hr hk hl hkk;go_enter Tryz.func26,Tryz.ntmps26;go_wp2
 go_loopg [8] kk (fun kq v8 w'=>∃ (i:Nat),v8=.int .i64 (i:Int)∧Aside0 (i≤l.length∧l.length-i<kq)∧Aside0 (kq≤kk)∧Aside0 (impl_entryIndex.ix a (l.drop i) i=impl_entryIndex.ix a l 0)∧Aside0 (Below w.heap.size w w'))
 case atStart=>exact ⟨0,by first|rfl|simp,⟨Nat.zero_le _,by have:=HKK.out;omega⟩,⟨Nat.le_refl _⟩,⟨by rw [List.drop_zero];rfl⟩,⟨by repeat (first|exact HB.out|apply pw_below_drewN|apply below_drew1)⟩⟩
 case round =>
  clear HB;obtain ⟨i,rfl,HI,HK1,HX,HB⟩:=hrel
  cases gk with
  | zero=>exact absurd HI.out.2 (Nat.not_lt_zero _)
  | succ k1 =>
   by_cases c:i<l.length
   ·
    have c0:decide ((i:Int)<(l.length:Int))=true:=dt (by omega);have c1:decide ((0:Int)≤(i:Int))=true:=dt (by omega);have hx:=HX.out;rw [impl_entryIndex.ix_at a l i c] at hx;obtain ⟨ad,A2,c2,A3,c3,e,Dt,xL,DD,K3,Mz,DF,qN,DG,DI,NG,NH,oO,rI,IY,Sl,O9,hl3,hi3⟩:=at_T42 HR.out (i:Int) (by omega) (by omega)
    cases e
    have hlt:=World.block_lt_of_cell? w _ Dt;replace Dt:=(HB.out.cell hlt).trans Dt;replace xL:=bcl HB.out xL;replace DD:=bcl HB.out DD;replace K3:=bcl HB.out K3;replace Mz:=bcl HB.out Mz;replace DF:=bcl HB.out DF;replace qN:=bcl HB.out qN;replace DG:=bcl HB.out DG;replace DI:=bcl HB.out DI;replace NG:=bcl HB.out NG;replace NH:=bcl HB.out NH;replace oO:=bcl HB.out oO;replace rI:=bcl HB.out rI;replace IY:=bcl HB.out IY;clear hlt Sl O9 hl3 hi3;simp only [Int.toNat_natCast] at Dt xL DD K3 Mz DF qN DG DI NG NH oO rI IY;by_cases q:(rd_T42 l (i:Int)).f0.toList=a.toList
    · rw [if_pos q] at hx;have kM:=am hx;have q1:((rd_T42 l (i:Int)).f0.toList == a.toList)=true:=beq_iff_eq.2 q;clear hx q HX;go_wp2_with (first|((with_reducible refine gate_tmp (t:=11) rfl ?_);refine goesCt_ (t:=11) (caps:=#[.pointer (some ⟨g,0,none⟩)]) (show _=Value.func (.func 27) #[] #[.pointer (some ⟨g,0,none⟩)] from rfl) (some 16) rfl rfl Tryz.func27 (by kernel_rfl) rfl #[.agg #[.string (rd_T42 l (i:Int)).f0,.int .i64 (rd_T42 l (i:Int)).f1,.slice A2 (rd_T42 l (i:Int)).f2.length c2,.slice A3 (rd_T42 l (i:Int)).f3.length c3,.string (rd_T42 l (i:Int)).f4,.string (rd_T42 l (i:Int)).f5,.string (rd_T42 l (i:Int)).f6,.int .i64 (rd_T42 l (i:Int)).f7.f0,.int .i64 (rd_T42 l (i:Int)).f7.f1,.int .i64 (rd_T42 l (i:Int)).f7.f2,.bool (rd_T42 l (i:Int)).f7.f3,.int .i64 (rd_T42 l (i:Int)).f8,.string (rd_T42 l (i:Int)).f9,.string (rd_T42 l (i:Int)).f10]] rfl au85 ?_;refine (impl_entryIndex.key g a _ _ _ _ _ _ _ _ _ _ _ _ _ _ _ _ _ _ _ ((HB.out.cell (World.block_lt_of_cell? w _ HK.out)).trans HK.out)).mono ?_;rintro e w8 ⟨rfl,hb⟩;rw [q1];refine ⟨_,rfl,?_⟩;have hb2:=am (below_step HB.out hb);clear HB hb;have HB:=hb2;clear hb2));go_ret;exact ⟨by first|exact congrArg (fun z=>Ending.returned (Value.int .i64 z)) kM.out|(rw [← kM.out];done)|(rw [← kM.out];rfl),HB.out⟩
    ·
     rw [if_neg q] at hx;have kM:=am hx;have q1:((rd_T42 l (i:Int)).f0.toList == a.toList)=false:=beq_eq_false_iff_ne.2 q;have HWr:=am (show wrap64 ((i:Int)+1)=((i+1:Nat):Int) from by have:=HL.out;unfold wrap64;omega);clear hx q HX;go_wp2_with (first|((with_reducible refine gate_tmp (t:=11) rfl ?_);refine goesCt_ (t:=11) (caps:=#[.pointer (some ⟨g,0,none⟩)]) (show _=Value.func (.func 27) #[] #[.pointer (some ⟨g,0,none⟩)] from rfl) (some 16) rfl rfl Tryz.func27 (by kernel_rfl) rfl #[.agg #[.string (rd_T42 l (i:Int)).f0,.int .i64 (rd_T42 l (i:Int)).f1,.slice A2 (rd_T42 l (i:Int)).f2.length c2,.slice A3 (rd_T42 l (i:Int)).f3.length c3,.string (rd_T42 l (i:Int)).f4,.string (rd_T42 l (i:Int)).f5,.string (rd_T42 l (i:Int)).f6,.int .i64 (rd_T42 l (i:Int)).f7.f0,.int .i64 (rd_T42 l (i:Int)).f7.f1,.int .i64 (rd_T42 l (i:Int)).f7.f2,.bool (rd_T42 l (i:Int)).f7.f3,.int .i64 (rd_T42 l (i:Int)).f8,.string (rd_T42 l (i:Int)).f9,.string (rd_T42 l (i:Int)).f10]] rfl au85 ?_;refine (impl_entryIndex.key g a _ _ _ _ _ _ _ _ _ _ _ _ _ _ _ _ _ _ _ ((HB.out.cell (World.block_lt_of_cell? w _ HK.out)).trans HK.out)).mono ?_;rintro e w8 ⟨rfl,hb⟩;rw [q1];refine ⟨_,rfl,?_⟩;have hb2:=am (below_step HB.out hb);clear HB hb;have HB:=hb2;clear hb2))
     go_roundg k1
     case rel=>exact ⟨i+1,(by (try simp only [i64_w]);rw [HWr.out]),⟨by have:=HI.out;omega⟩,⟨by have:=HK1.out;omega⟩,⟨kM.out⟩,⟨by repeat (first|exact HB.out|apply pw_below_drewN|apply below_drew1)⟩⟩
     case measure=>have:=HK1.out;omega
   · have c0:decide ((i:Int)<(l.length:Int))=false:=df (by omega);have hx:=HX.out;rw [List.drop_of_length_le (by omega)] at hx;have kM:=am hx;clear hx HX;go_wp2;go_ret;exact ⟨by rw [← kM.out];rfl,by repeat (first|exact HB.out|apply pw_below_drewN|apply below_drew1)⟩
set_option maxHeartbeats 8000000 in
set_option maxRecDepth 100000 in
theorem impl_entryIndex.calls (bH:Option Addr) (bA:Nat) (aA:List S42) (a1:ByteArray) (r:Int) (w:World) (cE:Kd.C k42 w bH aA.length aA) (cA:aA.length≤bA) (h:impl_entryIndex.f aA a1=some r) :
  Calls Tryz.prog 16 #[.agg #[.slice bH aA.length bA],.string a1] w fun e w'=>e=.returned (.int .i64 r)∧Below w.heap.size w w':=by
 unfold impl_entryIndex.f at h;by_cases hl:aA.length≤4611686018427387904
 ·
  rw [if_pos hl] at h;obtain rfl:=ojz h;have HR:=am cE;have HL:=am hl;have hu:=Tryz.underlying28;clear cE cA h hl;go_enter Tryz.func16,Tryz.ntmps16
  go_wp2_with (first
   | ((with_reducible refine gate_dst (N:=2) rfl ?_);refine box_event ?hg (N:=2) ?hd (cs:=#[.slice bH aA.length bA]) (t:=28) ?hr ?_;(case hd=>rfl);(case hg=>rfl);(case hr=>first|(go_simp;done)|(go_simp;rfl));intro gb hg w3 hbox hb;have HB1:=am hb;have wU:=am hbox;clear hb hbox hg)
   | ((with_reducible refine gate_dst (N:=3) rfl ?_);refine box_event ?hg (N:=3) ?hd (cs:=#[.string a1]) (t:=9) ?hr ?_;(case hd=>rfl);(case hg=>rfl);(case hr=>first|(go_simp;done)|(go_simp;rfl));intro gk hg w4 hbox hb;have HB2:=am (below_step HB1.out hb);have hz:w4.cell? ⟨gb,0,none⟩=some (.slice bH aA.length bA):=(blk_cell (blk_below wU.out hb) 0).trans rfl;have HK:=am (show w4.cell? ⟨gk,0,none⟩=some (.string a1) from (blk_cell hbox 0).trans rfl);clear hb hbox hg)
   | ((with_reducible refine gate_callee (f:=26) rfl ?_);refine goesL_ (some 8) rfl rfl Tryz.func26 (by kernel_rfl) rfl #[.slice bH aA.length bA,.func (.func 27) #[] #[.pointer (some ⟨gk,0,none⟩)]] rfl au85 ?_;refine (impl_entryIndex.index gk a1 _ _ _ _ (Kd.C_below HR.out HB2.out) HL.out HK.out).mono ?_;rintro e w5 ⟨rfl,hb⟩;refine ⟨_,rfl,?_⟩;have HB3:=am (below_step HB2.out hb);clear hb))
  go_ret;exact ⟨rfl,by repeat (first|exact HB3.out|apply pw_below_drewN|apply below_drew1)⟩
 · rw [if_neg hl] at h;cases h
end Go.Proofs.YteagahcbffgjpaaGreatDoor.G

namespace Go.Proofs.YteagahcbffgjpaaGreatDoor.G
open Go.RowKit Go.Proofs.YteagahcbffgjpaaGreatDoorW.PrintWords Go.Proofs.YteagahcbffgjpaaGreatDoorW.PrintLast Go.Proofs.YteagahcbffgjpaaGreatDoorW.PrintMore Go.Proofs.YteagahcbffgjpaaGreatDoor.B Go.Proofs.YteagahcbffgjpaaGreatDoor.Gl
set_option linter.unusedVariables false
set_option linter.unusedSimpArgs false
set_option maxHeartbeats 4000000 in
set_option maxRecDepth 100000 in
theorem dropE_yes (k:Nat) (A:Option Addr) (c:Nat) (l:List S42) (key:ByteArray) (w:World) {gF1 gF2 gF3:Bool} (hG:GL gF1 gF2 gF3 w) (hr:Kd.C k42 w A l.length l) (hc:l.length≤c) (k':Nat) (t:List S42) (i:Nat) (hi:impl_entryIndex.f l key=some (i:Int)) (hv:impl_IsValidLibrary.f k l=some true) (hn:impl_newLibrary.f k' l=some t) (hit:i<t.length) (O9:i≤4611686018427387904) :
    Calls Tryz.prog 7 #[.agg #[.slice A l.length c],.string key] w fun e w'=>∃ dS:Value,e=.returned (.tuple #[.agg #[dS],.bool true])∧Kd.S kES 42 w' w.heap.size (fun _=>True) dS (t.eraseIdx i)∧Below w.heap.size w w':=by
  have HR:=am hr;have HC:=am hc;have HG:=am hG;have HB:=am (Below.refl w.heap.size w);have hu:=Tryz.underlying28;have HI:=am hi;have HV:=am hv;have HN:=am hn;have HT:=am hit;have HI2:=am O9;have h0b:decide ((i:Int)<0)=false:=df (by omega);clear hr hc hG hi hv hn hit O9;go_enter Tryz.func7,Tryz.ntmps7
  go_wp2_with (first
    | (go_at_call 16;(refine (impl_entryIndex.calls A c l key _ _ ?s1 HC.out HI.out).mono ?_);(case s1=>repeat (first|exact HR.out|(with_reducible refine Kd.C_alloc ?_ _)|(with_reducible refine Kd.C_drewN ?_ _)|(with_reducible refine Kd.C_drew ?_)));rintro e w1 ⟨rfl,hb⟩;have HB1:=am (below_step (show Below w.heap.size w _ from by repeat (first|exact HB.out|apply below_alloc|apply pw_below_drewN|apply below_drew1)) hb);have wU:=am (show w1.heap[w.heap.size+1]?=some (.cells #[.slice none 0 0] 28 (0,0)) from (hb.block _ (by rw [alloc_size,alloc_size];omega)).trans (by rw [← alloc_size w (.cells #[.slice A l.length c] 28)];exact alloc_at _ _));have HY1:=am (show w1.heap[w.heap.size]?=some (.cells #[.slice A l.length c] 28 (0,0)) from (hb.block _ (by rw [alloc_size,alloc_size];omega)).trans ((alloc_lt _ (by rw [alloc_size];exact Nat.lt_succ_self _)).trans (alloc_at _ _)));have hy1:w1.cell? ⟨w.heap.size,0,none⟩=some (.slice A l.length c):=(blk_cell HY1.out 0).trans rfl;have hfy1:=blk_frozen HY1.out 0;clear hb)
    | (go_at_call 17;(refine (impl_IsValidLibrary.calls (hG:=HG.out.below (show Below w.heap.size w _ from by repeat (first|exact HB1.out|apply below_alloc|apply pw_below_drewN|apply below_drew1))) k A c l true _ ?s2 HC.out HV.out).mono ?_);(case s2=>repeat (first|exact (Kd.C_below HR.out HB1.out)|(with_reducible refine Kd.C_alloc ?_ _)|(with_reducible refine Kd.C_drewN ?_ _)|(with_reducible refine Kd.C_drew ?_)));rintro e w2 ⟨rfl,hb⟩;have HB2:=am (below_step (show Below w.heap.size w _ from by repeat (first|exact HB1.out|apply below_alloc|apply pw_below_drewN|apply below_drew1)) hb);have kM:=am (show w2.heap[w.heap.size+1]?=some (.cells #[.slice none 0 0] 28 (0,0)) from (hb.block _ (blk_ltH wU.out)).trans wU.out);have HY2:=am (show w2.heap[w.heap.size]?=some (.cells #[.slice A l.length c] 28 (0,0)) from (hb.block _ (blk_ltH HY1.out)).trans HY1.out);have hy2:w2.cell? ⟨w.heap.size,0,none⟩=some (.slice A l.length c):=(blk_cell HY2.out 0).trans rfl;have hfy2:=blk_frozen HY2.out 0;have DD:w2.cell? ⟨w.heap.size+1,0,none⟩=some (.slice none 0 0):=(blk_cell kM.out 0).trans rfl;have hfx2:=blk_frozen kM.out 0;clear hb)
    | (go_at_call 18;(refine (drop_s k' A c l t i _ ?s3 HC.out HN.out HT.out HI2.out).mono ?_);(case s3=>repeat (first|exact (Kd.C_below HR.out HB2.out)|(with_reducible refine Kd.C_alloc ?_ _)|(with_reducible refine Kd.C_drewN ?_ _)|(with_reducible refine Kd.C_drew ?_)));rintro e w3 ⟨v0,rfl,hS,hb⟩;have HB3:=am (below_step (show Below w.heap.size w _ from by repeat (first|exact HB2.out|apply below_alloc|apply pw_below_drewN|apply below_drew1)) hb);have HS3:=am (Kd.S_lower hS (below_size (show Below w.heap.size w _ from by repeat (first|exact HB2.out|apply below_alloc|apply pw_below_drewN|apply below_drew1))));have HX3:=am (show w3.heap[w.heap.size+1]?=some (.cells #[.slice none 0 0] 28 (0,0)) from (hb.block _ (blk_ltH kM.out)).trans kM.out);obtain ⟨A3,c3,e3⟩:=Kd.S_slice hS;subst e3;have K3:w3.cell? ⟨w.heap.size+1,0,none⟩=some (.slice none 0 0):=(blk_cell HX3.out 0).trans rfl;have hfx3:=blk_frozen HX3.out 0;clear hS hb))
  refine bodyPost_ret (results_ct rfl _ _ (w.heap.size+1) 28 #[.slice A3 (t.eraseIdx i).length c3] (0,0) _ rfl (by refine blk_put (cs:=#[.slice none 0 0]) ?_ 0 _ rfl;exact HX3.out) Tryz.underlying28 rfl (by kernel_rfl)) rfl ?_;exact ⟨_,rfl,Kd.S_mono (Kd.S_far (p:=⟨w.heap.size+1,0,none⟩) (Kd.S_types HS3.out HX3.out (by decide)) (fun _ hk=>hk.2) _) (fun _ _=>trivial),HB3.out.setCell (by show w.heap.size≤w.heap.size+1;omega) _⟩
set_option maxHeartbeats 4000000 in
set_option maxRecDepth 100000 in
theorem dropE_bad (k:Nat) (A:Option Addr) (c:Nat) (l:List S42) (key:ByteArray) (w:World) {gF1 gF2 gF3:Bool} (hG:GL gF1 gF2 gF3 w) (hr:Kd.C k42 w A l.length l) (hc:l.length≤c) (i:Int) (hi:impl_entryIndex.f l key=some i) (hv:impl_IsValidLibrary.f k l=some false) :
    Calls Tryz.prog 7 #[.agg #[.slice A l.length c],.string key] w fun e w'=>∃ dS:Value,e=.returned (.tuple #[.agg #[dS],.bool false])∧Kd.S kES 42 w' w.heap.size (fun _=>True) dS ([]:List S42)∧Below w.heap.size w w':=by
  have HR:=am hr;have HC:=am hc;have HG:=am hG;have HB:=am (Below.refl w.heap.size w);have hu:=Tryz.underlying28;have HI:=am hi;have HV:=am hv;clear hi hv;clear hr hc hG;go_enter Tryz.func7,Tryz.ntmps7
  go_wp2_with (first
    | (go_at_call 16;(refine (impl_entryIndex.calls A c l key _ _ ?s1 HC.out HI.out).mono ?_);(case s1=>repeat (first|exact HR.out|(with_reducible refine Kd.C_alloc ?_ _)|(with_reducible refine Kd.C_drewN ?_ _)|(with_reducible refine Kd.C_drew ?_)));rintro e w1 ⟨rfl,hb⟩;have HB1:=am (below_step (show Below w.heap.size w _ from by repeat (first|exact HB.out|apply below_alloc|apply pw_below_drewN|apply below_drew1)) hb);have wU:=am (show w1.heap[w.heap.size+1]?=some (.cells #[.slice none 0 0] 28 (0,0)) from (hb.block _ (by rw [alloc_size,alloc_size];omega)).trans (by rw [← alloc_size w (.cells #[.slice A l.length c] 28)];exact alloc_at _ _));have HY1:=am (show w1.heap[w.heap.size]?=some (.cells #[.slice A l.length c] 28 (0,0)) from (hb.block _ (by rw [alloc_size,alloc_size];omega)).trans ((alloc_lt _ (by rw [alloc_size];exact Nat.lt_succ_self _)).trans (alloc_at _ _)));have hy1:w1.cell? ⟨w.heap.size,0,none⟩=some (.slice A l.length c):=(blk_cell HY1.out 0).trans rfl;have hfy1:=blk_frozen HY1.out 0;clear hb)
    | (go_at_call 17;(refine (impl_IsValidLibrary.calls (hG:=HG.out.below (show Below w.heap.size w _ from by repeat (first|exact HB1.out|apply below_alloc|apply pw_below_drewN|apply below_drew1))) k A c l false _ ?s2 HC.out HV.out).mono ?_);(case s2=>repeat (first|exact (Kd.C_below HR.out HB1.out)|(with_reducible refine Kd.C_alloc ?_ _)|(with_reducible refine Kd.C_drewN ?_ _)|(with_reducible refine Kd.C_drew ?_)));rintro e w2 ⟨rfl,hb⟩;have HB2:=am (below_step (show Below w.heap.size w _ from by repeat (first|exact HB1.out|apply below_alloc|apply pw_below_drewN|apply below_drew1)) hb);have kM:=am (show w2.heap[w.heap.size+1]?=some (.cells #[.slice none 0 0] 28 (0,0)) from (hb.block _ (blk_ltH wU.out)).trans wU.out);have HY2:=am (show w2.heap[w.heap.size]?=some (.cells #[.slice A l.length c] 28 (0,0)) from (hb.block _ (blk_ltH HY1.out)).trans HY1.out);have hy2:w2.cell? ⟨w.heap.size,0,none⟩=some (.slice A l.length c):=(blk_cell HY2.out 0).trans rfl;have hfy2:=blk_frozen HY2.out 0;have DD:w2.cell? ⟨w.heap.size+1,0,none⟩=some (.slice none 0 0):=(blk_cell kM.out 0).trans rfl;have hfx2:=blk_frozen kM.out 0;clear hb))
  all_goals (refine bodyPost_ret (results_ct rfl _ _ (w.heap.size+1) 28 #[.slice none 0 0] (0,0) _ rfl (by refine blk_put (cs:=#[.slice none 0 0]) ?_ 0 _ rfl;exact kM.out) Tryz.underlying28 rfl (by kernel_rfl)) rfl ?_;exact ⟨_,rfl,Kd.S_nil _ _ _ _ _,HB2.out.setCell (by show w.heap.size≤w.heap.size+1;omega) _⟩)
set_option maxHeartbeats 4000000 in
set_option maxRecDepth 100000 in
theorem dropE_none (k:Nat) (A:Option Addr) (c:Nat) (l:List S42) (key:ByteArray) (w:World) {gF1 gF2 gF3:Bool} (hG:GL gF1 gF2 gF3 w) (hr:Kd.C k42 w A l.length l) (hc:l.length≤c) (i:Int) (hi:impl_entryIndex.f l key=some i) (hv:impl_IsValidLibrary.f k l=some true) (hn:i<0) :
    Calls Tryz.prog 7 #[.agg #[.slice A l.length c],.string key] w fun e w'=>∃ dS:Value,e=.returned (.tuple #[.agg #[dS],.bool false])∧Kd.S kES 42 w' w.heap.size (fun _=>True) dS ([]:List S42)∧Below w.heap.size w w':=by
  have HR:=am hr;have HC:=am hc;have HG:=am hG;have HB:=am (Below.refl w.heap.size w);have hu:=Tryz.underlying28;have HI:=am hi;have HV:=am hv;have h0b:=dt hn;clear hi hv;clear hr hc hG;go_enter Tryz.func7,Tryz.ntmps7
  go_wp2_with (first
    | (go_at_call 16;(refine (impl_entryIndex.calls A c l key _ _ ?s1 HC.out HI.out).mono ?_);(case s1=>repeat (first|exact HR.out|(with_reducible refine Kd.C_alloc ?_ _)|(with_reducible refine Kd.C_drewN ?_ _)|(with_reducible refine Kd.C_drew ?_)));rintro e w1 ⟨rfl,hb⟩;have HB1:=am (below_step (show Below w.heap.size w _ from by repeat (first|exact HB.out|apply below_alloc|apply pw_below_drewN|apply below_drew1)) hb);have wU:=am (show w1.heap[w.heap.size+1]?=some (.cells #[.slice none 0 0] 28 (0,0)) from (hb.block _ (by rw [alloc_size,alloc_size];omega)).trans (by rw [← alloc_size w (.cells #[.slice A l.length c] 28)];exact alloc_at _ _));have HY1:=am (show w1.heap[w.heap.size]?=some (.cells #[.slice A l.length c] 28 (0,0)) from (hb.block _ (by rw [alloc_size,alloc_size];omega)).trans ((alloc_lt _ (by rw [alloc_size];exact Nat.lt_succ_self _)).trans (alloc_at _ _)));have hy1:w1.cell? ⟨w.heap.size,0,none⟩=some (.slice A l.length c):=(blk_cell HY1.out 0).trans rfl;have hfy1:=blk_frozen HY1.out 0;clear hb)
    | (go_at_call 17;(refine (impl_IsValidLibrary.calls (hG:=HG.out.below (show Below w.heap.size w _ from by repeat (first|exact HB1.out|apply below_alloc|apply pw_below_drewN|apply below_drew1))) k A c l true _ ?s2 HC.out HV.out).mono ?_);(case s2=>repeat (first|exact (Kd.C_below HR.out HB1.out)|(with_reducible refine Kd.C_alloc ?_ _)|(with_reducible refine Kd.C_drewN ?_ _)|(with_reducible refine Kd.C_drew ?_)));rintro e w2 ⟨rfl,hb⟩;have HB2:=am (below_step (show Below w.heap.size w _ from by repeat (first|exact HB1.out|apply below_alloc|apply pw_below_drewN|apply below_drew1)) hb);have kM:=am (show w2.heap[w.heap.size+1]?=some (.cells #[.slice none 0 0] 28 (0,0)) from (hb.block _ (blk_ltH wU.out)).trans wU.out);have HY2:=am (show w2.heap[w.heap.size]?=some (.cells #[.slice A l.length c] 28 (0,0)) from (hb.block _ (blk_ltH HY1.out)).trans HY1.out);have hy2:w2.cell? ⟨w.heap.size,0,none⟩=some (.slice A l.length c):=(blk_cell HY2.out 0).trans rfl;have hfy2:=blk_frozen HY2.out 0;have DD:w2.cell? ⟨w.heap.size+1,0,none⟩=some (.slice none 0 0):=(blk_cell kM.out 0).trans rfl;have hfx2:=blk_frozen kM.out 0;clear hb))
  all_goals (refine bodyPost_ret (results_ct rfl _ _ (w.heap.size+1) 28 #[.slice none 0 0] (0,0) _ rfl (by refine blk_put (cs:=#[.slice none 0 0]) ?_ 0 _ rfl;exact kM.out) Tryz.underlying28 rfl (by kernel_rfl)) rfl ?_;exact ⟨_,rfl,Kd.S_nil _ _ _ _ _,HB2.out.setCell (by show w.heap.size≤w.heap.size+1;omega) _⟩)
end Go.Proofs.YteagahcbffgjpaaGreatDoor.G

namespace Go.Proofs.YteagahcbffgjpaaGreatDoor.G
open Go.RowKit Go.Proofs.YteagahcbffgjpaaGreatDoorW.PrintWords Go.Proofs.YteagahcbffgjpaaGreatDoorW.PrintLast Go.Proofs.YteagahcbffgjpaaGreatDoorW.PrintMore
open Go.Proofs.YteagahcbffgjpaaGreatDoor.Gl Go.Proofs.YteagahcbffgjpaaGreatDoor.Ext
attribute [local go_sem] max2_int min2_int max_two min_two max_three min_three max_four min_four   -- for this text's walks alone
set_option linter.unusedVariables false
set_option linter.unusedSimpArgs false
def laws_heldNameS.l0:Nat→List (S69)→Int→Int→Option (Int)
 | 0,_,_,_=>none
 | k+1,x0,x1,x5=>if x5<(x0.length:Int) then (if 0≤x5 then ((laws_heldStringS.f k ((rd_T69 x0 x5).f0) x1).bind fun gS=>(if gS<0 then (some (-1)) else ((laws_markText.f k gS).bind fun LG=>(if ((rd_T69 x0 x5).f1).toList=LG.toList then ((laws_markText.f k (wrap64 (gS+1))).bind fun Pr=>(if ((rd_T69 x0 x5).f2).toList=Pr.toList then ((laws_markText.f k (wrap64 ((wrap64 (gS+1))+1))).bind fun LH=>(if ((rd_T69 x0 x5).f3).toList=LH.toList then (laws_heldNameS.l0 k x0 (wrap64 ((wrap64 ((wrap64 (gS+1))+1))+1)) (wrap64 (x5+1))) else (some (-1)))) else (some (-1)))) else (some (-1)))))) else (none)) else (some x1)
def laws_heldNameS.f (k:Nat) (l0:List (S69)) (a1:Int):Option (Int):=laws_heldNameS.l0 k l0 a1 0
theorem laws_heldNameS.mono_l:∀ k,(∀ y0 y1 y2,LeO (laws_heldNameS.l0 k y0 y1 y2) (laws_heldNameS.l0 (k+1) y0 y1 y2))
 | 0=>fun _ _ _ r h=>by simp [laws_heldNameS.l0] at h
 | k+1=>by
  have ih0:=laws_heldNameS.mono_l k
  ·
   intro y0 y1 y2;unfold laws_heldNameS.l0
   repeat' first
   | (with_reducible exact ih0 _ _ _)
   | (with_reducible exact laws_heldStringS.mono _ _ _)
   | (with_reducible exact laws_markText.mono _ _)
   | (with_reducible exact LeO.refl _)
   | (with_reducible exact LeO.none _)
   | (with_reducible refine LeO.ite ?_ ?_)
   | (with_reducible refine LeO.bind ?_ (fun _=>?_))
   | exact ih0 _ _ _
   | exact laws_heldStringS.mono _ _ _
   | exact laws_markText.mono _ _
   | exact LeO.none _
   | refine LeO.ite ?_ ?_
   | refine LeO.bind ?_ (fun _=>?_)
theorem laws_heldNameS.mono:∀ a0 a1 k,LeO (laws_heldNameS.f k a0 a1) (laws_heldNameS.f (k+1) a0 a1):=by
 intro a0 a1 k;have ih0:=laws_heldNameS.mono_l k;unfold laws_heldNameS.f
 repeat' first
   | (with_reducible exact ih0 _ _ _)
   | (with_reducible exact laws_heldStringS.mono _ _ _)
   | (with_reducible exact laws_markText.mono _ _)
   | (with_reducible exact LeO.refl _)
   | (with_reducible exact LeO.none _)
   | (with_reducible refine LeO.ite ?_ ?_)
   | (with_reducible refine LeO.bind ?_ (fun _=>?_))
   | exact ih0 _ _ _
   | exact laws_heldStringS.mono _ _ _
   | exact laws_markText.mono _ _
   | exact LeO.none _
   | refine LeO.ite ?_ ?_
   | refine LeO.bind ?_ (fun _=>?_)
def laws_heldNameS.T7:Bool × List (List Nat × List Nat):=(true,[([],[]),([],[]),([0,1],[0,1]),([2],[2]),([3],[3]),([],[]),([5],[5]),([4,6],[4,6])])
def laws_heldNameS.B7:List Nat:=[0,0,3,7,15,0,32,127]
theorem laws_heldNameS.tab7:rtab .any (opsOf Tryz.f34 7)=laws_heldNameS.T7:=by kernel_rfl
theorem laws_heldNameS.bits7:waitsOk laws_heldNameS.T7.2 laws_heldNameS.B7=true:=by kernel_rfl
def laws_heldNameS.T10:Bool × List (List Nat × List Nat):=(true,[([],[]),([],[]),([0,1],[0,1]),([2],[2]),([3],[3]),([],[]),([5],[5]),([4,6],[4,6])])
def laws_heldNameS.B10:List Nat:=[0,0,3,7,15,0,32,127]
theorem laws_heldNameS.tab10:rtab .any (opsOf Tryz.f34 10)=laws_heldNameS.T10:=by kernel_rfl
theorem laws_heldNameS.bits10:waitsOk laws_heldNameS.T10.2 laws_heldNameS.B10=true:=by kernel_rfl
def laws_heldNameS.T13:Bool × List (List Nat × List Nat):=(true,[([],[]),([],[]),([0,1],[0,1]),([2],[2]),([3],[3]),([],[]),([5],[5]),([4,6],[4,6])])
def laws_heldNameS.B13:List Nat:=[0,0,3,7,15,0,32,127]
theorem laws_heldNameS.tab13:rtab .any (opsOf Tryz.f34 13)=laws_heldNameS.T13:=by kernel_rfl
theorem laws_heldNameS.bits13:waitsOk laws_heldNameS.T13.2 laws_heldNameS.B13=true:=by kernel_rfl
set_option maxRecDepth 100000 in
theorem laws_heldNameS.L0 {P:Prop} (h:P:=by
  try go_wp2_with (first|((with_reducible refine gate_callee (f:=53) rfl ?_);refine goesL_ (some 18) rfl rfl Tryz.func53 (by kernel_rfl) rfl #[.slice rA ((rd_T69 l0 aC).f0).length rB,.int .i64 cL] rfl au45 ?_;(with_reducible refine (laws_heldStringS.calls k1 _ _ ((rd_T69 l0 aC).f0) cL gS _ ?aU ?aV A5.out).mono ?_);(case aU=>repeat (first|exact (Kd.C_below nY.out HB.out)|(with_reducible refine Kd.C_alloc ?_ _)|(with_reducible refine Kd.C_drewN ?_ _)|(with_reducible refine Kd.C_drew ?_)));(case aV=>exact nZ.out);rintro e rL ⟨rfl,hb⟩;refine ⟨_,rfl,?_⟩;replace HB:=am (below_step au46 hb);(try clear hb)))
  replace HB:=am (below_drew1 HB.out);have vD:0≤(aC:Int):=od au87;have vF:aC<(l0.length:Int):=od au87;obtain ⟨Kl,E2,E3,Ps,gB,gC,gD,gF,oA,oB⟩:=at_T69 cW.out aC vD vF;have oC:=gF;have oD:=gD;have oE:=gC;have oF:=gB
  obtain rfl:cH=Kl:=(by injection Ps)
  replace gB:=bcl HB.out gB;replace gC:=bcl HB.out gC;replace gD:=bcl HB.out gD;replace gF:=bcl HB.out gF;have yK:=am oB;have UF:=am oA;clear oB oA;replace vD:=eq_true vD;replace vF:=eq_true vF;refine start_ (n:=8) (S:=fun w'=>w'.cell? (cH.add ((aC).toNat*4))=some (.slice E2 ((rd_T69 l0 aC).f0).length E3)∧w'.cell? ⟨(cH.add ((aC).toNat*4)).block,(cH.add ((aC).toNat*4)).off+1,none⟩=some (.string ((rd_T69 l0 aC).f1))∧w'.cell? ⟨(cH.add ((aC).toNat*4)).block,(cH.add ((aC).toNat*4)).off+2,none⟩=some (.string ((rd_T69 l0 aC).f2))∧w'.cell? ⟨(cH.add ((aC).toNat*4)).block,(cH.add ((aC).toNat*4)).off+3,none⟩=some (.string ((rd_T69 l0 aC).f3))) (ds:=[]) #[false,false,false,false,false,false,false,false] (by kernel_rfl) rfl rfl ⟨(bcl HB.out oF),(bcl HB.out oE),(bcl HB.out oD),(bcl HB.out oC)⟩ (fun hHeld=>?_);refine with_tabW laws_heldNameS.tab7 laws_heldNameS.bits7 (fun HT_ HW_=>?_);generalize rL.drew=MD at HB yK gB gC gD gF hHeld ⊢;refine pu_ 0 (some 21) #[true,false,false,false,false,false,false,false] HT_.out ?_;refine pu_ 1 (some 22) #[true,true,false,false,false,false,false,false] HT_.out ?_;refine pu_ 2 (some 23) #[true,true,true,false,false,false,false,false] HT_.out ?_;refine pu_ 3 (some 24) #[true,true,true,true,false,false,false,false] HT_.out ?_;refine pu_ 5 (some 26) #[true,true,true,true,false,true,false,false] HT_.out ?_;refine ta3_ 4 (some 25) #[true,true,true,true,true,true,false,false] HT_.out HW_.out hHeld ?_;refine on_ 6 (some 27) #[true,true,true,true,true,true,true,false] HT_.out (fun K hK=>?_);refine gs_ Tryz.func32 #[.int .i64 gS] ?_
  with_reducible refine (laws_markText.calls k1 gS LG _ A8.out).mono ?_
  rintro e vC ⟨rfl,hb⟩;refine ⟨_,rfl,?_⟩;replace HB:=am (below_step au46 hb)
  (try clear hb)
  refine hK.out _ _ ⟨(bcl HB.out oF),(bcl HB.out oE),(bcl HB.out oD),(bcl HB.out oC)⟩ (fun hHeld=>?_);clear hK K;refine no_ (some 27) ?_;refine pu_ 7 (some 28) #[true,true,true,true,true,true,true,true] HT_.out ?_;refine done_ (done_of HT_.out (by kernel_rfl)) ?_
  try go_wp2
  replace HB:=am (below_drew1 HB.out);have Ja:0≤(aC:Int):=od au87;have Jb:aC<(l0.length:Int):=od au87;obtain ⟨a3R,Pt,Pu,a9N,lY,lZ,mA,mB,yL,yM⟩:=at_T69 cW.out aC Ja Jb;have yN:=mB;have yO:=mA;have yP:=lZ;have yQ:=lY
  obtain rfl:cH=a3R:=(by injection a9N)
  replace lY:=bcl HB.out lY;replace lZ:=bcl HB.out lZ;replace mA:=bcl HB.out mA;replace mB:=bcl HB.out mB;have LI:=am yM;have akP:=am yL;clear yM yL;replace Ja:=eq_true Ja;replace Jb:=eq_true Jb;refine start_ (n:=8) (S:=fun w'=>w'.cell? (cH.add ((aC).toNat*4))=some (.slice Pt ((rd_T69 l0 aC).f0).length Pu)∧w'.cell? ⟨(cH.add ((aC).toNat*4)).block,(cH.add ((aC).toNat*4)).off+1,none⟩=some (.string ((rd_T69 l0 aC).f1))∧w'.cell? ⟨(cH.add ((aC).toNat*4)).block,(cH.add ((aC).toNat*4)).off+2,none⟩=some (.string ((rd_T69 l0 aC).f2))∧w'.cell? ⟨(cH.add ((aC).toNat*4)).block,(cH.add ((aC).toNat*4)).off+3,none⟩=some (.string ((rd_T69 l0 aC).f3))) (ds:=[]) #[false,false,false,false,false,false,false,false] (by kernel_rfl) rfl rfl ⟨(bcl HB.out yQ),(bcl HB.out yP),(bcl HB.out yO),(bcl HB.out yN)⟩ (fun hHeld=>?_);refine with_tabW laws_heldNameS.tab10 laws_heldNameS.bits10 (fun HT_ HW_=>?_);generalize vC.drew=oP at HB LI lY lZ mA mB hHeld ⊢;refine pu_ 0 (some 31) #[true,false,false,false,false,false,false,false] HT_.out ?_;refine pu_ 1 (some 32) #[true,true,false,false,false,false,false,false] HT_.out ?_;refine pu_ 2 (some 33) #[true,true,true,false,false,false,false,false] HT_.out ?_;refine pu_ 3 (some 34) #[true,true,true,true,false,false,false,false] HT_.out ?_;refine pu_ 5 (some 36) #[true,true,true,true,false,true,false,false] HT_.out ?_;refine ta3_ 4 (some 35) #[true,true,true,true,true,true,false,false] HT_.out HW_.out hHeld ?_;refine on_ 6 (some 37) #[true,true,true,true,true,true,true,false] HT_.out (fun K hK=>?_);refine gs_ Tryz.func32 #[.int .i64 (wrap64 (gS+1))] ?_
  with_reducible refine (laws_markText.calls k1 (wrap64 (gS+1)) Pr _ rO.out).mono ?_
  rintro e nW ⟨rfl,hb⟩;refine ⟨_,rfl,?_⟩;replace HB:=am (below_step au46 hb)
  (try clear hb)
  refine hK.out _ _ ⟨(bcl HB.out yQ),(bcl HB.out yP),(bcl HB.out yO),(bcl HB.out yN)⟩ (fun hHeld=>?_);clear hK K;refine no_ (some 37) ?_;refine pu_ 7 (some 38) #[true,true,true,true,true,true,true,true] HT_.out ?_;refine done_ (done_of HT_.out (by kernel_rfl)) ?_
  try go_wp2
  replace HB:=am (below_drew1 HB.out);have a9O:0≤(aC:Int):=od au87;have a9P:aC<(l0.length:Int):=od au87;obtain ⟨aDQ,awR,awS,aHT,FW,FX,FY,FZ,UG,UH⟩:=at_T69 cW.out aC a9O a9P;have UI:=FZ;have UJ:=FY;have UK:=FX;have UL:=FW
  obtain rfl:cH=aDQ:=(by injection aHT)
  replace FW:=bcl HB.out FW;replace FX:=bcl HB.out FX;replace FY:=bcl HB.out FY;replace FZ:=bcl HB.out FZ;have akQ:=am UH;have aP9:=am UG;clear UH UG;replace a9O:=eq_true a9O;replace a9P:=eq_true a9P;refine start_ (n:=8) (S:=fun w'=>w'.cell? (cH.add ((aC).toNat*4))=some (.slice awR ((rd_T69 l0 aC).f0).length awS)∧w'.cell? ⟨(cH.add ((aC).toNat*4)).block,(cH.add ((aC).toNat*4)).off+1,none⟩=some (.string ((rd_T69 l0 aC).f1))∧w'.cell? ⟨(cH.add ((aC).toNat*4)).block,(cH.add ((aC).toNat*4)).off+2,none⟩=some (.string ((rd_T69 l0 aC).f2))∧w'.cell? ⟨(cH.add ((aC).toNat*4)).block,(cH.add ((aC).toNat*4)).off+3,none⟩=some (.string ((rd_T69 l0 aC).f3))) (ds:=[]) #[false,false,false,false,false,false,false,false] (by kernel_rfl) rfl rfl ⟨(bcl HB.out UL),(bcl HB.out UK),(bcl HB.out UJ),(bcl HB.out UI)⟩ (fun hHeld=>?_);refine with_tabW laws_heldNameS.tab13 laws_heldNameS.bits13 (fun HT_ HW_=>?_);generalize nW.drew=xM at HB akQ FW FX FY FZ hHeld ⊢;refine pu_ 0 (some 41) #[true,false,false,false,false,false,false,false] HT_.out ?_;refine pu_ 1 (some 42) #[true,true,false,false,false,false,false,false] HT_.out ?_;refine pu_ 2 (some 43) #[true,true,true,false,false,false,false,false] HT_.out ?_;refine pu_ 3 (some 44) #[true,true,true,true,false,false,false,false] HT_.out ?_;refine pu_ 5 (some 46) #[true,true,true,true,false,true,false,false] HT_.out ?_;refine ta3_ 4 (some 45) #[true,true,true,true,true,true,false,false] HT_.out HW_.out hHeld ?_;refine on_ 6 (some 47) #[true,true,true,true,true,true,true,false] HT_.out (fun K hK=>?_);refine gs_ Tryz.func32 #[.int .i64 (wrap64 ((wrap64 (gS+1))+1))] ?_
  with_reducible refine (laws_markText.calls k1 (wrap64 ((wrap64 (gS+1))+1)) LH _ uT.out).mono ?_
  rintro e Dp ⟨rfl,hb⟩;refine ⟨_,rfl,?_⟩;replace HB:=am (below_step au46 hb)
  (try clear hb)
  refine hK.out _ _ ⟨(bcl HB.out UL),(bcl HB.out UK),(bcl HB.out UJ),(bcl HB.out UI)⟩ (fun hHeld=>?_);clear hK K;refine no_ (some 47) ?_;refine pu_ 7 (some 48) #[true,true,true,true,true,true,true,true] HT_.out ?_;refine done_ (done_of HT_.out (by kernel_rfl)) ?_
  try go_wp2
  first
  |
   have g_:(((rd_T69 l0 aC).f3).toList == LH.toList)=true:=c13b0;clear g_
   go_roundg k1
   case measure=>have:=HK1.out;omega
   case rel=>exact ⟨(wrap64 ((wrap64 ((wrap64 (gS+1))+1))+1)),(wrap64 (aC+1)),au88,au88,H',⟨by have:=HK1.out;omega⟩,⟨by repeat (first|(with_reducible first|exact HB.out|apply below_alloc|apply pw_below_drewN|apply below_drew1)|exact HB.out)⟩⟩
  |
   have g_:(((rd_T69 l0 aC).f3).toList == LH.toList)=false:=c13b0;clear g_;go_ret
   exact ax1):P:=h
set_option maxHeartbeats 8000000 in
set_option maxRecDepth 100000 in
theorem laws_heldNameS.calls (k:Nat) (A0:Option Addr) (c0:Nat) (l0:List (S69)) (a1:Int) (r:Int) (w:World) (dH:Kd.C k69 w A0 l0.length l0) (cP:l0.length≤c0) (h:laws_heldNameS.f k l0 a1=some r) :
  Calls Tryz.prog 34 #[.slice A0 l0.length c0,.int .i64 a1] w fun e w'=>e=.returned (.int .i64 r)∧Below w.heap.size w w':=by
 have cW:=am dH;have mM:=am cP;clear dH cP;have HB:=am (Below.refl w.heap.size w);have H:(laws_heldNameS.l0 k l0 a1 0)=some r:=h;clear h;have H':=am H;clear H;go_enter Tryz.func34,Tryz.ntmps34;go_wp2
 go_loopg [1,5] k (fun kq v1 v5 w'=>∃ (cL:Int) (aC:Int),v1=.int .i64 cL∧v5=.int .i64 aC∧Aside0 (laws_heldNameS.l0 kq l0 cL aC=some r)∧Aside0 (kq≤k)∧Aside0 (Below w.heap.size w w'))
 case atStart=>exact ⟨(a1),(0),au88,au88,H',⟨Nat.le_refl _⟩,⟨by repeat (first|(with_reducible first|exact HB.out|apply below_alloc|apply pw_below_drewN|apply below_drew1)|exact HB.out)⟩⟩
 case round =>
  clear H'
  try clear p2
  obtain ⟨cL,aC,rfl,rfl,HA,HK1,HB⟩:=hrel
  cases gk with
  | zero=>exact absurd HA.out (by simp [laws_heldNameS.l0])
  | succ k1 =>
   have H:=HA.out;clear HA;simp only [laws_heldNameS.l0] at H;by_cases c3:aC<(l0.length:Int)
   ·
    rw [if_pos c3] at H;have c3b0:=dt c3;clear c3;by_cases c4:0≤aC
    ·
     rw [if_pos c4] at H;have c4b0:=dt c4;clear c4;replace H:=ob H;obtain ⟨gS,wR,H⟩:=H
     try dsimp only at H
     have A5:=am wR;clear wR;by_cases c6:gS<0
     ·
      rw [if_pos c6] at H;have c6b0:=dt c6;clear c6;obtain rfl:=ojz H;have kE:0≤(aC:Int):=od au87;have kF:aC<(l0.length:Int):=od au87;obtain ⟨cH,rA,rB,Ci,gG,gH,gI,gJ,gK,gL⟩:=at_T69 cW.out aC kE kF
      cases Ci
      replace gG:=bcl HB.out gG;replace gH:=bcl HB.out gH;replace gI:=bcl HB.out gI;replace gJ:=bcl HB.out gJ;have nY:=am gL;have nZ:=am gK;clear gL gK;replace kE:=eq_true kE;replace kF:=eq_true kF;go_wp2_with (first|((with_reducible refine gate_callee (f:=53) rfl ?_);refine goesL_ (some 18) rfl rfl Tryz.func53 (by kernel_rfl) rfl #[.slice rA ((rd_T69 l0 aC).f0).length rB,.int .i64 cL] rfl au45 ?_;(with_reducible refine (laws_heldStringS.calls k1 _ _ ((rd_T69 l0 aC).f0) cL gS _ ?aU ?aV A5.out).mono ?_);(case aU=>repeat (first|exact (Kd.C_below nY.out HB.out)|(with_reducible refine Kd.C_alloc ?_ _)|(with_reducible refine Kd.C_drewN ?_ _)|(with_reducible refine Kd.C_drew ?_)));(case aV=>exact nZ.out);rintro e w7 ⟨rfl,hb⟩;refine ⟨_,rfl,?_⟩;replace HB:=am (below_step au46 hb);(try clear hb)));go_ret;exact ax1
     ·
      rw [if_neg c6] at H;have c6b0:=df c6;clear c6;replace H:=ob H;obtain ⟨LG,iW,H⟩:=H
      try dsimp only at H
      have A8:=am iW;clear iW;by_cases c9:((rd_T69 l0 aC).f1).toList=LG.toList
      ·
       rw [if_pos c9] at H;have c9b0:=qt c9;have c9b1:=bf c9;clear c9;replace H:=ob H;obtain ⟨Pr,oT,H⟩:=H
       try dsimp only at H
       have rO:=am oT;clear oT;by_cases cI:((rd_T69 l0 aC).f2).toList=Pr.toList
       ·
        rw [if_pos cI] at H;have c11b0:=qt cI;have c11b1:=bf cI;clear cI;replace H:=ob H;obtain ⟨LH,oQ,H⟩:=H
        try dsimp only at H
        have uT:=am oQ;clear oQ;by_cases cV:((rd_T69 l0 aC).f3).toList=LH.toList
        ·
         rw [if_pos cV] at H;have c13b0:=qt cV;have c13b1:=bf cV;clear cV;have H':=am H;clear H;have kE:0≤(aC:Int):=od au87;have kF:aC<(l0.length:Int):=od au87;obtain ⟨cH,rA,rB,Ci,gG,gH,gI,gJ,gK,gL⟩:=at_T69 cW.out aC kE kF
         cases Ci
         replace gG:=bcl HB.out gG;replace gH:=bcl HB.out gH;replace gI:=bcl HB.out gI;replace gJ:=bcl HB.out gJ;have nY:=am gL;have nZ:=am gK;clear gL gK;replace kE:=eq_true kE;replace kF:=eq_true kF;exact laws_heldNameS.L0
        ·
         rw [if_neg cV] at H;have c13b0:=qf cV;have c13b1:=bu cV;obtain rfl:=ojz H;have kE:0≤(aC:Int):=od au87;have kF:aC<(l0.length:Int):=od au87;obtain ⟨cH,rA,rB,Ci,gG,gH,gI,gJ,gK,gL⟩:=at_T69 cW.out aC kE kF
         cases Ci
         replace gG:=bcl HB.out gG;replace gH:=bcl HB.out gH;replace gI:=bcl HB.out gI;replace gJ:=bcl HB.out gJ;have nY:=am gL;have nZ:=am gK;clear gL gK;replace kE:=eq_true kE;replace kF:=eq_true kF;exact laws_heldNameS.L0
       ·
        rw [if_neg cI] at H;have c11b0:=qf cI;have c11b1:=bu cI;obtain rfl:=ojz H;have kE:0≤(aC:Int):=od au87;have kF:aC<(l0.length:Int):=od au87;obtain ⟨cH,rA,rB,Ci,gG,gH,gI,gJ,gK,gL⟩:=at_T69 cW.out aC kE kF
        cases Ci
        replace gG:=bcl HB.out gG;replace gH:=bcl HB.out gH;replace gI:=bcl HB.out gI;replace gJ:=bcl HB.out gJ;have nY:=am gL;have nZ:=am gK;clear gL gK;replace kE:=eq_true kE;replace kF:=eq_true kF
        try go_wp2_with (first|((with_reducible refine gate_callee (f:=53) rfl ?_);refine goesL_ (some 18) rfl rfl Tryz.func53 (by kernel_rfl) rfl #[.slice rA ((rd_T69 l0 aC).f0).length rB,.int .i64 cL] rfl au45 ?_;(with_reducible refine (laws_heldStringS.calls k1 _ _ ((rd_T69 l0 aC).f0) cL gS _ ?aU ?aV A5.out).mono ?_);(case aU=>repeat (first|exact (Kd.C_below nY.out HB.out)|(with_reducible refine Kd.C_alloc ?_ _)|(with_reducible refine Kd.C_drewN ?_ _)|(with_reducible refine Kd.C_drew ?_)));(case aV=>exact nZ.out);rintro e w28 ⟨rfl,hb⟩;refine ⟨_,rfl,?_⟩;replace HB:=am (below_step au46 hb);(try clear hb)))
        replace HB:=am (below_drew1 HB.out);have vD:0≤(aC:Int):=od au87;have vF:aC<(l0.length:Int):=od au87;obtain ⟨Kl,E2,E3,Ps,gB,gC,gD,gF,oA,oB⟩:=at_T69 cW.out aC vD vF;have oC:=gF;have oD:=gD;have oE:=gC;have oF:=gB
        obtain rfl:cH=Kl:=(by injection Ps)
        replace gB:=bcl HB.out gB;replace gC:=bcl HB.out gC;replace gD:=bcl HB.out gD;replace gF:=bcl HB.out gF;have yK:=am oB;have UF:=am oA;clear oB oA;replace vD:=eq_true vD;replace vF:=eq_true vF;refine start_ (n:=8) (S:=fun w'=>w'.cell? (cH.add ((aC).toNat*4))=some (.slice E2 ((rd_T69 l0 aC).f0).length E3)∧w'.cell? ⟨(cH.add ((aC).toNat*4)).block,(cH.add ((aC).toNat*4)).off+1,none⟩=some (.string ((rd_T69 l0 aC).f1))∧w'.cell? ⟨(cH.add ((aC).toNat*4)).block,(cH.add ((aC).toNat*4)).off+2,none⟩=some (.string ((rd_T69 l0 aC).f2))∧w'.cell? ⟨(cH.add ((aC).toNat*4)).block,(cH.add ((aC).toNat*4)).off+3,none⟩=some (.string ((rd_T69 l0 aC).f3))) (ds:=[]) #[false,false,false,false,false,false,false,false] (by kernel_rfl) rfl rfl ⟨(bcl HB.out oF),(bcl HB.out oE),(bcl HB.out oD),(bcl HB.out oC)⟩ (fun hHeld=>?_);refine with_tabW laws_heldNameS.tab7 laws_heldNameS.bits7 (fun HT_ HW_=>?_);generalize w28.drew=w29 at HB yK gB gC gD gF hHeld ⊢;refine pu_ 0 (some 21) #[true,false,false,false,false,false,false,false] HT_.out ?_;refine pu_ 1 (some 22) #[true,true,false,false,false,false,false,false] HT_.out ?_;refine pu_ 2 (some 23) #[true,true,true,false,false,false,false,false] HT_.out ?_;refine pu_ 3 (some 24) #[true,true,true,true,false,false,false,false] HT_.out ?_;refine pu_ 5 (some 26) #[true,true,true,true,false,true,false,false] HT_.out ?_;refine ta3_ 4 (some 25) #[true,true,true,true,true,true,false,false] HT_.out HW_.out hHeld ?_;refine on_ 6 (some 27) #[true,true,true,true,true,true,true,false] HT_.out (fun K hK=>?_);refine gs_ Tryz.func32 #[.int .i64 gS] ?_
        with_reducible refine (laws_markText.calls k1 gS LG _ A8.out).mono ?_
        rintro e w30 ⟨rfl,hb⟩;refine ⟨_,rfl,?_⟩;replace HB:=am (below_step au46 hb)
        (try clear hb)
        refine hK.out _ _ ⟨(bcl HB.out oF),(bcl HB.out oE),(bcl HB.out oD),(bcl HB.out oC)⟩ (fun hHeld=>?_);clear hK K;refine no_ (some 27) ?_;refine pu_ 7 (some 28) #[true,true,true,true,true,true,true,true] HT_.out ?_;refine done_ (done_of HT_.out (by kernel_rfl)) ?_
        try go_wp2
        replace HB:=am (below_drew1 HB.out);have Ja:0≤(aC:Int):=od au87;have Jb:aC<(l0.length:Int):=od au87;obtain ⟨a3R,Pt,Pu,a9N,lY,lZ,mA,mB,yL,yM⟩:=at_T69 cW.out aC Ja Jb;have yN:=mB;have yO:=mA;have yP:=lZ;have yQ:=lY
        obtain rfl:cH=a3R:=(by injection a9N)
        replace lY:=bcl HB.out lY;replace lZ:=bcl HB.out lZ;replace mA:=bcl HB.out mA;replace mB:=bcl HB.out mB;have LI:=am yM;have akP:=am yL;clear yM yL;replace Ja:=eq_true Ja;replace Jb:=eq_true Jb;refine start_ (n:=8) (S:=fun w'=>w'.cell? (cH.add ((aC).toNat*4))=some (.slice Pt ((rd_T69 l0 aC).f0).length Pu)∧w'.cell? ⟨(cH.add ((aC).toNat*4)).block,(cH.add ((aC).toNat*4)).off+1,none⟩=some (.string ((rd_T69 l0 aC).f1))∧w'.cell? ⟨(cH.add ((aC).toNat*4)).block,(cH.add ((aC).toNat*4)).off+2,none⟩=some (.string ((rd_T69 l0 aC).f2))∧w'.cell? ⟨(cH.add ((aC).toNat*4)).block,(cH.add ((aC).toNat*4)).off+3,none⟩=some (.string ((rd_T69 l0 aC).f3))) (ds:=[]) #[false,false,false,false,false,false,false,false] (by kernel_rfl) rfl rfl ⟨(bcl HB.out yQ),(bcl HB.out yP),(bcl HB.out yO),(bcl HB.out yN)⟩ (fun hHeld=>?_);refine with_tabW laws_heldNameS.tab10 laws_heldNameS.bits10 (fun HT_ HW_=>?_);generalize w30.drew=w31 at HB LI lY lZ mA mB hHeld ⊢;refine pu_ 0 (some 31) #[true,false,false,false,false,false,false,false] HT_.out ?_;refine pu_ 1 (some 32) #[true,true,false,false,false,false,false,false] HT_.out ?_;refine pu_ 2 (some 33) #[true,true,true,false,false,false,false,false] HT_.out ?_;refine pu_ 3 (some 34) #[true,true,true,true,false,false,false,false] HT_.out ?_;refine pu_ 5 (some 36) #[true,true,true,true,false,true,false,false] HT_.out ?_;refine ta3_ 4 (some 35) #[true,true,true,true,true,true,false,false] HT_.out HW_.out hHeld ?_;refine on_ 6 (some 37) #[true,true,true,true,true,true,true,false] HT_.out (fun K hK=>?_);refine gs_ Tryz.func32 #[.int .i64 (wrap64 (gS+1))] ?_
        with_reducible refine (laws_markText.calls k1 (wrap64 (gS+1)) Pr _ rO.out).mono ?_
        rintro e w32 ⟨rfl,hb⟩;refine ⟨_,rfl,?_⟩;replace HB:=am (below_step au46 hb)
        (try clear hb)
        refine hK.out _ _ ⟨(bcl HB.out yQ),(bcl HB.out yP),(bcl HB.out yO),(bcl HB.out yN)⟩ (fun hHeld=>?_);clear hK K;refine no_ (some 37) ?_;refine pu_ 7 (some 38) #[true,true,true,true,true,true,true,true] HT_.out ?_;refine done_ (done_of HT_.out (by kernel_rfl)) ?_
        try go_wp2
        go_ret;exact ax1
      ·
       rw [if_neg c9] at H;have c9b0:=qf c9;have c9b1:=bu c9;obtain rfl:=ojz H;have kE:0≤(aC:Int):=od au87;have kF:aC<(l0.length:Int):=od au87;obtain ⟨cH,rA,rB,Ci,gG,gH,gI,gJ,gK,gL⟩:=at_T69 cW.out aC kE kF
       cases Ci
       replace gG:=bcl HB.out gG;replace gH:=bcl HB.out gH;replace gI:=bcl HB.out gI;replace gJ:=bcl HB.out gJ;have nY:=am gL;have nZ:=am gK;clear gL gK;replace kE:=eq_true kE;replace kF:=eq_true kF
       try go_wp2_with (first|((with_reducible refine gate_callee (f:=53) rfl ?_);refine goesL_ (some 18) rfl rfl Tryz.func53 (by kernel_rfl) rfl #[.slice rA ((rd_T69 l0 aC).f0).length rB,.int .i64 cL] rfl au45 ?_;(with_reducible refine (laws_heldStringS.calls k1 _ _ ((rd_T69 l0 aC).f0) cL gS _ ?aU ?aV A5.out).mono ?_);(case aU=>repeat (first|exact (Kd.C_below nY.out HB.out)|(with_reducible refine Kd.C_alloc ?_ _)|(with_reducible refine Kd.C_drewN ?_ _)|(with_reducible refine Kd.C_drew ?_)));(case aV=>exact nZ.out);rintro e w33 ⟨rfl,hb⟩;refine ⟨_,rfl,?_⟩;replace HB:=am (below_step au46 hb);(try clear hb)))
       replace HB:=am (below_drew1 HB.out);have vD:0≤(aC:Int):=od au87;have vF:aC<(l0.length:Int):=od au87;obtain ⟨Kl,E2,E3,Ps,gB,gC,gD,gF,oA,oB⟩:=at_T69 cW.out aC vD vF;have oC:=gF;have oD:=gD;have oE:=gC;have oF:=gB
       obtain rfl:cH=Kl:=(by injection Ps)
       replace gB:=bcl HB.out gB;replace gC:=bcl HB.out gC;replace gD:=bcl HB.out gD;replace gF:=bcl HB.out gF;have yK:=am oB;have UF:=am oA;clear oB oA;replace vD:=eq_true vD;replace vF:=eq_true vF;refine start_ (n:=8) (S:=fun w'=>w'.cell? (cH.add ((aC).toNat*4))=some (.slice E2 ((rd_T69 l0 aC).f0).length E3)∧w'.cell? ⟨(cH.add ((aC).toNat*4)).block,(cH.add ((aC).toNat*4)).off+1,none⟩=some (.string ((rd_T69 l0 aC).f1))∧w'.cell? ⟨(cH.add ((aC).toNat*4)).block,(cH.add ((aC).toNat*4)).off+2,none⟩=some (.string ((rd_T69 l0 aC).f2))∧w'.cell? ⟨(cH.add ((aC).toNat*4)).block,(cH.add ((aC).toNat*4)).off+3,none⟩=some (.string ((rd_T69 l0 aC).f3))) (ds:=[]) #[false,false,false,false,false,false,false,false] (by kernel_rfl) rfl rfl ⟨(bcl HB.out oF),(bcl HB.out oE),(bcl HB.out oD),(bcl HB.out oC)⟩ (fun hHeld=>?_);refine with_tabW laws_heldNameS.tab7 laws_heldNameS.bits7 (fun HT_ HW_=>?_);generalize w33.drew=w34 at HB yK gB gC gD gF hHeld ⊢;refine pu_ 0 (some 21) #[true,false,false,false,false,false,false,false] HT_.out ?_;refine pu_ 1 (some 22) #[true,true,false,false,false,false,false,false] HT_.out ?_;refine pu_ 2 (some 23) #[true,true,true,false,false,false,false,false] HT_.out ?_;refine pu_ 3 (some 24) #[true,true,true,true,false,false,false,false] HT_.out ?_;refine pu_ 5 (some 26) #[true,true,true,true,false,true,false,false] HT_.out ?_;refine ta3_ 4 (some 25) #[true,true,true,true,true,true,false,false] HT_.out HW_.out hHeld ?_;refine on_ 6 (some 27) #[true,true,true,true,true,true,true,false] HT_.out (fun K hK=>?_);refine gs_ Tryz.func32 #[.int .i64 gS] ?_
       with_reducible refine (laws_markText.calls k1 gS LG _ A8.out).mono ?_
       rintro e w35 ⟨rfl,hb⟩;refine ⟨_,rfl,?_⟩;replace HB:=am (below_step au46 hb)
       (try clear hb)
       refine hK.out _ _ ⟨(bcl HB.out oF),(bcl HB.out oE),(bcl HB.out oD),(bcl HB.out oC)⟩ (fun hHeld=>?_);clear hK K;refine no_ (some 27) ?_;refine pu_ 7 (some 28) #[true,true,true,true,true,true,true,true] HT_.out ?_;refine done_ (done_of HT_.out (by kernel_rfl)) ?_
       try go_wp2
       go_ret;exact ax1
    · rw [if_neg c4] at H;exact absurd H (by simp)
   · rw [if_neg c3] at H;have c3b0:=df c3;clear c3;obtain rfl:=ojz H;go_wp2;go_ret;exact ax1
end Go.Proofs.YteagahcbffgjpaaGreatDoor.G

namespace Go.Proofs.YteagahcbffgjpaaGreatDoor.G
open Go.RowKit Go.Proofs.YteagahcbffgjpaaGreatDoorW.PrintWords Go.Proofs.YteagahcbffgjpaaGreatDoorW.PrintLast Go.Proofs.YteagahcbffgjpaaGreatDoor.B
set_option linter.unusedVariables false
set_option linter.unusedSimpArgs false
theorem mkN_drop (l:List S69) (k:Int) (i:Nat) (hi:i<l.length):(mkN k l)[i]'(by rw [mkN_len];exact hi)=⟨mts (k+cntN (l.take i)) l[i].f0.length,mt (k+cntN (l.take i)+(l[i].f0.length:Int)),mt (k+cntN (l.take i)+(l[i].f0.length:Int)+1),mt (k+cntN (l.take i)+(l[i].f0.length:Int)+2)⟩:=by
  have e:mkN k l=mkN k (l.take i)++mkN (k+cntN (l.take i)) (l.drop i):=by rw [← mkN_app,List.take_append_drop]
  have hl:(mkN k (l.take i)).length=i:=by rw [mkN_len,List.length_take];omega
  have h2:(mkN k l)[i]?=some ⟨mts (k+cntN (l.take i)) l[i].f0.length,mt (k+cntN (l.take i)+(l[i].f0.length:Int)),mt (k+cntN (l.take i)+(l[i].f0.length:Int)+1),mt (k+cntN (l.take i)+(l[i].f0.length:Int)+2)⟩:=by
    rw [e,List.getElem?_append_right (by omega),hl,Nat.sub_self,List.drop_eq_getElem_cons hi];rfl
  rw [List.getElem?_eq_getElem (by rw [mkN_len];exact hi)] at h2;exact ojz h2
theorem w_three (x:Int) (h0:0≤x) (h1:x+3≤4611686018427387904):wrap64 (x+1)=x+1∧wrap64 (x+1+1)=x+2∧wrap64 (x+2+1)=x+3 :=
  ⟨w64 (by omega) (by omega),(w64 (by omega) (by omega)).trans (by omega),(w64 (by omega) (by omega)).trans (by omega)⟩
theorem heldN_loop (l:List S69) (a:Int) (h0:0≤a) (h1:a+cntN l≤4611686018427387904) (d:Nat):∀ i:Nat,i≤l.length→l.length-i=d→Ev (fun k=>laws_heldNameS.l0 k (mkN a l) (a+cntN (l.take i)) (i:Int)) (a+cntN l):=by
  have hz:=cntN_len l;have hlm:(mkN a l).length=l.length:=mkN_len l a
  induction d with
  | zero =>
    intro i h2 hd;have e:l.take i=l:=List.take_of_length_le (by omega);refine Ev.step (f:=fun _=>some (a+cntN l)) (fun k=>?_) (Ev.now _);simp only [laws_heldNameS.l0];rw [if_neg (by omega),e]
  | succ d ih =>
    intro i h2 hd
    have hi:i<l.length:=by omega
    have hn:=ih (i+1) (by omega) (by omega);have hst:=cntN_step l i hi;have cP:=cntN_nonneg (l.take i);rw [hst.1,elN_eq,← Int.add_assoc] at hn
    have hr:rd_T69 (mkN a l) (i:Int)=⟨mts (a+cntN (l.take i)) l[i].f0.length,mt (a+cntN (l.take i)+(l[i].f0.length:Int)),mt (a+cntN (l.take i)+(l[i].f0.length:Int)+1),mt (a+cntN (l.take i)+(l[i].f0.length:Int)+2)⟩:=by
      rw [← mkN_drop l a i hi];simp [rd_T69,hlm,hi]
    have hb:a+cntN (l.take i)+(l[i].f0.length:Int)+3≤4611686018427387904:=by
      have:=hst.2;rw [hst.1,elN_eq] at this;omega
    have hn0:0≤a+cntN (l.take i):=by omega
    generalize a+cntN (l.take i)=n at *;generalize l[i].f0.length=m at *
    have g1:(i:Int)<((mkN a l).length:Int):=by omega
    have g2:(0:Int)≤(i:Int):=by omega
    have g3:¬ n+(m:Int)<0:=by omega
    have t1:=mt_ev (n+(m:Int)) (by omega) (by omega);have t2:=mt_ev (n+(m:Int)+1) (by omega) (by omega);have t3:=mt_ev (n+(m:Int)+2) (by omega) (by omega);have hs:=heldS_ev n m hn0 (by omega)
    have e3:n+((m:Int)+3)=n+(m:Int)+3:=by omega
    rw [e3] at hn
    have hi4:i≤4611686018427387904:=by omega
    have hnm:0≤n+(m:Int):=by omega
    have w4:=mk_i i hi4;obtain ⟨w1,w2,w3⟩:=w_three (n+(m:Int)) hnm hb;refine Ev.step (f:=fun k=>(laws_heldStringS.f k (mts n m) n).bind fun vB=>(if vB<0 then (some (-1)) else ((laws_markText.f k vB).bind fun J0=>(if (mt (n+(m:Int))).toList=J0.toList then ((laws_markText.f k (wrap64 (vB+1))).bind fun Ow=>(if (mt (n+(m:Int)+1)).toList=Ow.toList then ((laws_markText.f k (wrap64 ((wrap64 (vB+1))+1))).bind fun Ox=>(if (mt (n+(m:Int)+2)).toList=Ox.toList then (laws_heldNameS.l0 k (mkN a l) (wrap64 ((wrap64 ((wrap64 (vB+1))+1))+1)) (wrap64 ((i:Int)+1))) else (some (-1)))) else (some (-1)))) else (some (-1)))))) (fun k=>?_) ?_
    · simp only [laws_heldNameS.l0,hr]
      rw [if_pos g1,if_pos g2]
    · refine Ev.bind hs (ev_neg g3 (Ev.bind t1 (ev_pos rfl ?_)))
      simp only [w1,w2,w3,w4];refine Ev.bind t2 (ev_pos rfl (Ev.bind t3 (ev_pos rfl ?_)));exact hn
theorem heldN_ev (l:List S69) (a:Int) (h0:0≤a) (h1:a+cntN l≤4611686018427387904):Ev (fun k=>laws_heldNameS.f k (mkN a l) a) (a+cntN l):=by
  unfold laws_heldNameS.f;have:=heldN_loop l a h0 h1 l.length 0 (by omega) rfl
  simpa [cntN] using this
end Go.Proofs.YteagahcbffgjpaaGreatDoor.G
