/- Texts of this session for the law FnChangedFields, put together by a program (merge.py): each ends with its namespace; conditions stand with each theorem. -/
import Derived.Test.YtcbhlghofihjcaaGreatDoorKFnChangedFields2
import Derived.Test.YtcbhlghofihjcaaGreatDoorKFnChangedFields3
set_option maxHeartbeats 8000000
set_option maxRecDepth 100000
namespace Go.Proofs.YtcbhlghofihjcaaGreatDoor.G
open Go.RowKit Go.Proofs.YtcbhlghofihjcaaGreatDoorW.PrintWords Go.Proofs.YtcbhlghofihjcaaGreatDoorW.PrintLast Go.Proofs.YtcbhlghofihjcaaGreatDoorW.PrintMore
open Go.Proofs.YtcbhlghofihjcaaGreatDoor.Gl Go.Proofs.YtcbhlghofihjcaaGreatDoor.Ext
attribute [local go_sem] max2_int min2_int max_two min_two max_three min_three max_four min_four   -- for this text's walks alone
set_option linter.unusedVariables false
set_option linter.unusedSimpArgs false
mutual
def spec_l4Key.j0:Nat→ByteArray→Bool→Option (Bool)
 | 0,_,_=>none
 | k+1,x0,zV=>if zV=true then (some false) else (spec_l4Key.l0 k x0 0)
def spec_l4Key.l0:Nat→ByteArray→Int→Option (Bool)
 | 0,_,_=>none
 | k+1,x0,x3=>if x3<(x0.size:Int) then (if 0≤x3 then ((spec_l2Lower.f (bt x0 x3)).bind fun Vp=>(if Vp=true then (spec_l4Key.l0 k x0 (wrap64 (x3+1))) else (if (bt x0 x3)<48 then (some false) else (if (bt x0 x3)>57 then (some false) else (spec_l4Key.l0 k x0 (wrap64 (x3+1))))))) else (none)) else (some true)
end
def spec_l4Key.f (k:Nat) (a0:ByteArray):Option (Bool):=(spec_l1In.f (a0.size:Int) 1 10).bind fun Ob=>(if Ob=true then (if 0<(a0.size:Int) then ((spec_l2Lower.f (bt a0 0)).bind fun Lp=>(spec_l4Key.j0 k a0 (!Lp))) else (none)) else (spec_l4Key.j0 k a0 true))
theorem spec_l4Key.mono_l:∀ k,(∀ y0 y1,LeO (spec_l4Key.j0 k y0 y1) (spec_l4Key.j0 (k+1) y0 y1))∧(∀ y0 y1,LeO (spec_l4Key.l0 k y0 y1) (spec_l4Key.l0 (k+1) y0 y1))
 | 0=>⟨fun _ _ r h=>by simp [spec_l4Key.j0] at h,fun _ _ r h=>by simp [spec_l4Key.l0] at h⟩
 | k+1=>by
  obtain ⟨ih0,ih1⟩:=spec_l4Key.mono_l k;refine ⟨?_,?_⟩
  ·
   intro y0 y1;unfold spec_l4Key.j0
   repeat' first
   | (with_reducible exact ih0 _ _)
   | (with_reducible exact ih1 _ _)
   | (with_reducible exact LeO.refl _)
   | (with_reducible exact LeO.none _)
   | (with_reducible refine LeO.ite ?_ ?_)
   | (with_reducible refine LeO.bind ?_ (fun _=>?_))
   | exact ih0 _ _
   | exact ih1 _ _
   | exact LeO.none _
   | refine LeO.ite ?_ ?_
   | refine LeO.bind ?_ (fun _=>?_)
  ·
   intro y0 y1;unfold spec_l4Key.l0
   repeat' first
   | (with_reducible exact ih0 _ _)
   | (with_reducible exact ih1 _ _)
   | (with_reducible exact LeO.refl _)
   | (with_reducible exact LeO.none _)
   | (with_reducible refine LeO.ite ?_ ?_)
   | (with_reducible refine LeO.bind ?_ (fun _=>?_))
   | exact ih0 _ _
   | exact ih1 _ _
   | exact LeO.none _
   | refine LeO.ite ?_ ?_
   | refine LeO.bind ?_ (fun _=>?_)
theorem spec_l4Key.mono:∀ a0 k,LeO (spec_l4Key.f k a0) (spec_l4Key.f (k+1) a0):=by
 intro a0 k;obtain ⟨ih0,ih1⟩:=spec_l4Key.mono_l k;unfold spec_l4Key.f
 repeat' first
   | (with_reducible exact ih0 _ _)
   | (with_reducible exact ih1 _ _)
   | (with_reducible exact LeO.refl _)
   | (with_reducible exact LeO.none _)
   | (with_reducible refine LeO.ite ?_ ?_)
   | (with_reducible refine LeO.bind ?_ (fun _=>?_))
   | exact ih0 _ _
   | exact ih1 _ _
   | exact LeO.none _
   | refine LeO.ite ?_ ?_
   | refine LeO.bind ?_ (fun _=>?_)
theorem spec_l4Key.L0 {P:Prop} (h:P:=by
  go_wp2_with (first|((with_reducible refine gate_callee (f:=58) rfl ?_);refine goesL_ (some 23) rfl rfl Tryz.func58 (by kernel_rfl) rfl #[.int .u8 (bt a0 aJ)] rfl au58 ?_;(with_reducible refine (spec_l2Lower.calls (bt a0 aJ) _ _ F7.out).mono ?_);rintro e w' ⟨rfl,⟨nd,rfl⟩⟩;refine ⟨_,rfl,?_⟩;have mI:0≤(aJ:Int):=od au103;have kQ:aJ<(a0.size:Int):=od au103;have DD:=bt_at a0 aJ;replace mI:=eq_true mI;replace kQ:=eq_true kQ;have MQ:0≤(aJ:Int):=od au103;have MR:aJ<(a0.size:Int):=od au103;have a7O:=bt_at a0 aJ;replace MQ:=eq_true MQ;replace MR:=eq_true MR));go_ret
  exact ax1):P:=h
theorem spec_l4Key.calls (k:Nat) (a0:ByteArray) (r:Bool) (w:World) (h:spec_l4Key.f k a0=some r) :
  Calls Tryz.prog 35 #[.string a0] w fun e w'=>e=.returned (.bool r)∧Drawn0 w w':=by
 have H:((spec_l1In.f (a0.size:Int) 1 10).bind fun Ob=>(if Ob=true then (if 0<(a0.size:Int) then ((spec_l2Lower.f (bt a0 0)).bind fun Lp=>(spec_l4Key.j0 k a0 (!Lp))) else (none)) else (spec_l4Key.j0 k a0 true)))=some r:=h;clear h;have jZ:=am H;clear H;go_enter Tryz.func35,Tryz.ntmps35
 go_upto_region 1 with (fail)
 go_cut [13] (fun Nz wc=>∃ (kq:Nat) (eB:Bool),Nz=.bool eB∧Aside0 (spec_l4Key.j0 kq a0 eB=some r)∧Aside0 (kq≤k)∧Drawn0 w wc)
 case first =>
  have H:=jZ.out;clear jZ;replace H:=obz H;obtain ⟨Ob,dR,H⟩:=H
  try dsimp only at H
  have A3:=am dR;clear dR;by_cases c4:Ob=true
  ·
   subst c4;replace H:=(if_pos rfl).symm.trans H;by_cases c5:0<(a0.size:Int)
   ·
    rw [if_pos c5] at H;have c5b0:=dt c5;have c5b1:decide (0<a0.size)=true:=dt (by omega);clear c5
    (first|rw [c5b0]|(simp only [i64_w,i32_w];rw [c5b0])|skip)
    replace H:=obz H;obtain ⟨Lp,kP,H⟩:=H
    try dsimp only at H
    have A7:=am kP;clear kP;have H':=am H;clear H;go_wp2_with (first|((with_reducible refine gate_callee (f:=36) rfl ?_);refine goesL_ (some 6) rfl rfl Tryz.func36 (by kernel_rfl) rfl #[.int .i64 (a0.size:Int),.int .i64 1,.int .i64 10] rfl au58 ?_;(with_reducible refine (spec_l1In.calls (a0.size:Int) 1 10 _ _ A3.out).mono ?_);rintro e w' ⟨rfl,⟨nd,rfl⟩⟩;refine ⟨_,rfl,?_⟩;have p6:0≤(0:Int):=(by omega);have q6:0<a0.size:=(by have:(0:Int)<(a0.size:Int):=od au103;omega);have Ex:∀ h:0<a0.size,((a0[0]'h).toNat:Int)=bt a0 0:=bt_at a0 0;clear p6;have Ju:(0<(a0.size:Int))=True:=eq_true (od au103);replace q6:=eq_true q6)|(go_at_call 58;(with_reducible refine (spec_l2Lower.calls (bt a0 0) Lp _ A7.out).mono ?_);rintro e w' ⟨rfl,⟨nd,rfl⟩⟩));go_meet
    case rel=>exact ⟨_,(!Lp),au104,H',⟨by first|omega|exact Nat.le_refl _⟩,by repeat (first|exact Drawn0.refl _|apply Drawn0.step)⟩
   · rw [if_neg c5] at H;exact absurd H (by simp)
  ·
   replace c4:=Bool.eq_false_iff.mpr c4;subst c4;replace H:=(if_neg (show ¬ (false=true) by decide)).symm.trans H;have H':=am H;clear H;go_wp2_with (first|((with_reducible refine gate_callee (f:=36) rfl ?_);refine goesL_ (some 6) rfl rfl Tryz.func36 (by kernel_rfl) rfl #[.int .i64 (a0.size:Int),.int .i64 1,.int .i64 10] rfl au58 ?_;(with_reducible refine (spec_l1In.calls (a0.size:Int) 1 10 _ _ A3.out).mono ?_);rintro e w' ⟨rfl,⟨nd,rfl⟩⟩;refine ⟨_,rfl,?_⟩));go_meet
   case rel=>exact ⟨_,(true),au104,H',⟨by first|omega|exact Nat.le_refl _⟩,by repeat (first|exact Drawn0.refl _|apply Drawn0.step)⟩
 case rest =>
  clear jZ
  try clear p2
  try clear c3
  try clear c4
  try clear c5
  try clear c5b0
  try clear c5b1
  try clear p6
  try clear q6
  try clear Ex
  try clear Ju
  try clear p6
  try clear q6
  obtain ⟨kq,eB,rfl,HA,kA,⟨mc1,rfl⟩⟩:=hcut
  cases kq with
  | zero=>exact absurd HA.out (by simp [spec_l4Key.j0])
  | succ gS =>
   have H:=HA.out;clear HA;simp only [spec_l4Key.j0] at H;by_cases c8:eB=true
   · subst c8;replace H:=(if_pos rfl).symm.trans H;obtain rfl:=ojz H;exact spec_l4Key.L0
   ·
    replace c8:=Bool.eq_false_iff.mpr c8;subst c8;replace H:=(if_neg (show ¬ (false=true) by decide)).symm.trans H;have H':=am H;clear H;go_wp2
    go_loopg [3] gS (fun kq v3 w'=>∃ (aJ:Int),v3=.int .i64 aJ∧Aside0 (spec_l4Key.l0 kq a0 aJ=some r)∧Aside0 (kq≤gS)∧Drawn0 w w')
    case atStart=>exact ⟨(0),au104,H',⟨Nat.le_refl _⟩,by repeat (first|exact Drawn0.refl _|apply Drawn0.step)⟩
    case round =>
     clear H'
     try clear c1
     try clear p2
     try clear c3
     try clear c4
     try clear c5
     try clear c5b0
     try clear c5b1
     try clear p6
     try clear q6
     try clear Ex
     try clear Ju
     try clear c8
     try clear p2
     try clear p6
     try clear q6
     obtain ⟨aJ,rfl,HA,HK2,⟨m2,rfl⟩⟩:=hrel
     cases gk with
     | zero=>exact absurd HA.out (by simp [spec_l4Key.l0])
     | succ k2 =>
      have H:=HA.out;clear HA;simp only [spec_l4Key.l0] at H;by_cases c9:aJ<(a0.size:Int)
      ·
       rw [if_pos c9] at H;have c9b0:=dt c9;clear c9;by_cases c10:0≤aJ
       ·
        rw [if_pos c10] at H;have c10b0:=dt c10;clear c10;replace H:=obz H;obtain ⟨Vp,F8,H⟩:=H
        try dsimp only at H
        have F7:=am F8;clear F8;by_cases dE:Vp=true
        ·
         subst dE;replace H:=(if_pos rfl).symm.trans H;have H':=am H;clear H;have mJ:0≤(aJ:Int):=od au103;have mK:aJ<(a0.size:Int):=od au103;have F9:=bt_at a0 aJ;replace mJ:=eq_true mJ;replace mK:=eq_true mK;go_wp2_with (first|((with_reducible refine gate_callee (f:=58) rfl ?_);refine goesL_ (some 23) rfl rfl Tryz.func58 (by kernel_rfl) rfl #[.int .u8 (bt a0 aJ)] rfl au58 ?_;(with_reducible refine (spec_l2Lower.calls (bt a0 aJ) _ _ F7.out).mono ?_);rintro e w' ⟨rfl,⟨nd,rfl⟩⟩;refine ⟨_,rfl,?_⟩))
         go_roundg k2
         case measure=>have:=kA.out;have:=HK2.out;omega
         case rel=>exact ⟨(wrap64 (aJ+1)),au104,H',⟨by have:=kA.out;have:=HK2.out;omega⟩,by repeat (first|exact Drawn0.refl _|apply Drawn0.step)⟩
        ·
         replace dE:=Bool.eq_false_iff.mpr dE;subst dE;replace H:=(if_neg (show ¬ (false=true) by decide)).symm.trans H;by_cases dJ:(bt a0 aJ)<48
         · rw [if_pos dJ] at H;have c15b0:=dt dJ;clear dJ;obtain rfl:=ojz H;have mJ:0≤(aJ:Int):=od au103;have mK:aJ<(a0.size:Int):=od au103;have F9:=bt_at a0 aJ;replace mJ:=eq_true mJ;replace mK:=eq_true mK;go_wp2_with (first|((with_reducible refine gate_callee (f:=58) rfl ?_);refine goesL_ (some 23) rfl rfl Tryz.func58 (by kernel_rfl) rfl #[.int .u8 (bt a0 aJ)] rfl au58 ?_;(with_reducible refine (spec_l2Lower.calls (bt a0 aJ) _ _ F7.out).mono ?_);rintro e w' ⟨rfl,⟨nd,rfl⟩⟩;refine ⟨_,rfl,?_⟩;have mI:0≤(aJ:Int):=od au103;have kQ:aJ<(a0.size:Int):=od au103;have DD:=bt_at a0 aJ;replace mI:=eq_true mI;replace kQ:=eq_true kQ));go_ret;exact ax1
         ·
          rw [if_neg dJ] at H;have c15b0:=df dJ;clear dJ;by_cases gD:(bt a0 aJ)>57
          · rw [if_pos gD] at H;have c17b0:=dt gD;clear gD;obtain rfl:=ojz H;have mJ:0≤(aJ:Int):=od au103;have mK:aJ<(a0.size:Int):=od au103;have F9:=bt_at a0 aJ;replace mJ:=eq_true mJ;replace mK:=eq_true mK;exact spec_l4Key.L0
          ·
           rw [if_neg gD] at H;have c17b0:=df gD;clear gD;have H':=am H;clear H;have mJ:0≤(aJ:Int):=od au103;have mK:aJ<(a0.size:Int):=od au103;have F9:=bt_at a0 aJ;replace mJ:=eq_true mJ;replace mK:=eq_true mK;go_wp2_with (first|((with_reducible refine gate_callee (f:=58) rfl ?_);refine goesL_ (some 23) rfl rfl Tryz.func58 (by kernel_rfl) rfl #[.int .u8 (bt a0 aJ)] rfl au58 ?_;(with_reducible refine (spec_l2Lower.calls (bt a0 aJ) _ _ F7.out).mono ?_);rintro e w' ⟨rfl,⟨nd,rfl⟩⟩;refine ⟨_,rfl,?_⟩;have mI:0≤(aJ:Int):=od au103;have kQ:aJ<(a0.size:Int):=od au103;have DD:=bt_at a0 aJ;replace mI:=eq_true mI;replace kQ:=eq_true kQ;have MQ:0≤(aJ:Int):=od au103;have MR:aJ<(a0.size:Int):=od au103;have a7O:=bt_at a0 aJ;replace MQ:=eq_true MQ;replace MR:=eq_true MR))
           go_roundg k2
           case measure=>have:=kA.out;have:=HK2.out;omega
           case rel=>exact ⟨(wrap64 (aJ+1)),au104,H',⟨by have:=kA.out;have:=HK2.out;omega⟩,by repeat (first|exact Drawn0.refl _|apply Drawn0.step)⟩
       · rw [if_neg c10] at H;exact absurd H (by simp)
      · rw [if_neg c9] at H;have c9b0:=df c9;clear c9;obtain rfl:=ojz H;exact spec_l4Key.L0
def impl_isDigit.f (a0:Int):Option (Bool):=if a0 ≥ 48 then (some (decide (a0≤57))) else (some false)
theorem impl_isDigit.calls (a0:Int) (r:Bool) (w:World) (h:impl_isDigit.f a0=some r) :
  Calls Tryz.prog 49 #[.int .u8 a0] w fun e w'=>e=.returned (.bool r)∧Drawn0 w w':=by
 have H:(if a0 ≥ 48 then (some (decide (a0≤57))) else (some false))=some r:=h;clear h;by_cases c2:a0 ≥ 48
 · rw [if_pos c2] at H;have c2b0:=dt c2;clear c2;obtain rfl:=ojz H;go_enter Tryz.func49,Tryz.ntmps49;go_wp2;go_ret;exact ax1
 · rw [if_neg c2] at H;have c2b0:=df c2;clear c2;obtain rfl:=ojz H;go_enter Tryz.func49,Tryz.ntmps49;go_wp2;go_ret;exact ax1
mutual
def impl_isKey.j0:Nat→ByteArray→Bool→Option (Bool)
 | 0,_,_=>none
 | k+1,x0,zV=>if zV=true then (some false) else (impl_isKey.l0 k x0 0)
def impl_isKey.l0:Nat→ByteArray→Int→Option (Bool)
 | 0,_,_=>none
 | k+1,x0,x3=>if x3<(x0.size:Int) then (if 0≤x3 then ((impl_isLower.f (bt x0 x3)).bind fun Vq=>(if Vq=true then (impl_isKey.l0 k x0 (wrap64 (x3+1))) else ((impl_isDigit.f (bt x0 x3)).bind fun Vr=>(if Vr=true then (impl_isKey.l0 k x0 (wrap64 (x3+1))) else (some false))))) else (none)) else (some true)
end
def impl_isKey.f (k:Nat) (a0:ByteArray):Option (Bool):=(impl_inside.f (a0.size:Int) 1 10).bind fun Oc=>(if Oc=true then (if 0<(a0.size:Int) then ((impl_isLower.f (bt a0 0)).bind fun Lq=>(impl_isKey.j0 k a0 (!Lq))) else (none)) else (impl_isKey.j0 k a0 true))
theorem impl_isKey.mono_l:∀ k,(∀ y0 y1,LeO (impl_isKey.j0 k y0 y1) (impl_isKey.j0 (k+1) y0 y1))∧(∀ y0 y1,LeO (impl_isKey.l0 k y0 y1) (impl_isKey.l0 (k+1) y0 y1))
 | 0=>⟨fun _ _ r h=>by simp [impl_isKey.j0] at h,fun _ _ r h=>by simp [impl_isKey.l0] at h⟩
 | k+1=>by
  obtain ⟨ih0,ih1⟩:=impl_isKey.mono_l k;refine ⟨?_,?_⟩
  ·
   intro y0 y1;unfold impl_isKey.j0
   repeat' first
   | (with_reducible exact ih0 _ _)
   | (with_reducible exact ih1 _ _)
   | (with_reducible exact LeO.refl _)
   | (with_reducible exact LeO.none _)
   | (with_reducible refine LeO.ite ?_ ?_)
   | (with_reducible refine LeO.bind ?_ (fun _=>?_))
   | exact ih0 _ _
   | exact ih1 _ _
   | exact LeO.none _
   | refine LeO.ite ?_ ?_
   | refine LeO.bind ?_ (fun _=>?_)
  ·
   intro y0 y1;unfold impl_isKey.l0
   repeat' first
   | (with_reducible exact ih0 _ _)
   | (with_reducible exact ih1 _ _)
   | (with_reducible exact LeO.refl _)
   | (with_reducible exact LeO.none _)
   | (with_reducible refine LeO.ite ?_ ?_)
   | (with_reducible refine LeO.bind ?_ (fun _=>?_))
   | exact ih0 _ _
   | exact ih1 _ _
   | exact LeO.none _
   | refine LeO.ite ?_ ?_
   | refine LeO.bind ?_ (fun _=>?_)
theorem impl_isKey.mono:∀ a0 k,LeO (impl_isKey.f k a0) (impl_isKey.f (k+1) a0):=by
 intro a0 k;obtain ⟨ih0,ih1⟩:=impl_isKey.mono_l k;unfold impl_isKey.f
 repeat' first
   | (with_reducible exact ih0 _ _)
   | (with_reducible exact ih1 _ _)
   | (with_reducible exact LeO.refl _)
   | (with_reducible exact LeO.none _)
   | (with_reducible refine LeO.ite ?_ ?_)
   | (with_reducible refine LeO.bind ?_ (fun _=>?_))
   | exact ih0 _ _
   | exact ih1 _ _
   | exact LeO.none _
   | refine LeO.ite ?_ ?_
   | refine LeO.bind ?_ (fun _=>?_)
theorem impl_isKey.L0 {P:Prop} (h:P:=by
  go_wp2_with (first|((with_reducible refine gate_callee (f:=48) rfl ?_);refine goesL_ (some 23) rfl rfl Tryz.func48 (by kernel_rfl) rfl #[.int .u8 (bt a0 aJ)] rfl au58 ?_;(with_reducible refine (impl_isLower.calls (bt a0 aJ) _ _ F7.out).mono ?_);rintro e w' ⟨rfl,⟨nd,rfl⟩⟩;refine ⟨_,rfl,?_⟩;have mI:0≤(aJ:Int):=od au103;have kQ:aJ<(a0.size:Int):=od au103;have DD:=bt_at a0 aJ;replace mI:=eq_true mI;replace kQ:=eq_true kQ)|(go_at_call 49;(with_reducible refine (impl_isDigit.calls (bt a0 aJ) _ _ wX.out).mono ?_);rintro e w' ⟨rfl,⟨nd,rfl⟩⟩));go_ret
  exact ax1):P:=h
theorem impl_isKey.calls (k:Nat) (a0:ByteArray) (r:Bool) (w:World) (h:impl_isKey.f k a0=some r) :
  Calls Tryz.prog 28 #[.string a0] w fun e w'=>e=.returned (.bool r)∧Drawn0 w w':=by
 have H:((impl_inside.f (a0.size:Int) 1 10).bind fun Oc=>(if Oc=true then (if 0<(a0.size:Int) then ((impl_isLower.f (bt a0 0)).bind fun Lq=>(impl_isKey.j0 k a0 (!Lq))) else (none)) else (impl_isKey.j0 k a0 true)))=some r:=h;clear h;have jZ:=am H;clear H;go_enter Tryz.func28,Tryz.ntmps28
 go_upto_region 1 with (fail)
 go_cut [13] (fun Nz wc=>∃ (kq:Nat) (eB:Bool),Nz=.bool eB∧Aside0 (impl_isKey.j0 kq a0 eB=some r)∧Aside0 (kq≤k)∧Drawn0 w wc)
 case first =>
  have H:=jZ.out;clear jZ;replace H:=obz H;obtain ⟨Oc,dR,H⟩:=H
  try dsimp only at H
  have A3:=am dR;clear dR;by_cases c4:Oc=true
  ·
   subst c4;replace H:=(if_pos rfl).symm.trans H;by_cases c5:0<(a0.size:Int)
   ·
    rw [if_pos c5] at H;have c5b0:=dt c5;have c5b1:decide (0<a0.size)=true:=dt (by omega);clear c5
    (first|rw [c5b0]|(simp only [i64_w,i32_w];rw [c5b0])|skip)
    replace H:=obz H;obtain ⟨Lq,kP,H⟩:=H
    try dsimp only at H
    have A7:=am kP;clear kP;have H':=am H;clear H;go_wp2_with (first|((with_reducible refine gate_callee (f:=32) rfl ?_);refine goesL_ (some 6) rfl rfl Tryz.func32 (by kernel_rfl) rfl #[.int .i64 (a0.size:Int),.int .i64 1,.int .i64 10] rfl au58 ?_;(with_reducible refine (impl_inside.calls (a0.size:Int) 1 10 _ _ A3.out).mono ?_);rintro e w' ⟨rfl,⟨nd,rfl⟩⟩;refine ⟨_,rfl,?_⟩;have p6:0≤(0:Int):=(by omega);have q6:0<a0.size:=(by have:(0:Int)<(a0.size:Int):=od au103;omega);have Ex:∀ h:0<a0.size,((a0[0]'h).toNat:Int)=bt a0 0:=bt_at a0 0;clear p6;have Ju:(0<(a0.size:Int))=True:=eq_true (od au103);replace q6:=eq_true q6)|(go_at_call 48;(with_reducible refine (impl_isLower.calls (bt a0 0) Lq _ A7.out).mono ?_);rintro e w' ⟨rfl,⟨nd,rfl⟩⟩));go_meet
    case rel=>exact ⟨_,(!Lq),au104,H',⟨by first|omega|exact Nat.le_refl _⟩,by repeat (first|exact Drawn0.refl _|apply Drawn0.step)⟩
   · rw [if_neg c5] at H;exact absurd H (by simp)
  ·
   replace c4:=Bool.eq_false_iff.mpr c4;subst c4;replace H:=(if_neg (show ¬ (false=true) by decide)).symm.trans H;have H':=am H;clear H;go_wp2_with (first|((with_reducible refine gate_callee (f:=32) rfl ?_);refine goesL_ (some 6) rfl rfl Tryz.func32 (by kernel_rfl) rfl #[.int .i64 (a0.size:Int),.int .i64 1,.int .i64 10] rfl au58 ?_;(with_reducible refine (impl_inside.calls (a0.size:Int) 1 10 _ _ A3.out).mono ?_);rintro e w' ⟨rfl,⟨nd,rfl⟩⟩;refine ⟨_,rfl,?_⟩));go_meet
   case rel=>exact ⟨_,(true),au104,H',⟨by first|omega|exact Nat.le_refl _⟩,by repeat (first|exact Drawn0.refl _|apply Drawn0.step)⟩
 case rest =>
  clear jZ
  try clear c2
  try clear p2
  try clear c3
  try clear c4
  try clear c5
  try clear c5b0
  try clear c5b1
  try clear p6
  try clear q6
  try clear Ex
  try clear Ju
  try clear p6
  try clear q6
  obtain ⟨kq,eB,rfl,HA,kA,⟨mc1,rfl⟩⟩:=hcut
  cases kq with
  | zero=>exact absurd HA.out (by simp [impl_isKey.j0])
  | succ gS =>
   have H:=HA.out;clear HA;simp only [impl_isKey.j0] at H;by_cases c8:eB=true
   · subst c8;replace H:=(if_pos rfl).symm.trans H;obtain rfl:=ojz H;exact impl_isKey.L0
   ·
    replace c8:=Bool.eq_false_iff.mpr c8;subst c8;replace H:=(if_neg (show ¬ (false=true) by decide)).symm.trans H;have H':=am H;clear H;go_wp2
    go_loopg [3] gS (fun kq v3 w'=>∃ (aJ:Int),v3=.int .i64 aJ∧Aside0 (impl_isKey.l0 kq a0 aJ=some r)∧Aside0 (kq≤gS)∧Drawn0 w w')
    case atStart=>exact ⟨(0),au104,H',⟨Nat.le_refl _⟩,by repeat (first|exact Drawn0.refl _|apply Drawn0.step)⟩
    case round =>
     clear H'
     try clear c1
     try clear c2
     try clear p2
     try clear c3
     try clear c4
     try clear c5
     try clear c5b0
     try clear c5b1
     try clear p6
     try clear q6
     try clear Ex
     try clear Ju
     try clear c8
     try clear p2
     try clear p6
     try clear q6
     obtain ⟨aJ,rfl,HA,HK2,⟨m2,rfl⟩⟩:=hrel
     cases gk with
     | zero=>exact absurd HA.out (by simp [impl_isKey.l0])
     | succ k2 =>
      have H:=HA.out;clear HA;simp only [impl_isKey.l0] at H;by_cases c9:aJ<(a0.size:Int)
      ·
       rw [if_pos c9] at H;have c9b0:=dt c9;clear c9;by_cases c10:0≤aJ
       ·
        rw [if_pos c10] at H;have c10b0:=dt c10;clear c10;replace H:=obz H;obtain ⟨Vq,F8,H⟩:=H
        try dsimp only at H
        have F7:=am F8;clear F8;by_cases dE:Vq=true
        ·
         subst dE;replace H:=(if_pos rfl).symm.trans H;have H':=am H;clear H;have mJ:0≤(aJ:Int):=od au103;have mK:aJ<(a0.size:Int):=od au103;have F9:=bt_at a0 aJ;replace mJ:=eq_true mJ;replace mK:=eq_true mK;go_wp2_with (first|((with_reducible refine gate_callee (f:=48) rfl ?_);refine goesL_ (some 23) rfl rfl Tryz.func48 (by kernel_rfl) rfl #[.int .u8 (bt a0 aJ)] rfl au58 ?_;(with_reducible refine (impl_isLower.calls (bt a0 aJ) _ _ F7.out).mono ?_);rintro e w' ⟨rfl,⟨nd,rfl⟩⟩;refine ⟨_,rfl,?_⟩))
         go_roundg k2
         case measure=>have:=kA.out;have:=HK2.out;omega
         case rel=>exact ⟨(wrap64 (aJ+1)),au104,H',⟨by have:=kA.out;have:=HK2.out;omega⟩,by repeat (first|exact Drawn0.refl _|apply Drawn0.step)⟩
        ·
         replace dE:=Bool.eq_false_iff.mpr dE;subst dE;replace H:=(if_neg (show ¬ (false=true) by decide)).symm.trans H;replace H:=obz H;obtain ⟨Vr,sN,H⟩:=H
         try dsimp only at H
         have wX:=am sN;clear sN;by_cases dB:Vr=true
         ·
          subst dB;replace H:=(if_pos rfl).symm.trans H;have H':=am H;clear H;have mJ:0≤(aJ:Int):=od au103;have mK:aJ<(a0.size:Int):=od au103;have F9:=bt_at a0 aJ;replace mJ:=eq_true mJ;replace mK:=eq_true mK;go_wp2_with (first|((with_reducible refine gate_callee (f:=48) rfl ?_);refine goesL_ (some 23) rfl rfl Tryz.func48 (by kernel_rfl) rfl #[.int .u8 (bt a0 aJ)] rfl au58 ?_;(with_reducible refine (impl_isLower.calls (bt a0 aJ) _ _ F7.out).mono ?_);rintro e w' ⟨rfl,⟨nd,rfl⟩⟩;refine ⟨_,rfl,?_⟩;have mI:0≤(aJ:Int):=od au103;have kQ:aJ<(a0.size:Int):=od au103;have DD:=bt_at a0 aJ;replace mI:=eq_true mI;replace kQ:=eq_true kQ)|(go_at_call 49;(with_reducible refine (impl_isDigit.calls (bt a0 aJ) _ _ wX.out).mono ?_);rintro e w' ⟨rfl,⟨nd,rfl⟩⟩))
          go_roundg k2
          case measure=>have:=kA.out;have:=HK2.out;omega
          case rel=>exact ⟨(wrap64 (aJ+1)),au104,H',⟨by have:=kA.out;have:=HK2.out;omega⟩,by repeat (first|exact Drawn0.refl _|apply Drawn0.step)⟩
         · replace dB:=Bool.eq_false_iff.mpr dB;subst dB;replace H:=(if_neg (show ¬ (false=true) by decide)).symm.trans H;obtain rfl:=ojz H;have mJ:0≤(aJ:Int):=od au103;have mK:aJ<(a0.size:Int):=od au103;have F9:=bt_at a0 aJ;replace mJ:=eq_true mJ;replace mK:=eq_true mK;exact impl_isKey.L0
       · rw [if_neg c10] at H;exact absurd H (by simp)
      · rw [if_neg c9] at H;have c9b0:=df c9;clear c9;obtain rfl:=ojz H;exact impl_isKey.L0
def spec_l4Text.l0:Nat→ByteArray→Int→Option (Bool)
 | 0,_,_=>none
 | k+1,x0,x3=>if x3<(x0.size:Int) then (if 0≤x3 then (if (bt x0 x3)<32 then (some false) else (if (bt x0 x3)>126 then (some false) else (spec_l4Text.l0 k x0 (wrap64 (x3+1))))) else (none)) else (if x0.toList=([]:List UInt8) then (some true) else (if 0<(x0.size:Int) then (if (bt x0 0)=32 then (some false) else (if 0≤(wrap64 ((x0.size:Int)-1)) then (if (wrap64 ((x0.size:Int)-1))<(x0.size:Int) then (some ((bt x0 (wrap64 ((x0.size:Int)-1))) != 32)) else (none)) else (none))) else (none)))
def spec_l4Text.f (k:Nat) (a0:ByteArray):Option (Bool):=if (a0.size:Int)>40 then (some false) else (spec_l4Text.l0 k a0 0)
theorem spec_l4Text.mono_l:∀ k,(∀ y0 y1,LeO (spec_l4Text.l0 k y0 y1) (spec_l4Text.l0 (k+1) y0 y1))
 | 0=>fun _ _ r h=>by simp [spec_l4Text.l0] at h
 | k+1=>by
  have ih0:=spec_l4Text.mono_l k
  ·
   intro y0 y1;unfold spec_l4Text.l0
   repeat' first
   | (with_reducible exact ih0 _ _)
   | (with_reducible exact LeO.refl _)
   | (with_reducible exact LeO.none _)
   | (with_reducible refine LeO.ite ?_ ?_)
   | (with_reducible refine LeO.bind ?_ (fun _=>?_))
   | exact ih0 _ _
   | exact LeO.none _
   | refine LeO.ite ?_ ?_
   | refine LeO.bind ?_ (fun _=>?_)
theorem spec_l4Text.mono:∀ a0 k,LeO (spec_l4Text.f k a0) (spec_l4Text.f (k+1) a0):=by
 intro a0 k;have ih0:=spec_l4Text.mono_l k;unfold spec_l4Text.f
 repeat' first
   | (with_reducible exact ih0 _ _)
   | (with_reducible exact LeO.refl _)
   | (with_reducible exact LeO.none _)
   | (with_reducible refine LeO.ite ?_ ?_)
   | (with_reducible refine LeO.bind ?_ (fun _=>?_))
   | exact ih0 _ _
   | exact LeO.none _
   | refine LeO.ite ?_ ?_
   | refine LeO.bind ?_ (fun _=>?_)
theorem spec_l4Text.calls (k:Nat) (a0:ByteArray) (r:Bool) (w:World) (h:spec_l4Text.f k a0=some r) :
  Calls Tryz.prog 38 #[.string a0] w fun e w'=>e=.returned (.bool r)∧Drawn0 w w':=by
 have H:(if (a0.size:Int)>40 then (some false) else (spec_l4Text.l0 k a0 0))=some r:=h;clear h;by_cases c2:(a0.size:Int)>40
 · rw [if_pos c2] at H;have c2b0:=dt c2;have c2b1:decide (40<a0.size)=true:=dt (by omega);clear c2;obtain rfl:=ojz H;go_enter Tryz.func38,Tryz.ntmps38;go_wp2;go_ret;exact ax1
 ·
  rw [if_neg c2] at H;have c2b0:=df c2;have c2b1:decide (40<a0.size)=false:=df (by omega);clear c2;have H':=am H;clear H;go_enter Tryz.func38,Tryz.ntmps38;go_wp2
  go_loopg [3] k (fun kq v3 w'=>∃ (aU:Int),v3=.int .i64 aU∧Aside0 (spec_l4Text.l0 kq a0 aU=some r)∧Aside0 (kq≤k)∧Drawn0 w w')
  case atStart=>exact ⟨(0),au104,H',⟨Nat.le_refl _⟩,by repeat (first|exact Drawn0.refl _|apply Drawn0.step)⟩
  case round =>
   clear H'
   try clear c2
   try clear c2b0
   try clear c2b1
   try clear p2
   obtain ⟨aU,rfl,HA,HK1,⟨m1,rfl⟩⟩:=hrel
   cases gk with
   | zero=>exact absurd HA.out (by simp [spec_l4Text.l0])
   | succ k1 =>
    have H:=HA.out;clear HA;simp only [spec_l4Text.l0] at H;by_cases c3:aU<(a0.size:Int)
    ·
     rw [if_pos c3] at H;have c3b0:=dt c3;clear c3;by_cases c4:0≤aU
     ·
      rw [if_pos c4] at H;have c4b0:=dt c4;clear c4;by_cases c6:(bt a0 aU)<32
      · rw [if_pos c6] at H;have c6b0:=dt c6;clear c6;obtain rfl:=ojz H;have p5:0≤(aU:Int):=od au103;have q5:aU<(a0.size:Int):=od au103;have Qf:=bt_at a0 aU;replace p5:=eq_true p5;replace q5:=eq_true q5;go_wp2;go_ret;exact ax1
      ·
       rw [if_neg c6] at H;have c6b0:=df c6;clear c6;by_cases c8:(bt a0 aU)>126
       · rw [if_pos c8] at H;have c8b0:=dt c8;clear c8;obtain rfl:=ojz H;have p5:0≤(aU:Int):=od au103;have q5:aU<(a0.size:Int):=od au103;have Qf:=bt_at a0 aU;replace p5:=eq_true p5;replace q5:=eq_true q5;have p7:0≤(aU:Int):=od au103;have q7:aU<(a0.size:Int):=od au103;have Qb:=bt_at a0 aU;replace p7:=eq_true p7;replace q7:=eq_true q7;go_wp2;go_ret;exact ax1
       ·
        rw [if_neg c8] at H;have c8b0:=df c8;clear c8;have H':=am H;clear H;have p5:0≤(aU:Int):=od au103;have q5:aU<(a0.size:Int):=od au103;have Qf:=bt_at a0 aU;replace p5:=eq_true p5;replace q5:=eq_true q5;have p7:0≤(aU:Int):=od au103;have q7:aU<(a0.size:Int):=od au103;have Qb:=bt_at a0 aU;replace p7:=eq_true p7;replace q7:=eq_true q7;go_wp2
        go_roundg k1
        case measure=>have:=HK1.out;omega
        case rel=>exact ⟨(wrap64 (aU+1)),au104,H',⟨by have:=HK1.out;omega⟩,by repeat (first|exact Drawn0.refl _|apply Drawn0.step)⟩
     · rw [if_neg c4] at H;exact absurd H (by simp)
    ·
     rw [if_neg c3] at H;have c3b0:=df c3;clear c3;by_cases c9:a0.toList=([]:List UInt8)
     · rw [if_pos c9] at H;have c9b0:=qt c9;have c9b1:=bfz c9;clear c9;obtain rfl:=ojz H;go_wp2;go_ret;exact ax1
     ·
      rw [if_neg c9] at H;have c9b0:=qf c9;have c9b1:=bu c9;by_cases c10:0<(a0.size:Int)
      ·
       rw [if_pos c10] at H;have c10b0:=dt c10;have c10b1:decide (0<a0.size)=true:=dt (by omega);clear c10;by_cases dD:(bt a0 0)=32
       ·
        rw [if_pos dD] at H;have c12b0:=qt dD;have c12b1:=bfz dD;clear dD;obtain rfl:=ojz H
        have mJ:0≤(0:Int):=(by omega)
        have mK:0<a0.size:=(by have:(0:Int)<(a0.size:Int):=od au103;omega)
        have F9:∀ h:0<a0.size,((a0[0]'h).toNat:Int)=bt a0 0:=bt_at a0 0;clear mJ;have agX:(0<(a0.size:Int))=True:=eq_true (od au103);replace mK:=eq_true mK;go_wp2;go_ret;exact ax1
       ·
        rw [if_neg dD] at H;have c12b0:=qf dD;have c12b1:=bu dD
        obtain ⟨E3,N4⟩:∃ j_:Int,(wrap64 ((a0.size:Int)-1))=j_:=⟨_,rfl⟩
        replace H:(if 0≤(E3) then (if (E3)<(a0.size:Int) then (some ((bt a0 (E3)) != 32)) else (none)) else (none))=some r:=by first|(rw [N4] at H;exact H)|(simp only [N4] at H ⊢;exact H)
        have hji13w:(IntKind.i64.wrap ((a0.size:Int)-1))=E3:=(i64_w _).trans N4;by_cases eY:0≤(E3)
        ·
         rw [if_pos eY] at H;have c14b0:=dt eY;clear eY;by_cases dJ:(E3)<(a0.size:Int)
         ·
          rw [if_pos dJ] at H;have c15b0:=dt dJ;clear dJ;obtain rfl:=ojz H
          have mJ:0≤(0:Int):=(by omega)
          have mK:0<a0.size:=(by have:(0:Int)<(a0.size:Int):=od au103;omega)
          have F9:∀ h:0<a0.size,((a0[0]'h).toNat:Int)=bt a0 0:=bt_at a0 0;clear mJ;have agX:(0<(a0.size:Int))=True:=eq_true (od au103);replace mK:=eq_true mK;have MQ:0≤((E3):Int):=od au103;have MR:(E3)<(a0.size:Int):=od au103;have a7O:=bt_at a0 (E3);replace MQ:=eq_true MQ;replace MR:=eq_true MR;go_wp2;go_ret;exact ⟨by first|rfl|(simp;done)|(simp only [← N4] <;> (first|rfl|simp))|(simp [*];done),by repeat (first|exact Drawn0.refl _|apply Drawn0.step)⟩
         · rw [if_neg dJ] at H;exact absurd H (by simp)
        · rw [if_neg eY] at H;exact absurd H (by simp)
      · rw [if_neg c10] at H;exact absurd H (by simp)
def strings_trimLeftByte.l0:Nat→ByteArray→Int→Option (ByteArray)
 | 0,_,_=>none
 | k+1,x0,x1=>if (x0.size:Int)>0 then (if 0<(x0.size:Int) then (if (bt x0 0)=x1 then (if 1≤(x0.size:Int) then (strings_trimLeftByte.l0 k (x0.extract 1 x0.size) x1) else (none)) else (some x0)) else (none)) else (some x0)
def strings_trimLeftByte.f (k:Nat) (a0:ByteArray) (a1:Int):Option (ByteArray):=strings_trimLeftByte.l0 k a0 a1
theorem strings_trimLeftByte.mono_l:∀ k,(∀ y0 y1,LeO (strings_trimLeftByte.l0 k y0 y1) (strings_trimLeftByte.l0 (k+1) y0 y1))
 | 0=>fun _ _ r h=>by simp [strings_trimLeftByte.l0] at h
 | k+1=>by
  have ih0:=strings_trimLeftByte.mono_l k
  ·
   intro y0 y1;unfold strings_trimLeftByte.l0
   repeat' first
   | (with_reducible exact ih0 _ _)
   | (with_reducible exact LeO.refl _)
   | (with_reducible exact LeO.none _)
   | (with_reducible refine LeO.ite ?_ ?_)
   | (with_reducible refine LeO.bind ?_ (fun _=>?_))
   | exact ih0 _ _
   | exact LeO.none _
   | refine LeO.ite ?_ ?_
   | refine LeO.bind ?_ (fun _=>?_)
theorem strings_trimLeftByte.mono:∀ a0 a1 k,LeO (strings_trimLeftByte.f k a0 a1) (strings_trimLeftByte.f (k+1) a0 a1):=by
 intro a0 a1 k;have ih0:=strings_trimLeftByte.mono_l k;unfold strings_trimLeftByte.f
 repeat' first
   | (with_reducible exact ih0 _ _)
   | (with_reducible exact LeO.refl _)
   | (with_reducible exact LeO.none _)
   | (with_reducible refine LeO.ite ?_ ?_)
   | (with_reducible refine LeO.bind ?_ (fun _=>?_))
   | exact ih0 _ _
   | exact LeO.none _
   | refine LeO.ite ?_ ?_
   | refine LeO.bind ?_ (fun _=>?_)
theorem strings_trimLeftByte.calls (k:Nat) (a0:ByteArray) (a1:Int) (r:ByteArray) (w:World) (h:strings_trimLeftByte.f k a0 a1=some r) :
  Calls Tryz.prog 83 #[.string a0,.int .u8 a1] w fun e w'=>e=.returned (.string r)∧Drawn0 w w':=by
 have H:(strings_trimLeftByte.l0 k a0 a1)=some r:=h;clear h;have H':=am H;clear H;go_enter Tryz.func83,Tryz.ntmps83;go_wp2
 go_loopg [0] k (fun kq v0 w'=>∃ (eA:ByteArray),v0=.string eA∧Aside0 (strings_trimLeftByte.l0 kq eA a1=some r)∧Aside0 (kq≤k)∧Drawn0 w w')
 case atStart=>exact ⟨(a0),au104,H',⟨Nat.le_refl _⟩,by repeat (first|exact Drawn0.refl _|apply Drawn0.step)⟩
 case round =>
  clear H'
  try clear p2
  obtain ⟨eA,rfl,HA,HK1,⟨m1,rfl⟩⟩:=hrel
  cases gk with
  | zero=>exact absurd HA.out (by simp [strings_trimLeftByte.l0])
  | succ k1 =>
   have H:=HA.out;clear HA;simp only [strings_trimLeftByte.l0] at H;by_cases c3:(eA.size:Int)>0
   ·
    rw [if_pos c3] at H;have c3b0:=dt c3;have c3b1:decide (0<eA.size)=true:=dt (by omega);clear c3;by_cases c4:0<(eA.size:Int)
    ·
     rw [if_pos c4] at H;have c4b0:=dt c4;have c4b1:decide (0<eA.size)=true:=dt (by omega);clear c4;by_cases c6:(bt eA 0)=a1
     ·
      rw [if_pos c6] at H;have c6b0:=qt c6;have c6b1:=bfz c6;clear c6;by_cases c7:1≤(eA.size:Int)
      ·
       rw [if_pos c7] at H;have c7b0:=eq_true c7;have c7b1:=dt c7;clear c7;have H':=am H;clear H
       have p5:0≤(0:Int):=(by omega)
       have q5:0<eA.size:=(by have:(0:Int)<(eA.size:Int):=od au103;omega)
       have Qf:∀ h:0<eA.size,((eA[0]'h).toNat:Int)=bt eA 0:=bt_at eA 0;clear p5;have qi5:(0<(eA.size:Int))=True:=eq_true (od au103);replace q5:=eq_true q5;go_wp2
       go_roundg k1
       case measure=>have:=HK1.out;omega
       case rel=>exact ⟨(eA.extract 1 eA.size),au104,H',⟨by have:=HK1.out;omega⟩,by repeat (first|exact Drawn0.refl _|apply Drawn0.step)⟩
      · rw [if_neg c7] at H;exact absurd H (by simp)
     ·
      rw [if_neg c6] at H;have c6b0:=qf c6;have c6b1:=bu c6;obtain rfl:=ojz H
      have p5:0≤(0:Int):=(by omega)
      have q5:0<eA.size:=(by have:(0:Int)<(eA.size:Int):=od au103;omega)
      have Qf:∀ h:0<eA.size,((eA[0]'h).toNat:Int)=bt eA 0:=bt_at eA 0;clear p5;have qi5:(0<(eA.size:Int))=True:=eq_true (od au103);replace q5:=eq_true q5;go_wp2;go_ret;exact ax1
    · rw [if_neg c4] at H;exact absurd H (by simp)
   · rw [if_neg c3] at H;have c3b0:=df c3;have c3b1:decide (0<eA.size)=false:=df (by omega);clear c3;obtain rfl:=ojz H;go_wp2;go_ret;exact ax1
def strings_trimRightByte.l0:Nat→ByteArray→Int→Option (ByteArray)
 | 0,_,_=>none
 | k+1,x0,x1=>if (x0.size:Int)>0 then (if 0≤(wrap64 ((x0.size:Int)-1)) then (if (wrap64 ((x0.size:Int)-1))<(x0.size:Int) then (if (bt x0 (wrap64 ((x0.size:Int)-1)))=x1 then (if (wrap64 ((x0.size:Int)-1))≤(x0.size:Int) then (strings_trimRightByte.l0 k (x0.extract 0 ((wrap64 ((x0.size:Int)-1)):Int).toNat) x1) else (none)) else (some x0)) else (none)) else (none)) else (some x0)
def strings_trimRightByte.f (k:Nat) (a0:ByteArray) (a1:Int):Option (ByteArray):=strings_trimRightByte.l0 k a0 a1
theorem strings_trimRightByte.mono_l:∀ k,(∀ y0 y1,LeO (strings_trimRightByte.l0 k y0 y1) (strings_trimRightByte.l0 (k+1) y0 y1))
 | 0=>fun _ _ r h=>by simp [strings_trimRightByte.l0] at h
 | k+1=>by
  have ih0:=strings_trimRightByte.mono_l k
  ·
   intro y0 y1;unfold strings_trimRightByte.l0
   repeat' first
   | (with_reducible exact ih0 _ _)
   | (with_reducible exact LeO.refl _)
   | (with_reducible exact LeO.none _)
   | (with_reducible refine LeO.ite ?_ ?_)
   | (with_reducible refine LeO.bind ?_ (fun _=>?_))
   | exact ih0 _ _
   | exact LeO.none _
   | refine LeO.ite ?_ ?_
   | refine LeO.bind ?_ (fun _=>?_)
theorem strings_trimRightByte.mono:∀ a0 a1 k,LeO (strings_trimRightByte.f k a0 a1) (strings_trimRightByte.f (k+1) a0 a1):=by
 intro a0 a1 k;have ih0:=strings_trimRightByte.mono_l k;unfold strings_trimRightByte.f
 repeat' first
   | (with_reducible exact ih0 _ _)
   | (with_reducible exact LeO.refl _)
   | (with_reducible exact LeO.none _)
   | (with_reducible refine LeO.ite ?_ ?_)
   | (with_reducible refine LeO.bind ?_ (fun _=>?_))
   | exact ih0 _ _
   | exact LeO.none _
   | refine LeO.ite ?_ ?_
   | refine LeO.bind ?_ (fun _=>?_)
theorem strings_trimRightByte.calls (k:Nat) (a0:ByteArray) (a1:Int) (r:ByteArray) (w:World) (h:strings_trimRightByte.f k a0 a1=some r) :
  Calls Tryz.prog 84 #[.string a0,.int .u8 a1] w fun e w'=>e=.returned (.string r)∧Drawn0 w w':=by
 have H:(strings_trimRightByte.l0 k a0 a1)=some r:=h;clear h;have H':=am H;clear H;go_enter Tryz.func84,Tryz.ntmps84;go_wp2
 go_loopg [0] k (fun kq v0 w'=>∃ (eA:ByteArray),v0=.string eA∧Aside0 (strings_trimRightByte.l0 kq eA a1=some r)∧Aside0 (kq≤k)∧Drawn0 w w')
 case atStart=>exact ⟨(a0),au104,H',⟨Nat.le_refl _⟩,by repeat (first|exact Drawn0.refl _|apply Drawn0.step)⟩
 case round =>
  clear H'
  try clear p2
  obtain ⟨eA,rfl,HA,HK1,⟨m1,rfl⟩⟩:=hrel
  cases gk with
  | zero=>exact absurd HA.out (by simp [strings_trimRightByte.l0])
  | succ k1 =>
   have H:=HA.out;clear HA;simp only [strings_trimRightByte.l0] at H;by_cases c3:(eA.size:Int)>0
   ·
    rw [if_pos c3] at H;have c3b0:=dt c3;have c3b1:decide (0<eA.size)=true:=dt (by omega);clear c3
    obtain ⟨tS,Od⟩:∃ j_:Int,(wrap64 ((eA.size:Int)-1))=j_:=⟨_,rfl⟩
    replace H:(if 0≤(tS) then (if (tS)<(eA.size:Int) then (if (bt eA (tS))=a1 then (if (tS)≤(eA.size:Int) then (strings_trimRightByte.l0 k1 (eA.extract 0 ((tS):Int).toNat) a1) else (none)) else (some eA)) else (none)) else (none))=some r:=by first|(rw [Od] at H;exact H)|(simp only [Od] at H ⊢;exact H)
    have hji4w:(IntKind.i64.wrap ((eA.size:Int)-1))=tS:=(i64_w _).trans Od;by_cases c5:0≤(tS)
    ·
     rw [if_pos c5] at H;have c5b0:=dt c5;clear c5;by_cases c6:(tS)<(eA.size:Int)
     ·
      rw [if_pos c6] at H;have c6b0:=dt c6;clear c6;by_cases c8:(bt eA (tS))=a1
      ·
       rw [if_pos c8] at H;have c8b0:=qt c8;have c8b1:=bfz c8;clear c8;have c9b0:=eq_true (od au103:0≤(tS));by_cases c10:(tS)≤(eA.size:Int)
       ·
        rw [if_pos c10] at H;have c10b0:=eq_true c10;have c10b1:=dt c10;clear c10;have H':=am H;clear H;have p7:0≤((tS):Int):=od au103;have q7:(tS)<(eA.size:Int):=od au103;have Qb:=bt_at eA (tS);replace p7:=eq_true p7;replace q7:=eq_true q7;go_wp2
        go_roundg k1
        case measure=>have:=HK1.out;omega
        case rel=>exact ⟨(eA.extract 0 ((tS):Int).toNat),(by first|rfl|(simp;done)|(simp only [← Od] <;> (first|rfl|simp))|(simp [*];done)),H',⟨by have:=HK1.out;omega⟩,by repeat (first|exact Drawn0.refl _|apply Drawn0.step)⟩
       · rw [if_neg c10] at H;exact absurd H (by simp)
      · rw [if_neg c8] at H;have c8b0:=qf c8;have c8b1:=bu c8;obtain rfl:=ojz H;have p7:0≤((tS):Int):=od au103;have q7:(tS)<(eA.size:Int):=od au103;have Qb:=bt_at eA (tS);replace p7:=eq_true p7;replace q7:=eq_true q7;go_wp2;go_ret;exact ⟨by first|rfl|(simp;done)|(simp only [← Od] <;> (first|rfl|simp))|(simp [*];done),by repeat (first|exact Drawn0.refl _|apply Drawn0.step)⟩
     · rw [if_neg c6] at H;exact absurd H (by simp)
    · rw [if_neg c5] at H;exact absurd H (by simp)
   · rw [if_neg c3] at H;have c3b0:=df c3;have c3b1:decide (0<eA.size)=false:=df (by omega);clear c3;obtain rfl:=ojz H;go_wp2;go_ret;exact ax1
mutual
def strings_Trim.j0:Nat→ByteArray→ByteArray→Bool→Option (ByteArray)
 | 0,_,_,_=>none
 | k+1,x0,x1,Jx=>if Jx=true then (some x0) else (if (x1.size:Int)=1 then (if 0<(x1.size:Int) then (strings_Trim.j1 k x0 x1 (decide ((bt x1 0)<128))) else (none)) else (strings_Trim.j1 k x0 x1 false))
def strings_Trim.j1:Nat→ByteArray→ByteArray→Bool→Option (ByteArray)
 | 0,_,_,_=>none
 | k+1,x0,x1,x21=>if x21=true then (if 0<(x1.size:Int) then ((strings_trimRightByte.f k x0 (bt x1 0)).bind fun Fa=>((strings_trimLeftByte.f k Fa (bt x1 0)).bind fun Aq=>(some Aq))) else (none)) else (none)
end
def strings_Trim.f (k:Nat) (a0:ByteArray) (a1:ByteArray):Option (ByteArray):=if a0.toList=([]:List UInt8) then (strings_Trim.j0 k a0 a1 true) else (strings_Trim.j0 k a0 a1 (a1.toList == ([]:List UInt8)))
theorem strings_Trim.mono_l:∀ k,(∀ y0 y1 y2,LeO (strings_Trim.j0 k y0 y1 y2) (strings_Trim.j0 (k+1) y0 y1 y2))∧(∀ y0 y1 y2,LeO (strings_Trim.j1 k y0 y1 y2) (strings_Trim.j1 (k+1) y0 y1 y2))
 | 0=>⟨fun _ _ _ r h=>by simp [strings_Trim.j0] at h,fun _ _ _ r h=>by simp [strings_Trim.j1] at h⟩
 | k+1=>by
  obtain ⟨ih0,ih1⟩:=strings_Trim.mono_l k;refine ⟨?_,?_⟩
  ·
   intro y0 y1 y2;unfold strings_Trim.j0
   repeat' first
   | (with_reducible exact ih0 _ _ _)
   | (with_reducible exact ih1 _ _ _)
   | (with_reducible exact strings_trimLeftByte.mono _ _ _)
   | (with_reducible exact strings_trimRightByte.mono _ _ _)
   | (with_reducible exact LeO.refl _)
   | (with_reducible exact LeO.none _)
   | (with_reducible refine LeO.ite ?_ ?_)
   | (with_reducible refine LeO.bind ?_ (fun _=>?_))
   | exact ih0 _ _ _
   | exact ih1 _ _ _
   | exact strings_trimLeftByte.mono _ _ _
   | exact strings_trimRightByte.mono _ _ _
   | exact LeO.none _
   | refine LeO.ite ?_ ?_
   | refine LeO.bind ?_ (fun _=>?_)
  ·
   intro y0 y1 y2;unfold strings_Trim.j1
   repeat' first
   | (with_reducible exact ih0 _ _ _)
   | (with_reducible exact ih1 _ _ _)
   | (with_reducible exact strings_trimLeftByte.mono _ _ _)
   | (with_reducible exact strings_trimRightByte.mono _ _ _)
   | (with_reducible exact LeO.refl _)
   | (with_reducible exact LeO.none _)
   | (with_reducible refine LeO.ite ?_ ?_)
   | (with_reducible refine LeO.bind ?_ (fun _=>?_))
   | exact ih0 _ _ _
   | exact ih1 _ _ _
   | exact strings_trimLeftByte.mono _ _ _
   | exact strings_trimRightByte.mono _ _ _
   | exact LeO.none _
   | refine LeO.ite ?_ ?_
   | refine LeO.bind ?_ (fun _=>?_)
theorem strings_Trim.mono:∀ a0 a1 k,LeO (strings_Trim.f k a0 a1) (strings_Trim.f (k+1) a0 a1):=by
 intro a0 a1 k;obtain ⟨ih0,ih1⟩:=strings_Trim.mono_l k;unfold strings_Trim.f
 repeat' first
   | (with_reducible exact ih0 _ _ _)
   | (with_reducible exact ih1 _ _ _)
   | (with_reducible exact strings_trimLeftByte.mono _ _ _)
   | (with_reducible exact strings_trimRightByte.mono _ _ _)
   | (with_reducible exact LeO.refl _)
   | (with_reducible exact LeO.none _)
   | (with_reducible refine LeO.ite ?_ ?_)
   | (with_reducible refine LeO.bind ?_ (fun _=>?_))
   | exact ih0 _ _ _
   | exact ih1 _ _ _
   | exact strings_trimLeftByte.mono _ _ _
   | exact strings_trimRightByte.mono _ _ _
   | exact LeO.none _
   | refine LeO.ite ?_ ?_
   | refine LeO.bind ?_ (fun _=>?_)
theorem strings_Trim.calls (k:Nat) (a0:ByteArray) (a1:ByteArray) (r:ByteArray) (w:World) (h:strings_Trim.f k a0 a1=some r) :
  Calls Tryz.prog 69 #[.string a0,.string a1] w fun e w'=>e=.returned (.string r)∧Below w.heap.size w w':=by
 have HB:=am (Below.refl w.heap.size w);have H:(if a0.toList=([]:List UInt8) then (strings_Trim.j0 k a0 a1 true) else (strings_Trim.j0 k a0 a1 (a1.toList == ([]:List UInt8))))=some r:=h;clear h;have Ar:=am H;clear H;go_enter Tryz.func69,Tryz.ntmps69
 go_upto_region 1 with (fail)
 repeat (go_quiet (fail);go_upto_region 1 with (fail))
 go_cut [12] (fun v12 wc=>∃ (kq:Nat) (N5:Bool),v12=.bool N5∧Aside0 (strings_Trim.j0 kq a0 a1 N5=some r)∧Aside0 (kq≤k)∧Aside0 (Below w.heap.size w wc))
 case first =>
  have H:=Ar.out;clear Ar;by_cases c4:a0.toList=([]:List UInt8)
  ·
   rw [if_pos c4] at H;have c4b0:=qt c4;have c4b1:=bfz c4;clear c4
   (first|rw [c4b0]|(simp only [i64_w,i32_w];rw [c4b0])|skip)
   have H':=am H;clear H;go_wp2
   repeat (go_quiet (fail);try go_wp2)
   go_meet
   case rel=>exact ⟨_,(true),au104,H',⟨by first|omega|exact Nat.le_refl _⟩,⟨by repeat (first|(with_reducible first|exact HB.out|apply below_alloc|apply pw_below_drewN|apply below_drew1)|exact HB.out)⟩⟩
  ·
   rw [if_neg c4] at H;have c4b0:=qf c4;have c4b1:=bu c4
   (first|rw [c4b0]|(simp only [i64_w,i32_w];rw [c4b0])|skip)
   have H':=am H;clear H;go_wp2
   repeat (go_quiet (fail);try go_wp2)
   go_meet
   case rel=>exact ⟨_,((a1.toList == ([]:List UInt8))),au104,H',⟨by first|omega|exact Nat.le_refl _⟩,⟨by repeat (first|(with_reducible first|exact HB.out|apply below_alloc|apply pw_below_drewN|apply below_drew1)|exact HB.out)⟩⟩
 case rest =>
  clear Ar
  try clear p2
  try clear c4
  try clear c4b0
  try clear c4b1
  obtain ⟨kq,N5,rfl,HA,Hg,HB⟩:=hcut
  cases kq with
  | zero=>exact absurd HA.out (by simp [strings_Trim.j0])
  | succ Oe =>
   have H:=HA.out;clear HA;simp only [strings_Trim.j0] at H;by_cases c5:N5=true
   ·
    subst c5;replace H:=(if_pos rfl).symm.trans H;obtain rfl:=ojz H;go_wp2
    repeat (go_quiet (fail);try go_wp2)
    go_ret;exact ax3
   ·
    replace c5:=Bool.eq_false_iff.mpr c5;subst c5;replace H:=(if_neg (show ¬ (false=true) by decide)).symm.trans H;have Fb:=am H;clear H
    go_upto_region 3 with (fail)
    repeat (go_quiet (fail);go_upto_region 3 with (fail))
    go_cut [21] (fun v21 wc=>∃ (kq:Nat) (N6:Bool),v21=.bool N6∧Aside0 (strings_Trim.j1 kq a0 a1 N6=some r)∧Aside0 (kq≤Oe)∧Aside0 (Below w.heap.size w wc))
    case first =>
     have H:=Fb.out;clear Fb;by_cases c7:(a1.size:Int)=1
     ·
      rw [if_pos c7] at H;have c7b0:=qt c7;have c7b1:=bfz c7;clear c7
      (first|rw [c7b0]|(simp only [i64_w,i32_w];rw [c7b0])|skip)
      by_cases c8:0<(a1.size:Int)
      ·
       rw [if_pos c8] at H;have c8b0:=dt c8;have c8b1:decide (0<a1.size)=true:=dt (by omega);clear c8;have H':=am H;clear H
       have p9:0≤(0:Int):=(by omega)
       have q9:0<a1.size:=(by have:(0:Int)<(a1.size:Int):=od au103;omega)
       have hx9:∀ h:0<a1.size,((a1[0]'h).toNat:Int)=bt a1 0:=bt_at a1 0;clear p9;have qi9:(0<(a1.size:Int))=True:=eq_true (od au103);replace q9:=eq_true q9;go_wp2
       repeat (go_quiet (fail);try go_wp2)
       go_meet
       case rel=>exact ⟨_,(decide ((bt a1 0)<128)),au104,H',⟨by have:=Hg.out;first|omega|exact Nat.le_refl _⟩,⟨by repeat (first|(with_reducible first|exact HB.out|apply below_alloc|apply pw_below_drewN|apply below_drew1)|exact HB.out)⟩⟩
      · rw [if_neg c8] at H;exact absurd H (by simp)
     ·
      rw [if_neg c7] at H;have c7b0:=qf c7;have c7b1:=bu c7
      (first|rw [c7b0]|(simp only [i64_w,i32_w];rw [c7b0])|skip)
      have H':=am H;clear H;go_wp2
      repeat (go_quiet (fail);try go_wp2)
      go_meet
      case rel=>exact ⟨_,(false),au104,H',⟨by have:=Hg.out;first|omega|exact Nat.le_refl _⟩,⟨by repeat (first|(with_reducible first|exact HB.out|apply below_alloc|apply pw_below_drewN|apply below_drew1)|exact HB.out)⟩⟩
    case rest =>
     clear Fb
     try clear p2
     try clear c4
     try clear c4b0
     try clear c4b1
     try clear c5
     try clear c6
     try clear c7
     try clear c7b0
     try clear c7b1
     try clear c8
     try clear c8b0
     try clear c8b1
     try clear p9
     try clear q9
     try clear hx9
     try clear qi9
     try clear p2
     try clear p9
     try clear q9
     obtain ⟨kq,N6,rfl,HA,HJ5,HB⟩:=hcut
     cases kq with
     | zero=>exact absurd HA.out (by simp [strings_Trim.j1])
     | succ EA =>
      have H:=HA.out;clear HA;simp only [strings_Trim.j1] at H;by_cases c10:N6=true
      ·
       subst c10;replace H:=(if_pos rfl).symm.trans H;by_cases cO:0<(a1.size:Int)
       ·
        rw [if_pos cO] at H;have c11b0:=dt cO;have c11b1:decide (0<a1.size)=true:=dt (by omega);clear cO;replace H:=obz H;obtain ⟨Fa,sL,H⟩:=H
        try dsimp only at H
        have EE:=am sL;clear sL;replace H:=obz H;obtain ⟨Aq,sN,H⟩:=H
        try dsimp only at H
        have wX:=am sN;clear sN;obtain rfl:=ojz H
        have B4:0≤(0:Int):=(by omega)
        have wW:0<a1.size:=(by have:(0:Int)<(a1.size:Int):=od au103;omega)
        have Kx:∀ h:0<a1.size,((a1[0]'h).toNat:Int)=bt a1 0:=bt_at a1 0;clear B4;have UG:(0<(a1.size:Int))=True:=eq_true (od au103);replace wW:=eq_true wW;go_wp2_with (first|(go_at_call 84;(with_reducible refine (strings_trimRightByte.calls EA a0 (bt a1 0) Fa _ EE.out).mono ?_);rintro e w' ⟨rfl,⟨nd,rfl⟩⟩;(try first|exact ⟨rfl,_,World.drewN_drewN _ _ _⟩|exact ⟨rfl,_,Eq.trans (World.drewN_drewN _ _ _) (congrArg (World.drewN _) (Nat.add_assoc _ _ _))⟩);have mI:0≤(0:Int):=(by omega);have kQ:0<a1.size:=(by have:(0:Int)<(a1.size:Int):=od au103;omega);have DD:∀ h:0<a1.size,((a1[0]'h).toNat:Int)=bt a1 0:=bt_at a1 0;clear mI;have a7Q:(0<(a1.size:Int))=True:=eq_true (od au103);replace kQ:=eq_true kQ)|(go_at_call 83;(with_reducible refine (strings_trimLeftByte.calls EA Fa (bt a1 0) Aq _ wX.out).mono ?_);rintro e w' ⟨rfl,⟨nd,rfl⟩⟩;(try first|exact ⟨rfl,_,World.drewN_drewN _ _ _⟩|exact ⟨rfl,_,Eq.trans (World.drewN_drewN _ _ _) (congrArg (World.drewN _) (Nat.add_assoc _ _ _))⟩)))
        repeat (go_quiet (first|(go_at_call 84;(with_reducible refine (strings_trimRightByte.calls EA a0 (bt a1 0) Fa _ EE.out).mono ?_);rintro e w' ⟨rfl,⟨nd,rfl⟩⟩;(try first|exact ⟨rfl,_,World.drewN_drewN _ _ _⟩|exact ⟨rfl,_,Eq.trans (World.drewN_drewN _ _ _) (congrArg (World.drewN _) (Nat.add_assoc _ _ _))⟩);have mI:0≤(0:Int):=(by omega);have kQ:0<a1.size:=(by have:(0:Int)<(a1.size:Int):=od au103;omega);have DD:∀ h:0<a1.size,((a1[0]'h).toNat:Int)=bt a1 0:=bt_at a1 0;clear mI;have a7Q:(0<(a1.size:Int))=True:=eq_true (od au103);replace kQ:=eq_true kQ)|(go_at_call 83;(with_reducible refine (strings_trimLeftByte.calls EA Fa (bt a1 0) Aq _ wX.out).mono ?_);rintro e w' ⟨rfl,⟨nd,rfl⟩⟩;(try first|exact ⟨rfl,_,World.drewN_drewN _ _ _⟩|exact ⟨rfl,_,Eq.trans (World.drewN_drewN _ _ _) (congrArg (World.drewN _) (Nat.add_assoc _ _ _))⟩)));try go_wp2_with (first|(go_at_call 84;(with_reducible refine (strings_trimRightByte.calls EA a0 (bt a1 0) Fa _ EE.out).mono ?_);rintro e w' ⟨rfl,⟨nd,rfl⟩⟩;(try first|exact ⟨rfl,_,World.drewN_drewN _ _ _⟩|exact ⟨rfl,_,Eq.trans (World.drewN_drewN _ _ _) (congrArg (World.drewN _) (Nat.add_assoc _ _ _))⟩);have mI:0≤(0:Int):=(by omega);have kQ:0<a1.size:=(by have:(0:Int)<(a1.size:Int):=od au103;omega);have DD:∀ h:0<a1.size,((a1[0]'h).toNat:Int)=bt a1 0:=bt_at a1 0;clear mI;have a7Q:(0<(a1.size:Int))=True:=eq_true (od au103);replace kQ:=eq_true kQ)|(go_at_call 83;(with_reducible refine (strings_trimLeftByte.calls EA Fa (bt a1 0) Aq _ wX.out).mono ?_);rintro e w' ⟨rfl,⟨nd,rfl⟩⟩;(try first|exact ⟨rfl,_,World.drewN_drewN _ _ _⟩|exact ⟨rfl,_,Eq.trans (World.drewN_drewN _ _ _) (congrArg (World.drewN _) (Nat.add_assoc _ _ _))⟩))))
        go_ret;exact ax3
       · rw [if_neg cO] at H;exact absurd H (by simp)
      · replace c10:=Bool.eq_false_iff.mpr c10;subst c10;replace H:=(if_neg (show ¬ (false=true) by decide)).symm.trans H;exact absurd H (by simp)
def impl_isPrintable.l0:Nat→ByteArray→Int→Option (Bool)
 | 0,_,_=>none
 | k+1,x0,x3=>if x3<(x0.size:Int) then (if 0≤x3 then (if (bt x0 x3)<32 then (some false) else (if (bt x0 x3)>126 then (some false) else (impl_isPrintable.l0 k x0 (wrap64 (x3+1))))) else (none)) else ((strings_Trim.f k x0 (⟨#[32]⟩:ByteArray)).bind fun Vs=>(some (Vs.toList == x0.toList)))
def impl_isPrintable.f (k:Nat) (a0:ByteArray):Option (Bool):=impl_isPrintable.l0 k a0 0
theorem impl_isPrintable.mono_l:∀ k,(∀ y0 y1,LeO (impl_isPrintable.l0 k y0 y1) (impl_isPrintable.l0 (k+1) y0 y1))
 | 0=>fun _ _ r h=>by simp [impl_isPrintable.l0] at h
 | k+1=>by
  have ih0:=impl_isPrintable.mono_l k
  ·
   intro y0 y1;unfold impl_isPrintable.l0
   repeat' first
   | (with_reducible exact ih0 _ _)
   | (with_reducible exact strings_Trim.mono _ _ _)
   | (with_reducible exact LeO.refl _)
   | (with_reducible exact LeO.none _)
   | (with_reducible refine LeO.ite ?_ ?_)
   | (with_reducible refine LeO.bind ?_ (fun _=>?_))
   | exact ih0 _ _
   | exact strings_Trim.mono _ _ _
   | exact LeO.none _
   | refine LeO.ite ?_ ?_
   | refine LeO.bind ?_ (fun _=>?_)
theorem impl_isPrintable.mono:∀ a0 k,LeO (impl_isPrintable.f k a0) (impl_isPrintable.f (k+1) a0):=by
 intro a0 k;have ih0:=impl_isPrintable.mono_l k;unfold impl_isPrintable.f
 repeat' first
   | (with_reducible exact ih0 _ _)
   | (with_reducible exact strings_Trim.mono _ _ _)
   | (with_reducible exact LeO.refl _)
   | (with_reducible exact LeO.none _)
   | (with_reducible refine LeO.ite ?_ ?_)
   | (with_reducible refine LeO.bind ?_ (fun _=>?_))
   | exact ih0 _ _
   | exact strings_Trim.mono _ _ _
   | exact LeO.none _
   | refine LeO.ite ?_ ?_
   | refine LeO.bind ?_ (fun _=>?_)
theorem impl_isPrintable.calls (k:Nat) (a0:ByteArray) (r:Bool) (w:World) (h:impl_isPrintable.f k a0=some r) :
  Calls Tryz.prog 54 #[.string a0] w fun e w'=>e=.returned (.bool r)∧Below w.heap.size w w':=by
 have HB:=am (Below.refl w.heap.size w);have H:(impl_isPrintable.l0 k a0 0)=some r:=h;clear h;have H':=am H;clear H;go_enter Tryz.func54,Tryz.ntmps54;go_wp2
 go_loopg [3] k (fun kq v3 w'=>∃ (aU:Int),v3=.int .i64 aU∧Aside0 (impl_isPrintable.l0 kq a0 aU=some r)∧Aside0 (kq≤k)∧Aside0 (Below w.heap.size w w'))
 case atStart=>exact ⟨(0),au104,H',⟨Nat.le_refl _⟩,⟨by repeat (first|(with_reducible first|exact HB.out|apply below_alloc|apply pw_below_drewN|apply below_drew1)|exact HB.out)⟩⟩
 case round =>
  clear H';obtain ⟨aU,rfl,HA,HK1,HB⟩:=hrel
  cases gk with
  | zero=>exact absurd HA.out (by simp [impl_isPrintable.l0])
  | succ k1 =>
   have H:=HA.out;clear HA;simp only [impl_isPrintable.l0] at H;by_cases c2:aU<(a0.size:Int)
   ·
    rw [if_pos c2] at H;have c2b0:=dt c2;clear c2;by_cases c3:0≤aU
    ·
     rw [if_pos c3] at H;have c3b0:=dt c3;clear c3;by_cases c5:(bt a0 aU)<32
     · rw [if_pos c5] at H;have c5b0:=dt c5;clear c5;obtain rfl:=ojz H;have p4:0≤(aU:Int):=od au103;have q4:aU<(a0.size:Int):=od au103;have hx4:=bt_at a0 aU;replace p4:=eq_true p4;replace q4:=eq_true q4;go_wp2;go_ret;exact ax3
     ·
      rw [if_neg c5] at H;have c5b0:=df c5;clear c5;by_cases c7:(bt a0 aU)>126
      · rw [if_pos c7] at H;have c7b0:=dt c7;clear c7;obtain rfl:=ojz H;have p4:0≤(aU:Int):=od au103;have q4:aU<(a0.size:Int):=od au103;have hx4:=bt_at a0 aU;replace p4:=eq_true p4;replace q4:=eq_true q4;have p6:0≤(aU:Int):=od au103;have q6:aU<(a0.size:Int):=od au103;have Ex:=bt_at a0 aU;replace p6:=eq_true p6;replace q6:=eq_true q6;go_wp2;go_ret;exact ax3
      ·
       rw [if_neg c7] at H;have c7b0:=df c7;clear c7;have H':=am H;clear H;have p4:0≤(aU:Int):=od au103;have q4:aU<(a0.size:Int):=od au103;have hx4:=bt_at a0 aU;replace p4:=eq_true p4;replace q4:=eq_true q4;have p6:0≤(aU:Int):=od au103;have q6:aU<(a0.size:Int):=od au103;have Ex:=bt_at a0 aU;replace p6:=eq_true p6;replace q6:=eq_true q6;go_wp2
       go_roundg k1
       case measure=>have:=HK1.out;omega
       case rel=>exact ⟨(wrap64 (aU+1)),au104,H',⟨by have:=HK1.out;omega⟩,⟨by repeat (first|(with_reducible first|exact HB.out|apply below_alloc|apply pw_below_drewN|apply below_drew1)|exact HB.out)⟩⟩
    · rw [if_neg c3] at H;exact absurd H (by simp)
   ·
    rw [if_neg c2] at H;have c2b0:=df c2;clear c2;replace H:=obz H;obtain ⟨Vs,wF,H⟩:=H
    try dsimp only at H
    have A8:=am wF;clear wF;obtain rfl:=ojz H;go_wp2_with (first|((with_reducible refine gate_callee (f:=69) rfl ?_);refine goesL_ (some 21) rfl rfl Tryz.func69 (by kernel_rfl) rfl #[.string a0,.string (⟨#[32]⟩:ByteArray)] rfl au58 ?_;(with_reducible refine (strings_Trim.calls k1 a0 (⟨#[32]⟩:ByteArray) Vs _ A8.out).mono ?_);rintro e w9 ⟨rfl,hb⟩;refine ⟨_,rfl,?_⟩;replace HB:=am (below_step au59 hb);(try clear hb)));go_ret;exact ax3
def impl_isText.f (k:Nat) (a0:ByteArray):Option (Bool):=if (a0.size:Int)≤40 then ((impl_isPrintable.f k a0).bind fun Of=>(some Of)) else (some false)
theorem impl_isText.mono:∀ a0 k,LeO (impl_isText.f k a0) (impl_isText.f (k+1) a0):=by
 intro a0 k;unfold impl_isText.f
 repeat' first
   | (with_reducible exact impl_isPrintable.mono _ _)
   | (with_reducible exact LeO.refl _)
   | (with_reducible exact LeO.none _)
   | (with_reducible refine LeO.ite ?_ ?_)
   | (with_reducible refine LeO.bind ?_ (fun _=>?_))
   | exact impl_isPrintable.mono _ _
   | exact LeO.none _
   | refine LeO.ite ?_ ?_
   | refine LeO.bind ?_ (fun _=>?_)
theorem impl_isText.calls (k:Nat) (a0:ByteArray) (r:Bool) (w:World) (h:impl_isText.f k a0=some r) :
  Calls Tryz.prog 33 #[.string a0] w fun e w'=>e=.returned (.bool r)∧Below w.heap.size w w':=by
 have HB:=am (Below.refl w.heap.size w);have H:(if (a0.size:Int)≤40 then ((impl_isPrintable.f k a0).bind fun Of=>(some Of)) else (some false))=some r:=h;clear h;by_cases c2:(a0.size:Int)≤40
 ·
  rw [if_pos c2] at H;have c2b0:=dt c2;have c2b1:decide (a0.size≤40)=true:=dt (by omega);clear c2;replace H:=obz H;obtain ⟨Of,dR,H⟩:=H
  try dsimp only at H
  have A3:=am dR;clear dR;obtain rfl:=ojz H;go_enter Tryz.func33,Tryz.ntmps33;go_wp2_with (first|(go_at_call 54;(with_reducible refine (impl_isPrintable.calls k a0 Of _ A3.out).mono ?_);rintro e w4 ⟨rfl,hb⟩;replace HB:=am (below_step au59 hb);(try clear hb)));go_ret;exact ax3
 · rw [if_neg c2] at H;have c2b0:=df c2;have c2b1:decide (a0.size≤40)=false:=df (by omega);clear c2;obtain rfl:=ojz H;go_enter Tryz.func33,Tryz.ntmps33;go_wp2;go_ret;exact ax3
end Go.Proofs.YtcbhlghofihjcaaGreatDoor.G

namespace Go.Proofs.YtcbhlghofihjcaaGreatDoor.G
open Go.RowKit Go.Proofs.YtcbhlghofihjcaaGreatDoorW.PrintWords Go.Proofs.YtcbhlghofihjcaaGreatDoorW.PrintLast Go.Proofs.YtcbhlghofihjcaaGreatDoor.B
set_option linter.unusedVariables false
set_option linter.unusedSimpArgs false
def rngD (c:Int):Bool:=decide (32≤c) && decide (c≤126)
def rngF (s:ByteArray):Nat→Nat→Bool
  | 0,_=>true
  | d+1,i=>rngD (bt s (i:Int)) && rngF s d (i+1)
def edgeD (s:ByteArray):Bool:=!decide (bt s 0=32) && !decide (bt s ((s.size:Int)-1)=32)
theorem trimR (n:Nat):∀ s:ByteArray,s.size=n→n≤4611686018427387904→∃ t,Ev (fun k=>strings_trimRightByte.f k s 32) t∧t.size≤n∧(1≤n→bt s ((n:Int)-1)=32→t.size<n)∧((n=0∨bt s ((n:Int)-1)≠32)→t=s):=by
  induction n with
  | zero =>
    intro s hs hb;refine ⟨s,Ev.step (f:=fun _=>some s) (fun k=>?_) (Ev.now _),by omega,fun h=>by omega,fun _=>rfl⟩;simp only [strings_trimRightByte.f,strings_trimRightByte.l0];rw [if_neg (by omega)]
  | succ n ih =>
    intro s hs hb
    have hw:wrap64 ((s.size:Int)-1)=(n:Int):=by rw [w64 (by omega) (by omega)];omega
    have e0:((n+1:Nat):Int)-1=(n:Int):=by omega
    rw [e0];by_cases c:bt s (n:Int)=32
    · have hs':(s.extract 0 n).size=n:=by rw [ByteArray.size_extract];omega
      obtain ⟨t,ht,h1,_,_⟩:=ih (s.extract 0 n) hs' (by omega);refine ⟨t,Ev.step (f:=fun k=>strings_trimRightByte.f k (s.extract 0 n) 32) (fun k=>?_) ht,by omega,fun _ _=>by omega,fun h=>?_⟩
      · simp only [strings_trimRightByte.f,strings_trimRightByte.l0,hw]
        rw [if_pos (by omega),if_pos (by omega),if_pos (by omega),if_pos c,if_pos (by omega),Int.toNat_natCast]
      · rcases h with h|h
        · omega
        · exact absurd c h
    · refine ⟨s,Ev.step (f:=fun _=>some s) (fun k=>?_) (Ev.now _),by omega,fun _ h=>absurd h c,fun _=>rfl⟩
      simp only [strings_trimRightByte.f,strings_trimRightByte.l0,hw];rw [if_pos (by omega),if_pos (by omega),if_pos (by omega),if_neg c]
theorem trimL (n:Nat):∀ s:ByteArray,s.size=n→n≤4611686018427387904→∃ t,Ev (fun k=>strings_trimLeftByte.f k s 32) t∧t.size≤n∧(1≤n→bt s 0=32→t.size<n)∧((n=0∨bt s 0≠32)→t=s):=by
  induction n with
  | zero =>
    intro s hs hb;refine ⟨s,Ev.step (f:=fun _=>some s) (fun k=>?_) (Ev.now _),by omega,fun h=>by omega,fun _=>rfl⟩;simp only [strings_trimLeftByte.f,strings_trimLeftByte.l0];rw [if_neg (by omega)]
  | succ n ih =>
    intro s hs hb;by_cases c:bt s 0=32
    · have hs':(s.extract 1 s.size).size=n:=by rw [ByteArray.size_extract];omega
      obtain ⟨t,ht,h1,_,_⟩:=ih (s.extract 1 s.size) hs' (by omega);refine ⟨t,Ev.step (f:=fun k=>strings_trimLeftByte.f k (s.extract 1 s.size) 32) (fun k=>?_) ht,by omega,fun _ _=>by omega,fun h=>?_⟩
      · simp only [strings_trimLeftByte.f,strings_trimLeftByte.l0]
        rw [if_pos (by omega),if_pos (by omega),if_pos c,if_pos (by omega)]
      · rcases h with h|h
        · omega
        · exact absurd c h
    · refine ⟨s,Ev.step (f:=fun _=>some s) (fun k=>?_) (Ev.now _),by omega,fun _ h=>absurd h c,fun _=>rfl⟩
      simp only [strings_trimLeftByte.f,strings_trimLeftByte.l0];rw [if_pos (by omega),if_pos (by omega),if_neg c]
theorem trim_ev (s:ByteArray) (h1:1≤s.size) (h2:s.size≤4611686018427387904):∃ t,Ev (fun k=>strings_Trim.f k s (⟨#[32]⟩:ByteArray)) t∧(t.toList == s.toList)=edgeD s:=by
  obtain ⟨t1,ht1,ha,hb,hc⟩:=trimR s.size s rfl h2;obtain ⟨t2,ht2,ha',hb',hc'⟩:=trimL t1.size t1 rfl (by omega);refine ⟨t2,?_,?_⟩
  · unfold strings_Trim.f
    have hz:¬ s.toList=([]:List UInt8):=fun e=>by rw [toList_L] at e;have:=(size_pos_iff s).2 e;omega
    refine ev_neg hz ?_
    have e1:((⟨#[32]⟩:ByteArray).toList == ([]:List UInt8))=false:=by rw [toList_L];rfl
    have e2:((⟨#[32]⟩:ByteArray).size:Int)=1:=rfl;have e3:bt (⟨#[32]⟩:ByteArray) 0=32:=rfl;rw [e1];refine Ev.step (f:=fun k=>strings_Trim.j1 k s (⟨#[32]⟩:ByteArray) true) (fun k=>?_) (Ev.step (f:=fun k=>(strings_trimRightByte.f k s 32).bind fun t=>(strings_trimLeftByte.f k t 32).bind fun u=>some u) (fun k=>?_) (Ev.bind ht1 (Ev.bind ht2 (Ev.now _))))
    · simp only [strings_Trim.j0]
      rw [if_neg (by simp),e2,if_pos rfl,if_pos (by omega),e3];rfl
    · simp only [strings_Trim.j1]
      rw [if_pos trivial,e2,if_pos (by omega),e3]
  · unfold edgeD
    by_cases c:bt s ((s.size:Int)-1)=32
    · have:t2.size<s.size:=by have:=hb h1 c;omega
      have ne:¬ t2.toList=s.toList:=fun e=>by have:=toList_eq_iff.1 e;subst this;omega
      rw [show (t2.toList == s.toList)=false by simpa using ne];simp [c]
    · have e:=hc (Or.inr c)
      subst e;by_cases c0:bt t1 0=32
      · have h3:=hb' h1 c0
        have ne:¬ t2.toList=t1.toList:=fun e=>by have:=toList_eq_iff.1 e;subst this;omega
        rw [show (t2.toList == t1.toList)=false by simpa using ne];simp [c0]
      · have e:=hc' (Or.inr c0)
        subst e;simp [c,c0]
theorem print_loop (s:ByteArray) (h1:1≤s.size) (h2:s.size≤100) (d:Nat):∀ i:Nat,i≤s.size→s.size-i=d →
    Ev (fun k=>impl_isPrintable.l0 k s (i:Int)) (rngF s d i && edgeD s):=by
  induction d with
  | zero =>
    intro i hi hd;obtain ⟨t,ht,e⟩:=trim_ev s h1 (by omega);refine Ev.step (f:=fun k=>(strings_Trim.f k s (⟨#[32]⟩:ByteArray)).bind fun Vt=>(some (Vt.toList == s.toList))) (fun k=>?_) (Ev.bind ht (ev_eq (Ev.now _) (by rw [e];simp [rngF])));simp only [impl_isPrintable.l0];rw [if_neg (by omega)]
  | succ d ih =>
    intro i hi hd
    have hw:wrap64 ((i:Int)+1)=((i+1:Nat):Int):=by rw [w64 (by omega) (by omega)];rfl
    refine Ev.step (f:=fun k=>if rngD (bt s (i:Int))=true then impl_isPrintable.l0 k s ((i+1:Nat):Int) else some false) (fun k=>?_) ?_
    · simp only [impl_isPrintable.l0]
      rw [if_pos (by omega),if_pos (by omega),hw];unfold rngD;by_cases c1:bt s (i:Int)<32
      · rw [if_pos c1,if_neg (by simp;omega)]
      · rw [if_neg c1]
        by_cases c2:bt s (i:Int)>126
        · rw [if_pos c2,if_neg (by simp;omega)]
        · rw [if_neg c2,if_pos (by simp;omega)]
    · unfold rngF
      cases h:rngD (bt s (i:Int)) with
      | true=>exact ev_pos rfl (ev_eq (ih (i+1) (by omega) (by omega)) (by simp))
      | false=>exact ev_neg (by simp) (ev_eq (Ev.now _) (by simp))
theorem trim_nil (s:ByteArray) (h:s.size=0):Ev (fun k=>strings_Trim.f k s (⟨#[32]⟩:ByteArray)) s:=by
  unfold strings_Trim.f;refine ev_pos ((nil_iff s).2 h) (Ev.step (f:=fun _=>some s) (fun k=>?_) (Ev.now _));simp only [strings_Trim.j0];rw [if_pos trivial]
def textD (s:ByteArray):Bool:=decide (s.size≤40) && (decide (s.size=0) || (rngF s s.size 0 && edgeD s))
theorem impl_text (s:ByteArray):Ev (fun k=>impl_isText.f k s) (textD s):=by
  unfold impl_isText.f textD;by_cases h:s.size≤40
  · refine ev_pos (by omega) ?_
    unfold impl_isPrintable.f;by_cases h0:s.size=0
    · refine Ev.bind (a:=true) ?_ (ev_eq (Ev.now _) (by simp [h,h0]))
      refine Ev.step (f:=fun k=>(strings_Trim.f k s (⟨#[32]⟩:ByteArray)).bind fun Vt=>(some (Vt.toList == s.toList))) (fun k=>?_) (Ev.bind (trim_nil s h0) (ev_eq (Ev.now _) (by simp)));simp only [impl_isPrintable.l0];rw [if_neg (by omega)]
    · exact Ev.bind (print_loop s (by omega) (by omega) _ 0 (by omega) rfl) (ev_eq (Ev.now _) (by simp [h,h0]))
  · exact ev_neg (by omega) (ev_eq (Ev.now _) (by simp [h]))
theorem spec_text_end (s:ByteArray) (h2:s.size≤40):Ev (fun k=>spec_l4Text.l0 k s (s.size:Int)) (decide (s.size=0) || edgeD s):=by
  refine Ev.step (f:=fun _=>some (decide (s.size=0) || edgeD s)) (fun k=>?_) (Ev.now _);simp only [spec_l4Text.l0];rw [if_neg (by omega)];by_cases h0:s.size=0
  · rw [if_pos ((nil_iff s).2 h0)];simp [h0]
  · have hw:wrap64 ((s.size:Int)-1)=(s.size:Int)-1:=w64 (by omega) (by omega)
    rw [if_neg (fun e=>h0 ((nil_iff s).1 e)),if_pos (by omega)];unfold edgeD;by_cases c:bt s 0=32
    · rw [if_pos c];simp [c,h0]
    · rw [if_neg c,hw,if_pos (by omega),if_pos (by omega)]
      by_cases e:bt s ((s.size:Int)-1)=32
      · rw [e];simp [h0]
      · rw [show (bt s ((s.size:Int)-1) != 32)=true from bne_iff_ne.2 e];simp [c,e,h0]
theorem spec_text_loop (s:ByteArray) (h2:s.size≤40) (d:Nat):∀ i:Nat,i≤s.size→s.size-i=d →
    Ev (fun k=>spec_l4Text.l0 k s (i:Int)) (rngF s d i && (decide (s.size=0) || edgeD s)):=by
  induction d with
  | zero =>
    intro i hi hd
    obtain rfl:i=s.size:=by omega
    exact ev_eq (spec_text_end s h2) (by simp [rngF])
  | succ d ih =>
    intro i hi hd
    have hw:wrap64 ((i:Int)+1)=((i+1:Nat):Int):=by rw [w64 (by omega) (by omega)];rfl
    refine Ev.step (f:=fun k=>if rngD (bt s (i:Int))=true then spec_l4Text.l0 k s ((i+1:Nat):Int) else some false) (fun k=>?_) ?_
    · simp only [spec_l4Text.l0]
      rw [if_pos (by omega),if_pos (by omega),hw];unfold rngD;by_cases c1:bt s (i:Int)<32
      · rw [if_pos c1,if_neg (by simp;omega)]
      · rw [if_neg c1]
        by_cases c2:bt s (i:Int)>126
        · rw [if_pos c2,if_neg (by simp;omega)]
        · rw [if_neg c2,if_pos (by simp;omega)]
    · unfold rngF
      cases h:rngD (bt s (i:Int)) with
      | true=>exact ev_pos rfl (ev_eq (ih (i+1) (by omega) (by omega)) (by simp))
      | false=>exact ev_neg (by simp) (ev_eq (Ev.now _) (by simp))
theorem spec_text (s:ByteArray):Ev (fun k=>spec_l4Text.f k s) (textD s):=by
  unfold spec_l4Text.f textD;by_cases h:s.size≤40
  · refine ev_neg (by omega) (ev_eq (spec_text_loop s h _ 0 (by omega) rfl) ?_)
    by_cases h0:s.size=0
    · rw [h0];simp [rngF]
    · simp [h,h0]
  · exact ev_pos (by omega) (ev_eq (Ev.now _) (by simp [h]))
def digD (c:Int):Bool:=decide (48≤c) && decide (c≤57)
def keyC (c:Int):Bool:=loD c || digD c
def keyF (s:ByteArray):Nat→Nat→Bool
  | 0,_=>true
  | d+1,i=>keyC (bt s (i:Int)) && keyF s d (i+1)
def inK (n:Nat):Bool:=decide (1≤n) && decide (n≤10)
def keyD (s:ByteArray):Bool:=inK s.size && (loD (bt s 0) && keyF s s.size 0)
theorem in10 (n:Nat):(if (n:Int) ≥ 1 then some (decide ((n:Int)≤10)) else some false)=some (inK n):=by
  unfold inK;by_cases h:1≤n
  · rw [if_pos (by omega)]
    congr 1
    rw [dt h,Bool.true_and,decide_eq_decide];omega
  · rw [if_neg (by omega)];simp [h]
theorem inK_iff {n:Nat}:inK n=true ↔ 1≤n∧n≤10:=by simp [inK]
theorem impl_dig (c:Int):impl_isDigit.f c=some (digD c):=by unfold impl_isDigit.f digD;by_cases h:48≤c <;> simp [h]
theorem spec_key_loop (s:ByteArray) (h2:s.size≤10) (d:Nat):∀ i:Nat,i≤s.size→s.size-i=d→Ev (fun k=>spec_l4Key.l0 k s (i:Int)) (keyF s d i):=by
  induction d with
  | zero =>
    intro i hi hd;refine Ev.step (f:=fun _=>some true) (fun k=>?_) (Ev.now _);simp only [spec_l4Key.l0];rw [if_neg (by omega)]
  | succ d ih =>
    intro i hi hd
    have hw:wrap64 ((i:Int)+1)=((i+1:Nat):Int):=by rw [w64 (by omega) (by omega)];rfl
    refine Ev.step (f:=fun k=>if keyC (bt s (i:Int))=true then spec_l4Key.l0 k s ((i+1:Nat):Int) else some false) (fun k=>?_) ?_
    · simp only [spec_l4Key.l0]
      rw [if_pos (by omega),if_pos (by omega),hw,spec_lo];simp only [Option.bind_some];unfold keyC
      cases loD (bt s (i:Int)) with
      | true=>rw [if_pos rfl,Bool.true_or,if_pos rfl]
      | false =>
        rw [if_neg (by simp)];unfold digD;by_cases c1:bt s (i:Int)<48
        · rw [if_pos c1,if_neg (by simp;omega)]
        · rw [if_neg c1]
          by_cases c2:bt s (i:Int)>57
          · rw [if_pos c2,if_neg (by simp;omega)]
          · rw [if_neg c2,if_pos (by simp;omega)]
    · unfold keyF
      cases h:keyC (bt s (i:Int)) with
      | true=>exact ev_pos rfl (ev_eq (ih (i+1) (by omega) (by omega)) (by simp))
      | false=>exact ev_neg (by simp) (ev_eq (Ev.now _) (by simp))
theorem impl_key_loop (s:ByteArray) (h2:s.size≤10) (d:Nat):∀ i:Nat,i≤s.size→s.size-i=d→Ev (fun k=>impl_isKey.l0 k s (i:Int)) (keyF s d i):=by
  induction d with
  | zero =>
    intro i hi hd;refine Ev.step (f:=fun _=>some true) (fun k=>?_) (Ev.now _);simp only [impl_isKey.l0];rw [if_neg (by omega)]
  | succ d ih =>
    intro i hi hd
    have hw:wrap64 ((i:Int)+1)=((i+1:Nat):Int):=by rw [w64 (by omega) (by omega)];rfl
    refine Ev.step (f:=fun k=>if keyC (bt s (i:Int))=true then impl_isKey.l0 k s ((i+1:Nat):Int) else some false) (fun k=>?_) ?_
    · simp only [impl_isKey.l0]
      rw [if_pos (by omega),if_pos (by omega),hw,impl_lo];simp only [Option.bind_some];unfold keyC
      cases loD (bt s (i:Int)) with
      | true=>rw [if_pos rfl,Bool.true_or,if_pos rfl]
      | false =>
        rw [if_neg (by simp),impl_dig];simp only [Option.bind_some,Bool.false_or]
    · unfold keyF
      cases h:keyC (bt s (i:Int)) with
      | true=>exact ev_pos rfl (ev_eq (ih (i+1) (by omega) (by omega)) (by simp))
      | false=>exact ev_neg (by simp) (ev_eq (Ev.now _) (by simp))
theorem spec_key (s:ByteArray):Ev (fun k=>spec_l4Key.f k s) (keyD s):=by
  have hj1:Ev (fun k=>spec_l4Key.j0 k s true) false:=Ev.step (f:=fun _=>some false) (fun k=>by simp [spec_l4Key.j0]) (Ev.now _);unfold spec_l4Key.f spec_l1In.f keyD;rw [in10];refine Ev.bind (a:=inK s.size) (Ev.now _) ?_
  cases h:inK s.size with
  | false=>exact ev_neg (by simp) (ev_eq hj1 (by simp))
  | true =>
    obtain ⟨h1,h2⟩:=inK_iff.1 h;refine ev_pos rfl (ev_pos (by omega) (ev_bind0 (spec_lo _) ?_))
    cases loD (bt s 0) with
    | false=>exact ev_eq hj1 (by simp)
    | true=>exact Ev.step (f:=fun k=>spec_l4Key.l0 k s ((0:Nat):Int)) (fun k=>by simp [spec_l4Key.j0]) (ev_eq (spec_key_loop s h2 _ 0 (by omega) rfl) (by simp))
theorem impl_key (s:ByteArray):Ev (fun k=>impl_isKey.f k s) (keyD s):=by
  have hj1:Ev (fun k=>impl_isKey.j0 k s true) false:=Ev.step (f:=fun _=>some false) (fun k=>by simp [impl_isKey.j0]) (Ev.now _);unfold impl_isKey.f impl_inside.f keyD;rw [in10];refine Ev.bind (a:=inK s.size) (Ev.now _) ?_
  cases h:inK s.size with
  | false=>exact ev_neg (by simp) (ev_eq hj1 (by simp))
  | true =>
    obtain ⟨h1,h2⟩:=inK_iff.1 h;refine ev_pos rfl (ev_pos (by omega) (ev_bind0 (impl_lo _) ?_))
    cases loD (bt s 0) with
    | false=>exact ev_eq hj1 (by simp)
    | true=>exact Ev.step (f:=fun k=>impl_isKey.l0 k s ((0:Nat):Int)) (fun k=>by simp [impl_isKey.j0]) (ev_eq (impl_key_loop s h2 _ 0 (by omega) rfl) (by simp))
end Go.Proofs.YtcbhlghofihjcaaGreatDoor.G

namespace Go.Proofs.YtcbhlghofihjcaaGreatDoor.G
open Go.Proofs.YtcbhlghofihjcaaGreatDoor.Opn
open Go.RowKit Go.Proofs.YtcbhlghofihjcaaGreatDoorW.PrintWords Go.Proofs.YtcbhlghofihjcaaGreatDoorW.PrintLast Go.Proofs.YtcbhlghofihjcaaGreatDoorW.PrintMore
open Go.Proofs.YtcbhlghofihjcaaGreatDoor.Gl Go.Proofs.YtcbhlghofihjcaaGreatDoor.Ext
attribute [local go_sem] max2_int min2_int max_two min_two max_three min_three max_four min_four   -- for this text's walks alone
set_option linter.unusedVariables false
set_option linter.unusedSimpArgs false
theorem cells5:Tryz.prog.cellsOf 5=1:=by kernel_rfl
end Go.Proofs.YtcbhlghofihjcaaGreatDoor.G

namespace Go.Proofs.YtcbhlghofihjcaaGreatDoor.G
open Go.RowKit Go.Proofs.YtcbhlghofihjcaaGreatDoorW.PrintWords Go.Proofs.YtcbhlghofihjcaaGreatDoorW.PrintLast Go.Proofs.YtcbhlghofihjcaaGreatDoorW.PrintMore
open Go.Proofs.YtcbhlghofihjcaaGreatDoor.Gl Go.Proofs.YtcbhlghofihjcaaGreatDoor.Ext
attribute [local go_sem] max2_int min2_int max_two min_two max_three min_three max_four min_four   -- for this text's walks alone
set_option linter.unusedVariables false
set_option linter.unusedSimpArgs false
mutual
def spec_l2List.l0:Nat→List (S68)→Int→Option (Bool)
 | 0,_,_=>none
 | k+1,x0,x3=>if x3<(x0.length:Int) then (spec_l2List.j1 k x0 x3 (decide (x3≤4))) else (spec_l2List.j1 k x0 x3 false)
def spec_l2List.j1:Nat→List (S68)→Int→Bool→Option (Bool)
 | 0,_,_,_=>none
 | k+1,x0,x3,BG=>if BG=true then (if 0≤x3 then (if x3<(x0.length:Int) then ((spec_l2Good.f k ((rd_T68 x0 x3).f0) ((rd_T68 x0 x3).f1) ((rd_T68 x0 x3).f2) ((rd_T68 x0 x3).f3)).bind fun Vu=>(if Vu=true then (spec_l2List.l0 k x0 (wrap64 (x3+1))) else (some false))) else (none)) else (none)) else (some (decide ((x0.length:Int)≤4)))
end
def spec_l2List.f (k:Nat) (l0:List (S68)):Option (Bool):=spec_l2List.l0 k l0 0
theorem spec_l2List.mono_l:∀ k,(∀ y0 y1,LeO (spec_l2List.l0 k y0 y1) (spec_l2List.l0 (k+1) y0 y1))∧(∀ y0 y1 y2,LeO (spec_l2List.j1 k y0 y1 y2) (spec_l2List.j1 (k+1) y0 y1 y2))
 | 0=>⟨fun _ _ r h=>by simp [spec_l2List.l0] at h,fun _ _ _ r h=>by simp [spec_l2List.j1] at h⟩
 | k+1=>by
  obtain ⟨ih0,ih1⟩:=spec_l2List.mono_l k;refine ⟨?_,?_⟩
  ·
   intro y0 y1;unfold spec_l2List.l0
   repeat' first
   | (with_reducible exact ih0 _ _)
   | (with_reducible exact ih1 _ _ _)
   | (with_reducible exact spec_l2Good.mono _ _ _ _ _)
   | (with_reducible exact LeO.refl _)
   | (with_reducible exact LeO.none _)
   | (with_reducible refine LeO.ite ?_ ?_)
   | (with_reducible refine LeO.bind ?_ (fun _=>?_))
   | exact ih0 _ _
   | exact ih1 _ _ _
   | exact spec_l2Good.mono _ _ _ _ _
   | exact LeO.none _
   | refine LeO.ite ?_ ?_
   | refine LeO.bind ?_ (fun _=>?_)
  ·
   intro y0 y1 y2;unfold spec_l2List.j1
   repeat' first
   | (with_reducible exact ih0 _ _)
   | (with_reducible exact ih1 _ _ _)
   | (with_reducible exact spec_l2Good.mono _ _ _ _ _)
   | (with_reducible exact LeO.refl _)
   | (with_reducible exact LeO.none _)
   | (with_reducible refine LeO.ite ?_ ?_)
   | (with_reducible refine LeO.bind ?_ (fun _=>?_))
   | exact ih0 _ _
   | exact ih1 _ _ _
   | exact spec_l2Good.mono _ _ _ _ _
   | exact LeO.none _
   | refine LeO.ite ?_ ?_
   | refine LeO.bind ?_ (fun _=>?_)
theorem spec_l2List.mono:∀ a0 k,LeO (spec_l2List.f k a0) (spec_l2List.f (k+1) a0):=by
 intro a0 k;obtain ⟨ih0,ih1⟩:=spec_l2List.mono_l k;unfold spec_l2List.f
 repeat' first
   | (with_reducible exact ih0 _ _)
   | (with_reducible exact ih1 _ _ _)
   | (with_reducible exact spec_l2Good.mono _ _ _ _ _)
   | (with_reducible exact LeO.refl _)
   | (with_reducible exact LeO.none _)
   | (with_reducible refine LeO.ite ?_ ?_)
   | (with_reducible refine LeO.bind ?_ (fun _=>?_))
   | exact ih0 _ _
   | exact ih1 _ _ _
   | exact spec_l2Good.mono _ _ _ _ _
   | exact LeO.none _
   | refine LeO.ite ?_ ?_
   | refine LeO.bind ?_ (fun _=>?_)
theorem spec_l2List.calls (k:Nat) (A0:Option Addr) (c0:Nat) (l0:List (S68)) (r:Bool) (w:World) (dW:Kd.C k68 w A0 l0.length l0) (fT:l0.length≤c0) (h:spec_l2List.f k l0=some r) :
  Calls Tryz.prog 37 #[.slice A0 l0.length c0] w fun e w'=>e=.returned (.bool r)∧Below w.heap.size w w':=by
 have hu68:=Tryz.underlying68;have iQ:=am dW;have zX:=am fT;clear dW fT;have HB:=am (Below.refl w.heap.size w);have H:(spec_l2List.l0 k l0 0)=some r:=h;clear h;have H':=am H;clear H;go_enter Tryz.func37,Tryz.ntmps37;go_wp2
 go_loopg [3] k (fun kq v3 w'=>∃ (aU:Int),v3=.int .i64 aU∧Aside0 (spec_l2List.l0 kq l0 aU=some r)∧Aside0 (kq≤k)∧Aside0 (Below w.heap.size w w'))
 case atStart=>exact ⟨(0),au104,H',⟨Nat.le_refl _⟩,⟨by repeat (first|(with_reducible first|exact HB.out|apply below_alloc|apply pw_below_drewN|apply below_drew1)|exact HB.out)⟩⟩
 case round =>
  clear H';obtain ⟨aU,rfl,HA,HK1,HB⟩:=hrel
  cases gk with
  | zero=>exact absurd HA.out (by simp [spec_l2List.l0])
  | succ k1 =>
   have H:=HA.out;clear HA;simp only [spec_l2List.l0] at H;have jZ:=am H;clear H
   go_upto_region 2 with (fail)
   go_cut [11] (fun Um wc=>∃ (kq:Nat) (xB:Bool),Um=.bool xB∧Aside0 (spec_l2List.j1 kq l0 aU xB=some r)∧Aside0 (kq≤k1)∧Aside0 (Below w.heap.size w wc))
   case first =>
    have H:=jZ.out;clear jZ;by_cases c3:aU<(l0.length:Int)
    ·
     rw [if_pos c3] at H;have c3b0:=dt c3;clear c3
     (first|rw [c3b0]|(simp only [i64_w,i32_w];rw [c3b0])|skip)
     have H':=am H;clear H;go_wp2;go_meet
     case rel=>exact ⟨_,(decide (aU≤4)),au104,H',⟨by have:=HK1.out;first|omega|exact Nat.le_refl _⟩,⟨by repeat (first|(with_reducible first|exact HB.out|apply below_alloc|apply pw_below_drewN|apply below_drew1)|exact HB.out)⟩⟩
    ·
     rw [if_neg c3] at H;have c3b0:=df c3;clear c3
     (first|rw [c3b0]|(simp only [i64_w,i32_w];rw [c3b0])|skip)
     have H':=am H;clear H;go_wp2;go_meet
     case rel=>exact ⟨_,(false),au104,H',⟨by have:=HK1.out;first|omega|exact Nat.le_refl _⟩,⟨by repeat (first|(with_reducible first|exact HB.out|apply below_alloc|apply pw_below_drewN|apply below_drew1)|exact HB.out)⟩⟩
   case rest =>
    clear jZ
    try clear p2
    try clear c3
    try clear c3b0
    obtain ⟨kq,xB,rfl,HA,kA,HB⟩:=hcut
    cases kq with
    | zero=>exact absurd HA.out (by simp [spec_l2List.j1])
    | succ gS =>
     have H:=HA.out;clear HA;simp only [spec_l2List.j1] at H;by_cases c4:xB=true
     ·
      subst c4;replace H:=(if_pos rfl).symm.trans H;by_cases c5:0≤aU
      ·
       rw [if_pos c5] at H;have c5b0:=dt c5;clear c5;by_cases c6:aU<(l0.length:Int)
       ·
        rw [if_pos c6] at H;have c6b0:=dt c6;clear c6;replace H:=obz H;obtain ⟨Vu,kP,H⟩:=H
        try dsimp only at H
        have A7:=am kP;clear kP;by_cases c8:Vu=true
        ·
         subst c8;replace H:=(if_pos rfl).symm.trans H;have H':=am H;clear H;have Ic:0≤(aU:Int):=od au103;have Ie:aU<(l0.length:Int):=od au103;obtain ⟨abR,Og,Oh,Vv,Cs,Ct,Cu,Cv,Cw,Cx⟩:=at_T68 iQ.out aU Ic Ie
         cases Vv
         replace Cs:=bcl HB.out Cs;replace Ct:=bcl HB.out Ct;replace Cu:=bcl HB.out Cu;replace Cv:=bcl HB.out Cv;have Lr:=am Cx;have Ls:=am Cw;clear Cx Cw;replace Ic:=eq_true Ic;replace Ie:=eq_true Ie;go_wp2_with (first|((with_reducible refine gate_callee (f:=59) rfl ?_);refine goesL_ (some 18) rfl rfl Tryz.func59 (by kernel_rfl) rfl #[.agg #[.slice Og ((rd_T68 l0 aU).f0).length Oh,.string ((rd_T68 l0 aU).f1),.string ((rd_T68 l0 aU).f2),.string ((rd_T68 l0 aU).f3)]] rfl au58 ?_;(with_reducible refine (spec_l2Good.calls gS _ _ ((rd_T68 l0 aU).f0) ((rd_T68 l0 aU).f1) ((rd_T68 l0 aU).f2) ((rd_T68 l0 aU).f3) true _ ?aE ?aG A7.out).mono ?_);(case aE=>repeat (first|exact (Kd.C_below Lr.out HB.out)|(with_reducible refine Kd.C_alloc ?_ _)|(with_reducible refine Kd.C_drewN ?_ _)|(with_reducible refine Kd.C_drew ?_)));(case aG=>exact Ls.out);rintro e w9 ⟨rfl,hb⟩;refine ⟨_,rfl,?_⟩;replace HB:=am (below_step au59 hb);(try clear hb)))
         go_roundg gS
         case measure=>have:=HK1.out;have:=kA.out;omega
         case rel=>exact ⟨(wrap64 (aU+1)),au104,H',⟨by have:=HK1.out;have:=kA.out;omega⟩,⟨by repeat (first|(with_reducible first|exact HB.out|apply below_alloc|apply pw_below_drewN|apply below_drew1)|exact HB.out)⟩⟩
        ·
         replace c8:=Bool.eq_false_iff.mpr c8;subst c8;replace H:=(if_neg (show ¬ (false=true) by decide)).symm.trans H;obtain rfl:=ojz H;have Ic:0≤(aU:Int):=od au103;have Ie:aU<(l0.length:Int):=od au103;obtain ⟨abR,Og,Oh,Vv,Cs,Ct,Cu,Cv,Cw,Cx⟩:=at_T68 iQ.out aU Ic Ie
         cases Vv
         replace Cs:=bcl HB.out Cs;replace Ct:=bcl HB.out Ct;replace Cu:=bcl HB.out Cu;replace Cv:=bcl HB.out Cv;have Lr:=am Cx;have Ls:=am Cw;clear Cx Cw;replace Ic:=eq_true Ic;replace Ie:=eq_true Ie;go_wp2_with (first|((with_reducible refine gate_callee (f:=59) rfl ?_);refine goesL_ (some 18) rfl rfl Tryz.func59 (by kernel_rfl) rfl #[.agg #[.slice Og ((rd_T68 l0 aU).f0).length Oh,.string ((rd_T68 l0 aU).f1),.string ((rd_T68 l0 aU).f2),.string ((rd_T68 l0 aU).f3)]] rfl au58 ?_;(with_reducible refine (spec_l2Good.calls gS _ _ ((rd_T68 l0 aU).f0) ((rd_T68 l0 aU).f1) ((rd_T68 l0 aU).f2) ((rd_T68 l0 aU).f3) false _ ?aE ?aG A7.out).mono ?_);(case aE=>repeat (first|exact (Kd.C_below Lr.out HB.out)|(with_reducible refine Kd.C_alloc ?_ _)|(with_reducible refine Kd.C_drewN ?_ _)|(with_reducible refine Kd.C_drew ?_)));(case aG=>exact Ls.out);rintro e ER ⟨rfl,hb⟩;refine ⟨_,rfl,?_⟩;replace HB:=am (below_step au59 hb);(try clear hb)));go_ret;exact ax3
       · rw [if_neg c6] at H;exact absurd H (by simp)
      · rw [if_neg c5] at H;exact absurd H (by simp)
     · replace c4:=Bool.eq_false_iff.mpr c4;subst c4;replace H:=(if_neg (show ¬ (false=true) by decide)).symm.trans H;obtain rfl:=ojz H;go_wp2;go_ret;exact ax3
def impl_areNames_1.f (k:Nat) (bI:List ByteArray) (aA:ByteArray) (aX:ByteArray) (aZ:ByteArray):Option (Bool):=(impl_IsValidName.f k bI aA aX aZ).bind fun Aq=>(some (!Aq))
theorem impl_areNames_1.mono:∀ a0 a1 a2 a3 k,LeO (impl_areNames_1.f k a0 a1 a2 a3) (impl_areNames_1.f (k+1) a0 a1 a2 a3):=by
 intro a0 a1 a2 a3 k;unfold impl_areNames_1.f
 repeat' first
   | (with_reducible exact impl_IsValidName.mono _ _ _ _ _)
   | (with_reducible exact LeO.refl _)
   | (with_reducible exact LeO.none _)
   | (with_reducible refine LeO.ite ?_ ?_)
   | (with_reducible refine LeO.bind ?_ (fun _=>?_))
   | exact impl_IsValidName.mono _ _ _ _ _
   | exact LeO.none _
   | refine LeO.ite ?_ ?_
   | refine LeO.bind ?_ (fun _=>?_)
theorem impl_areNames_1.calls (k:Nat) (fQ:Option Addr) (fR:Nat) (bI:List ByteArray) (aA:ByteArray) (aX:ByteArray) (aZ:ByteArray) (r:Bool) (w:World) {gF1 gF2 gF3:Bool} (hG:GL gF1 gF2 gF3 w) (iR:Kd.C Kd.string w fQ bI.length bI) (iT:bI.length≤fR) (h:impl_areNames_1.f k bI aA aX aZ=some r) :
  Calls Tryz.prog 51 #[.agg #[.slice fQ bI.length fR,.string aA,.string aX,.string aZ]] w fun e w'=>e=.returned (.bool r)∧Below w.heap.size w w':=by
 have HG:=am hG;clear hG;have hu68:=Tryz.underlying68;have kR:=am iR;have pV:=am iT;clear iR iT;have HB:=am (Below.refl w.heap.size w);have H:((impl_IsValidName.f k bI aA aX aZ).bind fun Aq=>(some (!Aq)))=some r:=h;clear h;replace H:=obz H;obtain ⟨Aq,fD,H⟩:=H
 try dsimp only at H
 have A2:=am fD;clear fD;obtain rfl:=ojz H;go_enter Tryz.func51,Tryz.ntmps51;go_wp2_with (first|((with_reducible refine gate_dst (N:=1) rfl ?_);refine box_event ?hg (N:=1) ?hd (cs:=#[.slice fQ bI.length fR,.string aA,.string aX,.string aZ]) (t:=68) ?hr ?_;(case hd=>rfl);(case hg=>rfl);(case hr=>first|(go_simp;done)|(go_simp;rfl));intro abS hg w3 hbox hb;have TU:=am (hbox);have aLG:=am (bsz hg au59);have XH:=am (bsz hg au59);replace HB:=am (below_step au59 hb);clear hb hbox hg;obtain ⟨lZ,mA,mB,mC,mD,mE,mF,mG⟩:=blkc4 TU.out)|((with_reducible refine gate_callee (f:=52) rfl ?_);refine goesL_ (some 4) rfl rfl Tryz.func52 (by kernel_rfl) rfl #[.agg #[.slice fQ bI.length fR,.string aA,.string aX,.string aZ]] rfl au58 ?_;(with_reducible refine (impl_IsValidName.calls (hG:=au6) k _ _ bI aA aX aZ Aq _ ?aE ?aG A2.out).mono ?_);(case aE=>repeat (first|exact (Kd.C_below kR.out HB.out)|(with_reducible refine Kd.C_alloc ?_ _)|(with_reducible refine Kd.C_drewN ?_ _)|(with_reducible refine Kd.C_drew ?_)));(case aG=>exact pV.out);rintro e w5 ⟨rfl,hb⟩;refine ⟨_,rfl,?_⟩;replace TU:=am (blk_below (g:=abS) (by (with_reducible repeat (first|refine blk_drewN ?_ _|refine blk_drew ?_|refine blk_alloc ?_ _));exact TU.out) hb);replace HB:=am (below_step (by repeat (first|(with_reducible first|exact HB.out|apply below_alloc|apply pw_below_drewN|apply below_drew1|refine below_set ?_ XH.out)|exact HB.out)) hb);(try clear hb)));go_ret;exact ⟨by first|rfl|(simp [errW_none,errW_some] <;> rfl)|(simp [*,errW_none,errW_some] <;> rfl),by repeat (first|(with_reducible first|exact HB.out|apply below_alloc|apply pw_below_drewN|apply below_drew1|refine below_set ?_ XH.out)|exact HB.out)⟩
def impl_Name_63_at_51.l0:Nat→List (S68)→Int→Int→Option (Int)
 | 0,_,_,_=>none
 | k+1,x0,x7,x8=>if x8<x7 then (if 0≤x8 then (if x8<(x0.length:Int) then ((impl_areNames_1.f k ((rd_T68 x0 x8).f0) ((rd_T68 x0 x8).f1) ((rd_T68 x0 x8).f2) ((rd_T68 x0 x8).f3)).bind fun tV=>(if tV=true then (some x8) else (impl_Name_63_at_51.l0 k x0 x7 (wrap64 (x8+1))))) else (none)) else (none)) else (some (-1))
def impl_Name_63_at_51.f (k:Nat) (l0:List (S68)) :Option (Int):=impl_Name_63_at_51.l0 k l0 (l0.length:Int) 0
theorem impl_Name_63_at_51.mono_l:∀ k,(∀ y0 y1 y2,LeO (impl_Name_63_at_51.l0 k y0 y1 y2) (impl_Name_63_at_51.l0 (k+1) y0 y1 y2))
 | 0=>fun _ _ _ r h=>by simp [impl_Name_63_at_51.l0] at h
 | k+1=>by
  have ih0:=impl_Name_63_at_51.mono_l k
  ·
   intro y0 y1 y2;unfold impl_Name_63_at_51.l0
   repeat' first
   | (with_reducible exact ih0 _ _ _)
   | (with_reducible exact impl_areNames_1.mono _ _ _ _ _)
   | (with_reducible exact LeO.refl _)
   | (with_reducible exact LeO.none _)
   | (with_reducible refine LeO.ite ?_ ?_)
   | (with_reducible refine LeO.bind ?_ (fun _=>?_))
   | exact ih0 _ _ _
   | exact impl_areNames_1.mono _ _ _ _ _
   | exact LeO.none _
   | refine LeO.ite ?_ ?_
   | refine LeO.bind ?_ (fun _=>?_)
theorem impl_Name_63_at_51.mono:∀ a0 k,LeO (impl_Name_63_at_51.f k a0) (impl_Name_63_at_51.f (k+1) a0):=by
 intro a0 k;have ih0:=impl_Name_63_at_51.mono_l k;unfold impl_Name_63_at_51.f
 repeat' first
   | (with_reducible exact ih0 _ _ _)
   | (with_reducible exact impl_areNames_1.mono _ _ _ _ _)
   | (with_reducible exact LeO.refl _)
   | (with_reducible exact LeO.none _)
   | (with_reducible refine LeO.ite ?_ ?_)
   | (with_reducible refine LeO.bind ?_ (fun _=>?_))
   | exact ih0 _ _ _
   | exact impl_areNames_1.mono _ _ _ _ _
   | exact LeO.none _
   | refine LeO.ite ?_ ?_
   | refine LeO.bind ?_ (fun _=>?_)
theorem impl_Name_63_at_51.calls (k:Nat) (A0:Option Addr) (c0:Nat) (l0:List (S68))  (r:Int) (w:World) {gF1 gF2 gF3:Bool} (hG:GL gF1 gF2 gF3 w) (dW:Kd.C k68 w A0 l0.length l0) (fT:l0.length≤c0) (h:impl_Name_63_at_51.f k l0=some r) :
  Calls Tryz.prog 63 #[.slice A0 l0.length c0,.func (.func 51) #[] #[]] w fun e w'=>e=.returned (.int .i64 r)∧Below w.heap.size w w':=by
 have HG:=am hG;clear hG;have hu68:=Tryz.underlying68;have iQ:=am dW;have zX:=am fT;clear dW fT;have HB:=am (Below.refl w.heap.size w);have H:(impl_Name_63_at_51.l0 k l0 (l0.length:Int) 0)=some r:=h;clear h;have H':=am H;clear H;go_enter Tryz.func63,Tryz.ntmps63;go_wp2
 go_loopg [8] k (fun kq v8 w'=>∃ (eD:Int),v8=.int .i64 eD∧Aside0 (impl_Name_63_at_51.l0 kq l0 (l0.length:Int) eD=some r)∧Aside0 (kq≤k)∧Aside0 (Below w.heap.size w w'))
 case atStart=>exact ⟨(0),au104,H',⟨Nat.le_refl _⟩,⟨by repeat (first|(with_reducible first|exact HB.out|apply below_alloc|apply pw_below_drewN|apply below_drew1)|exact HB.out)⟩⟩
 case round =>
  clear H'
  try clear p2
  obtain ⟨eD,rfl,HA,HK1,HB⟩:=hrel
  cases gk with
  | zero=>exact absurd HA.out (by simp [impl_Name_63_at_51.l0])
  | succ k1 =>
   have H:=HA.out;clear HA;simp only [impl_Name_63_at_51.l0] at H;by_cases c3:eD<(l0.length:Int)
   ·
    rw [if_pos c3] at H;have c3b0:=dt c3;clear c3;by_cases c4:0≤eD
    ·
     rw [if_pos c4] at H;have c4b0:=dt c4;clear c4;by_cases c5:eD<(l0.length:Int)
     ·
      rw [if_pos c5] at H;have c5b0:=dt c5;clear c5;replace H:=obz H;obtain ⟨tV,nF,H⟩:=H
      try dsimp only at H
      have A6:=am nF;clear nF;by_cases c7:tV=true
      ·
       subst c7;replace H:=(if_pos rfl).symm.trans H;obtain rfl:=ojz H;have pX:0≤(eD:Int):=od au103;have pY:eD<(l0.length:Int):=od au103;obtain ⟨Tt,Oi,Oj,Hq,tX,Cy,Cz,CB,CC,CE⟩:=at_T68 iQ.out eD pX pY
       cases Hq
       replace tX:=bcl HB.out tX;replace Cy:=bcl HB.out Cy;replace Cz:=bcl HB.out Cz;replace CB:=bcl HB.out CB;have Lt:=am CE;have Lu:=am CC;clear CE CC;replace pX:=eq_true pX;replace pY:=eq_true pY;go_wp2_with (first|((with_reducible refine gate_tmp (t:=11) rfl ?_);refine goesLt_ (t:=11) (show _=Value.func (.func 51) #[] #[] from rfl) (some 16) rfl rfl Tryz.func51 (by kernel_rfl) rfl #[.agg #[.slice Oi ((rd_T68 l0 eD).f0).length Oj,.string ((rd_T68 l0 eD).f1),.string ((rd_T68 l0 eD).f2),.string ((rd_T68 l0 eD).f3)]] rfl au58 ?_;(with_reducible refine (impl_areNames_1.calls (hG:=au6) k1 _ _ ((rd_T68 l0 eD).f0) ((rd_T68 l0 eD).f1) ((rd_T68 l0 eD).f2) ((rd_T68 l0 eD).f3) true _ ?aE ?aG A6.out).mono ?_);(case aE=>repeat (first|exact (Kd.C_below Lt.out HB.out)|(with_reducible refine Kd.C_alloc ?_ _)|(with_reducible refine Kd.C_drewN ?_ _)|(with_reducible refine Kd.C_drew ?_)));(case aG=>exact Lu.out);rintro e w8 ⟨rfl,hb⟩;refine ⟨_,rfl,?_⟩;replace HB:=am (below_step au59 hb);(try clear hb)));go_ret;exact ax3
      ·
       replace c7:=Bool.eq_false_iff.mpr c7;subst c7;replace H:=(if_neg (show ¬ (false=true) by decide)).symm.trans H;have H':=am H;clear H;have pX:0≤(eD:Int):=od au103;have pY:eD<(l0.length:Int):=od au103;obtain ⟨Tt,Oi,Oj,Hq,tX,Cy,Cz,CB,CC,CE⟩:=at_T68 iQ.out eD pX pY
       cases Hq
       replace tX:=bcl HB.out tX;replace Cy:=bcl HB.out Cy;replace Cz:=bcl HB.out Cz;replace CB:=bcl HB.out CB;have Lt:=am CE;have Lu:=am CC;clear CE CC;replace pX:=eq_true pX;replace pY:=eq_true pY;go_wp2_with (first|((with_reducible refine gate_tmp (t:=11) rfl ?_);refine goesLt_ (t:=11) (show _=Value.func (.func 51) #[] #[] from rfl) (some 16) rfl rfl Tryz.func51 (by kernel_rfl) rfl #[.agg #[.slice Oi ((rd_T68 l0 eD).f0).length Oj,.string ((rd_T68 l0 eD).f1),.string ((rd_T68 l0 eD).f2),.string ((rd_T68 l0 eD).f3)]] rfl au58 ?_;(with_reducible refine (impl_areNames_1.calls (hG:=au6) k1 _ _ ((rd_T68 l0 eD).f0) ((rd_T68 l0 eD).f1) ((rd_T68 l0 eD).f2) ((rd_T68 l0 eD).f3) false _ ?aE ?aG A6.out).mono ?_);(case aE=>repeat (first|exact (Kd.C_below Lt.out HB.out)|(with_reducible refine Kd.C_alloc ?_ _)|(with_reducible refine Kd.C_drewN ?_ _)|(with_reducible refine Kd.C_drew ?_)));(case aG=>exact Lu.out);rintro e w9 ⟨rfl,hb⟩;refine ⟨_,rfl,?_⟩;replace HB:=am (below_step au59 hb);(try clear hb)))
       go_roundg k1
       case measure=>have:=HK1.out;omega
       case rel=>exact ⟨(wrap64 (eD+1)),au104,H',⟨by have:=HK1.out;omega⟩,⟨by repeat (first|(with_reducible first|exact HB.out|apply below_alloc|apply pw_below_drewN|apply below_drew1)|exact HB.out)⟩⟩
     · rw [if_neg c5] at H;exact absurd H (by simp)
    · rw [if_neg c4] at H;exact absurd H (by simp)
   · rw [if_neg c3] at H;have c3b0:=df c3;clear c3;obtain rfl:=ojz H;go_wp2;go_ret;exact ax3
def impl_Name_50_at_51.f (k:Nat) (l0:List (S68)) :Option (Bool):=(impl_Name_63_at_51.f k l0).bind fun nH=>(some (decide (nH ≥ 0)))
theorem impl_Name_50_at_51.mono:∀ a0 k,LeO (impl_Name_50_at_51.f k a0) (impl_Name_50_at_51.f (k+1) a0):=by
 intro a0 k;unfold impl_Name_50_at_51.f
 repeat' first
   | (with_reducible exact impl_Name_63_at_51.mono _ _)
   | (with_reducible exact LeO.refl _)
   | (with_reducible exact LeO.none _)
   | (with_reducible refine LeO.ite ?_ ?_)
   | (with_reducible refine LeO.bind ?_ (fun _=>?_))
   | exact impl_Name_63_at_51.mono _ _
   | exact LeO.none _
   | refine LeO.ite ?_ ?_
   | refine LeO.bind ?_ (fun _=>?_)
theorem impl_Name_50_at_51.calls (k:Nat) (A0:Option Addr) (c0:Nat) (l0:List (S68))  (r:Bool) (w:World) {gF1 gF2 gF3:Bool} (hG:GL gF1 gF2 gF3 w) (dW:Kd.C k68 w A0 l0.length l0) (fT:l0.length≤c0) (h:impl_Name_50_at_51.f k l0=some r) :
  Calls Tryz.prog 50 #[.slice A0 l0.length c0,.func (.func 51) #[] #[]] w fun e w'=>e=.returned (.bool r)∧Below w.heap.size w w':=by
 have HG:=am hG;clear hG;have iQ:=am dW;have zX:=am fT;clear dW fT;have HB:=am (Below.refl w.heap.size w);have H:((impl_Name_63_at_51.f k l0).bind fun nH=>(some (decide (nH ≥ 0))))=some r:=h;clear h;replace H:=obz H;obtain ⟨nH,dR,H⟩:=H
 try dsimp only at H
 have A3:=am dR;clear dR;obtain rfl:=ojz H;go_enter Tryz.func50,Tryz.ntmps50;go_wp2_with (first|((with_reducible refine gate_callee (f:=63) rfl ?_);refine goesL_ (some 7) rfl rfl Tryz.func63 (by kernel_rfl) rfl #[.slice A0 l0.length c0,.func (.func 51) #[] #[]] rfl au58 ?_;(with_reducible refine (impl_Name_63_at_51.calls (hG:=au6) k _ _ l0  nH _ ?aE ?aG A3.out).mono ?_);(case aE=>repeat (first|exact iQ.out|(with_reducible refine Kd.C_alloc ?_ _)|(with_reducible refine Kd.C_drewN ?_ _)|(with_reducible refine Kd.C_drew ?_)));(case aG=>exact zX.out);rintro e w4 ⟨rfl,hb⟩;refine ⟨_,rfl,?_⟩;replace HB:=am (below_step au59 hb);(try clear hb)));go_ret;exact ax3
def impl_areNames.f (k:Nat) (l0:List (S68)):Option (Bool):=if (l0.length:Int)≤4 then ((impl_Name_50_at_51.f k l0).bind fun tW=>(some (!tW))) else (some false)
theorem impl_areNames.mono:∀ a0 k,LeO (impl_areNames.f k a0) (impl_areNames.f (k+1) a0):=by
 intro a0 k;unfold impl_areNames.f
 repeat' first
   | (with_reducible exact impl_Name_50_at_51.mono _ _)
   | (with_reducible exact LeO.refl _)
   | (with_reducible exact LeO.none _)
   | (with_reducible refine LeO.ite ?_ ?_)
   | (with_reducible refine LeO.bind ?_ (fun _=>?_))
   | exact impl_Name_50_at_51.mono _ _
   | exact LeO.none _
   | refine LeO.ite ?_ ?_
   | refine LeO.bind ?_ (fun _=>?_)
theorem impl_areNames.calls (k:Nat) (A0:Option Addr) (c0:Nat) (l0:List (S68)) (r:Bool) (w:World) {gF1 gF2 gF3:Bool} (hG:GL gF1 gF2 gF3 w) (dW:Kd.C k68 w A0 l0.length l0) (fT:l0.length≤c0) (h:impl_areNames.f k l0=some r) :
  Calls Tryz.prog 30 #[.slice A0 l0.length c0] w fun e w'=>e=.returned (.bool r)∧Below w.heap.size w w':=by
 have HG:=am hG;clear hG;have iQ:=am dW;have zX:=am fT;clear dW fT;have HB:=am (Below.refl w.heap.size w);have H:(if (l0.length:Int)≤4 then ((impl_Name_50_at_51.f k l0).bind fun tW=>(some (!tW))) else (some false))=some r:=h;clear h;by_cases c2:(l0.length:Int)≤4
 ·
  rw [if_pos c2] at H;have c2b0:=dt c2;have c2b1:decide (l0.length≤4)=true:=dt (by omega);clear c2;replace H:=obz H;obtain ⟨tW,dR,H⟩:=H
  try dsimp only at H
  have A3:=am dR;clear dR;obtain rfl:=ojz H;go_enter Tryz.func30,Tryz.ntmps30;go_wp2_with (first|(go_at_call 50;(with_reducible refine (impl_Name_50_at_51.calls (hG:=au6) k _ _ l0  tW _ ?aE ?aG A3.out).mono ?_);(case aE=>repeat (first|exact iQ.out|(with_reducible refine Kd.C_alloc ?_ _)|(with_reducible refine Kd.C_drewN ?_ _)|(with_reducible refine Kd.C_drew ?_)));(case aG=>exact zX.out);rintro e w4 ⟨rfl,hb⟩;replace HB:=am (below_step au59 hb);(try clear hb)));go_ret;exact ax3
 · rw [if_neg c2] at H;have c2b0:=df c2;have c2b1:decide (l0.length≤4)=false:=df (by omega);clear c2;obtain rfl:=ojz H;go_enter Tryz.func30,Tryz.ntmps30;go_wp2;go_ret;exact ax3
end Go.Proofs.YtcbhlghofihjcaaGreatDoor.G

namespace Go.Proofs.YtcbhlghofihjcaaGreatDoor.G
open Go.RowKit Go.Proofs.YtcbhlghofihjcaaGreatDoorW.PrintWords Go.Proofs.YtcbhlghofihjcaaGreatDoorW.PrintLast Go.Proofs.YtcbhlghofihjcaaGreatDoor.B Go.Proofs.YtcbhlghofihjcaaGreatDoor.Opn
set_option linter.unusedVariables false
set_option linter.unusedSimpArgs false
theorem rd27 (l:List S68) (i:Nat) (h:i<l.length):rd_T68 l (i:Int)=l[i]:=by simp [rd_T68,h]
def goodS (x:S68):Bool:=goodN x.f0 x.f1 x.f2 x.f3
def okS (x:S68):Prop:=x.f0.length≤4611686018427387904∧x.f1.size≤4294967280
def listD (l:List S68):Bool:=l.all goodS && decide (l.length≤4)
theorem spec_list_loop (l:List S68) (ho:∀ x∈l,okS x) (hl:l.length≤1048576) (d:Nat):∀ i:Nat,i≤l.length→min l.length 5-i=d→i≤5 →
    Ev (fun k=>spec_l2List.l0 k l (i:Int)) (((l.take 5).drop i).all goodS && decide (l.length≤4)):=by
  have stop:∀ i:Nat,Ev (fun k=>spec_l2List.j1 k l (i:Int) false) (decide (l.length≤4)):=fun i=>by
    refine Ev.step (f:=fun _=>some (decide ((l.length:Int)≤4))) (fun k=>by simp [spec_l2List.j1]) (ev_eq (Ev.now _) ?_);rw [decide_eq_decide];omega
  induction d with
  | zero =>
    intro i h1 hd h5;rw [List.drop_of_length_le (by rw [List.length_take];omega)];refine Ev.step (f:=fun k=>spec_l2List.j1 k l (i:Int) false) (fun k=>?_) (ev_eq (stop i) (by simp));simp only [spec_l2List.l0];by_cases c:i<l.length
    · rw [if_pos (by omega),df (by omega)]
    · rw [if_neg (by omega)]
  | succ d ih =>
    intro i h1 hd h5
    have hi:i<l.length:=by omega
    have hw:wrap64 ((i:Int)+1)=((i+1:Nat):Int):=by rw [w64 (by omega) (by omega)];rfl
    have hi':i<(l.take 5).length:=by rw [List.length_take];omega
    have hx:=ho _ (List.getElem_mem hi);rw [List.drop_eq_getElem_cons hi',List.all_cons,List.getElem_take,Bool.and_assoc];refine Ev.step (f:=fun k=>spec_l2List.j1 k l (i:Int) true) (fun k=>?_) (Ev.step (f:=fun k=>(spec_l2Good.f k (l[i]).f0 (l[i]).f1 (l[i]).f2 (l[i]).f3).bind fun agY=>(if agY=true then (spec_l2List.l0 k l ((i+1:Nat):Int)) else (some false))) (fun k=>?_) (Ev.bind (spec_name _ _ _ _ hx.1 hx.2) ?_))
    · simp only [spec_l2List.l0]
      rw [if_pos (by omega),dt (by omega)]
    · simp only [spec_l2List.j1,rd27 l i hi,hw]
      rw [if_pos trivial,if_pos (by omega),if_pos (by omega)]
    · show Ev _ (goodN (l[i]).f0 (l[i]).f1 (l[i]).f2 (l[i]).f3 && _)
      cases goodN (l[i]).f0 (l[i]).f1 (l[i]).f2 (l[i]).f3 with
      | true=>exact ev_pos rfl (ev_eq (ih (i+1) (by omega) (by omega) (by omega)) (by simp))
      | false=>exact ev_neg (by simp) (ev_eq (Ev.now _) (by simp))
theorem spec_list (l:List S68) (ho:∀ x∈l,okS x) (hl:l.length≤1048576):Ev (fun k=>spec_l2List.f k l) (listD l):=by
  have h:=spec_list_loop l ho hl _ 0 (by omega) rfl (by omega);unfold spec_l2List.f listD;refine ev_eq h ?_;rw [List.drop_zero];by_cases c:l.length≤4
  · rw [List.take_of_length_le (by omega)]
  · rw [df c];simp
theorem idxN_loop (l:List S68) (ho:∀ x∈l,okS x) (hl:l.length≤1048576) (d:Nat):∀ i:Nat,i≤l.length→l.length-i=d →
    ∃ v,Ev (fun k=>impl_Name_63_at_51.l0 k l (l.length:Int) (i:Int)) v∧decide (v ≥ 0)=!((l.drop i).all goodS):=by
  induction d with
  | zero =>
    intro i h1 hd;refine ⟨-1,Ev.step (f:=fun _=>some (-1)) (fun k=>?_) (Ev.now _),?_⟩
    · simp only [impl_Name_63_at_51.l0];rw [if_neg (by omega)]
    · rw [List.drop_of_length_le (by omega)];simp
  | succ d ih =>
    intro i h1 hd
    have hi:i<l.length:=by omega
    have hw:wrap64 ((i:Int)+1)=((i+1:Nat):Int):=by rw [w64 (by omega) (by omega)];rfl
    have hx:=ho _ (List.getElem_mem hi);rw [List.drop_eq_getElem_cons hi,List.all_cons]
    have hst:∀ v,Ev (fun k=>(impl_areNames_1.f k (l[i]).f0 (l[i]).f1 (l[i]).f2 (l[i]).f3).bind fun t=>if t=true then some (i:Int) else impl_Name_63_at_51.l0 k l (l.length:Int) ((i+1:Nat):Int)) v→Ev (fun k=>impl_Name_63_at_51.l0 k l (l.length:Int) (i:Int)) v:=by
      intro v hv;refine Ev.step (fun k=>?_) hv;simp only [impl_Name_63_at_51.l0,rd27 l i hi,hw];rw [if_pos (by omega),if_pos (by omega),if_pos (by omega)]
    have hf:Ev (fun k=>impl_areNames_1.f k (l[i]).f0 (l[i]).f1 (l[i]).f2 (l[i]).f3) (!goodS l[i]):=by
      unfold impl_areNames_1.f;exact Ev.bind (impl_valid _ _ _ _ hx.1 hx.2) (Ev.now _)
    cases h:goodS l[i] with
    | true =>
      obtain ⟨v,hv,e⟩:=ih (i+1) (by omega) (by omega);refine ⟨v,hst v (Ev.bind hf (ev_neg (by simp [h]) hv)),?_⟩;rw [e];simp
    | false =>
      refine ⟨(i:Int),hst _ (Ev.bind hf (ev_pos (by simp [h]) (Ev.now _))),?_⟩;simp
theorem impl_list (l:List S68) (ho:∀ x∈l,okS x) (hl:l.length≤1048576):Ev (fun k=>impl_areNames.f k l) (listD l):=by
  unfold impl_areNames.f listD;by_cases c:l.length≤4
  · obtain ⟨v,hv,e⟩:=idxN_loop l ho hl _ 0 (by omega) rfl
    rw [List.drop_zero] at e;refine ev_pos (by omega) (Ev.bind (g:=fun k=>impl_Name_50_at_51.f k l) (a:=decide (v ≥ 0)) ?_ (ev_eq (Ev.now _) ?_))
    · unfold impl_Name_50_at_51.f impl_Name_63_at_51.f
      exact Ev.bind hv (Ev.now _)
    · rw [e];simp [c]
  · exact ev_neg (by omega) (ev_eq (Ev.now _) (by simp [c]))
theorem list_good {l:List S68} (h:listD l=true):l.length≤4∧∀ x∈l,goodS x=true:=by
  unfold listD at h;simp only [Bool.and_eq_true,decide_eq_true_eq] at h;exact ⟨h.2,fun x hx=>List.all_eq_true.1 h.1 x hx⟩
end Go.Proofs.YtcbhlghofihjcaaGreatDoor.G

namespace Go.Proofs.YtcbhlghofihjcaaGreatDoor.G
open Go.RowKit Go.Proofs.YtcbhlghofihjcaaGreatDoorW.PrintWords Go.Proofs.YtcbhlghofihjcaaGreatDoorW.PrintLast Go.Proofs.YtcbhlghofihjcaaGreatDoorW.PrintMore
open Go.Proofs.YtcbhlghofihjcaaGreatDoor.Gl Go.Proofs.YtcbhlghofihjcaaGreatDoor.Ext
attribute [local go_sem] max2_int min2_int max_two min_two max_three min_three max_four min_four   -- for this text's walks alone
set_option linter.unusedVariables false
set_option linter.unusedSimpArgs false
theorem eqA26 (d:Nat) (w:World) (x0 y0:Int) (x1 y1:Int) (x2 y2:Int) (x3 y3:Bool) :
  (Op.equalIn (d+2) 26 (.agg #[.int .i64 x0,.int .i64 x1,.int .i64 x2,.bool x3]) (.agg #[.int .i64 y0,.int .i64 y1,.int .i64 y2,.bool y3])).run Tryz.prog w=.ok (x0 == y0 && (x1 == y1 && (x2 == y2 && (x3 == y3)))) w:=by
 refine eqA_of Tryz.underlying26 (by kernel_rfl) ?_;refine eqf_cons (by rfl) (by go_simp;rfl) (by go_simp;rfl) (by go_simp) ?_;refine eqf_cons (by rfl) (by go_simp;rfl) (by go_simp;rfl) (by go_simp) ?_;refine eqf_cons (by rfl) (by go_simp;rfl) (by go_simp;rfl) (by go_simp) ?_;exact eqf_last (by rfl) (by go_simp;rfl) (by go_simp;rfl) (by go_simp)
def spec_l3Days.j0:Nat→Bool→Option (Int)
 | 0,_=>none
 | k+1,x19=>if x19=true then (some 29) else (some 28)
def spec_l3Days.f (k:Nat) (a0:Int) (a1:Int):Option (Int):=if a1=2 then (if (Int.tmod a0 4)=0 then (if (Int.tmod a0 100)=0 then (spec_l3Days.j0 k ((Int.tmod a0 400) == 0)) else (spec_l3Days.j0 k true)) else (spec_l3Days.j0 k ((Int.tmod a0 400) == 0))) else (if a1=4 then (some 30) else (if a1=6 then (some 30) else (if a1=9 then (some 30) else (if a1=11 then (some 30) else (some 31)))))
theorem spec_l3Days.mono_l:∀ k,(∀ y0,LeO (spec_l3Days.j0 k y0) (spec_l3Days.j0 (k+1) y0))
 | 0=>fun _ r h=>by simp [spec_l3Days.j0] at h
 | k+1=>by
  have ih0:=spec_l3Days.mono_l k
  ·
   intro y0;unfold spec_l3Days.j0
   repeat' first
   | (with_reducible exact ih0 _)
   | (with_reducible exact LeO.refl _)
   | (with_reducible exact LeO.none _)
   | (with_reducible refine LeO.ite ?_ ?_)
   | (with_reducible refine LeO.bind ?_ (fun _=>?_))
   | exact ih0 _
   | exact LeO.none _
   | refine LeO.ite ?_ ?_
   | refine LeO.bind ?_ (fun _=>?_)
theorem spec_l3Days.mono:∀ a0 a1 k,LeO (spec_l3Days.f k a0 a1) (spec_l3Days.f (k+1) a0 a1):=by
 intro a0 a1 k;have ih0:=spec_l3Days.mono_l k;unfold spec_l3Days.f
 repeat' first
   | (with_reducible exact ih0 _)
   | (with_reducible exact LeO.refl _)
   | (with_reducible exact LeO.none _)
   | (with_reducible refine LeO.ite ?_ ?_)
   | (with_reducible refine LeO.bind ?_ (fun _=>?_))
   | exact ih0 _
   | exact LeO.none _
   | refine LeO.ite ?_ ?_
   | refine LeO.bind ?_ (fun _=>?_)
theorem spec_l3Days.calls (k:Nat) (a0:Int) (a1:Int) (r:Int) (w:World) (h:spec_l3Days.f k a0 a1=some r) :
  Calls Tryz.prog 60 #[.int .i64 a0,.int .i64 a1] w fun e w'=>e=.returned (.int .i64 r)∧Drawn0 w w':=by
 have H:(if a1=2 then (if (Int.tmod a0 4)=0 then (if (Int.tmod a0 100)=0 then (spec_l3Days.j0 k ((Int.tmod a0 400) == 0)) else (spec_l3Days.j0 k true)) else (spec_l3Days.j0 k ((Int.tmod a0 400) == 0))) else (if a1=4 then (some 30) else (if a1=6 then (some 30) else (if a1=9 then (some 30) else (if a1=11 then (some 30) else (some 31))))))=some r:=h;clear h;by_cases c3:a1=2
 ·
  rw [if_pos c3] at H;have c3b0:=qt c3;have c3b1:=bfz c3;clear c3;have HC4:=am H;clear H;go_enter Tryz.func60,Tryz.ntmps60
  go_upto_region 2 with (fail)
  go_cut [19] (fun v19 wc=>∃ (kq:Nat) (N7:Bool),v19=.bool N7∧Aside0 (spec_l3Days.j0 kq N7=some r)∧Aside0 (kq≤k)∧Drawn0 w wc)
  case first =>
   have H:=HC4.out;clear HC4;by_cases c5:(Int.tmod a0 4)=0
   ·
    rw [if_pos c5] at H;have c5b0:=qt c5;have c5b1:=bfz c5;clear c5
    (first|rw [c5b0]|(simp only [i64_w,i32_w];rw [c5b0])|skip)
    by_cases c6:(Int.tmod a0 100)=0
    ·
     rw [if_pos c6] at H;have c6b0:=qt c6;have c6b1:=bfz c6;clear c6;have H':=am H;clear H;go_wp2;go_meet
     case rel=>exact ⟨_,(((Int.tmod a0 400) == 0)),au104,H',⟨by first|omega|exact Nat.le_refl _⟩,by repeat (first|exact Drawn0.refl _|apply Drawn0.step)⟩
    ·
     rw [if_neg c6] at H;have c6b0:=qf c6;have c6b1:=bu c6;have H':=am H;clear H;go_wp2;go_meet
     case rel=>exact ⟨_,(true),au104,H',⟨by first|omega|exact Nat.le_refl _⟩,by repeat (first|exact Drawn0.refl _|apply Drawn0.step)⟩
   ·
    rw [if_neg c5] at H;have c5b0:=qf c5;have c5b1:=bu c5
    (first|rw [c5b0]|(simp only [i64_w,i32_w];rw [c5b0])|skip)
    have H':=am H;clear H;go_wp2;go_meet
    case rel=>exact ⟨_,(((Int.tmod a0 400) == 0)),au104,H',⟨by first|omega|exact Nat.le_refl _⟩,by repeat (first|exact Drawn0.refl _|apply Drawn0.step)⟩
  case rest =>
   clear HC4
   try clear p2
   try clear c3
   try clear c3b0
   try clear c3b1
   try clear c5
   try clear c5b0
   try clear c5b1
   try clear c6
   try clear c6b0
   try clear c6b1
   obtain ⟨kq,N7,rfl,HA,HJ3,⟨mc3,rfl⟩⟩:=hcut
   cases kq with
   | zero=>exact absurd HA.out (by simp [spec_l3Days.j0])
   | succ kj3 =>
    have H:=HA.out;clear HA;simp only [spec_l3Days.j0] at H;by_cases c7:N7=true
    · subst c7;replace H:=(if_pos rfl).symm.trans H;obtain rfl:=ojz H;go_wp2;go_ret;exact ax1
    · replace c7:=Bool.eq_false_iff.mpr c7;subst c7;replace H:=(if_neg (show ¬ (false=true) by decide)).symm.trans H;obtain rfl:=ojz H;go_wp2;go_ret;exact ax1
 ·
  rw [if_neg c3] at H;have c3b0:=qf c3;have c3b1:=bu c3;by_cases c8:a1=4
  · rw [if_pos c8] at H;have c8b0:=qt c8;have c8b1:=bfz c8;clear c8;obtain rfl:=ojz H;go_enter Tryz.func60,Tryz.ntmps60;go_wp2;go_ret;exact ax1
  ·
   rw [if_neg c8] at H;have c8b0:=qf c8;have c8b1:=bu c8;by_cases c9:a1=6
   · rw [if_pos c9] at H;have c9b0:=qt c9;have c9b1:=bfz c9;clear c9;obtain rfl:=ojz H;go_enter Tryz.func60,Tryz.ntmps60;go_wp2;go_ret;exact ax1
   ·
    rw [if_neg c9] at H;have c9b0:=qf c9;have c9b1:=bu c9;by_cases c10:a1=9
    · rw [if_pos c10] at H;have c10b0:=qt c10;have c10b1:=bfz c10;clear c10;obtain rfl:=ojz H;go_enter Tryz.func60,Tryz.ntmps60;go_wp2;go_ret;exact ax1
    ·
     rw [if_neg c10] at H;have c10b0:=qf c10;have c10b1:=bu c10;by_cases cO:a1=11
     · rw [if_pos cO] at H;have c11b0:=qt cO;have c11b1:=bfz cO;clear cO;obtain rfl:=ojz H;go_enter Tryz.func60,Tryz.ntmps60;go_wp2;go_ret;exact ax1
     · rw [if_neg cO] at H;have c11b0:=qf cO;have c11b1:=bu cO;obtain rfl:=ojz H;go_enter Tryz.func60,Tryz.ntmps60;go_wp2;go_ret;exact ax1
end Go.Proofs.YtcbhlghofihjcaaGreatDoor.G

namespace Go.Proofs.YtcbhlghofihjcaaGreatDoor.G
open Go.RowKit Go.Proofs.YtcbhlghofihjcaaGreatDoorW.PrintWords Go.Proofs.YtcbhlghofihjcaaGreatDoorW.PrintLast Go.Proofs.YtcbhlghofihjcaaGreatDoorW.PrintMore
open Go.Proofs.YtcbhlghofihjcaaGreatDoor.Gl Go.Proofs.YtcbhlghofihjcaaGreatDoor.Ext
attribute [local go_sem] max2_int min2_int max_two min_two max_three min_three max_four min_four   -- for this text's walks alone
set_option linter.unusedVariables false
set_option linter.unusedSimpArgs false
attribute [local go_sem high] eqA26
def spec_l3Good.j0:Nat→Bool→Int→Int→Int→Bool→Option (Bool)
 | 0,_,_,_,_,_=>none
 | k+1,x7,ZM,Lv,Lw,ZN=>if x7=true then (some false) else (if ZN=true then (if Lv=0 then (some (Lw == 0)) else (some false)) else (if Lv=0 then (some (Lw == 0)) else ((spec_l3Days.f k ZM Lv).bind fun Fc=>((spec_l1In.f Lw 0 Fc).bind fun Ol=>(some Ol)))))
def spec_l3Good.f (k:Nat) (aD:Int) (aA:Int) (aX:Int) (aZ:Bool):Option (Bool):=if (aD == 0 && (aA == 0 && (aX == 0 && (!aZ))))=true then (some true) else ((spec_l1In.f aD 1 2999).bind fun Om=>(if Om=true then ((spec_l1In.f aA 0 12).bind fun Fe=>(spec_l3Good.j0 k (!Fe) aD aA aX aZ)) else (spec_l3Good.j0 k true aD aA aX aZ)))
theorem spec_l3Good.mono_l:∀ k,(∀ y0 y1 y2 y3 y4,LeO (spec_l3Good.j0 k y0 y1 y2 y3 y4) (spec_l3Good.j0 (k+1) y0 y1 y2 y3 y4))
 | 0=>fun _ _ _ _ _ r h=>by simp [spec_l3Good.j0] at h
 | k+1=>by
  have ih0:=spec_l3Good.mono_l k
  ·
   intro y0 y1 y2 y3 y4;unfold spec_l3Good.j0
   repeat' first
   | (with_reducible exact ih0 _ _ _ _ _)
   | (with_reducible exact spec_l3Days.mono _ _ _)
   | (with_reducible exact LeO.refl _)
   | (with_reducible exact LeO.none _)
   | (with_reducible refine LeO.ite ?_ ?_)
   | (with_reducible refine LeO.bind ?_ (fun _=>?_))
   | exact ih0 _ _ _ _ _
   | exact spec_l3Days.mono _ _ _
   | exact LeO.none _
   | refine LeO.ite ?_ ?_
   | refine LeO.bind ?_ (fun _=>?_)
theorem spec_l3Good.mono:∀ a0 a1 a2 a3 k,LeO (spec_l3Good.f k a0 a1 a2 a3) (spec_l3Good.f (k+1) a0 a1 a2 a3):=by
 intro a0 a1 a2 a3 k;have ih0:=spec_l3Good.mono_l k;unfold spec_l3Good.f
 repeat' first
   | (with_reducible exact ih0 _ _ _ _ _)
   | (with_reducible exact spec_l3Days.mono _ _ _)
   | (with_reducible exact LeO.refl _)
   | (with_reducible exact LeO.none _)
   | (with_reducible refine LeO.ite ?_ ?_)
   | (with_reducible refine LeO.bind ?_ (fun _=>?_))
   | exact ih0 _ _ _ _ _
   | exact spec_l3Days.mono _ _ _
   | exact LeO.none _
   | refine LeO.ite ?_ ?_
   | refine LeO.bind ?_ (fun _=>?_)
theorem spec_l3Good.calls (k:Nat) (aD:Int) (aA:Int) (aX:Int) (aZ:Bool) (r:Bool) (w:World) (h:spec_l3Good.f k aD aA aX aZ=some r) :
  Calls Tryz.prog 39 #[.agg #[.int .i64 aD,.int .i64 aA,.int .i64 aX,.bool aZ]] w fun e w'=>e=.returned (.bool r)∧Below w.heap.size w w':=by
 have hu26:=Tryz.underlying26;have HB:=am (Below.refl w.heap.size w);have H:(if (aD == 0 && (aA == 0 && (aX == 0 && (!aZ))))=true then (some true) else ((spec_l1In.f aD 1 2999).bind fun Om=>(if Om=true then ((spec_l1In.f aA 0 12).bind fun Fe=>(spec_l3Good.j0 k (!Fe) aD aA aX aZ)) else (spec_l3Good.j0 k true aD aA aX aZ))))=some r:=h;clear h;by_cases c2:(aD == 0 && (aA == 0 && (aX == 0 && (!aZ))))=true
 ·
  rw [if_pos c2] at H;have c2b0:(aD == 0 && (aA == 0 && (aX == 0 && (!aZ))))=true:=c2
  (try (have c2b1:decide (aD=0 && (aA == 0 && (aX == 0 && (!aZ))))=true:=by simpa using c2))
  (try (have c2b2:(aD == 0 && (aA == 0 && (aX == 0 && (!aZ))))=true:=by simpa using c2))
  clear c2;obtain rfl:=ojz H;go_enter Tryz.func39,Tryz.ntmps39;go_wp2_with (first|((with_reducible refine gate_dst (N:=1) rfl ?_);refine box_event ?hg (N:=1) ?hd (cs:=#[.int .i64 aD,.int .i64 aA,.int .i64 aX,.bool aZ]) (t:=26) ?hr ?_;(case hd=>rfl);(case hg=>rfl);(case hr=>first|(go_simp;done)|(go_simp;rfl));intro Gu hg w3 hbox hb;have iZ:=am (hbox);have K9:=am (bsz hg au59);have B3:=am (bsz hg au59);replace HB:=am (below_step au59 hb);clear hb hbox hg;obtain ⟨lZ,mA,mB,mC,mD,mE,mF,mG⟩:=blkc4 iZ.out))
  repeat (go_quiet (first|((with_reducible refine gate_dst (N:=1) rfl ?_);refine box_event ?hg (N:=1) ?hd (cs:=#[.int .i64 aD,.int .i64 aA,.int .i64 aX,.bool aZ]) (t:=26) ?hr ?_;(case hd=>rfl);(case hg=>rfl);(case hr=>first|(go_simp;done)|(go_simp;rfl));intro Gu hg w3 hbox hb;have iZ:=am (hbox);have K9:=am (bsz hg au59);have B3:=am (bsz hg au59);replace HB:=am (below_step au59 hb);clear hb hbox hg;obtain ⟨lZ,mA,mB,mC,mD,mE,mF,mG⟩:=blkc4 iZ.out));try go_wp2_with (first|((with_reducible refine gate_dst (N:=1) rfl ?_);refine box_event ?hg (N:=1) ?hd (cs:=#[.int .i64 aD,.int .i64 aA,.int .i64 aX,.bool aZ]) (t:=26) ?hr ?_;(case hd=>rfl);(case hg=>rfl);(case hr=>first|(go_simp;done)|(go_simp;rfl));intro Gu hg w3 hbox hb;have iZ:=am (hbox);have K9:=am (bsz hg au59);have B3:=am (bsz hg au59);replace HB:=am (below_step au59 hb);clear hb hbox hg;obtain ⟨lZ,mA,mB,mC,mD,mE,mF,mG⟩:=blkc4 iZ.out)))
  go_ret;exact ax7
 ·
  rw [if_neg c2] at H
  have c2b0:(aD == 0 && (aA == 0 && (aX == 0 && (!aZ))))=false:=by simpa using c2
  (try (have c2b1:decide (aD=0 && (aA == 0 && (aX == 0 && (!aZ))))=false:=by simpa using c2))
  (try (have c2b2:(aD == 0 && (aA == 0 && (aX == 0 && (!aZ))))=false:=by simpa using c2))
  (try (have c2b3:¬ (aD=0 && (aA == 0 && (aX == 0 && (!aZ)))):=by simpa using c2))
  clear c2;have On:=am H;clear H;go_enter Tryz.func39,Tryz.ntmps39
  go_upto_region 3 with (first|((with_reducible refine gate_dst (N:=1) rfl ?_);refine box_event ?hg (N:=1) ?hd (cs:=#[.int .i64 aD,.int .i64 aA,.int .i64 aX,.bool aZ]) (t:=26) ?hr ?_;(case hd=>rfl);(case hg=>rfl);(case hr=>first|(go_simp;done)|(go_simp;rfl));intro Gu hg w6 hbox hb;have iZ:=am (hbox);have K9:=am (bsz hg au59);have B3:=am (bsz hg au59);replace HB:=am (below_step au59 hb);clear hb hbox hg;obtain ⟨pJ,pK,pL,pM,pN,pO,pP,pQ⟩:=blkc4 iZ.out))
  repeat (go_quiet (first|((with_reducible refine gate_dst (N:=1) rfl ?_);refine box_event ?hg (N:=1) ?hd (cs:=#[.int .i64 aD,.int .i64 aA,.int .i64 aX,.bool aZ]) (t:=26) ?hr ?_;(case hd=>rfl);(case hg=>rfl);(case hr=>first|(go_simp;done)|(go_simp;rfl));intro Gu hg w6 hbox hb;have iZ:=am (hbox);have K9:=am (bsz hg au59);have B3:=am (bsz hg au59);replace HB:=am (below_step au59 hb);clear hb hbox hg;obtain ⟨pJ,pK,pL,pM,pN,pO,pP,pQ⟩:=blkc4 iZ.out));go_upto_region 3 with (first|((with_reducible refine gate_dst (N:=1) rfl ?_);refine box_event ?hg (N:=1) ?hd (cs:=#[.int .i64 aD,.int .i64 aA,.int .i64 aX,.bool aZ]) (t:=26) ?hr ?_;(case hd=>rfl);(case hg=>rfl);(case hr=>first|(go_simp;done)|(go_simp;rfl));intro Gu hg w6 hbox hb;have iZ:=am (hbox);have K9:=am (bsz hg au59);have B3:=am (bsz hg au59);replace HB:=am (below_step au59 hb);clear hb hbox hg;obtain ⟨pJ,pK,pL,pM,pN,pO,pP,pQ⟩:=blkc4 iZ.out)))
  (try simp only [Act.put,List.setIfInBounds_toArray,List.set_cons_zero,List.set_cons_succ])
  go_cut [7] (fun v7 wc=>∃ (kq:Nat) (TV:Bool),v7=.bool TV∧Aside0 (spec_l3Good.j0 kq TV aD aA aX aZ=some r)∧Aside0 (kq≤k)∧Aside0 (wc.heap[Gu]?=some (.cells #[.int .i64 aD,.int .i64 aA,.int .i64 aX,.bool aZ] 26 (0,0)))∧Aside0 (Below w.heap.size w wc))
  case first =>
   have H:=On.out;clear On;replace H:=obz H;obtain ⟨Om,wF,H⟩:=H
   try dsimp only at H
   have A8:=am wF;clear wF;by_cases c9:Om=true
   ·
    subst c9;replace H:=(if_pos rfl).symm.trans H;replace H:=obz H;obtain ⟨Fe,kC,H⟩:=H
    try dsimp only at H
    have nO:=am kC;clear kC;have H':=am H;clear H;obtain ⟨jQ,jR,jS,jT,jU,jV,jW,jX⟩:=blkc4 iZ.out;go_wp2_with (first|(go_at_call 36;(with_reducible refine (spec_l1In.calls aD 1 2999 true _ A8.out).mono ?_);rintro e w' ⟨rfl,⟨nd,rfl⟩⟩;(try first|exact ⟨rfl,_,World.drewN_drewN _ _ _⟩|exact ⟨rfl,_,Eq.trans (World.drewN_drewN _ _ _) (congrArg (World.drewN _) (Nat.add_assoc _ _ _))⟩))|(go_at_call 36;(with_reducible refine (spec_l1In.calls aA 0 12 Fe _ nO.out).mono ?_);rintro e w' ⟨rfl,⟨nd,rfl⟩⟩;(try first|exact ⟨rfl,_,World.drewN_drewN _ _ _⟩|exact ⟨rfl,_,Eq.trans (World.drewN_drewN _ _ _) (congrArg (World.drewN _) (Nat.add_assoc _ _ _))⟩)))
    repeat (go_quiet (first|(go_at_call 36;(with_reducible refine (spec_l1In.calls aD 1 2999 true _ A8.out).mono ?_);rintro e w' ⟨rfl,⟨nd,rfl⟩⟩;(try first|exact ⟨rfl,_,World.drewN_drewN _ _ _⟩|exact ⟨rfl,_,Eq.trans (World.drewN_drewN _ _ _) (congrArg (World.drewN _) (Nat.add_assoc _ _ _))⟩))|(go_at_call 36;(with_reducible refine (spec_l1In.calls aA 0 12 Fe _ nO.out).mono ?_);rintro e w' ⟨rfl,⟨nd,rfl⟩⟩;(try first|exact ⟨rfl,_,World.drewN_drewN _ _ _⟩|exact ⟨rfl,_,Eq.trans (World.drewN_drewN _ _ _) (congrArg (World.drewN _) (Nat.add_assoc _ _ _))⟩)));try go_wp2_with (first|(go_at_call 36;(with_reducible refine (spec_l1In.calls aD 1 2999 true _ A8.out).mono ?_);rintro e w' ⟨rfl,⟨nd,rfl⟩⟩;(try first|exact ⟨rfl,_,World.drewN_drewN _ _ _⟩|exact ⟨rfl,_,Eq.trans (World.drewN_drewN _ _ _) (congrArg (World.drewN _) (Nat.add_assoc _ _ _))⟩))|(go_at_call 36;(with_reducible refine (spec_l1In.calls aA 0 12 Fe _ nO.out).mono ?_);rintro e w' ⟨rfl,⟨nd,rfl⟩⟩;(try first|exact ⟨rfl,_,World.drewN_drewN _ _ _⟩|exact ⟨rfl,_,Eq.trans (World.drewN_drewN _ _ _) (congrArg (World.drewN _) (Nat.add_assoc _ _ _))⟩))))
    go_meet
    case rel=>exact ⟨_,(!Fe),au104,H',⟨by first|omega|exact Nat.le_refl _⟩,⟨by (with_reducible repeat (first|refine blk_drewN ?_ _|refine blk_drew ?_|refine blk_alloc ?_ _));exact iZ.out⟩,⟨by repeat (first|(with_reducible first|exact HB.out|apply below_alloc|apply pw_below_drewN|apply below_drew1|refine below_set ?_ B3.out)|exact HB.out)⟩⟩
   ·
    replace c9:=Bool.eq_false_iff.mpr c9;subst c9;replace H:=(if_neg (show ¬ (false=true) by decide)).symm.trans H;have H':=am H;clear H;obtain ⟨oH,oI,oJ,oK,oL,oM,oN,oO⟩:=blkc4 iZ.out;go_wp2_with (first|(go_at_call 36;(with_reducible refine (spec_l1In.calls aD 1 2999 false _ A8.out).mono ?_);rintro e w' ⟨rfl,⟨nd,rfl⟩⟩;(try first|exact ⟨rfl,_,World.drewN_drewN _ _ _⟩|exact ⟨rfl,_,Eq.trans (World.drewN_drewN _ _ _) (congrArg (World.drewN _) (Nat.add_assoc _ _ _))⟩)))
    repeat (go_quiet (first|(go_at_call 36;(with_reducible refine (spec_l1In.calls aD 1 2999 false _ A8.out).mono ?_);rintro e w' ⟨rfl,⟨nd,rfl⟩⟩;(try first|exact ⟨rfl,_,World.drewN_drewN _ _ _⟩|exact ⟨rfl,_,Eq.trans (World.drewN_drewN _ _ _) (congrArg (World.drewN _) (Nat.add_assoc _ _ _))⟩)));try go_wp2_with (first|(go_at_call 36;(with_reducible refine (spec_l1In.calls aD 1 2999 false _ A8.out).mono ?_);rintro e w' ⟨rfl,⟨nd,rfl⟩⟩;(try first|exact ⟨rfl,_,World.drewN_drewN _ _ _⟩|exact ⟨rfl,_,Eq.trans (World.drewN_drewN _ _ _) (congrArg (World.drewN _) (Nat.add_assoc _ _ _))⟩))))
    go_meet
    case rel=>exact ⟨_,(true),au104,H',⟨by first|omega|exact Nat.le_refl _⟩,⟨by (with_reducible repeat (first|refine blk_drewN ?_ _|refine blk_drew ?_|refine blk_alloc ?_ _));exact iZ.out⟩,⟨by repeat (first|(with_reducible first|exact HB.out|apply below_alloc|apply pw_below_drewN|apply below_drew1|refine below_set ?_ B3.out)|exact HB.out)⟩⟩
  case rest =>
   clear On
   try clear c2
   try clear c2b0
   try clear c2b1
   try clear c2b2
   try clear p2
   try clear c3
   try clear c9
   try clear jQ jR jS jT jU jV jW jX
   try clear oH oI oJ oK oL oM oN oO
   try clear lZ mA mB mC mD mE mF mG
   try clear pJ pK pL pM pN pO pP pQ
   obtain ⟨kq,TV,rfl,HA,HJ4,iZ,HB⟩:=hcut
   cases kq with
   | zero=>exact absurd HA.out (by simp [spec_l3Good.j0])
   | succ XI =>
    have H:=HA.out;clear HA;simp only [spec_l3Good.j0] at H;by_cases dE:TV=true
    ·
     subst dE;replace H:=(if_pos rfl).symm.trans H;obtain rfl:=ojz H;go_wp2
     repeat (go_quiet (fail);try go_wp2)
     go_ret;exact ax7
    ·
     replace dE:=Bool.eq_false_iff.mpr dE;subst dE;replace H:=(if_neg (show ¬ (false=true) by decide)).symm.trans H;by_cases eY:aZ=true
     ·
      subst eY;replace H:=(if_pos rfl).symm.trans H;by_cases dJ:aA=0
      ·
       rw [if_pos dJ] at H;have c15b0:=qt dJ;have c15b1:=bfz dJ;clear dJ;obtain rfl:=ojz H;obtain ⟨Ck,Cl,Cm,Cn,Co,Cp,Cq,Cr⟩:=blkc4 iZ.out;go_wp2
       repeat (go_quiet (fail);try go_wp2)
       go_ret;exact ax7
      ·
       rw [if_neg dJ] at H;have c15b0:=qf dJ;have c15b1:=bu dJ;obtain rfl:=ojz H;obtain ⟨lI,lJ,lK,lL,lM,lN,lO,lP⟩:=blkc4 iZ.out;go_wp2
       repeat (go_quiet (fail);try go_wp2)
       go_ret;exact ax7
     ·
      replace eY:=Bool.eq_false_iff.mpr eY;subst eY;replace H:=(if_neg (show ¬ (false=true) by decide)).symm.trans H;by_cases hZ:aA=0
      ·
       rw [if_pos hZ] at H;have c18b0:=qt hZ;have c18b1:=bfz hZ;clear hZ;obtain rfl:=ojz H;obtain ⟨xY,xZ,yA,yB,yC,yD,yE,yF⟩:=blkc4 iZ.out;go_wp2
       repeat (go_quiet (fail);try go_wp2)
       go_ret;exact ax7
      ·
       rw [if_neg hZ] at H;have c18b0:=qf hZ;have c18b1:=bu hZ;replace H:=obz H;obtain ⟨Fc,Ff,H⟩:=H
       try dsimp only at H
       have fD:=am Ff;clear Ff;replace H:=obz H;obtain ⟨Ol,sP,H⟩:=H
       try dsimp only at H
       have BQ:=am sP;clear sP;obtain rfl:=ojz H;obtain ⟨uS,uT,uU,uV,uW,uX,uY,uZ⟩:=blkc4 iZ.out;go_wp2_with (first|(go_at_call 60;(with_reducible refine (spec_l3Days.calls XI aD aA Fc _ fD.out).mono ?_);rintro e w' ⟨rfl,⟨nd,rfl⟩⟩;(try first|exact ⟨rfl,_,World.drewN_drewN _ _ _⟩|exact ⟨rfl,_,Eq.trans (World.drewN_drewN _ _ _) (congrArg (World.drewN _) (Nat.add_assoc _ _ _))⟩))|(go_at_call 36;(with_reducible refine (spec_l1In.calls aX 0 Fc Ol _ BQ.out).mono ?_);rintro e w' ⟨rfl,⟨nd,rfl⟩⟩;(try first|exact ⟨rfl,_,World.drewN_drewN _ _ _⟩|exact ⟨rfl,_,Eq.trans (World.drewN_drewN _ _ _) (congrArg (World.drewN _) (Nat.add_assoc _ _ _))⟩)))
       repeat (go_quiet (first|(go_at_call 60;(with_reducible refine (spec_l3Days.calls XI aD aA Fc _ fD.out).mono ?_);rintro e w' ⟨rfl,⟨nd,rfl⟩⟩;(try first|exact ⟨rfl,_,World.drewN_drewN _ _ _⟩|exact ⟨rfl,_,Eq.trans (World.drewN_drewN _ _ _) (congrArg (World.drewN _) (Nat.add_assoc _ _ _))⟩))|(go_at_call 36;(with_reducible refine (spec_l1In.calls aX 0 Fc Ol _ BQ.out).mono ?_);rintro e w' ⟨rfl,⟨nd,rfl⟩⟩;(try first|exact ⟨rfl,_,World.drewN_drewN _ _ _⟩|exact ⟨rfl,_,Eq.trans (World.drewN_drewN _ _ _) (congrArg (World.drewN _) (Nat.add_assoc _ _ _))⟩)));try go_wp2_with (first|(go_at_call 60;(with_reducible refine (spec_l3Days.calls XI aD aA Fc _ fD.out).mono ?_);rintro e w' ⟨rfl,⟨nd,rfl⟩⟩;(try first|exact ⟨rfl,_,World.drewN_drewN _ _ _⟩|exact ⟨rfl,_,Eq.trans (World.drewN_drewN _ _ _) (congrArg (World.drewN _) (Nat.add_assoc _ _ _))⟩))|(go_at_call 36;(with_reducible refine (spec_l1In.calls aX 0 Fc Ol _ BQ.out).mono ?_);rintro e w' ⟨rfl,⟨nd,rfl⟩⟩;(try first|exact ⟨rfl,_,World.drewN_drewN _ _ _⟩|exact ⟨rfl,_,Eq.trans (World.drewN_drewN _ _ _) (congrArg (World.drewN _) (Nat.add_assoc _ _ _))⟩))))
       go_ret;exact ax7
end Go.Proofs.YtcbhlghofihjcaaGreatDoor.G

namespace Go.Proofs.YtcbhlghofihjcaaGreatDoor.G
open Go.RowKit Go.Proofs.YtcbhlghofihjcaaGreatDoorW.PrintWords Go.Proofs.YtcbhlghofihjcaaGreatDoorW.PrintLast Go.Proofs.YtcbhlghofihjcaaGreatDoorW.PrintMore
open Go.Proofs.YtcbhlghofihjcaaGreatDoor.Gl Go.Proofs.YtcbhlghofihjcaaGreatDoor.Ext
attribute [local go_sem] max2_int min2_int max_two min_two max_three min_three max_four min_four   -- for this text's walks alone
set_option linter.unusedVariables false
set_option linter.unusedSimpArgs false
def impl_daysInMonth.f (a0:Int) (a1:Int):Option (Int):=if a1=2 then (if (Int.tmod a0 4)=0 then (if (Int.tmod a0 100)=0 then (if (Int.tmod a0 400)=0 then (some 29) else (some 28)) else (some 29)) else (some 28)) else (if a1=4 then (some 30) else (if a1=6 then (some 30) else (if a1=9 then (some 30) else (if a1=11 then (some 30) else (some 31)))))
theorem impl_daysInMonth.calls (a0:Int) (a1:Int) (r:Int) (w:World) (h:impl_daysInMonth.f a0 a1=some r) :
  Calls Tryz.prog 53 #[.int .i64 a0,.int .i64 a1] w fun e w'=>e=.returned (.int .i64 r)∧Drawn0 w w':=by
 have H:(if a1=2 then (if (Int.tmod a0 4)=0 then (if (Int.tmod a0 100)=0 then (if (Int.tmod a0 400)=0 then (some 29) else (some 28)) else (some 29)) else (some 28)) else (if a1=4 then (some 30) else (if a1=6 then (some 30) else (if a1=9 then (some 30) else (if a1=11 then (some 30) else (some 31))))))=some r:=h;clear h;by_cases c3:a1=2
 ·
  rw [if_pos c3] at H;have c3b0:=qt c3;have c3b1:=bfz c3;clear c3;by_cases c4:(Int.tmod a0 4)=0
  ·
   rw [if_pos c4] at H;have c4b0:=qt c4;have c4b1:=bfz c4;clear c4;by_cases c5:(Int.tmod a0 100)=0
   ·
    rw [if_pos c5] at H;have c5b0:=qt c5;have c5b1:=bfz c5;clear c5;by_cases c6:(Int.tmod a0 400)=0
    · rw [if_pos c6] at H;have c6b0:=qt c6;have c6b1:=bfz c6;clear c6;obtain rfl:=ojz H;go_enter Tryz.func53,Tryz.ntmps53;go_wp2;go_ret;exact ax1
    · rw [if_neg c6] at H;have c6b0:=qf c6;have c6b1:=bu c6;obtain rfl:=ojz H;go_enter Tryz.func53,Tryz.ntmps53;go_wp2;go_ret;exact ax1
   · rw [if_neg c5] at H;have c5b0:=qf c5;have c5b1:=bu c5;obtain rfl:=ojz H;go_enter Tryz.func53,Tryz.ntmps53;go_wp2;go_ret;exact ax1
  · rw [if_neg c4] at H;have c4b0:=qf c4;have c4b1:=bu c4;obtain rfl:=ojz H;go_enter Tryz.func53,Tryz.ntmps53;go_wp2;go_ret;exact ax1
 ·
  rw [if_neg c3] at H;have c3b0:=qf c3;have c3b1:=bu c3;by_cases c7:a1=4
  · rw [if_pos c7] at H;have c7b0:=qt c7;have c7b1:=bfz c7;clear c7;obtain rfl:=ojz H;go_enter Tryz.func53,Tryz.ntmps53;go_wp2;go_ret;exact ax1
  ·
   rw [if_neg c7] at H;have c7b0:=qf c7;have c7b1:=bu c7;by_cases c8:a1=6
   · rw [if_pos c8] at H;have c8b0:=qt c8;have c8b1:=bfz c8;clear c8;obtain rfl:=ojz H;go_enter Tryz.func53,Tryz.ntmps53;go_wp2;go_ret;exact ax1
   ·
    rw [if_neg c8] at H;have c8b0:=qf c8;have c8b1:=bu c8;by_cases c9:a1=9
    · rw [if_pos c9] at H;have c9b0:=qt c9;have c9b1:=bfz c9;clear c9;obtain rfl:=ojz H;go_enter Tryz.func53,Tryz.ntmps53;go_wp2;go_ret;exact ax1
    ·
     rw [if_neg c9] at H;have c9b0:=qf c9;have c9b1:=bu c9;by_cases c10:a1=11
     · rw [if_pos c10] at H;have c10b0:=qt c10;have c10b1:=bfz c10;clear c10;obtain rfl:=ojz H;go_enter Tryz.func53,Tryz.ntmps53;go_wp2;go_ret;exact ax1
     · rw [if_neg c10] at H;have c10b0:=qf c10;have c10b1:=bu c10;obtain rfl:=ojz H;go_enter Tryz.func53,Tryz.ntmps53;go_wp2;go_ret;exact ax1
end Go.Proofs.YtcbhlghofihjcaaGreatDoor.G

namespace Go.Proofs.YtcbhlghofihjcaaGreatDoor.G
open Go.RowKit Go.Proofs.YtcbhlghofihjcaaGreatDoorW.PrintWords Go.Proofs.YtcbhlghofihjcaaGreatDoorW.PrintLast Go.Proofs.YtcbhlghofihjcaaGreatDoorW.PrintMore
open Go.Proofs.YtcbhlghofihjcaaGreatDoor.Gl Go.Proofs.YtcbhlghofihjcaaGreatDoor.Ext
attribute [local go_sem] max2_int min2_int max_two min_two max_three min_three max_four min_four   -- for this text's walks alone
set_option linter.unusedVariables false
set_option linter.unusedSimpArgs false
attribute [local go_sem high] eqA26
def impl_IsValidDate.j0:Nat→Bool→Int→Int→Int→Bool→Option (Bool)
 | 0,_,_,_,_,_=>none
 | k+1,x24,ZO,Rp,Rq,axY=>if x24=true then (some false) else (if Rp=0 then (some (Rq == 0)) else ((impl_daysInMonth.f ZO Rp).bind fun kU=>((impl_inside.f Rq 0 kU).bind fun pW=>(some pW))))
def impl_IsValidDate.f (k:Nat) (aD:Int) (aA:Int) (aX:Int) (aZ:Bool):Option (Bool):=if (aD == 0 && (aA == 0 && (aX == 0 && (!aZ))))=true then (some true) else ((impl_inside.f aD 1 2999).bind fun tU=>(if tU=true then ((impl_inside.f aA 0 12).bind fun zW=>(if zW=true then (if aZ=true then (impl_IsValidDate.j0 k (aA != 0) aD aA aX aZ) else (impl_IsValidDate.j0 k false aD aA aX aZ)) else (impl_IsValidDate.j0 k true aD aA aX aZ))) else (impl_IsValidDate.j0 k true aD aA aX aZ)))
theorem impl_IsValidDate.mono_l:∀ k,(∀ y0 y1 y2 y3 y4,LeO (impl_IsValidDate.j0 k y0 y1 y2 y3 y4) (impl_IsValidDate.j0 (k+1) y0 y1 y2 y3 y4))
 | 0=>fun _ _ _ _ _ r h=>by simp [impl_IsValidDate.j0] at h
 | k+1=>by
  have ih0:=impl_IsValidDate.mono_l k
  ·
   intro y0 y1 y2 y3 y4;unfold impl_IsValidDate.j0
   repeat' first
   | (with_reducible exact ih0 _ _ _ _ _)
   | (with_reducible exact LeO.refl _)
   | (with_reducible exact LeO.none _)
   | (with_reducible refine LeO.ite ?_ ?_)
   | (with_reducible refine LeO.bind ?_ (fun _=>?_))
   | exact ih0 _ _ _ _ _
   | exact LeO.none _
   | refine LeO.ite ?_ ?_
   | refine LeO.bind ?_ (fun _=>?_)
theorem impl_IsValidDate.mono:∀ a0 a1 a2 a3 k,LeO (impl_IsValidDate.f k a0 a1 a2 a3) (impl_IsValidDate.f (k+1) a0 a1 a2 a3):=by
 intro a0 a1 a2 a3 k;have ih0:=impl_IsValidDate.mono_l k;unfold impl_IsValidDate.f
 repeat' first
   | (with_reducible exact ih0 _ _ _ _ _)
   | (with_reducible exact LeO.refl _)
   | (with_reducible exact LeO.none _)
   | (with_reducible refine LeO.ite ?_ ?_)
   | (with_reducible refine LeO.bind ?_ (fun _=>?_))
   | exact ih0 _ _ _ _ _
   | exact LeO.none _
   | refine LeO.ite ?_ ?_
   | refine LeO.bind ?_ (fun _=>?_)
theorem impl_IsValidDate.L0 {P:Prop} (h:P:=by
  go_wp2_with (first|(go_at_call 32;(with_reducible refine (impl_inside.calls aD 1 2999 _ _ A8.out).mono ?_);rintro e w' ⟨rfl,⟨nd,rfl⟩⟩;(try first|exact ⟨rfl,_,World.drewN_drewN _ _ _⟩|exact ⟨rfl,_,Eq.trans (World.drewN_drewN _ _ _) (congrArg (World.drewN _) (Nat.add_assoc _ _ _))⟩))|(go_at_call 32;(with_reducible refine (impl_inside.calls aA 0 12 _ _ nO.out).mono ?_);rintro e w' ⟨rfl,⟨nd,rfl⟩⟩;(try first|exact ⟨rfl,_,World.drewN_drewN _ _ _⟩|exact ⟨rfl,_,Eq.trans (World.drewN_drewN _ _ _) (congrArg (World.drewN _) (Nat.add_assoc _ _ _))⟩)))
  repeat (go_quiet (first|(go_at_call 32;(with_reducible refine (impl_inside.calls aD 1 2999 _ _ A8.out).mono ?_);rintro e w' ⟨rfl,⟨nd,rfl⟩⟩;(try first|exact ⟨rfl,_,World.drewN_drewN _ _ _⟩|exact ⟨rfl,_,Eq.trans (World.drewN_drewN _ _ _) (congrArg (World.drewN _) (Nat.add_assoc _ _ _))⟩))|(go_at_call 32;(with_reducible refine (impl_inside.calls aA 0 12 _ _ nO.out).mono ?_);rintro e w' ⟨rfl,⟨nd,rfl⟩⟩;(try first|exact ⟨rfl,_,World.drewN_drewN _ _ _⟩|exact ⟨rfl,_,Eq.trans (World.drewN_drewN _ _ _) (congrArg (World.drewN _) (Nat.add_assoc _ _ _))⟩)));try go_wp2_with (first|(go_at_call 32;(with_reducible refine (impl_inside.calls aD 1 2999 _ _ A8.out).mono ?_);rintro e w' ⟨rfl,⟨nd,rfl⟩⟩;(try first|exact ⟨rfl,_,World.drewN_drewN _ _ _⟩|exact ⟨rfl,_,Eq.trans (World.drewN_drewN _ _ _) (congrArg (World.drewN _) (Nat.add_assoc _ _ _))⟩))|(go_at_call 32;(with_reducible refine (impl_inside.calls aA 0 12 _ _ nO.out).mono ?_);rintro e w' ⟨rfl,⟨nd,rfl⟩⟩;(try first|exact ⟨rfl,_,World.drewN_drewN _ _ _⟩|exact ⟨rfl,_,Eq.trans (World.drewN_drewN _ _ _) (congrArg (World.drewN _) (Nat.add_assoc _ _ _))⟩))))
  go_meet
  case rel=>first|(exact ⟨_,((aA != 0)),au104,H',⟨by first|omega|exact Nat.le_refl _⟩,⟨by (with_reducible repeat (first|refine blk_drewN ?_ _|refine blk_drew ?_|refine blk_alloc ?_ _));exact iC.out⟩,⟨by repeat (first|(with_reducible first|exact HB.out|apply below_alloc|apply pw_below_drewN|apply below_drew1|refine below_set ?_ wA.out)|exact HB.out)⟩⟩)|(exact ⟨_,(false),au104,H',⟨by first|omega|exact Nat.le_refl _⟩,⟨by (with_reducible repeat (first|refine blk_drewN ?_ _|refine blk_drew ?_|refine blk_alloc ?_ _));exact iC.out⟩,⟨by repeat (first|(with_reducible first|exact HB.out|apply below_alloc|apply pw_below_drewN|apply below_drew1|refine below_set ?_ wA.out)|exact HB.out)⟩⟩)|(exact ⟨_,(true),au104,H',⟨by first|omega|exact Nat.le_refl _⟩,⟨by (with_reducible repeat (first|refine blk_drewN ?_ _|refine blk_drew ?_|refine blk_alloc ?_ _));exact iC.out⟩,⟨by repeat (first|(with_reducible first|exact HB.out|apply below_alloc|apply pw_below_drewN|apply below_drew1|refine below_set ?_ wA.out)|exact HB.out)⟩⟩)):P:=h
theorem impl_IsValidDate.calls (k:Nat) (aD:Int) (aA:Int) (aX:Int) (aZ:Bool) (r:Bool) (w:World) (h:impl_IsValidDate.f k aD aA aX aZ=some r) :
  Calls Tryz.prog 31 #[.agg #[.int .i64 aD,.int .i64 aA,.int .i64 aX,.bool aZ]] w fun e w'=>e=.returned (.bool r)∧Below w.heap.size w w':=by
 have hu26:=Tryz.underlying26;have HB:=am (Below.refl w.heap.size w);have H:(if (aD == 0 && (aA == 0 && (aX == 0 && (!aZ))))=true then (some true) else ((impl_inside.f aD 1 2999).bind fun tU=>(if tU=true then ((impl_inside.f aA 0 12).bind fun zW=>(if zW=true then (if aZ=true then (impl_IsValidDate.j0 k (aA != 0) aD aA aX aZ) else (impl_IsValidDate.j0 k false aD aA aX aZ)) else (impl_IsValidDate.j0 k true aD aA aX aZ))) else (impl_IsValidDate.j0 k true aD aA aX aZ))))=some r:=h;clear h;by_cases c2:(aD == 0 && (aA == 0 && (aX == 0 && (!aZ))))=true
 ·
  rw [if_pos c2] at H;have c2b0:(aD == 0 && (aA == 0 && (aX == 0 && (!aZ))))=true:=c2
  (try (have c2b1:decide (aD=0 && (aA == 0 && (aX == 0 && (!aZ))))=true:=by simpa using c2))
  (try (have c2b2:(aD == 0 && (aA == 0 && (aX == 0 && (!aZ))))=true:=by simpa using c2))
  clear c2;obtain rfl:=ojz H;go_enter Tryz.func31,Tryz.ntmps31;go_wp2_with (first|((with_reducible refine gate_dst (N:=1) rfl ?_);refine box_event ?hg (N:=1) ?hd (cs:=#[.int .i64 aD,.int .i64 aA,.int .i64 aX,.bool aZ]) (t:=26) ?hr ?_;(case hd=>rfl);(case hg=>rfl);(case hr=>first|(go_simp;done)|(go_simp;rfl));intro Gv hg w3 hbox hb;have iC:=am (hbox);have Ka:=am (bsz hg au59);have wA:=am (bsz hg au59);replace HB:=am (below_step au59 hb);clear hb hbox hg;obtain ⟨lZ,mA,mB,mC,mD,mE,mF,mG⟩:=blkc4 iC.out))
  repeat (go_quiet (first|((with_reducible refine gate_dst (N:=1) rfl ?_);refine box_event ?hg (N:=1) ?hd (cs:=#[.int .i64 aD,.int .i64 aA,.int .i64 aX,.bool aZ]) (t:=26) ?hr ?_;(case hd=>rfl);(case hg=>rfl);(case hr=>first|(go_simp;done)|(go_simp;rfl));intro Gv hg w3 hbox hb;have iC:=am (hbox);have Ka:=am (bsz hg au59);have wA:=am (bsz hg au59);replace HB:=am (below_step au59 hb);clear hb hbox hg;obtain ⟨lZ,mA,mB,mC,mD,mE,mF,mG⟩:=blkc4 iC.out));try go_wp2_with (first|((with_reducible refine gate_dst (N:=1) rfl ?_);refine box_event ?hg (N:=1) ?hd (cs:=#[.int .i64 aD,.int .i64 aA,.int .i64 aX,.bool aZ]) (t:=26) ?hr ?_;(case hd=>rfl);(case hg=>rfl);(case hr=>first|(go_simp;done)|(go_simp;rfl));intro Gv hg w3 hbox hb;have iC:=am (hbox);have Ka:=am (bsz hg au59);have wA:=am (bsz hg au59);replace HB:=am (below_step au59 hb);clear hb hbox hg;obtain ⟨lZ,mA,mB,mC,mD,mE,mF,mG⟩:=blkc4 iC.out)))
  go_ret;exact ax8
 ·
  rw [if_neg c2] at H
  have c2b0:(aD == 0 && (aA == 0 && (aX == 0 && (!aZ))))=false:=by simpa using c2
  (try (have c2b1:decide (aD=0 && (aA == 0 && (aX == 0 && (!aZ))))=false:=by simpa using c2))
  (try (have c2b2:(aD == 0 && (aA == 0 && (aX == 0 && (!aZ))))=false:=by simpa using c2))
  (try (have c2b3:¬ (aD=0 && (aA == 0 && (aX == 0 && (!aZ)))):=by simpa using c2))
  clear c2;have On:=am H;clear H;go_enter Tryz.func31,Tryz.ntmps31
  go_upto_region 3 with (first|((with_reducible refine gate_dst (N:=1) rfl ?_);refine box_event ?hg (N:=1) ?hd (cs:=#[.int .i64 aD,.int .i64 aA,.int .i64 aX,.bool aZ]) (t:=26) ?hr ?_;(case hd=>rfl);(case hg=>rfl);(case hr=>first|(go_simp;done)|(go_simp;rfl));intro Gv hg w6 hbox hb;have iC:=am (hbox);have Ka:=am (bsz hg au59);have wA:=am (bsz hg au59);replace HB:=am (below_step au59 hb);clear hb hbox hg;obtain ⟨pJ,pK,pL,pM,pN,pO,pP,pQ⟩:=blkc4 iC.out))
  repeat (go_quiet (first|((with_reducible refine gate_dst (N:=1) rfl ?_);refine box_event ?hg (N:=1) ?hd (cs:=#[.int .i64 aD,.int .i64 aA,.int .i64 aX,.bool aZ]) (t:=26) ?hr ?_;(case hd=>rfl);(case hg=>rfl);(case hr=>first|(go_simp;done)|(go_simp;rfl));intro Gv hg w6 hbox hb;have iC:=am (hbox);have Ka:=am (bsz hg au59);have wA:=am (bsz hg au59);replace HB:=am (below_step au59 hb);clear hb hbox hg;obtain ⟨pJ,pK,pL,pM,pN,pO,pP,pQ⟩:=blkc4 iC.out));go_upto_region 3 with (first|((with_reducible refine gate_dst (N:=1) rfl ?_);refine box_event ?hg (N:=1) ?hd (cs:=#[.int .i64 aD,.int .i64 aA,.int .i64 aX,.bool aZ]) (t:=26) ?hr ?_;(case hd=>rfl);(case hg=>rfl);(case hr=>first|(go_simp;done)|(go_simp;rfl));intro Gv hg w6 hbox hb;have iC:=am (hbox);have Ka:=am (bsz hg au59);have wA:=am (bsz hg au59);replace HB:=am (below_step au59 hb);clear hb hbox hg;obtain ⟨pJ,pK,pL,pM,pN,pO,pP,pQ⟩:=blkc4 iC.out)))
  (try simp only [Act.put,List.setIfInBounds_toArray,List.set_cons_zero,List.set_cons_succ])
  go_cut [24] (fun v24 wc=>∃ (kq:Nat) (N8:Bool),v24=.bool N8∧Aside0 (impl_IsValidDate.j0 kq N8 aD aA aX aZ=some r)∧Aside0 (kq≤k)∧Aside0 (wc.heap[Gv]?=some (.cells #[.int .i64 aD,.int .i64 aA,.int .i64 aX,.bool aZ] 26 (0,0)))∧Aside0 (Below w.heap.size w wc))
  case first =>
   have H:=On.out;clear On;replace H:=obz H;obtain ⟨tU,wF,H⟩:=H
   try dsimp only at H
   have A8:=am wF;clear wF;by_cases c9:tU=true
   ·
    subst c9;replace H:=(if_pos rfl).symm.trans H;replace H:=obz H;obtain ⟨zW,kC,H⟩:=H
    try dsimp only at H
    have nO:=am kC;clear kC;by_cases cO:zW=true
    ·
     subst cO;replace H:=(if_pos rfl).symm.trans H;by_cases dD:aZ=true
     · subst dD;replace H:=(if_pos rfl).symm.trans H;have H':=am H;clear H;obtain ⟨qR,qS,qT,qU,qV,qW,qX,qY⟩:=blkc4 iC.out;exact impl_IsValidDate.L0
     · replace dD:=Bool.eq_false_iff.mpr dD;subst dD;replace H:=(if_neg (show ¬ (false=true) by decide)).symm.trans H;have H':=am H;clear H;obtain ⟨nX,nY,nZ,oB,oC,oD,oF,oG⟩:=blkc4 iC.out;exact impl_IsValidDate.L0
    · replace cO:=Bool.eq_false_iff.mpr cO;subst cO;replace H:=(if_neg (show ¬ (false=true) by decide)).symm.trans H;have H':=am H;clear H;obtain ⟨lQ,lR,lS,lT,lU,lV,lW,lX⟩:=blkc4 iC.out;exact impl_IsValidDate.L0
   ·
    replace c9:=Bool.eq_false_iff.mpr c9;subst c9;replace H:=(if_neg (show ¬ (false=true) by decide)).symm.trans H;have H':=am H;clear H;obtain ⟨Ck,Cl,Cm,Cn,Co,Cp,Cq,Cr⟩:=blkc4 iC.out;go_wp2_with (first|(go_at_call 32;(with_reducible refine (impl_inside.calls aD 1 2999 _ _ A8.out).mono ?_);rintro e w' ⟨rfl,⟨nd,rfl⟩⟩;(try first|exact ⟨rfl,_,World.drewN_drewN _ _ _⟩|exact ⟨rfl,_,Eq.trans (World.drewN_drewN _ _ _) (congrArg (World.drewN _) (Nat.add_assoc _ _ _))⟩)))
    repeat (go_quiet (first|(go_at_call 32;(with_reducible refine (impl_inside.calls aD 1 2999 _ _ A8.out).mono ?_);rintro e w' ⟨rfl,⟨nd,rfl⟩⟩;(try first|exact ⟨rfl,_,World.drewN_drewN _ _ _⟩|exact ⟨rfl,_,Eq.trans (World.drewN_drewN _ _ _) (congrArg (World.drewN _) (Nat.add_assoc _ _ _))⟩)));try go_wp2_with (first|(go_at_call 32;(with_reducible refine (impl_inside.calls aD 1 2999 _ _ A8.out).mono ?_);rintro e w' ⟨rfl,⟨nd,rfl⟩⟩;(try first|exact ⟨rfl,_,World.drewN_drewN _ _ _⟩|exact ⟨rfl,_,Eq.trans (World.drewN_drewN _ _ _) (congrArg (World.drewN _) (Nat.add_assoc _ _ _))⟩))))
    go_meet
    case rel=>exact ⟨_,(true),au104,H',⟨by first|omega|exact Nat.le_refl _⟩,⟨by (with_reducible repeat (first|refine blk_drewN ?_ _|refine blk_drew ?_|refine blk_alloc ?_ _));exact iC.out⟩,⟨by repeat (first|(with_reducible first|exact HB.out|apply below_alloc|apply pw_below_drewN|apply below_drew1|refine below_set ?_ wA.out)|exact HB.out)⟩⟩
  case rest =>
   clear On
   try clear c1
   try clear c2
   try clear c2b0
   try clear c2b1
   try clear c2b2
   try clear p2
   try clear c3
   try clear c9
   try clear cO
   try clear dD
   try clear qR qS qT qU qV qW qX qY
   try clear nX nY nZ oB oC oD oF oG
   try clear lQ lR lS lT lU lV lW lX
   try clear Ck Cl Cm Cn Co Cp Cq Cr
   try clear lZ mA mB mC mD mE mF mG
   try clear pJ pK pL pM pN pO pP pQ
   obtain ⟨kq,N8,rfl,HA,HJ4,iC,HB⟩:=hcut
   cases kq with
   | zero=>exact absurd HA.out (by simp [impl_IsValidDate.j0])
   | succ XI =>
    have H:=HA.out;clear HA;simp only [impl_IsValidDate.j0] at H;by_cases gD:N8=true
    ·
     subst gD;replace H:=(if_pos rfl).symm.trans H;obtain rfl:=ojz H;go_wp2
     repeat (go_quiet (fail);try go_wp2)
     go_ret;exact ax8
    ·
     replace gD:=Bool.eq_false_iff.mpr gD;subst gD;replace H:=(if_neg (show ¬ (false=true) by decide)).symm.trans H;by_cases hZ:aA=0
     ·
      rw [if_pos hZ] at H;have c18b0:=qt hZ;have c18b1:=bfz hZ;clear hZ;obtain rfl:=ojz H;obtain ⟨xY,xZ,yA,yB,yC,yD,yE,yF⟩:=blkc4 iC.out;go_wp2
      repeat (go_quiet (fail);try go_wp2)
      go_ret;exact ax8
     ·
      rw [if_neg hZ] at H;have c18b0:=qf hZ;have c18b1:=bu hZ;replace H:=obz H;obtain ⟨kU,Ff,H⟩:=H
      try dsimp only at H
      have fD:=am Ff;clear Ff;replace H:=obz H;obtain ⟨pW,sP,H⟩:=H
      try dsimp only at H
      have BQ:=am sP;clear sP;obtain rfl:=ojz H;obtain ⟨uS,uT,uU,uV,uW,uX,uY,uZ⟩:=blkc4 iC.out;go_wp2_with (first|(go_at_call 53;(with_reducible refine (impl_daysInMonth.calls aD aA kU _ fD.out).mono ?_);rintro e w' ⟨rfl,⟨nd,rfl⟩⟩;(try first|exact ⟨rfl,_,World.drewN_drewN _ _ _⟩|exact ⟨rfl,_,Eq.trans (World.drewN_drewN _ _ _) (congrArg (World.drewN _) (Nat.add_assoc _ _ _))⟩))|(go_at_call 32;(with_reducible refine (impl_inside.calls aX 0 kU pW _ BQ.out).mono ?_);rintro e w' ⟨rfl,⟨nd,rfl⟩⟩;(try first|exact ⟨rfl,_,World.drewN_drewN _ _ _⟩|exact ⟨rfl,_,Eq.trans (World.drewN_drewN _ _ _) (congrArg (World.drewN _) (Nat.add_assoc _ _ _))⟩)))
      repeat (go_quiet (first|(go_at_call 53;(with_reducible refine (impl_daysInMonth.calls aD aA kU _ fD.out).mono ?_);rintro e w' ⟨rfl,⟨nd,rfl⟩⟩;(try first|exact ⟨rfl,_,World.drewN_drewN _ _ _⟩|exact ⟨rfl,_,Eq.trans (World.drewN_drewN _ _ _) (congrArg (World.drewN _) (Nat.add_assoc _ _ _))⟩))|(go_at_call 32;(with_reducible refine (impl_inside.calls aX 0 kU pW _ BQ.out).mono ?_);rintro e w' ⟨rfl,⟨nd,rfl⟩⟩;(try first|exact ⟨rfl,_,World.drewN_drewN _ _ _⟩|exact ⟨rfl,_,Eq.trans (World.drewN_drewN _ _ _) (congrArg (World.drewN _) (Nat.add_assoc _ _ _))⟩)));try go_wp2_with (first|(go_at_call 53;(with_reducible refine (impl_daysInMonth.calls aD aA kU _ fD.out).mono ?_);rintro e w' ⟨rfl,⟨nd,rfl⟩⟩;(try first|exact ⟨rfl,_,World.drewN_drewN _ _ _⟩|exact ⟨rfl,_,Eq.trans (World.drewN_drewN _ _ _) (congrArg (World.drewN _) (Nat.add_assoc _ _ _))⟩))|(go_at_call 32;(with_reducible refine (impl_inside.calls aX 0 kU pW _ BQ.out).mono ?_);rintro e w' ⟨rfl,⟨nd,rfl⟩⟩;(try first|exact ⟨rfl,_,World.drewN_drewN _ _ _⟩|exact ⟨rfl,_,Eq.trans (World.drewN_drewN _ _ _) (congrArg (World.drewN _) (Nat.add_assoc _ _ _))⟩))))
      go_ret;exact ax8
end Go.Proofs.YtcbhlghofihjcaaGreatDoor.G

namespace Go.Proofs.YtcbhlghofihjcaaGreatDoor.G
open Go.RowKit Go.Proofs.YtcbhlghofihjcaaGreatDoorW.PrintWords Go.Proofs.YtcbhlghofihjcaaGreatDoorW.PrintLast
set_option linter.unusedVariables false
set_option linter.unusedSimpArgs false
def daysD (y m:Int):Int :=
  if m=2 then (if Int.tmod y 4=0∧(Int.tmod y 100≠0∨Int.tmod y 400=0) then 29 else 28) else if m=4∨m=6∨m=9∨m=11 then 30 else 31
def goodD (y m d:Int) (c:Bool):Bool :=
  if y=0∧m=0∧d=0∧c=false then true
  else if ¬ (1≤y∧y≤2999∧0≤m∧m≤12) then false
  else if m=0 then decide (d=0)
  else if c then false else decide (0≤d∧d≤daysD y m)
theorem tmod_400_4 (y:Int) (h:Int.tmod y 400=0):Int.tmod y 4=0:=by
  have h1:(400:Int) ∣ y:=Int.dvd_of_tmod_eq_zero h;exact Int.tmod_eq_zero_of_dvd (Int.dvd_trans (by decide) h1)
theorem spec_days (k:Nat) (y m:Int):spec_l3Days.f (k+1) y m=some (daysD y m):=by
  unfold spec_l3Days.f daysD;by_cases h2:m=2
  · subst h2
    simp only [if_true,spec_l3Days.j0]
    by_cases a:Int.tmod y 4=0 <;> by_cases b:Int.tmod y 100=0 <;> by_cases c:Int.tmod y 400=0 <;> simp [a,b,c]
    · exact a (tmod_400_4 y c)
    · exact a (tmod_400_4 y c)
  · by_cases a:m=4 <;> by_cases b:m=6 <;> by_cases c:m=9 <;> by_cases d:m=11 <;> simp [h2,a,b,c,d]
theorem impl_days (y m:Int):impl_daysInMonth.f y m=some (daysD y m):=by
  unfold impl_daysInMonth.f daysD;by_cases h2:m=2
  · subst h2
    by_cases a:Int.tmod y 4=0 <;> by_cases b:Int.tmod y 100=0 <;> by_cases c:Int.tmod y 400=0 <;> simp [a,b,c]
  · by_cases a:m=4 <;> by_cases b:m=6 <;> by_cases c:m=9 <;> by_cases d:m=11 <;> simp [h2,a,b,c,d]
theorem spec_good (k:Nat) (y m d:Int) (c:Bool):spec_l3Good.f (k+2) y m d c=some (goodD y m d c):=by
  unfold spec_l3Good.f goodD;by_cases z:y=0∧m=0∧d=0∧c=false
  · obtain ⟨rfl,rfl,rfl,rfl⟩:=z;simp
  · rw [if_neg (by simpa using z),if_neg z]
    simp only [spec_l1In.f]
    by_cases a:1≤y <;> by_cases b:y≤2999 <;> by_cases e:0≤m <;> by_cases f:m≤12 <;> simp [a,b,e,f,spec_l3Good.j0]
    rw [spec_days]
    by_cases g:m=0 <;> by_cases h:d=0 <;> by_cases i:0≤d <;> cases c <;> simp [g,h,i,spec_l1In.f,impl_inside.f]
theorem impl_good (k:Nat) (y m d:Int) (c:Bool):impl_IsValidDate.f (k+2) y m d c=some (goodD y m d c):=by
  unfold impl_IsValidDate.f goodD;by_cases z:y=0∧m=0∧d=0∧c=false
  · obtain ⟨rfl,rfl,rfl,rfl⟩:=z;simp
  · rw [if_neg (by simpa using z),if_neg z]
    simp only [impl_inside.f]
    by_cases a:1≤y <;> by_cases b:y≤2999 <;> by_cases e:0≤m <;> by_cases f:m≤12 <;> simp [a,b,e,f,impl_IsValidDate.j0]
    rw [impl_days]
    by_cases g:m=0 <;> by_cases h:d=0 <;> by_cases i:0≤d <;> cases c <;> simp [g,h,i,spec_l1In.f,impl_inside.f]
theorem daysD_le (y m:Int):daysD y m≤31:=by
  unfold daysD
  split
  · split <;> omega
  · split <;> omega
theorem good_bds {y m d:Int} {c:Bool} (h:goodD y m d c=true) (hy:y≠0):1≤y∧y≤2999∧0≤m∧m≤12∧0≤d∧d≤31:=by
  unfold goodD at h;rw [if_neg (fun z=>hy z.1)] at h;by_cases c1:1≤y∧y≤2999∧0≤m∧m≤12
  · rw [if_neg (fun z=>z c1)] at h
    refine ⟨c1.1,c1.2.1,c1.2.2.1,c1.2.2.2,?_⟩;by_cases c2:m=0
    · rw [if_pos c2] at h
      have:=od h;omega
    · rw [if_neg c2] at h
      cases c with
      | true=>simp at h
      | false =>
        have h2:=od (by simpa using h:decide (0≤d∧d≤daysD y m)=true);have:=daysD_le y m;omega
  · rw [if_pos c1] at h;cases h
end Go.Proofs.YtcbhlghofihjcaaGreatDoor.G

namespace Go.Proofs.YtcbhlghofihjcaaGreatDoor.G
open Go.RowKit Go.Proofs.YtcbhlghofihjcaaGreatDoorW.PrintWords Go.Proofs.YtcbhlghofihjcaaGreatDoorW.PrintLast Go.Proofs.YtcbhlghofihjcaaGreatDoorW.PrintMore
open Go.Proofs.YtcbhlghofihjcaaGreatDoor.Gl Go.Proofs.YtcbhlghofihjcaaGreatDoor.Ext
attribute [local go_sem] max2_int min2_int max_two min_two max_three min_three max_four min_four   -- for this text's walks alone
set_option linter.unusedVariables false
set_option linter.unusedSimpArgs false
def impl_isKind.f (a0:Int):Option (Bool):=(impl_inside.f a0 1 4).bind fun Oo=>(some Oo)
theorem impl_isKind.calls (a0:Int) (r:Bool) (w:World) (h:impl_isKind.f a0=some r) :
  Calls Tryz.prog 29 #[.int .i64 a0] w fun e w'=>e=.returned (.bool r)∧Drawn0 w w':=by
 have H:((impl_inside.f a0 1 4).bind fun Oo=>(some Oo))=some r:=h;clear h;replace H:=obz H;obtain ⟨Oo,fD,H⟩:=H
 try dsimp only at H
 have A2:=am fD;clear fD;obtain rfl:=ojz H;go_enter Tryz.func29,Tryz.ntmps29;go_wp2_with (first|((with_reducible refine gate_callee (f:=32) rfl ?_);refine goesL_ (some 4) rfl rfl Tryz.func32 (by kernel_rfl) rfl #[.int .i64 a0,.int .i64 1,.int .i64 4] rfl au58 ?_;(with_reducible refine (impl_inside.calls a0 1 4 Oo _ A2.out).mono ?_);rintro e w' ⟨rfl,⟨nd,rfl⟩⟩;refine ⟨_,rfl,?_⟩));go_ret;exact ax1
def impl_IsValidEntry.j0:Nat→Bool→ByteArray→Int→List (S68)→List (S68)→ByteArray→ByteArray→ByteArray→Int→Int→Int→Bool→Int→ByteArray→ByteArray→Option (Bool)
 | 0,_,_,_,_,_,_,_,_,_,_,_,_,_,_,_=>none
 | k+1,x36,ZP,axZ,ayA,ayB,ZQ,ZR,ZS,ayC,ayD,ayE,ayF,ayG,ZT,Lx=>if x36=true then (some false) else ((impl_isText.f k ZQ).bind fun Vw=>(if Vw=true then ((impl_isText.f k ZR).bind fun Vx=>(if Vx=true then ((impl_isText.f k ZS).bind fun Vy=>(if Vy=true then ((impl_isText.f k ZT).bind fun Vz=>(if Vz=true then (if Lx.toList=([]:List UInt8) then (some true) else ((impl_isKey.f k Lx).bind fun VA=>(if VA=true then (some (Lx.toList != ZP.toList)) else (some false)))) else (some false))) else (some false))) else (some false))) else (some false)))
def impl_IsValidEntry.f (k:Nat) (aD:ByteArray) (aA:Int) (aN:List (S68)) (aQ:List (S68)) (bB:ByteArray) (bC:ByteArray) (bD:ByteArray) (aV:Int) (aY:Int) (bA:Int) (aH:Bool) (aI:Int) (aK:ByteArray) (aM:ByteArray):Option (Bool):=(impl_isKey.f k aD).bind fun Oq=>(if Oq=true then ((impl_isKind.f aA).bind fun Ot=>(if Ot=true then ((impl_areNames.f k aN).bind fun Ou=>(if Ou=true then ((impl_areNames.f k aQ).bind fun Ov=>(if Ov=true then ((impl_IsValidDate.f k aV aY bA aH).bind fun Ow=>(if Ow=true then ((impl_inside.f aI 0 9999).bind fun Ly=>(impl_IsValidEntry.j0 k (!Ly) aD aA aN aQ bB bC bD aV aY bA aH aI aK aM)) else (impl_IsValidEntry.j0 k true aD aA aN aQ bB bC bD aV aY bA aH aI aK aM))) else (impl_IsValidEntry.j0 k true aD aA aN aQ bB bC bD aV aY bA aH aI aK aM))) else (impl_IsValidEntry.j0 k true aD aA aN aQ bB bC bD aV aY bA aH aI aK aM))) else (impl_IsValidEntry.j0 k true aD aA aN aQ bB bC bD aV aY bA aH aI aK aM))) else (impl_IsValidEntry.j0 k true aD aA aN aQ bB bC bD aV aY bA aH aI aK aM))
theorem impl_IsValidEntry.mono_l:∀ k,(∀ y0 y1 y2 y3 y4 y5 y6 y7 y8 y9 cV cW cX cY kD,LeO (impl_IsValidEntry.j0 k y0 y1 y2 y3 y4 y5 y6 y7 y8 y9 cV cW cX cY kD) (impl_IsValidEntry.j0 (k+1) y0 y1 y2 y3 y4 y5 y6 y7 y8 y9 cV cW cX cY kD))
 | 0=>fun _ _ _ _ _ _ _ _ _ _ _ _ _ _ _ r h=>by simp [impl_IsValidEntry.j0] at h
 | k+1=>by
  have ih0:=impl_IsValidEntry.mono_l k
  ·
   intro y0 y1 y2 y3 y4 y5 y6 y7 y8 y9 cV cW cX cY kD;unfold impl_IsValidEntry.j0
   repeat' first
   | (with_reducible exact ih0 _ _ _ _ _ _ _ _ _ _ _ _ _ _ _)
   | (with_reducible exact impl_IsValidDate.mono _ _ _ _ _)
   | (with_reducible exact impl_areNames.mono _ _)
   | (with_reducible exact impl_isKey.mono _ _)
   | (with_reducible exact impl_isText.mono _ _)
   | (with_reducible exact LeO.refl _)
   | (with_reducible exact LeO.none _)
   | (with_reducible refine LeO.ite ?_ ?_)
   | (with_reducible refine LeO.bind ?_ (fun _=>?_))
   | exact ih0 _ _ _ _ _ _ _ _ _ _ _ _ _ _ _
   | exact impl_IsValidDate.mono _ _ _ _ _
   | exact impl_areNames.mono _ _
   | exact impl_isKey.mono _ _
   | exact impl_isText.mono _ _
   | exact LeO.none _
   | refine LeO.ite ?_ ?_
   | refine LeO.bind ?_ (fun _=>?_)
theorem impl_IsValidEntry.mono:∀ a0 a1 a2 a3 a4 a5 a6 a7 a8 a9 hJ hU hV hY k,LeO (impl_IsValidEntry.f k a0 a1 a2 a3 a4 a5 a6 a7 a8 a9 hJ hU hV hY) (impl_IsValidEntry.f (k+1) a0 a1 a2 a3 a4 a5 a6 a7 a8 a9 hJ hU hV hY):=by
 intro a0 a1 a2 a3 a4 a5 a6 a7 a8 a9 hJ hU hV hY k;have ih0:=impl_IsValidEntry.mono_l k;unfold impl_IsValidEntry.f
 repeat' first
   | (with_reducible exact ih0 _ _ _ _ _ _ _ _ _ _ _ _ _ _ _)
   | (with_reducible exact impl_IsValidDate.mono _ _ _ _ _)
   | (with_reducible exact impl_areNames.mono _ _)
   | (with_reducible exact impl_isKey.mono _ _)
   | (with_reducible exact impl_isText.mono _ _)
   | (with_reducible exact LeO.refl _)
   | (with_reducible exact LeO.none _)
   | (with_reducible refine LeO.ite ?_ ?_)
   | (with_reducible refine LeO.bind ?_ (fun _=>?_))
   | exact ih0 _ _ _ _ _ _ _ _ _ _ _ _ _ _ _
   | exact impl_IsValidDate.mono _ _ _ _ _
   | exact impl_areNames.mono _ _
   | exact impl_isKey.mono _ _
   | exact impl_isText.mono _ _
   | exact LeO.none _
   | refine LeO.ite ?_ ?_
   | refine LeO.bind ?_ (fun _=>?_)
theorem impl_IsValidEntry.L0 {P:Prop} (h:P:=by
  go_wp2_with (first|((with_reducible refine gate_callee (f:=28) rfl ?_);refine goesL_ (some 5) rfl rfl Tryz.func28 (by kernel_rfl) rfl #[.string aD] rfl au58 ?_;(with_reducible refine (impl_isKey.calls k aD _ _ A4.out).mono ?_);rintro e w' ⟨rfl,⟨nd,rfl⟩⟩;refine ⟨_,rfl,?_⟩)|(go_at_call 29;(with_reducible refine (impl_isKind.calls aA _ _ A6.out).mono ?_);rintro e w' ⟨rfl,⟨nd,rfl⟩⟩)|(go_at_call 30;(with_reducible refine (impl_areNames.calls (hG:=au6) k _ _ aN _ _ ?aE ?aG A8.out).mono ?_);(case aE=>repeat (first|exact (Kd.C_below fJ.out au41)|(with_reducible refine Kd.C_alloc ?_ _)|(with_reducible refine Kd.C_drewN ?_ _)|(with_reducible refine Kd.C_drew ?_)));(case aG=>exact fK.out);rintro e Ey ⟨rfl,hb⟩;replace cM:=am (blk_below (g:=gV) au72 hb);replace HB:=am (below_step au41 hb);(try clear hb);obtain ⟨lI,lJ,lK,lL,vC,vD,vG,vH,vI,vJ,qE,qF,qG,qH,lM,lN,lO,lP,vK,vL,vM,vN,vO,vP,qI,qJ,qK,qL⟩:=blkc14 cM.out)|(go_at_call 30;(with_reducible refine (impl_areNames.calls (hG:=au6) k _ _ aQ _ _ ?aE ?aG nO.out).mono ?_);(case aE=>repeat (first|exact (Kd.C_below gB.out HB.out)|(with_reducible refine Kd.C_alloc ?_ _)|(with_reducible refine Kd.C_drewN ?_ _)|(with_reducible refine Kd.C_drew ?_)));(case aG=>exact gC.out);rintro e NO ⟨rfl,hb⟩;replace cM:=am (blk_below (g:=gV) au72 hb);replace HB:=am (below_step au41 hb);(try clear hb);obtain ⟨xY,xZ,yA,yB,Rs,Rt,Ru,Rv,Rw,Rx,Ox,Oy,Oz,OA,yC,yD,yE,yF,Ry,Rz,RA,RB,RD,RE,OB,OC,OD,OE⟩:=blkc14 cM.out)|(go_at_call 31;(with_reducible refine (impl_IsValidDate.calls k aV aY bA aH _ _ F7.out).mono ?_);rintro e Xm ⟨rfl,hb⟩;replace cM:=am (blk_below (g:=gV) au72 hb);replace HB:=am (below_step au41 hb);(try clear hb);obtain ⟨BH,BI,BJ,BK,Lz,LA,LB,LC,LD,LE,Ig,Ih,Ii,Ij,BL,BM,BN,BO,LF,LG,LH,LJ,LK,LL,Ik,Il,Im,Io⟩:=blkc14 cM.out)|(go_at_call 32;(with_reducible refine (impl_inside.calls aI 0 9999 Ly _ He.out).mono ?_);rintro e w' ⟨rfl,⟨nd,rfl⟩⟩));go_meet
  case rel=>first|(exact ⟨_,(!Ly),au104,H',⟨by first|omega|exact Nat.le_refl _⟩,⟨by (with_reducible repeat (first|refine blk_drewN ?_ _|refine blk_drew ?_|refine blk_alloc ?_ _));exact cM.out⟩,⟨by repeat (first|(with_reducible first|exact HB.out|apply below_alloc|apply pw_below_drewN|apply below_drew1|refine below_set ?_ Dz.out)|exact HB.out)⟩⟩)|(exact ⟨_,(true),au104,H',⟨by first|omega|exact Nat.le_refl _⟩,⟨by (with_reducible repeat (first|refine blk_drewN ?_ _|refine blk_drew ?_|refine blk_alloc ?_ _));exact cM.out⟩,⟨by repeat (first|(with_reducible first|exact HB.out|apply below_alloc|apply pw_below_drewN|apply below_drew1|refine below_set ?_ Dz.out)|exact HB.out)⟩⟩)):P:=h
theorem impl_IsValidEntry.L1 {P:Prop} (h:P:=by
  go_wp2_with (first|((with_reducible refine gate_callee (f:=33) rfl ?_);refine goesL_ (some 39) rfl rfl Tryz.func33 (by kernel_rfl) rfl #[.string bB] rfl au58 ?_;(with_reducible refine (impl_isText.calls gS bB _ _ K2.out).mono ?_);rintro e w58 ⟨rfl,hb⟩;refine ⟨_,rfl,?_⟩;replace cM:=am (blk_below (g:=gV) au72 hb);replace HB:=am (below_step au41 hb);(try clear hb);obtain ⟨Yl,Ym,Yn,Yo,ayH,ayI,ayJ,ayK,ayL,ayM,agZ,ahA,ahB,ahC,Yp,Yq,Yr,Ys,ayN,ayO,ayP,ayQ,ayR,ayS,ahD,ahE,ahF,ahG⟩:=blkc14 cM.out)|(go_at_call 33;(with_reducible refine (impl_isText.calls gS bC _ _ JI.out).mono ?_);rintro e w60 ⟨rfl,hb⟩;replace cM:=am (blk_below (g:=gV) au72 hb);replace HB:=am (below_step au41 hb);(try clear hb);obtain ⟨QT,QU,QV,QW,ZU,ZV,ZW,ZX,ZY,ZZ,VB,VC,VD,VE,QX,QY,QZ,R0,a0A,a0B,a0C,a0D,a0E,a0F,VF,VG,VH,VI⟩:=blkc14 cM.out)|(go_at_call 33;(with_reducible refine (impl_isText.calls gS bD _ _ NF.out).mono ?_);rintro e w62 ⟨rfl,hb⟩;replace cM:=am (blk_below (g:=gV) au72 hb);replace HB:=am (below_step au41 hb);(try clear hb);obtain ⟨R1,R2,R3,R4,a0G,a0H,a0I,a0J,a0K,a0L,VJ,VK,VL,VM,R5,R6,R7,R8,a0M,a0N,a0O,a0P,a0Q,a0R,VN,VO,VP,VQ⟩:=blkc14 cM.out)|(go_at_call 33;(with_reducible refine (impl_isText.calls gS aK _ _ A43.out).mono ?_);rintro e w64 ⟨rfl,hb⟩;replace cM:=am (blk_below (g:=gV) au72 hb);replace HB:=am (below_step au41 hb);(try clear hb);obtain ⟨Zn,Zo,Zp,Zq,ayT,ayU,ayV,ayW,ayX,ayY,ahH,ahI,ahJ,ahK,Zr,Zs,Zt,Zu,ayZ,azA,azB,azC,azD,azE,ahL,ahM,ahN,ahO⟩:=blkc14 cM.out)|(go_at_call 28;(with_reducible refine (impl_isKey.calls gS aM _ _ A55.out).mono ?_);rintro e w' ⟨rfl,⟨nd,rfl⟩⟩));go_ret
  exact ax9):P:=h
theorem impl_IsValidEntry.calls (k:Nat) (aD:ByteArray) (aA:Int) (cK:Option Addr) (cL:Nat) (aN:List (S68)) (cH:Option Addr) (cI:Nat) (aQ:List (S68)) (bB:ByteArray) (bC:ByteArray) (bD:ByteArray) (aV:Int) (aY:Int) (bA:Int) (aH:Bool) (aI:Int) (aK:ByteArray) (aM:ByteArray) (r:Bool) (w:World) {gF1 gF2 gF3:Bool} (hG:GL gF1 gF2 gF3 w) (gF:Kd.C k68 w cK aN.length aN) (gG:aN.length≤cL) (gH:Kd.C k68 w cH aQ.length aQ) (gI:aQ.length≤cI) (h:impl_IsValidEntry.f k aD aA aN aQ bB bC bD aV aY bA aH aI aK aM=some r) :
  Calls Tryz.prog 15 #[.agg #[.string aD,.int .i64 aA,.slice cK aN.length cL,.slice cH aQ.length cI,.string bB,.string bC,.string bD,.int .i64 aV,.int .i64 aY,.int .i64 bA,.bool aH,.int .i64 aI,.string aK,.string aM]] w fun e w'=>e=.returned (.bool r)∧Below w.heap.size w w':=by
 have HG:=am hG;clear hG;have hu28:=Tryz.underlying28;have hu26:=Tryz.underlying26;have fJ:=am gF;have fK:=am gG;clear gF gG;have gB:=am gH;have gC:=am gI;clear gH gI;have HB:=am (Below.refl w.heap.size w);have H:((impl_isKey.f k aD).bind fun Oq=>(if Oq=true then ((impl_isKind.f aA).bind fun Ot=>(if Ot=true then ((impl_areNames.f k aN).bind fun Ou=>(if Ou=true then ((impl_areNames.f k aQ).bind fun Ov=>(if Ov=true then ((impl_IsValidDate.f k aV aY bA aH).bind fun Ow=>(if Ow=true then ((impl_inside.f aI 0 9999).bind fun Ly=>(impl_IsValidEntry.j0 k (!Ly) aD aA aN aQ bB bC bD aV aY bA aH aI aK aM)) else (impl_IsValidEntry.j0 k true aD aA aN aQ bB bC bD aV aY bA aH aI aK aM))) else (impl_IsValidEntry.j0 k true aD aA aN aQ bB bC bD aV aY bA aH aI aK aM))) else (impl_IsValidEntry.j0 k true aD aA aN aQ bB bC bD aV aY bA aH aI aK aM))) else (impl_IsValidEntry.j0 k true aD aA aN aQ bB bC bD aV aY bA aH aI aK aM))) else (impl_IsValidEntry.j0 k true aD aA aN aQ bB bC bD aV aY bA aH aI aK aM)))=some r:=h;clear h;have jZ:=am H;clear H;go_enter Tryz.func15,Tryz.ntmps15
 go_upto_region 1 with (first|((with_reducible refine gate_dst (N:=1) rfl ?_);refine box_event ?hg (N:=1) ?hd (cs:=#[.string aD,.int .i64 aA,.slice cK aN.length cL,.slice cH aQ.length cI,.string bB,.string bC,.string bD,.int .i64 aV,.int .i64 aY,.int .i64 bA,.bool aH,.int .i64 aI,.string aK,.string aM]) (t:=28) ?hr ?_;(case hd=>rfl);(case hg=>rfl);(case hr=>first|(go_simp;done)|(go_simp;rfl));intro gV hg w3 hbox hb;have cM:=am (hbox);have aLH:=am (bsz hg au59);have Dz:=am (bsz hg au59);replace HB:=am (below_step au59 hb);clear hb hbox hg))
 (try simp only [Act.put,List.setIfInBounds_toArray,List.set_cons_zero,List.set_cons_succ])
 go_cut [36] (fun v36 wc=>∃ (kq:Nat) (N9:Bool),v36=.bool N9∧Aside0 (impl_IsValidEntry.j0 kq N9 aD aA aN aQ bB bC bD aV aY bA aH aI aK aM=some r)∧Aside0 (kq≤k)∧Aside0 (wc.heap[gV]?=some (.cells #[.string aD,.int .i64 aA,(.slice cK aN.length cL),(.slice cH aQ.length cI),.string bB,.string bC,.string bD,.int .i64 aV,.int .i64 aY,.int .i64 bA,.bool aH,.int .i64 aI,.string aK,.string aM] 28 (0,0)))∧Aside0 (Below w.heap.size w wc))
 case first =>
  have H:=jZ.out;clear jZ;replace H:=obz H;obtain ⟨Oq,nE,H⟩:=H
  try dsimp only at H
  have A4:=am nE;clear nE;by_cases c5:Oq=true
  ·
   subst c5;replace H:=(if_pos rfl).symm.trans H;replace H:=obz H;obtain ⟨Ot,nF,H⟩:=H
   try dsimp only at H
   have A6:=am nF;clear nF;by_cases c7:Ot=true
   ·
    subst c7;replace H:=(if_pos rfl).symm.trans H;replace H:=obz H;obtain ⟨Ou,wF,H⟩:=H
    try dsimp only at H
    have A8:=am wF;clear wF;by_cases c9:Ou=true
    ·
     subst c9;replace H:=(if_pos rfl).symm.trans H;replace H:=obz H;obtain ⟨Ov,kC,H⟩:=H
     try dsimp only at H
     have nO:=am kC;clear kC;by_cases cO:Ov=true
     ·
      subst cO;replace H:=(if_pos rfl).symm.trans H;replace H:=obz H;obtain ⟨Ow,F8,H⟩:=H
      try dsimp only at H
      have F7:=am F8;clear F8;by_cases dE:Ow=true
      ·
       subst dE;replace H:=(if_pos rfl).symm.trans H;replace H:=obz H;obtain ⟨Ly,sO,H⟩:=H
       try dsimp only at H
       have He:=am sO;clear sO;have H':=am H;clear H;obtain ⟨lQ,lR,lS,lT,CF,CG,CH,CI,CJ,CK,Au,Av,Aw,Ax,lU,lV,lW,lX,CL,CM,CN,CO,CP,CQ,Ay,Az,AA,AB⟩:=blkc14 cM.out;exact impl_IsValidEntry.L0
      ·
       replace dE:=Bool.eq_false_iff.mpr dE;subst dE;replace H:=(if_neg (show ¬ (false=true) by decide)).symm.trans H;have H':=am H;clear H;obtain ⟨uS,uT,uU,uV,Gw,Gx,Gy,Gz,GA,GB,E4,E5,E6,E7,uW,uX,uY,uZ,GC,GD,GE,GF,GG,GH,E8,E9,Ea,Eb⟩:=blkc14 cM.out;go_wp2_with (first|((with_reducible refine gate_callee (f:=28) rfl ?_);refine goesL_ (some 5) rfl rfl Tryz.func28 (by kernel_rfl) rfl #[.string aD] rfl au58 ?_;(with_reducible refine (impl_isKey.calls k aD _ _ A4.out).mono ?_);rintro e w' ⟨rfl,⟨nd,rfl⟩⟩;refine ⟨_,rfl,?_⟩)|(go_at_call 29;(with_reducible refine (impl_isKind.calls aA _ _ A6.out).mono ?_);rintro e w' ⟨rfl,⟨nd,rfl⟩⟩)|(go_at_call 30;(with_reducible refine (impl_areNames.calls (hG:=au6) k _ _ aN _ _ ?aE ?aG A8.out).mono ?_);(case aE=>repeat (first|exact (Kd.C_below fJ.out au41)|(with_reducible refine Kd.C_alloc ?_ _)|(with_reducible refine Kd.C_drewN ?_ _)|(with_reducible refine Kd.C_drew ?_)));(case aG=>exact fK.out);rintro e QA ⟨rfl,hb⟩;replace cM:=am (blk_below (g:=gV) au72 hb);replace HB:=am (below_step au41 hb);(try clear hb);obtain ⟨FF,FG,FH,FI,RF,RG,RH,RI,RJ,RL,OF,OG,OH,OI,FJ,FL,FM,FN,RN,RO,RP,RQ,RR,RS,OJ,OK,OL,OM⟩:=blkc14 cM.out)|(go_at_call 30;(with_reducible refine (impl_areNames.calls (hG:=au6) k _ _ aQ _ _ ?aE ?aG nO.out).mono ?_);(case aE=>repeat (first|exact (Kd.C_below gB.out HB.out)|(with_reducible refine Kd.C_alloc ?_ _)|(with_reducible refine Kd.C_drewN ?_ _)|(with_reducible refine Kd.C_drew ?_)));(case aG=>exact gC.out);rintro e Un ⟨rfl,hb⟩;replace cM:=am (blk_below (g:=gV) au72 hb);replace HB:=am (below_step au41 hb);(try clear hb);obtain ⟨Cc,Cd,Ce,Cf,RU,RV,RX,RY,RZ,S0,ON,OO,OP,OQ,Cg,Ch,Ci,Cj,S1,S3,S4,S5,S6,S7,OS,OT,OU,OV⟩:=blkc14 cM.out)|(go_at_call 31;(with_reducible refine (impl_IsValidDate.calls k aV aY bA aH _ _ F7.out).mono ?_);rintro e w27 ⟨rfl,hb⟩;replace cM:=am (blk_below (g:=gV) au72 hb);replace HB:=am (below_step au41 hb);(try clear hb)));go_meet
       case rel=>exact ⟨_,(true),au104,H',⟨by first|omega|exact Nat.le_refl _⟩,⟨by (with_reducible repeat (first|refine blk_drewN ?_ _|refine blk_drew ?_|refine blk_alloc ?_ _));exact cM.out⟩,⟨by repeat (first|(with_reducible first|exact HB.out|apply below_alloc|apply pw_below_drewN|apply below_drew1|refine below_set ?_ Dz.out)|exact HB.out)⟩⟩
     ·
      replace cO:=Bool.eq_false_iff.mpr cO;subst cO;replace H:=(if_neg (show ¬ (false=true) by decide)).symm.trans H;have H':=am H;clear H;obtain ⟨xP,xQ,xR,xS,GI,GJ,GK,GM,GN,GO,Ec,Ed,Ee,Ef,xT,xU,xV,xW,GP,GQ,GR,GT,GU,GV,Eg,Eh,Ei,Ej⟩:=blkc14 cM.out;go_wp2_with (first|((with_reducible refine gate_callee (f:=28) rfl ?_);refine goesL_ (some 5) rfl rfl Tryz.func28 (by kernel_rfl) rfl #[.string aD] rfl au58 ?_;(with_reducible refine (impl_isKey.calls k aD _ _ A4.out).mono ?_);rintro e w' ⟨rfl,⟨nd,rfl⟩⟩;refine ⟨_,rfl,?_⟩)|(go_at_call 29;(with_reducible refine (impl_isKind.calls aA _ _ A6.out).mono ?_);rintro e w' ⟨rfl,⟨nd,rfl⟩⟩)|(go_at_call 30;(with_reducible refine (impl_areNames.calls (hG:=au6) k _ _ aN _ _ ?aE ?aG A8.out).mono ?_);(case aE=>repeat (first|exact (Kd.C_below fJ.out au41)|(with_reducible refine Kd.C_alloc ?_ _)|(with_reducible refine Kd.C_drewN ?_ _)|(with_reducible refine Kd.C_drew ?_)));(case aG=>exact fK.out);rintro e Qr ⟨rfl,hb⟩;replace cM:=am (blk_below (g:=gV) au72 hb);replace HB:=am (below_step au41 hb);(try clear hb);obtain ⟨tY,tZ,uA,uB,GW,GX,GY,GZ,H0,H1,Ek,El,Em,En,uC,uD,uE,uF,H2,H3,H4,H5,H6,H7,Eo,Ep,Er,Es⟩:=blkc14 cM.out)|(go_at_call 30;(with_reducible refine (impl_areNames.calls (hG:=au6) k _ _ aQ _ _ ?aE ?aG nO.out).mono ?_);(case aE=>repeat (first|exact (Kd.C_below gB.out HB.out)|(with_reducible refine Kd.C_alloc ?_ _)|(with_reducible refine Kd.C_drewN ?_ _)|(with_reducible refine Kd.C_drew ?_)));(case aG=>exact gC.out);rintro e w31 ⟨rfl,hb⟩;replace cM:=am (blk_below (g:=gV) au72 hb);replace HB:=am (below_step au41 hb);(try clear hb)));go_meet
      case rel=>exact ⟨_,(true),au104,H',⟨by first|omega|exact Nat.le_refl _⟩,⟨by (with_reducible repeat (first|refine blk_drewN ?_ _|refine blk_drew ?_|refine blk_alloc ?_ _));exact cM.out⟩,⟨by repeat (first|(with_reducible first|exact HB.out|apply below_alloc|apply pw_below_drewN|apply below_drew1|refine below_set ?_ Dz.out)|exact HB.out)⟩⟩
    ·
     replace c9:=Bool.eq_false_iff.mpr c9;subst c9;replace H:=(if_neg (show ¬ (false=true) by decide)).symm.trans H;have H':=am H;clear H;obtain ⟨LM,LN,LO,LP,a0S,a0T,a0U,a0V,a0W,a0X,VR,VS,VT,VU,LQ,LR,LS,LU,a0Y,a0Z,a1A,a1B,a1C,a1D,VV,VW,VX,VY⟩:=blkc14 cM.out;go_wp2_with (first|((with_reducible refine gate_callee (f:=28) rfl ?_);refine goesL_ (some 5) rfl rfl Tryz.func28 (by kernel_rfl) rfl #[.string aD] rfl au58 ?_;(with_reducible refine (impl_isKey.calls k aD _ _ A4.out).mono ?_);rintro e w' ⟨rfl,⟨nd,rfl⟩⟩;refine ⟨_,rfl,?_⟩)|(go_at_call 29;(with_reducible refine (impl_isKind.calls aA _ _ A6.out).mono ?_);rintro e w' ⟨rfl,⟨nd,rfl⟩⟩)|(go_at_call 30;(with_reducible refine (impl_areNames.calls (hG:=au6) k _ _ aN _ _ ?aE ?aG A8.out).mono ?_);(case aE=>repeat (first|exact (Kd.C_below fJ.out au41)|(with_reducible refine Kd.C_alloc ?_ _)|(with_reducible refine Kd.C_drewN ?_ _)|(with_reducible refine Kd.C_drew ?_)));(case aG=>exact fK.out);rintro e w33 ⟨rfl,hb⟩;replace cM:=am (blk_below (g:=gV) au72 hb);replace HB:=am (below_step au41 hb);(try clear hb)));go_meet
     case rel=>exact ⟨_,(true),au104,H',⟨by first|omega|exact Nat.le_refl _⟩,⟨by (with_reducible repeat (first|refine blk_drewN ?_ _|refine blk_drew ?_|refine blk_alloc ?_ _));exact cM.out⟩,⟨by repeat (first|(with_reducible first|exact HB.out|apply below_alloc|apply pw_below_drewN|apply below_drew1|refine below_set ?_ Dz.out)|exact HB.out)⟩⟩
   · replace c7:=Bool.eq_false_iff.mpr c7;subst c7;replace H:=(if_neg (show ¬ (false=true) by decide)).symm.trans H;have H':=am H;clear H;obtain ⟨C1,C2,C3,C4,LV,LW,LX,LY,LZ,M0,Ip,Iq,Ir,It,C5,C6,C7,C8,M1,M2,M3,M4,M5,M6,Iu,Iv,Iw,Ix⟩:=blkc14 cM.out;exact impl_IsValidEntry.L0
  · replace c5:=Bool.eq_false_iff.mpr c5;subst c5;replace H:=(if_neg (show ¬ (false=true) by decide)).symm.trans H;have H':=am H;clear H;obtain ⟨FT,FU,FV,FW,S8,S9,Sa,Sb,Sc,Sd,OW,OX,OY,OZ,FX,FY,FZ,G0,Se,Sf,Sg,Si,Sj,Sk,P0,P1,P2,P3⟩:=blkc14 cM.out;exact impl_IsValidEntry.L0
 case rest =>
  clear jZ
  try clear c1
  try clear c2
  try clear p2
  try clear c5
  try clear c7
  try clear c9
  try clear cO
  try clear dE
  try clear dJ
  try clear kY
  try clear lQ lR Au Av Aw Ax lS lT CF CG CH CI CJ CK lU lV Ay Az AA AB lW lX CL CM CN CO CP CQ
  try clear lI lJ qE qF qG qH lK lL vC vD vG vH vI vJ lM lN qI qJ qK qL lO lP vK vL vM vN vO vP
  try clear xY xZ Ox Oy Oz OA yA yB Rs Rt Ru Rv Rw Rx yC yD OB OC OD OE yE yF Ry Rz RA RB RD RE
  try clear BH BI Ig Ih Ii Ij BJ BK Lz LA LB LC LD LE BL BM Ik Il Im Io BN BO LF LG LH LJ LK LL
  try clear uS uT E4 E5 E6 E7 uU uV Gw Gx Gy Gz GA GB uW uX E8 E9 Ea Eb uY uZ GC GD GE GF GG GH
  try clear FF FG OF OG OH OI FH FI RF RG RH RI RJ RL FJ FL OJ OK OL OM FM FN RN RO RP RQ RR RS
  try clear Cc Cd ON OO OP OQ Ce Cf RU RV RX RY RZ S0 Cg Ch OS OT OU OV Ci Cj S1 S3 S4 S5 S6 S7
  try clear xP xQ Ec Ed Ee Ef xR xS GI GJ GK GM GN GO xT xU Eg Eh Ei Ej xV xW GP GQ GR GT GU GV
  try clear tY tZ Ek El Em En uA uB GW GX GY GZ H0 H1 uC uD Eo Ep Er Es uE uF H2 H3 H4 H5 H6 H7
  try clear LM LN VR VS VT VU LO LP a0S a0T a0U a0V a0W a0X LQ LR VV VW VX VY LS LU a0Y a0Z a1A a1B a1C a1D
  try clear C1 C2 Ip Iq Ir It C3 C4 LV LW LX LY LZ M0 C5 C6 Iu Iv Iw Ix C7 C8 M1 M2 M3 M4 M5 M6
  try clear FT FU OW OX OY OZ FV FW S8 S9 Sa Sb Sc Sd FX FY P0 P1 P2 P3 FZ G0 Se Sf Sg Si Sj Sk
  obtain ⟨kq,N9,rfl,HA,kA,cM,HB⟩:=hcut
  cases kq with
  | zero=>exact absurd HA.out (by simp [impl_IsValidEntry.j0])
  | succ gS =>
   have H:=HA.out;clear HA;simp only [impl_IsValidEntry.j0] at H;by_cases tR:N9=true
   · subst tR;replace H:=(if_pos rfl).symm.trans H;obtain rfl:=ojz H;exact impl_IsValidEntry.L1
   ·
    replace tR:=Bool.eq_false_iff.mpr tR;subst tR;replace H:=(if_neg (show ¬ (false=true) by decide)).symm.trans H;replace H:=obz H;obtain ⟨Vw,EY,H⟩:=H
    try dsimp only at H
    have K2:=am EY;clear EY;by_cases kW:Vw=true
    ·
     subst kW;replace H:=(if_pos rfl).symm.trans H;replace H:=obz H;obtain ⟨Vx,ET,H⟩:=H
     try dsimp only at H
     have JI:=am ET;clear ET;by_cases JJ:Vx=true
     ·
      subst JJ;replace H:=(if_pos rfl).symm.trans H;replace H:=obz H;obtain ⟨Vy,EU,H⟩:=H
      try dsimp only at H
      have NF:=am EU;clear EU;by_cases Kb:Vy=true
      ·
       subst Kb;replace H:=(if_pos rfl).symm.trans H;replace H:=obz H;obtain ⟨Vz,a7U,H⟩:=H
       try dsimp only at H
       have A43:=am a7U;clear a7U;by_cases CR:Vz=true
       ·
        subst CR;replace H:=(if_pos rfl).symm.trans H;by_cases tT:aM.toList=([]:List UInt8)
        · rw [if_pos tT] at H;have c45b0:=qt tT;have c45b1:=bfz tT;clear tT;obtain rfl:=ojz H;obtain ⟨KN,KO,KP,KQ,a1E,a1F,a1G,a1H,a1I,a1J,VZ,W0,W3,W4,KR,KS,KT,KU,a1K,a1L,a1M,a1N,a1O,a1P,W5,W6,W7,W8⟩:=blkc14 cM.out;exact impl_IsValidEntry.L1
        ·
         rw [if_neg tT] at H;have c45b0:=qf tT;have c45b1:=bu tT;replace H:=obz H;obtain ⟨VA,a7V,H⟩:=H
         try dsimp only at H
         have A55:=am a7V;clear a7V;by_cases XJ:VA=true
         · subst XJ;replace H:=(if_pos rfl).symm.trans H;obtain rfl:=ojz H;obtain ⟨azF,azG,azH,azI,azJ,azK,azL,azM,azN,azO,ahP,ahQ,ahR,ahS,azP,azQ,azR,azS,azT,azU,azV,azW,azX,azY,ahT,ahU,ahV,ahW⟩:=blkc14 cM.out;exact impl_IsValidEntry.L1
         · replace XJ:=Bool.eq_false_iff.mpr XJ;subst XJ;replace H:=(if_neg (show ¬ (false=true) by decide)).symm.trans H;obtain rfl:=ojz H;obtain ⟨azZ,aA0,aA1,aA2,aA3,aA4,aA5,aA6,aA7,aA8,ahX,ahY,ahZ,aiA,aA9,aAa,aAb,aAc,aAd,aAe,aAf,aAg,aAh,aAi,aiB,aiC,aiD,aiE⟩:=blkc14 cM.out;exact impl_IsValidEntry.L1
       · replace CR:=Bool.eq_false_iff.mpr CR;subst CR;replace H:=(if_neg (show ¬ (false=true) by decide)).symm.trans H;obtain rfl:=ojz H;obtain ⟨aAj,aAk,aAl,aAm,aAn,aAo,aAp,aAq,aAr,aAs,aiF,aiG,aiH,aiI,aAt,aAu,aAv,aAw,aAx,aAy,aAz,aAA,aAB,aAC,aiJ,aiK,aiL,aiM⟩:=blkc14 cM.out;go_wp2_with (first|((with_reducible refine gate_callee (f:=33) rfl ?_);refine goesL_ (some 39) rfl rfl Tryz.func33 (by kernel_rfl) rfl #[.string bB] rfl au58 ?_;(with_reducible refine (impl_isText.calls gS bB _ _ K2.out).mono ?_);rintro e w76 ⟨rfl,hb⟩;refine ⟨_,rfl,?_⟩;replace cM:=am (blk_below (g:=gV) au72 hb);replace HB:=am (below_step au41 hb);(try clear hb);obtain ⟨YJ,YK,YL,YM,aAD,aAE,aAF,aAG,aAH,aAI,aiN,aiO,aiP,aiQ,YN,YO,YP,YQ,aAJ,aAK,aAL,aAM,aAN,aAO,aiR,aiS,aiT,aiU⟩:=blkc14 cM.out)|(go_at_call 33;(with_reducible refine (impl_isText.calls gS bC _ _ JI.out).mono ?_);rintro e w78 ⟨rfl,hb⟩;replace cM:=am (blk_below (g:=gV) au72 hb);replace HB:=am (below_step au41 hb);(try clear hb);obtain ⟨YR,YS,YT,YU,aAP,aAQ,aAR,aAS,aAT,aAU,aiV,aiW,aiX,aiY,YV,YW,YX,YY,aAV,aAW,aAX,aAY,aAZ,aB0,aiZ,ajA,ajB,ajC⟩:=blkc14 cM.out)|(go_at_call 33;(with_reducible refine (impl_isText.calls gS bD _ _ NF.out).mono ?_);rintro e w80 ⟨rfl,hb⟩;replace cM:=am (blk_below (g:=gV) au72 hb);replace HB:=am (below_step au41 hb);(try clear hb);obtain ⟨aB1,aB2,aB3,aB4,aB5,aB6,aB7,aB8,aB9,aBa,ajD,ajE,ajF,ajG,aBb,aBc,aBd,aBe,aBf,aBg,aBh,aBi,aBj,aBk,ajH,ajI,ajJ,ajK⟩:=blkc14 cM.out)|(go_at_call 33;(with_reducible refine (impl_isText.calls gS aK _ _ A43.out).mono ?_);rintro e w82 ⟨rfl,hb⟩;replace cM:=am (blk_below (g:=gV) au72 hb);replace HB:=am (below_step au41 hb);(try clear hb)));go_ret;exact ax9
      · replace Kb:=Bool.eq_false_iff.mpr Kb;subst Kb;replace H:=(if_neg (show ¬ (false=true) by decide)).symm.trans H;obtain rfl:=ojz H;obtain ⟨aBl,aBm,aBn,aBo,aBp,aBq,aBr,aBs,aBt,aBu,ajL,ajM,ajN,ajO,aBv,aBw,aBx,aBy,aBz,aBA,aBB,aBC,aBD,aBE,ajP,ajQ,ajR,ajS⟩:=blkc14 cM.out;go_wp2_with (first|((with_reducible refine gate_callee (f:=33) rfl ?_);refine goesL_ (some 39) rfl rfl Tryz.func33 (by kernel_rfl) rfl #[.string bB] rfl au58 ?_;(with_reducible refine (impl_isText.calls gS bB _ _ K2.out).mono ?_);rintro e w84 ⟨rfl,hb⟩;refine ⟨_,rfl,?_⟩;replace cM:=am (blk_below (g:=gV) au72 hb);replace HB:=am (below_step au41 hb);(try clear hb);obtain ⟨aBF,aBG,aBH,aBI,aBJ,aBK,aBL,aBM,aBN,aBO,ajT,ajU,ajV,ajW,aBP,aBQ,aBR,aBS,aBT,aBU,aBV,aBW,aBX,aBY,ajX,ajY,ajZ,akA⟩:=blkc14 cM.out)|(go_at_call 33;(with_reducible refine (impl_isText.calls gS bC _ _ JI.out).mono ?_);rintro e w86 ⟨rfl,hb⟩;replace cM:=am (blk_below (g:=gV) au72 hb);replace HB:=am (below_step au41 hb);(try clear hb);obtain ⟨aBZ,aC0,aC1,aC2,aC3,aC4,aC5,aC6,aC7,aC8,akB,akC,akD,akE,aC9,aCa,aCb,aCc,aCd,aCe,aCf,aCg,aCh,aCi,akF,akG,akH,akI⟩:=blkc14 cM.out)|(go_at_call 33;(with_reducible refine (impl_isText.calls gS bD _ _ NF.out).mono ?_);rintro e w88 ⟨rfl,hb⟩;replace cM:=am (blk_below (g:=gV) au72 hb);replace HB:=am (below_step au41 hb);(try clear hb)));go_ret;exact ax9
     · replace JJ:=Bool.eq_false_iff.mpr JJ;subst JJ;replace H:=(if_neg (show ¬ (false=true) by decide)).symm.trans H;obtain rfl:=ojz H;obtain ⟨aCj,aCk,aCl,aCm,aCn,aCo,aCp,aCq,aCr,aCs,akJ,akK,akL,akM,aCt,aCu,aCv,aCw,aCx,aCy,aCz,aCA,aCB,aCC,akN,akO,akP,akQ⟩:=blkc14 cM.out;go_wp2_with (first|((with_reducible refine gate_callee (f:=33) rfl ?_);refine goesL_ (some 39) rfl rfl Tryz.func33 (by kernel_rfl) rfl #[.string bB] rfl au58 ?_;(with_reducible refine (impl_isText.calls gS bB _ _ K2.out).mono ?_);rintro e w90 ⟨rfl,hb⟩;refine ⟨_,rfl,?_⟩;replace cM:=am (blk_below (g:=gV) au72 hb);replace HB:=am (below_step au41 hb);(try clear hb);obtain ⟨aCD,aCE,aCF,aCG,aCH,aCI,aCJ,aCK,aCL,aCM,akR,akS,akT,akU,aCN,aCO,aCP,aCQ,aCR,aCS,aCT,aCU,aCV,aCW,akV,akW,akX,akY⟩:=blkc14 cM.out)|(go_at_call 33;(with_reducible refine (impl_isText.calls gS bC _ _ JI.out).mono ?_);rintro e w92 ⟨rfl,hb⟩;replace cM:=am (blk_below (g:=gV) au72 hb);replace HB:=am (below_step au41 hb);(try clear hb)));go_ret;exact ax9
    · replace kW:=Bool.eq_false_iff.mpr kW;subst kW;replace H:=(if_neg (show ¬ (false=true) by decide)).symm.trans H;obtain rfl:=ojz H;obtain ⟨aCX,aCY,aCZ,aD0,aD1,aD2,aD3,aD4,aD5,aD6,akZ,alA,alB,alC,aD7,aD8,aD9,aDa,aDb,aDc,aDd,aDe,aDf,aDg,alD,alE,alF,alG⟩:=blkc14 cM.out;go_wp2_with (first|((with_reducible refine gate_callee (f:=33) rfl ?_);refine goesL_ (some 39) rfl rfl Tryz.func33 (by kernel_rfl) rfl #[.string bB] rfl au58 ?_;(with_reducible refine (impl_isText.calls gS bB _ _ K2.out).mono ?_);rintro e w94 ⟨rfl,hb⟩;refine ⟨_,rfl,?_⟩;replace cM:=am (blk_below (g:=gV) au72 hb);replace HB:=am (below_step au41 hb);(try clear hb)));go_ret;exact ax9
mutual
def spec_l4Entry.j0:Nat→Bool→ByteArray→Int→List (S68)→List (S68)→ByteArray→ByteArray→ByteArray→Int→Int→Int→Bool→Int→ByteArray→ByteArray→Option (Bool)
 | 0,_,_,_,_,_,_,_,_,_,_,_,_,_,_,_=>none
 | k+1,x24,yG,CS,CU,CV,yH,yI,yJ,yK,yL,yM,yN,yO,yP,qZ=>if x24=true then (some false) else ((spec_l4Text.f k yH).bind fun W9=>(if W9=true then ((spec_l4Text.f k yI).bind fun Wa=>(if Wa=true then ((spec_l4Text.f k yJ).bind fun P4=>(if P4=true then ((spec_l4Text.f k yP).bind fun M7=>(spec_l4Entry.j1 k (!M7) yG CS CU CV yH yI yJ yK yL yM yN yO yP qZ)) else (spec_l4Entry.j1 k true yG CS CU CV yH yI yJ yK yL yM yN yO yP qZ))) else (spec_l4Entry.j1 k true yG CS CU CV yH yI yJ yK yL yM yN yO yP qZ))) else (spec_l4Entry.j1 k true yG CS CU CV yH yI yJ yK yL yM yN yO yP qZ)))
def spec_l4Entry.j1:Nat→Bool→ByteArray→Int→List (S68)→List (S68)→ByteArray→ByteArray→ByteArray→Int→Int→Int→Bool→Int→ByteArray→ByteArray→Option (Bool)
 | 0,_,_,_,_,_,_,_,_,_,_,_,_,_,_,_=>none
 | k+1,x46,yG,CS,CU,CV,yH,yI,yJ,yK,yL,yM,yN,yO,yP,qZ=>if x46=true then (some false) else ((spec_l3Good.f k yK yL yM yN).bind fun P5=>(if P5=true then ((spec_l1In.f yO 0 9999).bind fun P6=>(if P6=true then (if qZ.toList=([]:List UInt8) then (some true) else ((spec_l4Key.f k qZ).bind fun P7=>(if P7=true then (some (qZ.toList != yG.toList)) else (some false)))) else (some false))) else (some false)))
end
def spec_l4Entry.f (k:Nat) (aD:ByteArray) (aA:Int) (aN:List (S68)) (aQ:List (S68)) (bB:ByteArray) (bC:ByteArray) (bD:ByteArray) (aV:Int) (aY:Int) (bA:Int) (aH:Bool) (aI:Int) (aK:ByteArray) (aM:ByteArray):Option (Bool):=(spec_l4Key.f k aD).bind fun P8=>(if P8=true then ((spec_l1In.f aA 1 4).bind fun P9=>(if P9=true then ((spec_l2List.f k aN).bind fun Pd=>(if Pd=true then ((spec_l2List.f k aQ).bind fun M8=>(spec_l4Entry.j0 k (!M8) aD aA aN aQ bB bC bD aV aY bA aH aI aK aM)) else (spec_l4Entry.j0 k true aD aA aN aQ bB bC bD aV aY bA aH aI aK aM))) else (spec_l4Entry.j0 k true aD aA aN aQ bB bC bD aV aY bA aH aI aK aM))) else (spec_l4Entry.j0 k true aD aA aN aQ bB bC bD aV aY bA aH aI aK aM))
theorem spec_l4Entry.mono_l:∀ k,(∀ y0 y1 y2 y3 y4 y5 y6 y7 y8 y9 cV cW cX cY kD,LeO (spec_l4Entry.j0 k y0 y1 y2 y3 y4 y5 y6 y7 y8 y9 cV cW cX cY kD) (spec_l4Entry.j0 (k+1) y0 y1 y2 y3 y4 y5 y6 y7 y8 y9 cV cW cX cY kD))∧(∀ y0 y1 y2 y3 y4 y5 y6 y7 y8 y9 cV cW cX cY kD,LeO (spec_l4Entry.j1 k y0 y1 y2 y3 y4 y5 y6 y7 y8 y9 cV cW cX cY kD) (spec_l4Entry.j1 (k+1) y0 y1 y2 y3 y4 y5 y6 y7 y8 y9 cV cW cX cY kD))
 | 0=>⟨fun _ _ _ _ _ _ _ _ _ _ _ _ _ _ _ r h=>by simp [spec_l4Entry.j0] at h,fun _ _ _ _ _ _ _ _ _ _ _ _ _ _ _ r h=>by simp [spec_l4Entry.j1] at h⟩
 | k+1=>by
  obtain ⟨ih0,ih1⟩:=spec_l4Entry.mono_l k;refine ⟨?_,?_⟩
  ·
   intro y0 y1 y2 y3 y4 y5 y6 y7 y8 y9 cV cW cX cY kD;unfold spec_l4Entry.j0
   repeat' first
   | (with_reducible exact ih0 _ _ _ _ _ _ _ _ _ _ _ _ _ _ _)
   | (with_reducible exact ih1 _ _ _ _ _ _ _ _ _ _ _ _ _ _ _)
   | (with_reducible exact spec_l2List.mono _ _)
   | (with_reducible exact spec_l3Good.mono _ _ _ _ _)
   | (with_reducible exact spec_l4Key.mono _ _)
   | (with_reducible exact spec_l4Text.mono _ _)
   | (with_reducible exact LeO.refl _)
   | (with_reducible exact LeO.none _)
   | (with_reducible refine LeO.ite ?_ ?_)
   | (with_reducible refine LeO.bind ?_ (fun _=>?_))
   | exact ih0 _ _ _ _ _ _ _ _ _ _ _ _ _ _ _
   | exact ih1 _ _ _ _ _ _ _ _ _ _ _ _ _ _ _
   | exact spec_l2List.mono _ _
   | exact spec_l3Good.mono _ _ _ _ _
   | exact spec_l4Key.mono _ _
   | exact spec_l4Text.mono _ _
   | exact LeO.none _
   | refine LeO.ite ?_ ?_
   | refine LeO.bind ?_ (fun _=>?_)
  ·
   intro y0 y1 y2 y3 y4 y5 y6 y7 y8 y9 cV cW cX cY kD;unfold spec_l4Entry.j1
   repeat' first
   | (with_reducible exact ih0 _ _ _ _ _ _ _ _ _ _ _ _ _ _ _)
   | (with_reducible exact ih1 _ _ _ _ _ _ _ _ _ _ _ _ _ _ _)
   | (with_reducible exact spec_l2List.mono _ _)
   | (with_reducible exact spec_l3Good.mono _ _ _ _ _)
   | (with_reducible exact spec_l4Key.mono _ _)
   | (with_reducible exact spec_l4Text.mono _ _)
   | (with_reducible exact LeO.refl _)
   | (with_reducible exact LeO.none _)
   | (with_reducible refine LeO.ite ?_ ?_)
   | (with_reducible refine LeO.bind ?_ (fun _=>?_))
   | exact ih0 _ _ _ _ _ _ _ _ _ _ _ _ _ _ _
   | exact ih1 _ _ _ _ _ _ _ _ _ _ _ _ _ _ _
   | exact spec_l2List.mono _ _
   | exact spec_l3Good.mono _ _ _ _ _
   | exact spec_l4Key.mono _ _
   | exact spec_l4Text.mono _ _
   | exact LeO.none _
   | refine LeO.ite ?_ ?_
   | refine LeO.bind ?_ (fun _=>?_)
theorem spec_l4Entry.mono:∀ a0 a1 a2 a3 a4 a5 a6 a7 a8 a9 hJ hU hV hY k,LeO (spec_l4Entry.f k a0 a1 a2 a3 a4 a5 a6 a7 a8 a9 hJ hU hV hY) (spec_l4Entry.f (k+1) a0 a1 a2 a3 a4 a5 a6 a7 a8 a9 hJ hU hV hY):=by
 intro a0 a1 a2 a3 a4 a5 a6 a7 a8 a9 hJ hU hV hY k;obtain ⟨ih0,ih1⟩:=spec_l4Entry.mono_l k;unfold spec_l4Entry.f
 repeat' first
   | (with_reducible exact ih0 _ _ _ _ _ _ _ _ _ _ _ _ _ _ _)
   | (with_reducible exact ih1 _ _ _ _ _ _ _ _ _ _ _ _ _ _ _)
   | (with_reducible exact spec_l2List.mono _ _)
   | (with_reducible exact spec_l3Good.mono _ _ _ _ _)
   | (with_reducible exact spec_l4Key.mono _ _)
   | (with_reducible exact spec_l4Text.mono _ _)
   | (with_reducible exact LeO.refl _)
   | (with_reducible exact LeO.none _)
   | (with_reducible refine LeO.ite ?_ ?_)
   | (with_reducible refine LeO.bind ?_ (fun _=>?_))
   | exact ih0 _ _ _ _ _ _ _ _ _ _ _ _ _ _ _
   | exact ih1 _ _ _ _ _ _ _ _ _ _ _ _ _ _ _
   | exact spec_l2List.mono _ _
   | exact spec_l3Good.mono _ _ _ _ _
   | exact spec_l4Key.mono _ _
   | exact spec_l4Text.mono _ _
   | exact LeO.none _
   | refine LeO.ite ?_ ?_
   | refine LeO.bind ?_ (fun _=>?_)
theorem spec_l4Entry.L0 {P:Prop} (h:P:=by
  go_wp2_with (first|((with_reducible refine gate_callee (f:=35) rfl ?_);refine goesL_ (some 5) rfl rfl Tryz.func35 (by kernel_rfl) rfl #[.string aD] rfl au58 ?_;(with_reducible refine (spec_l4Key.calls k aD _ _ A4.out).mono ?_);rintro e w' ⟨rfl,⟨nd,rfl⟩⟩;refine ⟨_,rfl,?_⟩)|(go_at_call 36;(with_reducible refine (spec_l1In.calls aA 1 4 _ _ A6.out).mono ?_);rintro e w' ⟨rfl,⟨nd,rfl⟩⟩)|(go_at_call 37;(with_reducible refine (spec_l2List.calls k _ _ aN _ _ ?aE ?aG A8.out).mono ?_);(case aE=>repeat (first|exact (Kd.C_below fJ.out au42)|(with_reducible refine Kd.C_alloc ?_ _)|(with_reducible refine Kd.C_drewN ?_ _)|(with_reducible refine Kd.C_drew ?_)));(case aG=>exact fK.out);rintro e EX ⟨rfl,hb⟩;replace fU:=am (blk_below (g:=Et) au73 hb);replace HB:=am (below_step au42 hb);(try clear hb);obtain ⟨qR,qS,qT,qU,Gg,Gh,Gi,Gj,Gk,Gm,DV,DW,DX,DY,qV,qW,qX,qY,Gn,Gp,Gq,Gr,Gs,Gt,DZ,E0,E1,E2⟩:=blkc14 fU.out)|(go_at_call 37;(with_reducible refine (spec_l2List.calls k _ _ aQ M8 _ ?aE ?aG nO.out).mono ?_);(case aE=>repeat (first|exact (Kd.C_below gB.out HB.out)|(with_reducible refine Kd.C_alloc ?_ _)|(with_reducible refine Kd.C_drewN ?_ _)|(with_reducible refine Kd.C_drew ?_)));(case aG=>exact gC.out);rintro e QR ⟨rfl,hb⟩;replace fU:=am (blk_below (g:=Et) au73 hb);replace HB:=am (below_step au42 hb);(try clear hb)));go_meet
  case rel=>first|(exact ⟨_,(!M8),au104,H',⟨by first|omega|exact Nat.le_refl _⟩,⟨by (with_reducible repeat (first|refine blk_drewN ?_ _|refine blk_drew ?_|refine blk_alloc ?_ _));exact fU.out⟩,⟨by repeat (first|(with_reducible first|exact HB.out|apply below_alloc|apply pw_below_drewN|apply below_drew1|refine below_set ?_ B1.out)|exact HB.out)⟩⟩)|(exact ⟨_,(true),au104,H',⟨by first|omega|exact Nat.le_refl _⟩,⟨by (with_reducible repeat (first|refine blk_drewN ?_ _|refine blk_drew ?_|refine blk_alloc ?_ _));exact fU.out⟩,⟨by repeat (first|(with_reducible first|exact HB.out|apply below_alloc|apply pw_below_drewN|apply below_drew1|refine below_set ?_ B1.out)|exact HB.out)⟩⟩)):P:=h
theorem spec_l4Entry.L1 {P:Prop} (h:P:=by
  go_wp2_with (first|((with_reducible refine gate_callee (f:=39) rfl ?_);refine goesL_ (some 49) rfl rfl Tryz.func39 (by kernel_rfl) rfl #[.agg #[.int .i64 aV,.int .i64 aY,.int .i64 bA,.bool aH]] rfl au58 ?_;(with_reducible refine (spec_l3Good.calls TW aV aY bA aH _ _ A33.out).mono ?_);rintro e w44 ⟨rfl,hb⟩;refine ⟨_,rfl,?_⟩;replace fU:=am (blk_below (g:=Et) au73 hb);replace HB:=am (below_step au42 hb);(try clear hb);obtain ⟨aDh,aDi,aDj,aDk,aDl,aDm,aDn,aDo,aDp,aDq,alH,alI,alJ,alK,aDr,aDs,aDt,aDu,aDv,aDw,aDx,aDy,aDz,aDA,alL,alM,alN,alO⟩:=blkc14 fU.out)|(go_at_call 36;(with_reducible refine (spec_l1In.calls aI 0 9999 _ _ A35.out).mono ?_);rintro e w' ⟨rfl,⟨nd,rfl⟩⟩)|(go_at_call 35;(with_reducible refine (spec_l4Key.calls TW aM _ _ NF.out).mono ?_);rintro e w' ⟨rfl,⟨nd,rfl⟩⟩));go_ret
  exact ⟨by first|rfl|(simp [errW_none,errW_some] <;> rfl)|(simp [*,errW_none,errW_some] <;> rfl),by repeat (first|(with_reducible first|exact HB.out|apply below_alloc|apply pw_below_drewN|apply below_drew1|refine below_set ?_ B1.out)|exact HB.out)⟩):P:=h
theorem spec_l4Entry.L2 {P:Prop} (h:P:=by
  go_wp2_with (first|((with_reducible refine gate_callee (f:=38) rfl ?_);refine goesL_ (some 27) rfl rfl Tryz.func38 (by kernel_rfl) rfl #[.string bB] rfl au58 ?_;(with_reducible refine (spec_l4Text.calls gS bB _ _ BQ.out).mono ?_);rintro e w' ⟨rfl,⟨nd,rfl⟩⟩;refine ⟨_,rfl,?_⟩)|(go_at_call 38;(with_reducible refine (spec_l4Text.calls gS bC _ _ A23.out).mono ?_);rintro e w' ⟨rfl,⟨nd,rfl⟩⟩)|(go_at_call 38;(with_reducible refine (spec_l4Text.calls gS bD _ _ XK.out).mono ?_);rintro e w' ⟨rfl,⟨nd,rfl⟩⟩)|(go_at_call 38;(with_reducible refine (spec_l4Text.calls gS aK M7 _ Uo.out).mono ?_);rintro e w' ⟨rfl,⟨nd,rfl⟩⟩));go_meet
  case rel=>first|(exact ⟨_,(!M7),au104,H',⟨by have:=kA.out;first|omega|exact Nat.le_refl _⟩,⟨by (with_reducible repeat (first|refine blk_drewN ?_ _|refine blk_drew ?_|refine blk_alloc ?_ _));exact fU.out⟩,⟨by repeat (first|(with_reducible first|exact HB.out|apply below_alloc|apply pw_below_drewN|apply below_drew1|refine below_set ?_ B1.out)|exact HB.out)⟩⟩)|(exact ⟨_,(true),au104,H',⟨by have:=kA.out;first|omega|exact Nat.le_refl _⟩,⟨by (with_reducible repeat (first|refine blk_drewN ?_ _|refine blk_drew ?_|refine blk_alloc ?_ _));exact fU.out⟩,⟨by repeat (first|(with_reducible first|exact HB.out|apply below_alloc|apply pw_below_drewN|apply below_drew1|refine below_set ?_ B1.out)|exact HB.out)⟩⟩)):P:=h
theorem spec_l4Entry.calls (k:Nat) (aD:ByteArray) (aA:Int) (cK:Option Addr) (cL:Nat) (aN:List (S68)) (cH:Option Addr) (cI:Nat) (aQ:List (S68)) (bB:ByteArray) (bC:ByteArray) (bD:ByteArray) (aV:Int) (aY:Int) (bA:Int) (aH:Bool) (aI:Int) (aK:ByteArray) (aM:ByteArray) (r:Bool) (w:World) (gF:Kd.C k68 w cK aN.length aN) (gG:aN.length≤cL) (gH:Kd.C k68 w cH aQ.length aQ) (gI:aQ.length≤cI) (h:spec_l4Entry.f k aD aA aN aQ bB bC bD aV aY bA aH aI aK aM=some r) :
  Calls Tryz.prog 17 #[.agg #[.string aD,.int .i64 aA,.slice cK aN.length cL,.slice cH aQ.length cI,.string bB,.string bC,.string bD,.int .i64 aV,.int .i64 aY,.int .i64 bA,.bool aH,.int .i64 aI,.string aK,.string aM]] w fun e w'=>e=.returned (.bool r)∧Below w.heap.size w w':=by
 have hu28:=Tryz.underlying28;have hu26:=Tryz.underlying26;have fJ:=am gF;have fK:=am gG;clear gF gG;have gB:=am gH;have gC:=am gI;clear gH gI;have HB:=am (Below.refl w.heap.size w);have H:((spec_l4Key.f k aD).bind fun P8=>(if P8=true then ((spec_l1In.f aA 1 4).bind fun P9=>(if P9=true then ((spec_l2List.f k aN).bind fun Pd=>(if Pd=true then ((spec_l2List.f k aQ).bind fun M8=>(spec_l4Entry.j0 k (!M8) aD aA aN aQ bB bC bD aV aY bA aH aI aK aM)) else (spec_l4Entry.j0 k true aD aA aN aQ bB bC bD aV aY bA aH aI aK aM))) else (spec_l4Entry.j0 k true aD aA aN aQ bB bC bD aV aY bA aH aI aK aM))) else (spec_l4Entry.j0 k true aD aA aN aQ bB bC bD aV aY bA aH aI aK aM)))=some r:=h;clear h;have jZ:=am H;clear H;go_enter Tryz.func17,Tryz.ntmps17
 go_upto_region 1 with (first|((with_reducible refine gate_dst (N:=1) rfl ?_);refine box_event ?hg (N:=1) ?hd (cs:=#[.string aD,.int .i64 aA,.slice cK aN.length cL,.slice cH aQ.length cI,.string bB,.string bC,.string bD,.int .i64 aV,.int .i64 aY,.int .i64 bA,.bool aH,.int .i64 aI,.string aK,.string aM]) (t:=28) ?hr ?_;(case hd=>rfl);(case hg=>rfl);(case hr=>first|(go_simp;done)|(go_simp;rfl));intro Et hg w3 hbox hb;have fU:=am (hbox);have aLI:=am (bsz hg au59);have B1:=am (bsz hg au59);replace HB:=am (below_step au59 hb);clear hb hbox hg))
 (try simp only [Act.put,List.setIfInBounds_toArray,List.set_cons_zero,List.set_cons_succ])
 go_cut [24] (fun v24 wc=>∃ (kq:Nat) (Na:Bool),v24=.bool Na∧Aside0 (spec_l4Entry.j0 kq Na aD aA aN aQ bB bC bD aV aY bA aH aI aK aM=some r)∧Aside0 (kq≤k)∧Aside0 (wc.heap[Et]?=some (.cells #[.string aD,.int .i64 aA,(.slice cK aN.length cL),(.slice cH aQ.length cI),.string bB,.string bC,.string bD,.int .i64 aV,.int .i64 aY,.int .i64 bA,.bool aH,.int .i64 aI,.string aK,.string aM] 28 (0,0)))∧Aside0 (Below w.heap.size w wc))
 case first =>
  have H:=jZ.out;clear jZ;replace H:=obz H;obtain ⟨P8,nE,H⟩:=H
  try dsimp only at H
  have A4:=am nE;clear nE;by_cases c5:P8=true
  ·
   subst c5;replace H:=(if_pos rfl).symm.trans H;replace H:=obz H;obtain ⟨P9,nF,H⟩:=H
   try dsimp only at H
   have A6:=am nF;clear nF;by_cases c7:P9=true
   ·
    subst c7;replace H:=(if_pos rfl).symm.trans H;replace H:=obz H;obtain ⟨Pd,wF,H⟩:=H
    try dsimp only at H
    have A8:=am wF;clear wF;by_cases c9:Pd=true
    ·
     subst c9;replace H:=(if_pos rfl).symm.trans H;replace H:=obz H;obtain ⟨M8,kC,H⟩:=H
     try dsimp only at H
     have nO:=am kC;clear kC;have H':=am H;clear H;obtain ⟨jQ,jR,jS,jT,CW,CX,CY,CZ,D1,D2,AC,AD,AE,AF,jU,jV,jW,jX,D3,D4,D5,D6,D7,D8,AG,AH,AI,AJ⟩:=blkc14 fU.out;exact spec_l4Entry.L0
    ·
     replace c9:=Bool.eq_false_iff.mpr c9;subst c9;replace H:=(if_neg (show ¬ (false=true) by decide)).symm.trans H;have H':=am H;clear H;obtain ⟨lQ,lR,lS,lT,CF,CG,CH,CI,CJ,CK,Au,Av,Aw,Ax,lU,lV,lW,lX,CL,CM,CN,CO,CP,CQ,Ay,Az,AA,AB⟩:=blkc14 fU.out;go_wp2_with (first|((with_reducible refine gate_callee (f:=35) rfl ?_);refine goesL_ (some 5) rfl rfl Tryz.func35 (by kernel_rfl) rfl #[.string aD] rfl au58 ?_;(with_reducible refine (spec_l4Key.calls k aD _ _ A4.out).mono ?_);rintro e w' ⟨rfl,⟨nd,rfl⟩⟩;refine ⟨_,rfl,?_⟩)|(go_at_call 36;(with_reducible refine (spec_l1In.calls aA 1 4 _ _ A6.out).mono ?_);rintro e w' ⟨rfl,⟨nd,rfl⟩⟩)|(go_at_call 37;(with_reducible refine (spec_l2List.calls k _ _ aN _ _ ?aE ?aG A8.out).mono ?_);(case aE=>repeat (first|exact (Kd.C_below fJ.out au42)|(with_reducible refine Kd.C_alloc ?_ _)|(with_reducible refine Kd.C_drewN ?_ _)|(with_reducible refine Kd.C_drew ?_)));(case aG=>exact fK.out);rintro e Ey ⟨rfl,hb⟩;replace fU:=am (blk_below (g:=Et) au73 hb);replace HB:=am (below_step au42 hb);(try clear hb)));go_meet
     case rel=>exact ⟨_,(true),au104,H',⟨by first|omega|exact Nat.le_refl _⟩,⟨by (with_reducible repeat (first|refine blk_drewN ?_ _|refine blk_drew ?_|refine blk_alloc ?_ _));exact fU.out⟩,⟨by repeat (first|(with_reducible first|exact HB.out|apply below_alloc|apply pw_below_drewN|apply below_drew1|refine below_set ?_ B1.out)|exact HB.out)⟩⟩
   · replace c7:=Bool.eq_false_iff.mpr c7;subst c7;replace H:=(if_neg (show ¬ (false=true) by decide)).symm.trans H;have H':=am H;clear H;obtain ⟨lI,lJ,lK,lL,vC,vD,vG,vH,vI,vJ,qE,qF,qG,qH,lM,lN,lO,lP,vK,vL,vM,vN,vO,vP,qI,qJ,qK,qL⟩:=blkc14 fU.out;exact spec_l4Entry.L0
  · replace c5:=Bool.eq_false_iff.mpr c5;subst c5;replace H:=(if_neg (show ¬ (false=true) by decide)).symm.trans H;have H':=am H;clear H;obtain ⟨xG,xH,xI,xJ,M9,Ma,Mb,Mc,Md,Me,Iy,Iz,IA,IB,xK,xL,xM,xN,Mf,Mg,Mh,Mi,Mj,Mk,IC,ID,IE,IG⟩:=blkc14 fU.out;exact spec_l4Entry.L0
 case rest =>
  clear jZ
  try clear c1
  try clear p2
  try clear c3
  try clear c5
  try clear c7
  try clear c9
  try clear gD
  try clear jQ jR AC AD AE AF jS jT CW CX CY CZ D1 D2 jU jV AG AH AI AJ jW jX D3 D4 D5 D6 D7 D8
  try clear qR qS DV DW DX DY qT qU Gg Gh Gi Gj Gk Gm qV qW DZ E0 E1 E2 qX qY Gn Gp Gq Gr Gs Gt
  try clear lQ lR Au Av Aw Ax lS lT CF CG CH CI CJ CK lU lV Ay Az AA AB lW lX CL CM CN CO CP CQ
  try clear lI lJ qE qF qG qH lK lL vC vD vG vH vI vJ lM lN qI qJ qK qL lO lP vK vL vM vN vO vP
  try clear xG xH Iy Iz IA IB xI xJ M9 Ma Mb Mc Md Me xK xL IC ID IE IG xM xN Mf Mg Mh Mi Mj Mk
  obtain ⟨kq,Na,rfl,HA,kA,fU,HB⟩:=hcut
  cases kq with
  | zero=>exact absurd HA.out (by simp [spec_l4Entry.j0])
  | succ gS =>
   have H:=HA.out;clear HA;simp only [spec_l4Entry.j0] at H;by_cases fO:Na=true
   · subst fO;replace H:=(if_pos rfl).symm.trans H;obtain rfl:=ojz H;exact spec_l4Entry.L1
   ·
    replace fO:=Bool.eq_false_iff.mpr fO;subst fO;replace H:=(if_neg (show ¬ (false=true) by decide)).symm.trans H;have IH:=am H;clear H
    go_upto_region 3 with (fail)
    go_cut [46] (fun v46 wc=>∃ (kq:Nat) (Ke:Bool),v46=.bool Ke∧Aside0 (spec_l4Entry.j1 kq Ke aD aA aN aQ bB bC bD aV aY bA aH aI aK aM=some r)∧Aside0 (kq≤gS)∧Aside0 (wc.heap[Et]?=some (.cells #[.string aD,.int .i64 aA,(.slice cK aN.length cL),(.slice cH aQ.length cI),.string bB,.string bC,.string bD,.int .i64 aV,.int .i64 aY,.int .i64 bA,.bool aH,.int .i64 aI,.string aK,.string aM] 28 (0,0)))∧Aside0 (Below w.heap.size w wc))
    case first =>
     have H:=IH.out;clear IH;replace H:=obz H;obtain ⟨W9,sP,H⟩:=H
     try dsimp only at H
     have BQ:=am sP;clear sP;by_cases fP:W9=true
     ·
      subst fP;replace H:=(if_pos rfl).symm.trans H;replace H:=obz H;obtain ⟨Wa,a7W,H⟩:=H
      try dsimp only at H
      have A23:=am a7W;clear a7W;by_cases nB:Wa=true
      ·
       subst nB;replace H:=(if_pos rfl).symm.trans H;replace H:=obz H;obtain ⟨P4,Pe,H⟩:=H
       try dsimp only at H
       have XK:=am Pe;clear Pe;by_cases kH:P4=true
       ·
        subst kH;replace H:=(if_pos rfl).symm.trans H;replace H:=obz H;obtain ⟨M7,EP,H⟩:=H
        try dsimp only at H
        have Uo:=am EP;clear EP;have H':=am H;clear H;obtain ⟨xP,xQ,xR,xS,GI,GJ,GK,GM,GN,GO,Ec,Ed,Ee,Ef,xT,xU,xV,xW,GP,GQ,GR,GT,GU,GV,Eg,Eh,Ei,Ej⟩:=blkc14 fU.out;exact spec_l4Entry.L2
       · replace kH:=Bool.eq_false_iff.mpr kH;subst kH;replace H:=(if_neg (show ¬ (false=true) by decide)).symm.trans H;have H':=am H;clear H;obtain ⟨KE,KF,KG,KH,a1Q,a1R,a1S,a1T,a1U,a1V,Wb,Wc,Wd,We,KI,KJ,KL,KM,a1W,a1X,a1Y,a1Z,a2A,a2B,Wg,Wh,Wi,Wj⟩:=blkc14 fU.out;exact spec_l4Entry.L2
      · replace nB:=Bool.eq_false_iff.mpr nB;subst nB;replace H:=(if_neg (show ¬ (false=true) by decide)).symm.trans H;have H':=am H;clear H;obtain ⟨tY,tZ,uA,uB,GW,GX,GY,GZ,H0,H1,Ek,El,Em,En,uC,uD,uE,uF,H2,H3,H4,H5,H6,H7,Eo,Ep,Er,Es⟩:=blkc14 fU.out;exact spec_l4Entry.L2
     · replace fP:=Bool.eq_false_iff.mpr fP;subst fP;replace H:=(if_neg (show ¬ (false=true) by decide)).symm.trans H;have H':=am H;clear H;obtain ⟨BR,BS,BU,BV,Ml,Mm,Mn,Mo,Mp,Mq,II,IJ,IK,IL,BW,BX,BZ,C0,Mr,Ms,Mt,Mu,Mv,Mw,IM,IP,IQ,IR⟩:=blkc14 fU.out;exact spec_l4Entry.L2
    case rest =>
     clear IH
     try clear c1
     try clear c2
     try clear p2
     try clear c3
     try clear c5
     try clear c7
     try clear c9
     try clear gD
     try clear fO
     try clear fP
     try clear nB
     try clear kH
     try clear jQ jR AC AD AE AF jS jT CW CX CY CZ D1 D2 jU jV AG AH AI AJ jW jX D3 D4 D5 D6 D7 D8
     try clear qR qS DV DW DX DY qT qU Gg Gh Gi Gj Gk Gm qV qW DZ E0 E1 E2 qX qY Gn Gp Gq Gr Gs Gt
     try clear lQ lR Au Av Aw Ax lS lT CF CG CH CI CJ CK lU lV Ay Az AA AB lW lX CL CM CN CO CP CQ
     try clear lI lJ qE qF qG qH lK lL vC vD vG vH vI vJ lM lN qI qJ qK qL lO lP vK vL vM vN vO vP
     try clear xG xH Iy Iz IA IB xI xJ M9 Ma Mb Mc Md Me xK xL IC ID IE IG xM xN Mf Mg Mh Mi Mj Mk
     try clear xP xQ Ec Ed Ee Ef xR xS GI GJ GK GM GN GO xT xU Eg Eh Ei Ej xV xW GP GQ GR GT GU GV
     try clear KE KF Wb Wc Wd We KG KH a1Q a1R a1S a1T a1U a1V KI KJ Wg Wh Wi Wj KL KM a1W a1X a1Y a1Z a2A a2B
     try clear tY tZ Ek El Em En uA uB GW GX GY GZ H0 H1 uC uD Eo Ep Er Es uE uF H2 H3 H4 H5 H6 H7
     try clear BR BS II IJ IK IL BU BV Ml Mm Mn Mo Mp Mq BW BX IM IP IQ IR BZ C0 Mr Ms Mt Mu Mv Mw
     try clear p2
     obtain ⟨kq,Ke,rfl,HA,alP,fU,HB⟩:=hcut
     cases kq with
     | zero=>exact absurd HA.out (by simp [spec_l4Entry.j1])
     | succ TW =>
      have H:=HA.out;clear HA;simp only [spec_l4Entry.j1] at H;by_cases mP:Ke=true
      · subst mP;replace H:=(if_pos rfl).symm.trans H;obtain rfl:=ojz H;exact spec_l4Entry.L1
      ·
       replace mP:=Bool.eq_false_iff.mpr mP;subst mP;replace H:=(if_neg (show ¬ (false=true) by decide)).symm.trans H;replace H:=obz H;obtain ⟨P5,a7X,H⟩:=H
       try dsimp only at H
       have A33:=am a7X;clear a7X;by_cases EB:P5=true
       ·
        subst EB;replace H:=(if_pos rfl).symm.trans H;replace H:=obz H;obtain ⟨P6,a7Y,H⟩:=H
        try dsimp only at H
        have A35:=am a7Y;clear a7Y;by_cases tR:P6=true
        ·
         subst tR;replace H:=(if_pos rfl).symm.trans H;by_cases Cb:aM.toList=([]:List UInt8)
         · rw [if_pos Cb] at H;have c37b0:=qt Cb;have c37b1:=bfz Cb;clear Cb;obtain rfl:=ojz H;obtain ⟨Qs,Qt,Qu,Qv,aDB,aDC,aDD,aDE,aDF,aDG,alQ,alR,alS,alT,Qw,Qx,Qy,Qz,aDH,aDI,aDJ,aDK,aDL,aDM,alU,alV,alW,alX⟩:=blkc14 fU.out;exact spec_l4Entry.L1
         ·
          rw [if_neg Cb] at H;have c37b0:=qf Cb;have c37b1:=bu Cb;replace H:=obz H;obtain ⟨P7,EU,H⟩:=H
          try dsimp only at H
          have NF:=am EU;clear EU;by_cases Kb:P7=true
          · subst Kb;replace H:=(if_pos rfl).symm.trans H;obtain rfl:=ojz H;obtain ⟨G6,G7,G8,G9,Mx,My,Mz,MA,MB,MC,IT,IU,IV,IW,Ga,Gb,Gc,Ge,MD,ME,MF,MG,MH,MI,IX,IY,IZ,J0⟩:=blkc14 fU.out;exact spec_l4Entry.L1
          · replace Kb:=Bool.eq_false_iff.mpr Kb;subst Kb;replace H:=(if_neg (show ¬ (false=true) by decide)).symm.trans H;obtain rfl:=ojz H;obtain ⟨KN,KO,KP,KQ,a1E,a1F,a1G,a1H,a1I,a1J,VZ,W0,W3,W4,KR,KS,KT,KU,a1K,a1L,a1M,a1N,a1O,a1P,W5,W6,W7,W8⟩:=blkc14 fU.out;exact spec_l4Entry.L1
        · replace tR:=Bool.eq_false_iff.mpr tR;subst tR;replace H:=(if_neg (show ¬ (false=true) by decide)).symm.trans H;obtain rfl:=ojz H;obtain ⟨QB,QC,QD,QE,aDN,aDO,aDP,aDQ,aDR,aDS,alY,alZ,amA,amB,QF,QG,QH,QI,aDT,aDU,aDV,aDW,aDX,aDY,amC,amD,amE,amF⟩:=blkc14 fU.out;exact spec_l4Entry.L1
       · replace EB:=Bool.eq_false_iff.mpr EB;subst EB;replace H:=(if_neg (show ¬ (false=true) by decide)).symm.trans H;obtain rfl:=ojz H;obtain ⟨QJ,QK,QL,QM,aDZ,aE0,aE1,aE2,aE3,aE4,amG,amH,amI,amJ,QN,QO,QP,QQ,aE5,aE6,aE7,aE8,aE9,aEa,amK,amL,amM,amN⟩:=blkc14 fU.out;go_wp2_with (first|((with_reducible refine gate_callee (f:=39) rfl ?_);refine goesL_ (some 49) rfl rfl Tryz.func39 (by kernel_rfl) rfl #[.agg #[.int .i64 aV,.int .i64 aY,.int .i64 bA,.bool aH]] rfl au58 ?_;(with_reducible refine (spec_l3Good.calls TW aV aY bA aH _ _ A33.out).mono ?_);rintro e w53 ⟨rfl,hb⟩;refine ⟨_,rfl,?_⟩;replace fU:=am (blk_below (g:=Et) au73 hb);replace HB:=am (below_step au42 hb);(try clear hb)));go_ret;exact ⟨by first|rfl|(simp [errW_none,errW_some] <;> rfl)|(simp [*,errW_none,errW_some] <;> rfl),by repeat (first|(with_reducible first|exact HB.out|apply below_alloc|apply pw_below_drewN|apply below_drew1|refine below_set ?_ B1.out)|exact HB.out)⟩
end Go.Proofs.YtcbhlghofihjcaaGreatDoor.G

namespace Go.Proofs.YtcbhlghofihjcaaGreatDoor.G
open Go.RowKit Go.Proofs.YtcbhlghofihjcaaGreatDoorW.PrintWords Go.Proofs.YtcbhlghofihjcaaGreatDoorW.PrintLast Go.Proofs.YtcbhlghofihjcaaGreatDoor.B Go.Proofs.YtcbhlghofihjcaaGreatDoor.Opn
set_option linter.unusedVariables false
set_option linter.unusedSimpArgs false
def kindD (n:Int):Bool:=decide (1≤n) && decide (n≤4)
def volD (n:Int):Bool:=decide (0≤n) && decide (n≤9999)
def crossD (X K:ByteArray):Bool:=decide (X.size=0) || (keyD X && (X.toList != K.toList))
theorem in_kind (n:Int):(if n ≥ 1 then some (decide (n≤4)) else some false)=some (kindD n):=by
  unfold kindD;by_cases h:n ≥ 1
  · rw [if_pos h,dt (show 1≤n from h)];rfl
  · rw [if_neg h,df (show ¬ 1≤n from h)];rfl
theorem in_vol (n:Int):(if n ≥ 0 then some (decide (n≤9999)) else some false)=some (volD n):=by
  unfold volD;by_cases h:n ≥ 0
  · rw [if_pos h,dt (show 0≤n from h)];rfl
  · rw [if_neg h,df (show ¬ 0≤n from h)];rfl
theorem spec_date (y m d:Int) (c:Bool):Ev (fun k=>spec_l3Good.f k y m d c) (goodD y m d c):=⟨2,fun k hk=>by
  obtain ⟨k',rfl⟩:∃ k',k=k'+2:=⟨k-2,by omega⟩
  exact spec_good k' y m d c⟩
theorem impl_date (y m d:Int) (c:Bool):Ev (fun k=>impl_IsValidDate.f k y m d c) (goodD y m d c):=⟨2,fun k hk=>by
  obtain ⟨k',rfl⟩:∃ k',k=k'+2:=⟨k-2,by omega⟩
  exact impl_good k' y m d c⟩
theorem spec_cross (X K:ByteArray):Ev (fun k=>if X.toList=([]:List UInt8) then (some true) else ((spec_l4Key.f k X).bind fun zR=>(if zR=true then (some (X.toList != K.toList)) else (some false)))) (crossD X K):=by
  unfold crossD;by_cases h:X.size=0
  · exact ev_pos ((nil_iff X).2 h) (ev_eq (Ev.now _) (by simp [h]))
  · refine ev_neg (fun e=>h ((nil_iff X).1 e)) (Ev.bind (spec_key X) ?_)
    cases keyD X with
    | true=>exact ev_pos rfl (ev_eq (Ev.now _) (by simp [h]))
    | false=>exact ev_neg (by simp) (ev_eq (Ev.now _) (by simp [h]))
theorem impl_cross (X K:ByteArray):Ev (fun k=>if X.toList=([]:List UInt8) then (some true) else ((impl_isKey.f k X).bind fun zR=>(if zR=true then (some (X.toList != K.toList)) else (some false)))) (crossD X K):=by
  unfold crossD;by_cases h:X.size=0
  · exact ev_pos ((nil_iff X).2 h) (ev_eq (Ev.now _) (by simp [h]))
  · refine ev_neg (fun e=>h ((nil_iff X).1 e)) (Ev.bind (impl_key X) ?_)
    cases keyD X with
    | true=>exact ev_pos rfl (ev_eq (Ev.now _) (by simp [h]))
    | false=>exact ev_neg (by simp) (ev_eq (Ev.now _) (by simp [h]))
def headE (K:ByteArray) (kd:Int) (A E:List S68):Bool:=keyD K && (kindD kd && (listD A && listD E))
def textsE (T C Pb Pg:ByteArray):Bool:=textD T && (textD C && (textD Pb && textD Pg))
def tailE (y m d:Int) (c:Bool) (v:Int):Bool:=goodD y m d c && volD v
def entD (K:ByteArray) (kd:Int) (A E:List S68) (T C Pb:ByteArray) (y m d:Int) (c:Bool) (v:Int) (Pg X:ByteArray):Bool :=
  headE K kd A E && (textsE T C Pb Pg && (tailE y m d c v && crossD X K))
theorem ev_and {g:Nat→Option Bool} {f n:Nat→Option Bool} {b r:Bool} (h:Ev g b) (hn:Ev n false) (hf:b=true→Ev f r):Ev (fun k=>(g k).bind fun t=>if t=true then f k else n k) (b && r):=by
  refine Ev.bind h ?_
  cases b with
  | true=>exact ev_pos rfl (ev_eq (hf rfl) (by simp))
  | false=>exact ev_neg (by simp) (ev_eq hn (by simp))
theorem ev_and0 {o:Option Bool} {f n:Nat→Option Bool} {b r:Bool} (h:o=some b) (hn:Ev n false) (hf:b=true→Ev f r):Ev (fun k=>o.bind fun t=>if t=true then f k else n k) (b && r):=by
  subst h
  cases b with
  | true=>exact ev_bind0 rfl (ev_pos rfl (ev_eq (hf rfl) (by simp)))
  | false=>exact ev_bind0 rfl (ev_neg (by simp) (ev_eq hn (by simp)))
theorem ev_last {g f n:Nat→Option Bool} {J:Nat→Bool→Option Bool} {b r:Bool} (h:Ev g b) (hn:Ev (fun k=>J k true) false) (hf:Ev (fun k=>J k false) r):Ev (fun k=>(g k).bind fun t=>J k (!t)) (b && r):=by
  refine Ev.bind h ?_
  cases b with
  | true=>exact ev_eq hf (by simp)
  | false=>exact ev_eq hn (by simp)
section
variable (K:ByteArray) (kd:Int) (A E:List S68) (T C Pb:ByteArray) (y m d:Int) (c:Bool) (v:Int) (Pg X:ByteArray)
theorem spec_ent (hA:∀ x∈A,okS x) (lA:A.length≤1048576) (hE:∀ x∈E,okS x) (lE:E.length≤1048576):Ev (fun k=>spec_l4Entry.f k K kd A E T C Pb y m d c v Pg X) (entD K kd A E T C Pb y m d c v Pg X):=by
  have n1:Ev (fun k=>spec_l4Entry.j1 k true K kd A E T C Pb y m d c v Pg X) false:=Ev.step (f:=fun _=>some false) (fun k=>by simp [spec_l4Entry.j1]) (Ev.now _);have n0:Ev (fun k=>spec_l4Entry.j0 k true K kd A E T C Pb y m d c v Pg X) false:=Ev.step (f:=fun _=>some false) (fun k=>by simp [spec_l4Entry.j0]) (Ev.now _)
  have p1:Ev (fun k=>spec_l4Entry.j1 k false K kd A E T C Pb y m d c v Pg X) (goodD y m d c && (volD v && crossD X K)):=by
    refine Ev.step (f:=fun k=>(spec_l3Good.f k y m d c).bind fun Bl=>(if Bl=true then ((spec_l1In.f v 0 9999).bind fun Nr=>(if Nr=true then (if X.toList=([]:List UInt8) then (some true) else ((spec_l4Key.f k X).bind fun zR=>(if zR=true then (some (X.toList != K.toList)) else (some false)))) else (some false))) else (some false))) (fun k=>by simp [spec_l4Entry.j1]) ?_;exact ev_and (spec_date y m d c) (Ev.now _) (fun _=>ev_and0 (by unfold spec_l1In.f;exact in_vol v) (Ev.now _) (fun _=>spec_cross X K))
  have p0:Ev (fun k=>spec_l4Entry.j0 k false K kd A E T C Pb y m d c v Pg X) (textD T && (textD C && (textD Pb && (textD Pg && (goodD y m d c && (volD v && crossD X K)))))):=by
    refine Ev.step (f:=fun k=>(spec_l4Text.f k T).bind fun Hk=>(if Hk=true then ((spec_l4Text.f k C).bind fun Hl=>(if Hl=true then ((spec_l4Text.f k Pb).bind fun Hm=>(if Hm=true then ((spec_l4Text.f k Pg).bind fun Hn=>(spec_l4Entry.j1 k (!Hn) K kd A E T C Pb y m d c v Pg X)) else (spec_l4Entry.j1 k true K kd A E T C Pb y m d c v Pg X))) else (spec_l4Entry.j1 k true K kd A E T C Pb y m d c v Pg X))) else (spec_l4Entry.j1 k true K kd A E T C Pb y m d c v Pg X))) (fun k=>by simp [spec_l4Entry.j0]) ?_;exact ev_and (spec_text T) n1 (fun _=>ev_and (spec_text C) n1 (fun _=>ev_and (spec_text Pb) n1 (fun _=>ev_last (f:=fun _=>none) (n:=fun _=>none) (J:=fun k b=>spec_l4Entry.j1 k b K kd A E T C Pb y m d c v Pg X) (spec_text Pg) n1 p1)))
  unfold spec_l4Entry.f;refine ev_eq (ev_and (spec_key K) n0 (fun _=>ev_and0 (by unfold spec_l1In.f;exact in_kind kd) n0 (fun _=>ev_and (spec_list A hA lA) n0 (fun _=>ev_last (f:=fun _=>none) (n:=fun _=>none) (J:=fun k b=>spec_l4Entry.j0 k b K kd A E T C Pb y m d c v Pg X) (spec_list E hE lE) n0 p0)))) ?_;unfold entD headE textsE tailE;simp only [Bool.and_assoc]
theorem impl_ent (hA:∀ x∈A,okS x) (lA:A.length≤1048576) (hE:∀ x∈E,okS x) (lE:E.length≤1048576):Ev (fun k=>impl_IsValidEntry.f k K kd A E T C Pb y m d c v Pg X) (entD K kd A E T C Pb y m d c v Pg X):=by
  have n0:Ev (fun k=>impl_IsValidEntry.j0 k true K kd A E T C Pb y m d c v Pg X) false:=Ev.step (f:=fun _=>some false) (fun k=>by simp [impl_IsValidEntry.j0]) (Ev.now _)
  have p0:Ev (fun k=>impl_IsValidEntry.j0 k false K kd A E T C Pb y m d c v Pg X) (textD T && (textD C && (textD Pb && (textD Pg && crossD X K)))):=by
    refine Ev.step (f:=fun k=>(impl_isText.f k T).bind fun P4=>(if P4=true then ((impl_isText.f k C).bind fun M7=>(if M7=true then ((impl_isText.f k Pb).bind fun P5=>(if P5=true then ((impl_isText.f k Pg).bind fun P6=>(if P6=true then (if X.toList=([]:List UInt8) then (some true) else ((impl_isKey.f k X).bind fun P7=>(if P7=true then (some (X.toList != K.toList)) else (some false)))) else (some false))) else (some false))) else (some false))) else (some false))) (fun k=>by simp [impl_IsValidEntry.j0]) ?_;exact ev_and (impl_text T) (Ev.now _) (fun _=>ev_and (impl_text C) (Ev.now _) (fun _=>ev_and (impl_text Pb) (Ev.now _) (fun _=>ev_and (impl_text Pg) (Ev.now _) (fun _=>impl_cross X K))))
  have hk:impl_isKind.f kd=some (kindD kd):=by unfold impl_isKind.f impl_inside.f;rw [in_kind];rfl
  have hv:impl_inside.f v 0 9999=some (volD v):=by unfold impl_inside.f;exact in_vol v
  unfold impl_IsValidEntry.f;refine ev_eq (ev_and (impl_key K) n0 (fun _=>ev_and0 hk n0 (fun _=>ev_and (impl_list A hA lA) n0 (fun _=>ev_and (impl_list E hE lE) n0 (fun _=>ev_and (impl_date y m d c) n0 (fun _=>ev_last (f:=fun _=>none) (n:=fun _=>none) (J:=fun k b=>impl_IsValidEntry.j0 k b K kd A E T C Pb y m d c v Pg X) (Ev.congr (fun _=>hv) (Ev.now _)) n0 p0)))))) ?_;unfold entD headE textsE tailE;simp only [Bool.and_assoc]
  cases keyD K <;> cases kindD kd <;> cases listD A <;> cases listD E <;> simp only [Bool.true_and,Bool.false_and]
  cases textD T <;> cases textD C <;> cases textD Pb <;> cases textD Pg <;> cases goodD y m d c <;> cases volD v <;> simp
end
-- What an entry weighs.
end Go.Proofs.YtcbhlghofihjcaaGreatDoor.G

namespace Go.Proofs.YtcbhlghofihjcaaGreatDoor.G
open Go.RowKit Go.Proofs.YtcbhlghofihjcaaGreatDoorW.PrintWords Go.Proofs.YtcbhlghofihjcaaGreatDoorW.PrintLast Go.Proofs.YtcbhlghofihjcaaGreatDoor.B
set_option linter.unusedVariables false
set_option linter.unusedSimpArgs false
theorem good_pos {G:List ByteArray} {P F S:ByteArray} (h:goodN G P F S=true):G.length≤3∧∀ x∈G,1≤x.size:=by
  unfold goodN at h;simp only [Bool.and_eq_true,decide_eq_true_eq] at h;refine ⟨h.2.1,fun x hx=>?_⟩;have:=List.all_eq_true.1 h.1 x hx;unfold greatD at this;rw [Bool.and_eq_true] at this;exact (word_in this.1).1
end Go.Proofs.YtcbhlghofihjcaaGreatDoor.G
