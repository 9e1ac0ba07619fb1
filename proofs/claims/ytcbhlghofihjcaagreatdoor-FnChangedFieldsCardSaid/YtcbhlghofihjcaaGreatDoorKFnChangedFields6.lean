/- Texts of this session for the law FnChangedFields, put together by a program (merge.py): each ends with its namespace; conditions stand with each theorem. -/
import Derived.Test.YtcbhlghofihjcaaGreatDoorKFnChangedFields2
import Derived.Test.YtcbhlghofihjcaaGreatDoorKFnChangedFields3
import Derived.Test.YtcbhlghofihjcaaGreatDoorKFnChangedFields5
import Derived.Lib.IndexMore
import Derived.Lib.ItoaLen
import Derived.Lib.ItoaNum
set_option maxHeartbeats 8000000
set_option maxRecDepth 100000
namespace Go.Proofs.YtcbhlghofihjcaaGreatDoor.G
open Go.RowKit Go.Proofs.YtcbhlghofihjcaaGreatDoorW.PrintWords Go.Proofs.YtcbhlghofihjcaaGreatDoorW.PrintLast Go.Proofs.YtcbhlghofihjcaaGreatDoorW.PrintMore
open Go.Proofs.YtcbhlghofihjcaaGreatDoor.Gl Go.Proofs.YtcbhlghofihjcaaGreatDoor.Ext
attribute [local go_sem] max2_int min2_int max_two min_two max_three min_three max_four min_four   -- for this text's walks alone
set_option linter.unusedVariables false
set_option linter.unusedSimpArgs false
def spec_l2Join.l0:Nat→List ByteArray→ByteArray→Int→Option (ByteArray)
 | 0,_,_,_=>none
 | k+1,x0,x3,x4=>if x4<(x0.length:Int) then (if x3.toList=([]:List UInt8) then (if 0≤x4 then (if x3.size+(rdOf ByteArray.empty x0 x4).size≤9223372036854775807 then (spec_l2Join.l0 k x0 (x3++(rdOf ByteArray.empty x0 x4)) (wrap64 (x4+1))) else (none)) else (none)) else (if 0≤x4 then (if (rdOf ByteArray.empty x0 x4).toList=([]:List UInt8) then (if x3.size+(rdOf ByteArray.empty x0 x4).size≤9223372036854775807 then (spec_l2Join.l0 k x0 (x3++(rdOf ByteArray.empty x0 x4)) (wrap64 (x4+1))) else (none)) else (if x3.size+1≤9223372036854775807 then (if (x3++(⟨#[32]⟩:ByteArray)).size+(rdOf ByteArray.empty x0 x4).size≤9223372036854775807 then (spec_l2Join.l0 k x0 ((x3++(⟨#[32]⟩:ByteArray))++(rdOf ByteArray.empty x0 x4)) (wrap64 (x4+1))) else (none)) else (none))) else (none))) else (some x3)
def spec_l2Join.f (k:Nat) (l0:List ByteArray):Option (ByteArray):=spec_l2Join.l0 k l0 (⟨#[]⟩:ByteArray) 0
theorem spec_l2Join.mono_l:∀ k,(∀ y0 y1 y2,LeO (spec_l2Join.l0 k y0 y1 y2) (spec_l2Join.l0 (k+1) y0 y1 y2))
 | 0=>fun _ _ _ r h=>by simp [spec_l2Join.l0] at h
 | k+1=>by
  have ih0:=spec_l2Join.mono_l k
  ·
   intro y0 y1 y2;unfold spec_l2Join.l0
   repeat' first
   | (with_reducible exact ih0 _ _ _)
   | (with_reducible exact LeO.refl _)
   | (with_reducible exact LeO.none _)
   | (with_reducible refine LeO.ite ?_ ?_)
   | (with_reducible refine LeO.bind ?_ (fun _=>?_))
   | exact ih0 _ _ _
   | exact LeO.none _
   | refine LeO.ite ?_ ?_
   | refine LeO.bind ?_ (fun _=>?_)
theorem spec_l2Join.mono:∀ a0 k,LeO (spec_l2Join.f k a0) (spec_l2Join.f (k+1) a0):=by
 intro a0 k;have ih0:=spec_l2Join.mono_l k;unfold spec_l2Join.f
 repeat' first
   | (with_reducible exact ih0 _ _ _)
   | (with_reducible exact LeO.refl _)
   | (with_reducible exact LeO.none _)
   | (with_reducible refine LeO.ite ?_ ?_)
   | (with_reducible refine LeO.bind ?_ (fun _=>?_))
   | exact ih0 _ _ _
   | exact LeO.none _
   | refine LeO.ite ?_ ?_
   | refine LeO.bind ?_ (fun _=>?_)
theorem spec_l2Join.calls (k:Nat) (A0:Option Addr) (c0:Nat) (l0:List ByteArray) (r:ByteArray) (w:World) (dW:Kd.C Kd.string w A0 l0.length l0) (fT:l0.length≤c0) (h:spec_l2Join.f k l0=some r) :
  Calls Tryz.prog 77 #[.slice A0 l0.length c0] w fun e w'=>e=.returned (.string r)∧Drawn0 w w':=by
 have iQ:=am dW;have zX:=am fT;clear dW fT;have H:(spec_l2Join.l0 k l0 (⟨#[]⟩:ByteArray) 0)=some r:=h;clear h;have H':=am H;clear H;go_enter Tryz.func77,Tryz.ntmps77;go_wp2
 go_loopg [3,4] k (fun kq v3 v4 w'=>∃ (aU:ByteArray) (aW:Int),v3=.string aU∧v4=.int .i64 aW∧Aside0 (spec_l2Join.l0 kq l0 aU aW=some r)∧Aside0 (kq≤k)∧Drawn0 w w')
 case atStart=>exact ⟨((⟨#[]⟩:ByteArray)),(0),au104,au104,H',⟨Nat.le_refl _⟩,by repeat (first|exact Drawn0.refl _|apply Drawn0.step)⟩
 case round =>
  clear H';obtain ⟨aU,aW,rfl,rfl,HA,HK1,⟨m1,rfl⟩⟩:=hrel
  cases gk with
  | zero=>exact absurd HA.out (by simp [spec_l2Join.l0])
  | succ k1 =>
   have H:=HA.out;clear HA;simp only [spec_l2Join.l0] at H;by_cases c2:aW<(l0.length:Int)
   ·
    rw [if_pos c2] at H;have c2b0:=dt c2;clear c2;by_cases c3:aU.toList=([]:List UInt8)
    ·
     rw [if_pos c3] at H;have c3b0:=qt c3;have c3b1:=bfz c3;clear c3;by_cases c4:0≤aW
     ·
      rw [if_pos c4] at H;have c4b0:=dt c4;clear c4;by_cases c5:aU.size+(rdOf ByteArray.empty l0 aW).size≤9223372036854775807
      ·
       rw [if_pos c5] at H;have c5b0:=eq_true c5;have c5b1:=dt c5
       try have c5b2:(9223372036854775807<aU.size+(rdOf ByteArray.empty l0 aW).size)=False:=eq_false (Nat.not_lt.2 c5)
       have H':=am H;clear H;have Wk:0≤(aW:Int):=od au103;have Wl:aW<(l0.length:Int):=od au103;obtain ⟨aLJ,amO,aEb⟩:=Kd.at_string iQ.out aW Wk Wl
       cases amO
       replace Wk:=eq_true Wk;replace Wl:=eq_true Wl;go_wp2
       go_roundg k1
       case measure=>have:=HK1.out;omega
       case rel=>exact ⟨(aU++(rdOf ByteArray.empty l0 aW)),(wrap64 (aW+1)),au104,au104,H',⟨by have:=HK1.out;omega⟩,by repeat (first|exact Drawn0.refl _|apply Drawn0.step)⟩
      · rw [if_neg c5] at H;exact absurd H (by simp)
     · rw [if_neg c4] at H;exact absurd H (by simp)
    ·
     rw [if_neg c3] at H;have c3b0:=qf c3;have c3b1:=bu c3;by_cases c6:0≤aW
     ·
      rw [if_pos c6] at H;have c6b0:=dt c6;clear c6;by_cases c7:(rdOf ByteArray.empty l0 aW).toList=([]:List UInt8)
      ·
       rw [if_pos c7] at H;have c7b0:=qt c7;have c7b1:=bfz c7;clear c7;by_cases c8:aU.size+(rdOf ByteArray.empty l0 aW).size≤9223372036854775807
       ·
        rw [if_pos c8] at H;have c8b0:=eq_true c8;have c8b1:=dt c8
        try have c8b2:(9223372036854775807<aU.size+(rdOf ByteArray.empty l0 aW).size)=False:=eq_false (Nat.not_lt.2 c8)
        have H':=am H;clear H;have J1:0≤(aW:Int):=od au103;have J2:aW<(l0.length:Int):=od au103;obtain ⟨TX,Wm,a2C⟩:=Kd.at_string iQ.out aW J1 J2
        cases Wm
        replace J1:=eq_true J1;replace J2:=eq_true J2;have Wn:0≤(aW:Int):=od au103;have Wo:aW<(l0.length:Int):=od au103;obtain ⟨abT,amP,aEc⟩:=Kd.at_string iQ.out aW Wn Wo
        obtain rfl:TX=abT:=(by injection amP)
        replace Wn:=eq_true Wn;replace Wo:=eq_true Wo;go_wp2
        go_roundg k1
        case measure=>have:=HK1.out;omega
        case rel=>exact ⟨(aU++(rdOf ByteArray.empty l0 aW)),(wrap64 (aW+1)),au104,au104,H',⟨by have:=HK1.out;omega⟩,by repeat (first|exact Drawn0.refl _|apply Drawn0.step)⟩
       · rw [if_neg c8] at H;exact absurd H (by simp)
      ·
       rw [if_neg c7] at H;have c7b0:=qf c7;have c7b1:=bu c7;by_cases c9:aU.size+1≤9223372036854775807
       ·
        rw [if_pos c9] at H;have c9b0:=eq_true c9;have c9b1:=dt c9
        try have c9b2:(9223372036854775807<aU.size+1)=False:=eq_false (Nat.not_lt.2 c9)
        by_cases c10:(aU++(⟨#[32]⟩:ByteArray)).size+(rdOf ByteArray.empty l0 aW).size≤9223372036854775807
        ·
         rw [if_pos c10] at H;have c10b0:=eq_true c10;have c10b1:=dt c10
         try have c10b2:(9223372036854775807<(aU++(⟨#[32]⟩:ByteArray)).size+(rdOf ByteArray.empty l0 aW).size)=False:=eq_false (Nat.not_lt.2 c10)
         try have c10x:(9223372036854775807<aU.size+1+(rdOf ByteArray.empty l0 aW).size)=False:=eq_false (by have z_:=c10;simp only [ByteArray.size_append] at z_;have sW:(⟨#[32]⟩:ByteArray).size=1:=rfl;omega)
         have H':=am H;clear H;have J1:0≤(aW:Int):=od au103;have J2:aW<(l0.length:Int):=od au103;obtain ⟨TX,Wm,a2C⟩:=Kd.at_string iQ.out aW J1 J2
         cases Wm
         replace J1:=eq_true J1;replace J2:=eq_true J2;have Wp:0≤(aW:Int):=od au103;have Wq:aW<(l0.length:Int):=od au103;obtain ⟨abU,amQ,aEd⟩:=Kd.at_string iQ.out aW Wp Wq
         obtain rfl:TX=abU:=(by injection amQ)
         replace Wp:=eq_true Wp;replace Wq:=eq_true Wq;go_wp2
         go_roundg k1
         case measure=>have:=HK1.out;omega
         case rel=>exact ⟨((aU++(⟨#[32]⟩:ByteArray))++(rdOf ByteArray.empty l0 aW)),(wrap64 (aW+1)),au104,au104,H',⟨by have:=HK1.out;omega⟩,by repeat (first|exact Drawn0.refl _|apply Drawn0.step)⟩
        · rw [if_neg c10] at H;exact absurd H (by simp)
       · rw [if_neg c9] at H;exact absurd H (by simp)
     · rw [if_neg c6] at H;exact absurd H (by simp)
   · rw [if_neg c2] at H;have c2b0:=df c2;clear c2;obtain rfl:=ojz H;go_wp2;go_ret;exact ax1
def strings_Join.f (l0:List ByteArray) (a1:ByteArray):Option ByteArray :=
 if l0.length≤140737488355328∧(Lib.join (l0.map (·.data.toList)) a1.data.toList).length≤140737488355328 then some ⟨(Lib.join (l0.map (·.data.toList)) a1.data.toList).toArray⟩ else none
theorem strings_Join.calls (A0:Option Addr) (c0:Nat) (l0:List ByteArray) (a1:ByteArray) (r:ByteArray) (w:World) (dW:Kd.C Kd.string w A0 l0.length l0) (fT:l0.length≤c0) (h:strings_Join.f l0 a1=some r) :
  Calls Tryz.prog 71 #[.slice A0 l0.length c0,.string a1] w fun e w'=>e=.returned (.string r)∧Below w.heap.size w w':=by
 unfold strings_Join.f at h;by_cases hg:l0.length≤140737488355328∧(Lib.join (l0.map (·.data.toList)) a1.data.toList).length≤140737488355328
 ·
  rw [if_pos hg] at h;obtain rfl:=ojz h
  cases l0 with
  | nil =>
   refine (Tryz.strings_Join_none A0 c0 a1 w).mono ?_;rintro e w' ⟨rfl,rfl⟩;exact ⟨rfl,Below.refl _ _⟩
  | cons x xs =>
   obtain ⟨b,o,rfl,hb,hcell⟩:=Go.Proofs.YtcbhlghofihjcaaGreatDoor.Ext.strs_read dW (by simp);refine (Tryz.strings_Join b o c0 (x :: xs) a1 w hcell hb hg.1 fT hg.2).mono ?_;rintro e w' ⟨rfl,hb⟩;exact ⟨rfl,hb⟩
 · rw [if_neg hg] at h;cases h
def impl_spaced.f (l0:List ByteArray):Option ByteArray:=if 1≤l0.length∧l0.length≤1000 then strings_Join.f (l0.filter fun x=>!decide (x.size=0)) (⟨#[32]⟩:ByteArray) else none
theorem impl_spaced.pred (x:ByteArray) (W:World):FnGives Tryz.prog 103 #[] #[Value.string x] (.bool (decide (x.size=0))) W:=by
 show Calls Tryz.prog 103 #[.string x] W _
 have e:(x.toList == ([]:List UInt8))=decide (x.size=0):=by
  rw [Lib.toList_data,Lib.size_eq]
  cases x.data.toList <;> simp
 go_enter Tryz.func103,Tryz.ntmps103;go_wp2
 all_goals (go_ret;exact ⟨by first|(rw [← e];rfl)|simp_all,0,rfl⟩)
theorem impl_spaced.calls (P0_:Nat→Prop) (u0:Value) (l0:List ByteArray) (r:ByteArray) (w0 w:World) (hB:Below w0.heap.size w0 w) (ho0:Kd.R Kd.string 9 w w0.heap.size P0_ u0 l0) (h:impl_spaced.f l0=some r) :
  Calls Tryz.prog 90 #[u0] w fun e w'=>e=.returned (.string r)∧Below w0.heap.size w0 w'∧Kept w w' (fun k_=>P0_ k_):=by
 unfold impl_spaced.f at h;by_cases hg:1≤l0.length∧l0.length≤1000
 ·
  rw [if_pos hg] at h;have hok:=ho0.1;obtain ⟨_,hcase⟩:=Kd.own_of_R ho0
  rcases hcase with ⟨_,hz⟩|⟨g,cap,cur,rfl,hbase,hcur,hcap,_,hsz,htake⟩
  · omega
  have hPg:P0_ g:=hok g rfl;have hlt:g<w.heap.size:=blk_lt hcur
  have hget:∀ (j:Nat) x,l0[j]?=some x→w.cell? ⟨g,j,none⟩=some (.string x):=by
   intro j x hj;obtain ⟨hjl,_⟩:=List.getElem?_eq_some_iff.1 hj;have h1:=congrArg (fun z=>z[j]?) htake;simp only [List.getElem?_take,encs,List.getElem?_map,hj,Option.map_some] at h1;rw [if_pos (by omega)] at h1;rw [blk_cell hcur]
   simpa using h1
  have hH:Sort.Holds Value.string w g 0 l0.toArray:=fun j hj=>by
   have hj':j<l0.length:=by simpa using hj
   refine ⟨?_,by rw [Nat.zero_add];exact blk_frozen hcur j⟩;rw [Nat.zero_add,hget j l0[j] (List.getElem?_eq_getElem hj'),getElem!_pos l0.toArray j hj];simp
  have hdel:=Tryz.slices_DeleteFunc Value.string (fun _=>rfl) (fun x=>decide (x.size=0)) 103 #[] (enters_of Tryz.func103 (by kernel_rfl) rfl) ByteArray.empty Tryz.zeroValue9 g 0 cap l0.toArray w
   (fun W x _=>impl_spaced.pred x W) (fun n os dk x _=>impl_spaced.pred x _) hH (by simp;omega) (by simpa using hcap)
  have e0:l0.toArray.toList=l0:=by simp
  have e1:l0.toArray.size=l0.length:=by simp
  rw [e0,e1] at hdel
  obtain ⟨kp,hkp⟩:∃ kp,kp=l0.filter fun x=>!decide (x.size=0):=⟨_,rfl⟩
  rw [← hkp] at hdel h
  have hkl:kp.length≤l0.length:=by rw [hkp];exact List.length_filter_le _ _
  obtain ⟨w2f,Hh⟩:∃ w2f:Nat→World,w2f=fun q=>Sort.putRow Value.string (Sort.ahead w q) g 0 (kp++List.replicate (l0.length-kp.length) ByteArray.empty).toArray:=⟨_,rfl⟩
  have hread:∀ q (j:Nat) x,kp[j]?=some x→(w2f q).cell? ⟨g,0+j,none⟩=some (.string x):=by
   intro q j x hj;obtain ⟨hjl,hx⟩:=List.getElem?_eq_some_iff.1 hj
   have hs:(kp++List.replicate (l0.length-kp.length) ByteArray.empty).toArray.size=l0.toArray.size:=by simp;omega
   have:=(Sort.holds_putRow Value.string (Sort.ahead w q) g 0 l0.toArray _ hH hs) j (by rw [hs];simp;omega);rw [Hh,this.1,getElem!_pos _ j (by rw [hs];simp;omega)];simp [List.getElem_append_left hjl,hx]
  have hsize:∀ q,(w2f q).heap.size=w.heap.size:=fun q=>by rw [Hh];simp [Sort.ahead]
  have hold:∀ q k,k≠g→(w2f q).heap[k]?=w.heap[k]?:=fun q k hk=>by
   rw [Hh];simp only [Sort.putRow,Sort.mapBlock,Sort.ahead,Array.getElem?_modify];rw [if_neg (Ne.symm hk)]
  have hb2:∀ q,Below w0.heap.size w0 (w2f q):=fun q=>hB.trans ⟨by rw [Hh];rfl,by rw [Hh];rfl,by rw [Hh];rfl,Nat.le_of_eq (hsize q).symm,fun k hk=>hold q k (by omega)⟩
  have hjoin:∀ q,Calls Tryz.prog 71 #[.slice (some ⟨g,0,none⟩) kp.length cap,.string (⟨#[32]⟩:ByteArray)] (w2f q) fun e w'=>e=.returned (.string r)∧Below (w2f q).heap.size (w2f q) w':=by
   intro q;unfold strings_Join.f at h;by_cases hj:kp.length≤140737488355328∧(Lib.join (kp.map (·.data.toList)) (⟨#[32]⟩:ByteArray).data.toList).length≤140737488355328
   ·
    rw [if_pos hj] at h;obtain rfl:=ojz h;by_cases hn:kp=[]
    · subst hn;refine (Tryz.strings_Join_none (some ⟨g,0,none⟩) cap _ (w2f q)).mono ?_;rintro e w' ⟨rfl,rfl⟩;exact ⟨rfl,Below.refl _ _⟩
    · refine (Tryz.strings_Join g 0 cap kp _ (w2f q) (hread q) (by rw [hsize];exact hlt) hj.1 (by omega) hj.2).mono ?_;rintro e w' ⟨rfl,hb⟩;exact ⟨rfl,hb⟩
   · rw [if_neg hj] at h;cases h
  have hdel2:Calls Tryz.prog 102 #[.slice (some ⟨g,0,none⟩) l0.length cap,.func (.func 103) #[] #[]] w fun e w'=>e=.returned (.slice (some ⟨g,0,none⟩) kp.length cap)∧∃ q,w'=w2f q:=by
   refine hdel.mono ?_;rintro e w' ⟨he,q,hw⟩;exact ⟨he,q,by rw [Hh];exact hw⟩
  have fin:∀ q w',Below (w2f q).heap.size (w2f q) w'→Below w0.heap.size w0 w'∧Kept w w' (fun k_=>P0_ k_):=by
   intro q w' hb;refine ⟨below_step (hb2 q) hb,by have:=hb.size;rw [hsize] at this;exact this,fun i hi hP=>?_⟩
   have hne:i≠g:=fun e=>hP (by rw [e];exact hPg)
   rw [hb.block i (by rw [hsize];exact hi),hold q i hne]
  clear hread hH hget htake hdel hold hb2 hsize Hh hok;go_enter Tryz.func90,Tryz.ntmps90;clear hkp;go_wp2_with (first|(go_at_call 71;refine (hjoin _).mono ?_;rintro e w' ⟨rfl,hb⟩)|(go_at_call 102;refine hdel2.mono ?_;rintro e w' ⟨rfl,q,rfl⟩));go_ret;exact ⟨rfl,fin _ _ hb⟩
 · rw [if_neg hg] at h;cases h
def spec_l2Given.f (k:Nat) (bI:List ByteArray) (aA:ByteArray) (aX:ByteArray) (aZ:ByteArray):Option (ByteArray):=(spec_l2Join.f k bI).bind fun Pf=>(some Pf)
theorem spec_l2Given.mono:∀ a0 a1 a2 a3 k,LeO (spec_l2Given.f k a0 a1 a2 a3) (spec_l2Given.f (k+1) a0 a1 a2 a3):=by
 intro a0 a1 a2 a3 k;unfold spec_l2Given.f
 repeat' first
   | (with_reducible exact spec_l2Join.mono _ _)
   | (with_reducible exact LeO.refl _)
   | (with_reducible exact LeO.none _)
   | (with_reducible refine LeO.ite ?_ ?_)
   | (with_reducible refine LeO.bind ?_ (fun _=>?_))
   | exact spec_l2Join.mono _ _
   | exact LeO.none _
   | refine LeO.ite ?_ ?_
   | refine LeO.bind ?_ (fun _=>?_)
theorem spec_l2Given.calls (k:Nat) (fQ:Option Addr) (fR:Nat) (bI:List ByteArray) (aA:ByteArray) (aX:ByteArray) (aZ:ByteArray) (r:ByteArray) (w:World) (iR:Kd.C Kd.string w fQ bI.length bI) (iT:bI.length≤fR) (h:spec_l2Given.f k bI aA aX aZ=some r) :
  Calls Tryz.prog 78 #[.agg #[.slice fQ bI.length fR,.string aA,.string aX,.string aZ]] w fun e w'=>e=.returned (.string r)∧Below w.heap.size w w':=by
 have hu68:=Tryz.underlying68;have kR:=am iR;have pV:=am iT;clear iR iT;have HB:=am (Below.refl w.heap.size w);have H:((spec_l2Join.f k bI).bind fun Pf=>(some Pf))=some r:=h;clear h;replace H:=obz H;obtain ⟨Pf,fD,H⟩:=H
 try dsimp only at H
 have A2:=am fD;clear fD;obtain rfl:=ojz H;go_enter Tryz.func78,Tryz.ntmps78;go_wp2_with (first|((with_reducible refine gate_dst (N:=1) rfl ?_);refine box_event ?hg (N:=1) ?hd (cs:=#[.slice fQ bI.length fR,.string aA,.string aX,.string aZ]) (t:=68) ?hr ?_;(case hd=>rfl);(case hg=>rfl);(case hr=>first|(go_simp;done)|(go_simp;rfl));intro aLK hg w3 hbox hb;have abV:=am (hbox);have aLL:=am (bsz hg au59);have abW:=am (bsz hg au59);replace HB:=am (below_step au59 hb);clear hb hbox hg;obtain ⟨lZ,mA,mB,mC,mD,mE,mF,mG⟩:=blkc4 abV.out)|((with_reducible refine gate_callee (f:=77) rfl ?_);refine goesL_ (some 5) rfl rfl Tryz.func77 (by kernel_rfl) rfl #[.slice fQ bI.length fR] rfl au58 ?_;(with_reducible refine (spec_l2Join.calls k _ _ bI Pf _ ?aE ?aG A2.out).mono ?_);(case aE=>repeat (first|exact (Kd.C_below kR.out HB.out)|(with_reducible refine Kd.C_alloc ?_ _)|(with_reducible refine Kd.C_drewN ?_ _)|(with_reducible refine Kd.C_drew ?_)));(case aG=>exact pV.out);rintro e w' ⟨rfl,⟨nd,rfl⟩⟩;refine ⟨_,rfl,?_⟩));go_ret;exact ⟨by first|rfl|(simp [errW_none,errW_some] <;> rfl)|(simp [*,errW_none,errW_some] <;> rfl),by repeat (first|(with_reducible first|exact HB.out|apply below_alloc|apply pw_below_drewN|apply below_drew1|refine below_set ?_ abW.out)|exact HB.out)⟩
end Go.Proofs.YtcbhlghofihjcaaGreatDoor.G

namespace Go.Proofs.YtcbhlghofihjcaaGreatDoor.G
open Go.RowKit Go.Proofs.YtcbhlghofihjcaaGreatDoorW.PrintWords Go.Proofs.YtcbhlghofihjcaaGreatDoorW.PrintLast Go.Proofs.YtcbhlghofihjcaaGreatDoor.B
set_option linter.unusedVariables false
set_option linter.unusedSimpArgs false
def spB:ByteArray:=⟨#[32]⟩
def glu (s p:ByteArray):ByteArray:=(if s.size≠0∧p.size≠0 then s++spB else s)++p
def joinD (l:List ByteArray):ByteArray:=l.foldl glu ByteArray.empty
def sumB (l:List ByteArray):Nat:=(l.map fun x=>x.size+1).sum
theorem sumB_cons (a:ByteArray) (l:List ByteArray):sumB (a :: l)=a.size+1+sumB l:=by simp [sumB]
theorem glu_size (s p:ByteArray):(glu s p).size≤s.size+(p.size+1):=by
  unfold glu;rw [size_append]
  split
  · rw [size_append];show s.size+1+p.size≤_;omega
  · omega
theorem fold_size (l:List ByteArray):∀ s:ByteArray,(l.foldl glu s).size≤s.size+sumB l:=by
  induction l with
  | nil=>intro s;simp [sumB]
  | cons p l ih =>
    intro s;have:=ih (glu s p);have h2:=glu_size s p;rw [List.foldl_cons,sumB_cons];omega
theorem joinD_size (l:List ByteArray):(joinD l).size≤sumB l:=by
  have:=fold_size l ByteArray.empty;have e:ByteArray.empty.size=0:=rfl;unfold joinD;omega
theorem L_nil {s:ByteArray} (h:s.size=0):L s=[]:=(size_pos_iff s).1 h
theorem L_glu (s p:ByteArray):L (glu s p)=if s.size≠0∧p.size≠0 then L s++32 :: L p else L s++L p:=by
  unfold glu;rw [L_append]
  split
  · rw [L_append,List.append_assoc];rfl
  · rfl
theorem fold_join (l:List ByteArray):∀ s:ByteArray,L (l.foldl glu s)=if s.size=0 then Lib.join ((l.filter fun x=>!decide (x.size=0)).map (·.data.toList)) [32] else L s++Lib.joinTail [32] ((l.filter fun x=>!decide (x.size=0)).map (·.data.toList)):=by
  induction l with
  | nil =>
    intro s;by_cases h:s.size=0
    · rw [if_pos h];simp [Lib.join_nil,L_nil h]
    · rw [if_neg h];simp [Lib.joinTail]
  | cons p l ih =>
    intro s;rw [List.foldl_cons,ih];by_cases hp:p.size=0
    · have e:glu s p=s:=L_inj (by rw [L_glu,if_neg (fun h=>h.2 hp),L_nil hp,List.append_nil])
      rw [e,List.filter_cons_of_neg (by simp [hp])]
    · have hg:¬ (glu s p).size=0:=by rw [← L_len,L_glu];split <;> simp [L_len,hp]
      rw [if_neg hg,List.filter_cons_of_pos (by simp [hp]),List.map_cons,L_glu];by_cases h:s.size=0
      · rw [if_neg (fun x=>x.1 h),if_pos h,L_nil h,List.nil_append,Lib.join_cons]
      · rw [if_pos (And.intro h hp),if_neg h]
        simp [Lib.joinTail]
theorem join_filter (l:List ByteArray):Lib.join ((l.filter fun x=>!decide (x.size=0)).map (·.data.toList)) (⟨#[32]⟩:ByteArray).data.toList=L (joinD l):=by
  have:=fold_join l ByteArray.empty;rw [if_pos (show ByteArray.empty.size=0 from rfl)] at this;exact this.symm
theorem filter_all {l:List ByteArray} (h:∀ x∈l,1≤x.size):(l.filter fun x=>!decide (x.size=0))=l:=by
  rw [List.filter_eq_self];intro x hx;have:=h x hx
  show (!decide (x.size=0))=true
  rw [df (by omega)];rfl
theorem libJoin_filter (l:List ByteArray) (hl:l.length≤1000) (hs:sumB l≤140737488355328):strings_Join.f (l.filter fun x=>!decide (x.size=0)) (⟨#[32]⟩:ByteArray)=some (joinD l):=by
  have h1:(l.filter fun x=>!decide (x.size=0)).length≤l.length:=List.length_filter_le _ _;have h2:=joinD_size l;unfold strings_Join.f;rw [join_filter,if_pos ⟨by omega,by rw [L_len];omega⟩]
theorem libJoin_all (l:List ByteArray) (hp:∀ x∈l,1≤x.size) (hl:l.length≤1000) (hs:sumB l≤140737488355328):strings_Join.f l (⟨#[32]⟩:ByteArray)=some (joinD l):=by
  have:=libJoin_filter l hl hs
  rwa [filter_all hp] at this
theorem spaced_eq (l:List ByteArray) (h1:1≤l.length) (hl:l.length≤1000) (hs:sumB l≤140737488355328):impl_spaced.f l=some (joinD l):=by
  unfold impl_spaced.f;rw [if_pos ⟨h1,hl⟩];exact libJoin_filter l hl hs
theorem spec_join_loop (l:List ByteArray) (hl:l.length≤4611686018427387904) (hs:sumB l≤140737488355328) (d:Nat):∀ (s:ByteArray) (i:Nat),i≤l.length→l.length-i=d→s.size+sumB (l.drop i)≤140737488355328 →
    Ev (fun k=>spec_l2Join.l0 k l s (i:Int)) ((l.drop i).foldl glu s):=by
  induction d with
  | zero =>
    intro s i h1 hd hb;refine Ev.step (f:=fun _=>some s) (fun k=>?_) (ev_eq (Ev.now _) ?_)
    · simp only [spec_l2Join.l0];rw [if_neg (by omega)]
    · rw [List.drop_of_length_le (by omega)];rfl
  | succ d ih =>
    intro s i h1 hd hb
    have hi:i<l.length:=by omega
    have hw:wrap64 ((i:Int)+1)=((i+1:Nat):Int):=by rw [w64 (by omega) (by omega)];rfl
    rw [List.drop_eq_getElem_cons hi] at hb ⊢;rw [sumB_cons] at hb;have hg:=glu_size s l[i];rw [List.foldl_cons];refine Ev.step (f:=fun k=>spec_l2Join.l0 k l (glu s l[i]) ((i+1:Nat):Int)) (fun k=>?_) (ih (glu s l[i]) (i+1) (by omega) (by omega) (by omega));simp only [spec_l2Join.l0,rd_get l i hi]
    have a1:(i:Int)<(l.length:Int):=by omega
    have a2:(0:Int)≤(i:Int):=by omega
    have a3:s.size+l[i].size≤9223372036854775807:=by omega
    have a4:s.size+1≤9223372036854775807:=by omega
    have a5:(s++(⟨#[32]⟩:ByteArray)).size+l[i].size≤9223372036854775807:=by
      rw [size_append];show s.size+1+l[i].size≤_;omega
    simp only [if_pos a1,if_pos a2,if_pos a3,if_pos a4,if_pos a5,hw];unfold glu;by_cases hs0:s.size=0
    · have b:s.toList=([]:List UInt8):=(nil_iff s).2 hs0
      simp only [b,hs0,ne_eq,not_true_eq_false,false_and,if_true,if_false]
    · have b:¬ s.toList=([]:List UInt8):=fun e=>hs0 ((nil_iff s).1 e)
      rw [if_neg b];by_cases hp:l[i].size=0
      · have b2:(l[i]).toList=([]:List UInt8):=(nil_iff _).2 hp
        rw [if_pos b2,if_neg (fun x:s.size≠0∧l[i].size≠0=>x.2 hp)]
      · have b2:¬ (l[i]).toList=([]:List UInt8):=fun e=>hp ((nil_iff _).1 e)
        rw [if_neg b2,if_pos (show s.size≠0∧l[i].size≠0 from ⟨hs0,hp⟩)];rfl
theorem spec_join (l:List ByteArray) (hl:l.length≤4611686018427387904) (hs:sumB l≤140737488355328):Ev (fun k=>spec_l2Join.f k l) (joinD l):=by
  have:=spec_join_loop l hl hs _ ByteArray.empty 0 (by omega) rfl (by rw [List.drop_zero];show 0+_≤_;omega);unfold spec_l2Join.f;rw [List.drop_zero] at this;exact this
theorem sumB_bulk (l:List ByteArray):sumB l=bulkS l:=by
  induction l with
  | nil=>rfl
  | cons a l ih=>rw [sumB_cons,ih];unfold bulkS;rw [bytesS_cons,List.length_cons];omega
end Go.Proofs.YtcbhlghofihjcaaGreatDoor.G

namespace Go.Proofs.YtcbhlghofihjcaaGreatDoor.G
open Go.RowKit Go.Proofs.YtcbhlghofihjcaaGreatDoorW.PrintWords Go.Proofs.YtcbhlghofihjcaaGreatDoorW.PrintLast Go.Proofs.YtcbhlghofihjcaaGreatDoorW.PrintMore
open Go.Proofs.YtcbhlghofihjcaaGreatDoor.Gl Go.Proofs.YtcbhlghofihjcaaGreatDoor.Ext
attribute [local go_sem] max2_int min2_int max_two min_two max_three min_three max_four min_four   -- for this text's walks alone
set_option linter.unusedVariables false
set_option linter.unusedSimpArgs false
def spec_l2Inverse.j0:Nat→ByteArray→Bool→List ByteArray→ByteArray→ByteArray→ByteArray→Option (ByteArray)
 | 0,_,_,_,_,_,_=>none
 | k+1,x3,x18,a2D,a2E,a2F,vQ=>if x18=true then (if x3.size+2≤9223372036854775807 then ((spec_l2Given.f k a2D a2E a2F vQ).bind fun pI=>(if (x3++(⟨#[44,32]⟩:ByteArray)).size+pI.size≤9223372036854775807 then (if vQ.toList=([]:List UInt8) then (some ((x3++(⟨#[44,32]⟩:ByteArray))++pI)) else (if ((x3++(⟨#[44,32]⟩:ByteArray))++pI).size+2≤9223372036854775807 then (if (((x3++(⟨#[44,32]⟩:ByteArray))++pI)++(⟨#[44,32]⟩:ByteArray)).size+vQ.size≤9223372036854775807 then (some ((((x3++(⟨#[44,32]⟩:ByteArray))++pI)++(⟨#[44,32]⟩:ByteArray))++vQ)) else (none)) else (none))) else (none))) else (none)) else (if vQ.toList=([]:List UInt8) then (some x3) else (if x3.size+2≤9223372036854775807 then (if (x3++(⟨#[44,32]⟩:ByteArray)).size+vQ.size≤9223372036854775807 then (some ((x3++(⟨#[44,32]⟩:ByteArray))++vQ)) else (none)) else (none)))
def spec_l2Inverse.f (k:Nat) (bI:List ByteArray) (aA:ByteArray) (aX:ByteArray) (aZ:ByteArray):Option (ByteArray):=(spec_l2Join.f k (([aA,aX]:List ByteArray))).bind fun iE=>(if (bI.length:Int)>0 then (spec_l2Inverse.j0 k iE true bI aA aX aZ) else (spec_l2Inverse.j0 k iE (aZ.toList != ([]:List UInt8)) bI aA aX aZ))
theorem spec_l2Inverse.mono_l:∀ k,(∀ y0 y1 y2 y3 y4 y5,LeO (spec_l2Inverse.j0 k y0 y1 y2 y3 y4 y5) (spec_l2Inverse.j0 (k+1) y0 y1 y2 y3 y4 y5))
 | 0=>fun _ _ _ _ _ _ r h=>by simp [spec_l2Inverse.j0] at h
 | k+1=>by
  have ih0:=spec_l2Inverse.mono_l k
  ·
   intro y0 y1 y2 y3 y4 y5;unfold spec_l2Inverse.j0
   repeat' first
   | (with_reducible exact ih0 _ _ _ _ _ _)
   | (with_reducible exact spec_l2Given.mono _ _ _ _ _)
   | (with_reducible exact spec_l2Join.mono _ _)
   | (with_reducible exact LeO.refl _)
   | (with_reducible exact LeO.none _)
   | (with_reducible refine LeO.ite ?_ ?_)
   | (with_reducible refine LeO.bind ?_ (fun _=>?_))
   | exact ih0 _ _ _ _ _ _
   | exact spec_l2Given.mono _ _ _ _ _
   | exact spec_l2Join.mono _ _
   | exact LeO.none _
   | refine LeO.ite ?_ ?_
   | refine LeO.bind ?_ (fun _=>?_)
theorem spec_l2Inverse.mono:∀ a0 a1 a2 a3 k,LeO (spec_l2Inverse.f k a0 a1 a2 a3) (spec_l2Inverse.f (k+1) a0 a1 a2 a3):=by
 intro a0 a1 a2 a3 k;have ih0:=spec_l2Inverse.mono_l k;unfold spec_l2Inverse.f
 repeat' first
   | (with_reducible exact ih0 _ _ _ _ _ _)
   | (with_reducible exact spec_l2Given.mono _ _ _ _ _)
   | (with_reducible exact spec_l2Join.mono _ _)
   | (with_reducible exact LeO.refl _)
   | (with_reducible exact LeO.none _)
   | (with_reducible refine LeO.ite ?_ ?_)
   | (with_reducible refine LeO.bind ?_ (fun _=>?_))
   | exact ih0 _ _ _ _ _ _
   | exact spec_l2Given.mono _ _ _ _ _
   | exact spec_l2Join.mono _ _
   | exact LeO.none _
   | refine LeO.ite ?_ ?_
   | refine LeO.bind ?_ (fun _=>?_)
theorem spec_l2Inverse.L0 {P:Prop} (h:P:=by
  go_wp2_with (first|((with_reducible refine gate_callee (f:=78) rfl ?_);refine goesL_ (some 22) rfl rfl Tryz.func78 (by kernel_rfl) rfl #[.agg #[.slice fQ bI.length fR,.string aA,.string aX,.string aZ]] rfl au58 ?_;(with_reducible refine (spec_l2Given.calls Oe _ _ bI aA aX aZ pI _ ?aE ?aG He.out).mono ?_);(case aE=>repeat (first|exact (Kd.C_below kR.out HB.out)|(with_reducible refine Kd.C_alloc ?_ _)|(with_reducible refine Kd.C_drewN ?_ _)|(with_reducible refine Kd.C_drew ?_)));(case aG=>exact pV.out);rintro e NO ⟨rfl,hb⟩;refine ⟨_,rfl,?_⟩;replace mZ:=am (blk_below (g:=TY) au74 hb);replace HB:=am (below_step au43 hb);(try clear hb);obtain ⟨xY,xZ,yA,yB,yC,yD,yE,yF⟩:=blkc4 mZ.out));go_ret
  exact ⟨by first|rfl|(simp [errW_none,errW_some] <;> rfl)|(simp [*,errW_none,errW_some] <;> rfl),by repeat (first|(with_reducible first|exact HB.out|apply below_alloc|apply pw_below_drewN|apply below_drew1|refine below_set ?_ MX.out)|exact HB.out)⟩):P:=h
theorem spec_l2Inverse.calls (k:Nat) (fQ:Option Addr) (fR:Nat) (bI:List ByteArray) (aA:ByteArray) (aX:ByteArray) (aZ:ByteArray) (r:ByteArray) (w:World) (iR:Kd.C Kd.string w fQ bI.length bI) (iT:bI.length≤fR) (h:spec_l2Inverse.f k bI aA aX aZ=some r) :
  Calls Tryz.prog 61 #[.agg #[.slice fQ bI.length fR,.string aA,.string aX,.string aZ]] w fun e w'=>e=.returned (.string r)∧Below w.heap.size w w':=by
 have hu68:=Tryz.underlying68;have kR:=am iR;have pV:=am iT;clear iR iT;have HB:=am (Below.refl w.heap.size w);have H:((spec_l2Join.f k (([aA,aX]:List ByteArray))).bind fun iE=>(if (bI.length:Int)>0 then (spec_l2Inverse.j0 k iE true bI aA aX aZ) else (spec_l2Inverse.j0 k iE (aZ.toList != ([]:List UInt8)) bI aA aX aZ)))=some r:=h;clear h
 obtain ⟨Wr,Kf⟩:∃ y_:List ByteArray,y_=(([aA,aX]:List ByteArray)):=⟨_,rfl⟩
 replace H:((spec_l2Join.f k Wr).bind fun iE=>(if (bI.length:Int)>0 then (spec_l2Inverse.j0 k iE true bI aA aX aZ) else (spec_l2Inverse.j0 k iE (aZ.toList != ([]:List UInt8)) bI aA aX aZ)))=some r:=by first|(rw [Kf];with_reducible exact H)|(have H2_:=(Option.bind_some _ _).symm.trans H;rw [Kf];with_reducible exact H2_)|(have H2_:=(Option.bind_some _ _).symm.trans H;with_reducible exact H2_)|with_reducible exact H|(rw [Kf];exact H)|exact H
 have XL:=am Kf;clear Kf;replace H:=obz H;obtain ⟨iE,fD,H⟩:=H
 try dsimp only at H
 have A2:=am fD;clear fD;have Ar:=am H;clear H;go_enter Tryz.func61,Tryz.ntmps61
 go_upto_region 2 with (first|((with_reducible refine gate_dst (N:=1) rfl ?_);refine box_event ?hg (N:=1) ?hd (cs:=#[.slice fQ bI.length fR,.string aA,.string aX,.string aZ]) (t:=68) ?hr ?_;(case hd=>rfl);(case hg=>rfl);(case hr=>first|(go_simp;done)|(go_simp;rfl));intro TY hg w4 hbox hb;have mZ:=am (hbox);have aLM:=am (bsz hg au59);have MX:=am (bsz hg au59);replace HB:=am (below_step au59 hb);clear hb hbox hg;obtain ⟨BA,BB,BC,EM,EN,BD,BE,EO⟩:=blkc4 mZ.out)|((with_reducible refine gate_dst (N:=8) rfl ?_);refine Kd.R_lit Kd.string _ 9 ?hg (N:=8) ?hd (xs:=([aA,aX]:List ByteArray)) (inner:=[.string aA,.string aX]) (ok:=fun _=>True) (okp:=fun _=>True) ?hr ?hp (fun _ hk=>hk) trivial (Below.refl _ _) (Nat.le_refl _) (by simp) ?_;(case hd=>rfl);(case hg=>rfl);(case hr=>first|(go_simp;done)|(go_simp;rfl));(case hp=>exact (Reps.one (show Kd.M Kd.string _ _ _ aA [.string aA] from rfl) (Reps.one (show Kd.M Kd.string _ _ _ aX [.string aX] from rfl) (Reps.none _ _))));intro aN3 w6 ho7 hb hg_ hnew_;clear hg_ hnew_;(first|rw [← XL.out] at ho7|(simp only [Int.reduceToNat] at ho7;rw [← XL.out] at ho7));have TZ:=am (Kd.R_lower ho7 (below_size au43));replace mZ:=am (blk_below (g:=TY) au74 hb);replace HB:=am (below_step au43 hb);clear hb ho7;obtain ⟨NP,NQ,Us⟩:=Kd.R_slice TZ.out;subst Us)|((with_reducible refine gate_callee (f:=77) rfl ?_);refine goesL_ (some 9) rfl rfl Tryz.func77 (by kernel_rfl) rfl #[.slice NP Wr.length NQ] rfl au58 ?_;(with_reducible refine (spec_l2Join.calls k _ _ Wr iE _ ?aE ?aG A2.out).mono ?_);(case aE=>repeat (first|exact (Kd.R_reads' TZ.out).2.2|(with_reducible refine Kd.C_alloc ?_ _)|(with_reducible refine Kd.C_drewN ?_ _)|(with_reducible refine Kd.C_drew ?_)));(case aG=>exact (Kd.R_reads' TZ.out).2.1);rintro e w' ⟨rfl,⟨nd,rfl⟩⟩;refine ⟨_,rfl,?_⟩))
 (try simp only [Act.put,List.setIfInBounds_toArray,List.set_cons_zero,List.set_cons_succ])
 go_cut [18] (fun v18 wc=>∃ (kq:Nat) (xE:Bool),v18=.bool xE∧Aside0 (spec_l2Inverse.j0 kq iE xE bI aA aX aZ=some r)∧Aside0 (kq≤k)∧Aside0 (wc.heap[TY]?=some (.cells #[(.slice fQ bI.length fR),.string aA,.string aX,.string aZ] 68 (0,0)))∧Aside0 (Below w.heap.size w wc))
 case first =>
  have H:=Ar.out;clear Ar;by_cases c9:(bI.length:Int)>0
  ·
   rw [if_pos c9] at H;have c9b0:=dt c9;have c9b1:decide (0<bI.length)=true:=dt (by omega);clear c9
   (first|rw [c9b0]|(simp only [i64_w,i32_w];rw [c9b0])|skip)
   have H':=am H;clear H;obtain ⟨uK,uL,uM,uN,uO,uP,uQ,uR⟩:=blkc4 mZ.out;go_wp2;go_meet
   case rel=>exact ⟨_,(true),au104,H',⟨by first|omega|exact Nat.le_refl _⟩,⟨by (with_reducible repeat (first|refine blk_drewN ?_ _|refine blk_drew ?_|refine blk_alloc ?_ _));exact mZ.out⟩,⟨by repeat (first|(with_reducible first|exact HB.out|apply below_alloc|apply pw_below_drewN|apply below_drew1|refine below_set ?_ MX.out)|exact HB.out)⟩⟩
  ·
   rw [if_neg c9] at H;have c9b0:=df c9;have c9b1:decide (0<bI.length)=false:=df (by omega);clear c9
   (first|rw [c9b0]|(simp only [i64_w,i32_w];rw [c9b0])|skip)
   have H':=am H;clear H;obtain ⟨jQ,jR,jS,jT,jU,jV,jW,jX⟩:=blkc4 mZ.out;go_wp2;go_meet
   case rel=>exact ⟨_,((aZ.toList != ([]:List UInt8))),(by first|rfl|(simp;done)|(simp [*];done)|(simp;exact (show ∀ l_:List UInt8,l_.isEmpty=!(l_ != ([]:List UInt8)) from fun l_=>by cases l_ <;> rfl) _)),H',⟨by first|omega|exact Nat.le_refl _⟩,⟨by (with_reducible repeat (first|refine blk_drewN ?_ _|refine blk_drew ?_|refine blk_alloc ?_ _));exact mZ.out⟩,⟨by repeat (first|(with_reducible first|exact HB.out|apply below_alloc|apply pw_below_drewN|apply below_drew1|refine below_set ?_ MX.out)|exact HB.out)⟩⟩
 case rest =>
  clear Ar
  try clear p2
  try clear c6
  try clear c7
  try clear c9
  try clear c9b0
  try clear c9b1
  try clear uK uL uM uN uO uP uQ uR
  try clear jQ jR jS jT jU jV jW jX
  try clear BA BB BC EM EN BD BE EO
  obtain ⟨kq,xE,rfl,HA,Hg,mZ,HB⟩:=hcut
  cases kq with
  | zero=>exact absurd HA.out (by simp [spec_l2Inverse.j0])
  | succ Oe =>
   have H:=HA.out;clear HA;simp only [spec_l2Inverse.j0] at H;by_cases dD:xE=true
   ·
    subst dD;replace H:=(if_pos rfl).symm.trans H;by_cases dE:iE.size+2≤9223372036854775807
    ·
     rw [if_pos dE] at H;have c13b0:=eq_true dE;have c13b1:=dt dE
     try have c13b2:(9223372036854775807<iE.size+2)=False:=eq_false (Nat.not_lt.2 dE)
     replace H:=obz H;obtain ⟨pI,sO,H⟩:=H
     try dsimp only at H
     have He:=am sO;clear sO;by_cases dJ:(iE++(⟨#[44,32]⟩:ByteArray)).size+pI.size≤9223372036854775807
     ·
      rw [if_pos dJ] at H;have c15b0:=eq_true dJ;have c15b1:=dt dJ
      try have c15b2:(9223372036854775807<(iE++(⟨#[44,32]⟩:ByteArray)).size+pI.size)=False:=eq_false (Nat.not_lt.2 dJ)
      try have c15x:(9223372036854775807<iE.size+2+pI.size)=False:=eq_false (by have z_:=dJ;simp only [ByteArray.size_append] at z_;have sW:(⟨#[44,32]⟩:ByteArray).size=2:=rfl;omega)
      by_cases dB:aZ.toList=([]:List UInt8)
      · rw [if_pos dB] at H;have c16b0:=qt dB;have c16b1:=bfz dB;clear dB;obtain rfl:=ojz H;obtain ⟨lI,lJ,lK,lL,lM,lN,lO,lP⟩:=blkc4 mZ.out;exact spec_l2Inverse.L0
      ·
       rw [if_neg dB] at H;have c16b0:=qf dB;have c16b1:=bu dB;by_cases kX:((iE++(⟨#[44,32]⟩:ByteArray))++pI).size+2≤9223372036854775807
       ·
        rw [if_pos kX] at H;have c20b0:=eq_true kX;have c20b1:=dt kX
        try have c20b2:(9223372036854775807<((iE++(⟨#[44,32]⟩:ByteArray))++pI).size+2)=False:=eq_false (Nat.not_lt.2 kX)
        try have c20x:(9223372036854775807<iE.size+2+pI.size+2)=False:=eq_false (by have z_:=kX;simp only [ByteArray.size_append] at z_;have sW:(⟨#[44,32]⟩:ByteArray).size=2:=rfl;omega)
        by_cases gT:(((iE++(⟨#[44,32]⟩:ByteArray))++pI)++(⟨#[44,32]⟩:ByteArray)).size+aZ.size≤9223372036854775807
        ·
         rw [if_pos gT] at H;have c21b0:=eq_true gT;have c21b1:=dt gT
         try have c21b2:(9223372036854775807<(((iE++(⟨#[44,32]⟩:ByteArray))++pI)++(⟨#[44,32]⟩:ByteArray)).size+aZ.size)=False:=eq_false (Nat.not_lt.2 gT)
         try have c21x:(9223372036854775807<iE.size+2+pI.size+2+aZ.size)=False:=eq_false (by have z_:=gT;simp only [ByteArray.size_append] at z_;have sW:(⟨#[44,32]⟩:ByteArray).size=2:=rfl;omega)
         obtain rfl:=ojz H;obtain ⟨uS,uT,uU,uV,uW,uX,uY,uZ⟩:=blkc4 mZ.out;exact spec_l2Inverse.L0
        · rw [if_neg gT] at H;exact absurd H (by simp)
       · rw [if_neg kX] at H;exact absurd H (by simp)
     · rw [if_neg dJ] at H;exact absurd H (by simp)
    · rw [if_neg dE] at H;exact absurd H (by simp)
   ·
    replace dD:=Bool.eq_false_iff.mpr dD;subst dD;replace H:=(if_neg (show ¬ (false=true) by decide)).symm.trans H;by_cases pR:aZ.toList=([]:List UInt8)
    · rw [if_pos pR] at H;have c25b0:=qt pR;have c25b1:=bfz pR;clear pR;obtain rfl:=ojz H;obtain ⟨Cc,Cd,Ce,Cf,Cg,Ch,Ci,Cj⟩:=blkc4 mZ.out;exact spec_l2Inverse.L0
    ·
     rw [if_neg pR] at H;have c25b0:=qf pR;have c25b1:=bu pR;by_cases nG:iE.size+2≤9223372036854775807
     ·
      rw [if_pos nG] at H;have c27b0:=eq_true nG;have c27b1:=dt nG
      try have c27b2:(9223372036854775807<iE.size+2)=False:=eq_false (Nat.not_lt.2 nG)
      by_cases kY:(iE++(⟨#[44,32]⟩:ByteArray)).size+aZ.size≤9223372036854775807
      ·
       rw [if_pos kY] at H;have c28b0:=eq_true kY;have c28b1:=dt kY
       try have c28b2:(9223372036854775807<(iE++(⟨#[44,32]⟩:ByteArray)).size+aZ.size)=False:=eq_false (Nat.not_lt.2 kY)
       try have c28x:(9223372036854775807<iE.size+2+aZ.size)=False:=eq_false (by have z_:=kY;simp only [ByteArray.size_append] at z_;have sW:(⟨#[44,32]⟩:ByteArray).size=2:=rfl;omega)
       obtain rfl:=ojz H;obtain ⟨KE,KF,KG,KH,KI,KJ,KL,KM⟩:=blkc4 mZ.out;exact spec_l2Inverse.L0
      · rw [if_neg kY] at H;exact absurd H (by simp)
     · rw [if_neg nG] at H;exact absurd H (by simp)
def impl_inverseForm.j0:Nat→ByteArray→Bool→List ByteArray→ByteArray→ByteArray→ByteArray→Option (ByteArray)
 | 0,_,_,_,_,_,_=>none
 | k+1,x3,x18,a2G,aEe,aEf,rA=>if x18=true then ((strings_Join.f a2G (⟨#[32]⟩:ByteArray)).bind fun qM=>(if 2+qM.size≤9223372036854775807 then (if x3.size+((⟨#[44,32]⟩:ByteArray)++qM).size≤9223372036854775807 then (if rA.toList=([]:List UInt8) then (some (x3++((⟨#[44,32]⟩:ByteArray)++qM))) else (if 2+rA.size≤9223372036854775807 then (if (x3++((⟨#[44,32]⟩:ByteArray)++qM)).size+((⟨#[44,32]⟩:ByteArray)++rA).size≤9223372036854775807 then (some ((x3++((⟨#[44,32]⟩:ByteArray)++qM))++((⟨#[44,32]⟩:ByteArray)++rA))) else (none)) else (none))) else (none)) else (none))) else (if rA.toList=([]:List UInt8) then (some x3) else (if 2+rA.size≤9223372036854775807 then (if x3.size+((⟨#[44,32]⟩:ByteArray)++rA).size≤9223372036854775807 then (some (x3++((⟨#[44,32]⟩:ByteArray)++rA))) else (none)) else (none)))
def impl_inverseForm.f (k:Nat) (bI:List ByteArray) (aA:ByteArray) (aX:ByteArray) (aZ:ByteArray):Option (ByteArray):=(impl_spaced.f (([aA,aX]:List ByteArray))).bind fun mH=>(if (bI.length:Int)>0 then (impl_inverseForm.j0 k mH true bI aA aX aZ) else (impl_inverseForm.j0 k mH (aZ.toList != ([]:List UInt8)) bI aA aX aZ))
theorem impl_inverseForm.mono_l:∀ k,(∀ y0 y1 y2 y3 y4 y5,LeO (impl_inverseForm.j0 k y0 y1 y2 y3 y4 y5) (impl_inverseForm.j0 (k+1) y0 y1 y2 y3 y4 y5))
 | 0=>fun _ _ _ _ _ _ r h=>by simp [impl_inverseForm.j0] at h
 | k+1=>by
  have ih0:=impl_inverseForm.mono_l k
  ·
   intro y0 y1 y2 y3 y4 y5;unfold impl_inverseForm.j0
   repeat' first
   | (with_reducible exact ih0 _ _ _ _ _ _)
   | (with_reducible exact LeO.refl _)
   | (with_reducible exact LeO.none _)
   | (with_reducible refine LeO.ite ?_ ?_)
   | (with_reducible refine LeO.bind ?_ (fun _=>?_))
   | exact ih0 _ _ _ _ _ _
   | exact LeO.none _
   | refine LeO.ite ?_ ?_
   | refine LeO.bind ?_ (fun _=>?_)
theorem impl_inverseForm.mono:∀ a0 a1 a2 a3 k,LeO (impl_inverseForm.f k a0 a1 a2 a3) (impl_inverseForm.f (k+1) a0 a1 a2 a3):=by
 intro a0 a1 a2 a3 k;have ih0:=impl_inverseForm.mono_l k;unfold impl_inverseForm.f
 repeat' first
   | (with_reducible exact ih0 _ _ _ _ _ _)
   | (with_reducible exact LeO.refl _)
   | (with_reducible exact LeO.none _)
   | (with_reducible refine LeO.ite ?_ ?_)
   | (with_reducible refine LeO.bind ?_ (fun _=>?_))
   | exact ih0 _ _ _ _ _ _
   | exact LeO.none _
   | refine LeO.ite ?_ ?_
   | refine LeO.bind ?_ (fun _=>?_)
theorem impl_inverseForm.L0 {P:Prop} (h:P:=by
  go_wp2_with (first|((with_reducible refine gate_callee (f:=71) rfl ?_);refine goesL_ (some 22) rfl rfl Tryz.func71 (by kernel_rfl) rfl #[.slice fQ bI.length fR,.string (⟨#[32]⟩:ByteArray)] rfl au58 ?_;(with_reducible refine (strings_Join.calls _ _ bI (⟨#[32]⟩:ByteArray) qM _ ?aE ?aG He.out).mono ?_);(case aE=>repeat (first|exact (Kd.C_below kR.out HB.out)|(with_reducible refine Kd.C_alloc ?_ _)|(with_reducible refine Kd.C_drewN ?_ _)|(with_reducible refine Kd.C_drew ?_)));(case aG=>exact pV.out);rintro e Qh ⟨rfl,hb⟩;refine ⟨_,rfl,?_⟩;replace kL:=am (blk_below (g:=U0) au75 hb);replace HB:=am (below_step au44 hb);(try clear hb);obtain ⟨Qi,Qj,Qk,Ql,Qm,Qn,Qo,Qp⟩:=blkc4 kL.out));go_ret
  exact ⟨by first|rfl|(simp [errW_none,errW_some] <;> rfl)|(simp [*,errW_none,errW_some] <;> rfl),by repeat (first|(with_reducible first|exact HB.out|apply below_alloc|apply pw_below_drewN|apply below_drew1|refine below_set ?_ Jj.out)|exact HB.out)⟩):P:=h
theorem impl_inverseForm.calls (k:Nat) (fQ:Option Addr) (fR:Nat) (bI:List ByteArray) (aA:ByteArray) (aX:ByteArray) (aZ:ByteArray) (r:ByteArray) (w:World) (iR:Kd.C Kd.string w fQ bI.length bI) (iT:bI.length≤fR) (h:impl_inverseForm.f k bI aA aX aZ=some r) :
  Calls Tryz.prog 70 #[.agg #[.slice fQ bI.length fR,.string aA,.string aX,.string aZ]] w fun e w'=>e=.returned (.string r)∧Below w.heap.size w w':=by
 have hu68:=Tryz.underlying68;have kR:=am iR;have pV:=am iT;clear iR iT;have HB:=am (Below.refl w.heap.size w);have H:((impl_spaced.f (([aA,aX]:List ByteArray))).bind fun mH=>(if (bI.length:Int)>0 then (impl_inverseForm.j0 k mH true bI aA aX aZ) else (impl_inverseForm.j0 k mH (aZ.toList != ([]:List UInt8)) bI aA aX aZ)))=some r:=h;clear h
 obtain ⟨Ph,Kg⟩:∃ y_:List ByteArray,y_=(([aA,aX]:List ByteArray)):=⟨_,rfl⟩
 replace H:((impl_spaced.f Ph).bind fun mH=>(if (bI.length:Int)>0 then (impl_inverseForm.j0 k mH true bI aA aX aZ) else (impl_inverseForm.j0 k mH (aZ.toList != ([]:List UInt8)) bI aA aX aZ)))=some r:=by first|(rw [Kg];with_reducible exact H)|(have H2_:=(Option.bind_some _ _).symm.trans H;rw [Kg];with_reducible exact H2_)|(have H2_:=(Option.bind_some _ _).symm.trans H;with_reducible exact H2_)|with_reducible exact H|(rw [Kg];exact H)|exact H
 have XM:=am Kg;clear Kg;replace H:=obz H;obtain ⟨mH,fD,H⟩:=H
 try dsimp only at H
 have A2:=am fD;clear fD;have Ar:=am H;clear H;go_enter Tryz.func70,Tryz.ntmps70
 go_upto_region 2 with (first|((with_reducible refine gate_dst (N:=1) rfl ?_);refine box_event ?hg (N:=1) ?hd (cs:=#[.slice fQ bI.length fR,.string aA,.string aX,.string aZ]) (t:=68) ?hr ?_;(case hd=>rfl);(case hg=>rfl);(case hr=>first|(go_simp;done)|(go_simp;rfl));intro U0 hg w4 hbox hb;have kL:=am (hbox);have aLN:=am (bsz hg au59);have Jj:=am (bsz hg au59);replace HB:=am (below_step au59 hb);clear hb hbox hg;obtain ⟨BA,BB,BC,EM,EN,BD,BE,EO⟩:=blkc4 kL.out)|((with_reducible refine gate_dst (N:=8) rfl ?_);refine Kd.R_lit Kd.string _ 9 ?hg (N:=8) ?hd (xs:=([aA,aX]:List ByteArray)) (inner:=[.string aA,.string aX]) (ok:=fun _=>True) (okp:=fun _=>True) ?hr ?hp (fun _ hk=>hk) trivial (Below.refl _ _) (Nat.le_refl _) (by simp) ?_;(case hd=>rfl);(case hg=>rfl);(case hr=>first|(go_simp;done)|(go_simp;rfl));(case hp=>exact (Reps.one (show Kd.M Kd.string _ _ _ aA [.string aA] from rfl) (Reps.one (show Kd.M Kd.string _ _ _ aX [.string aX] from rfl) (Reps.none _ _))));intro aN4 w6 ho7 hb hg_ hnew_;clear hg_ hnew_;(first|rw [← XM.out] at ho7|(simp only [Int.reduceToNat] at ho7;rw [← XM.out] at ho7));have Nb:=am (Kd.R_lower ho7 (below_size au44));replace kL:=am (blk_below (g:=U0) au75 hb);replace HB:=am (below_step au44 hb);clear hb ho7;obtain ⟨NP,NQ,Us⟩:=Kd.R_slice Nb.out;subst Us)|((with_reducible refine gate_callee (f:=90) rfl ?_);refine goesL_ (some 9) rfl rfl Tryz.func90 (by kernel_rfl) rfl #[.slice NP Ph.length NQ] rfl au58 ?_;(with_reducible refine (impl_spaced.calls (fun k_=>some k_=(.slice NP Ph.length NQ:Value).ownBlock) (.slice NP Ph.length NQ) Ph mH w _ ?aE ?aG A2.out).mono ?_);(case aE=>repeat (first|(with_reducible first|exact HB.out|apply below_alloc|apply pw_below_drewN|apply below_drew1|refine below_set ?_ Jj.out)|exact HB.out));(case aG=>exact Kd.R_tight rfl Nb.out);rintro e w9 ⟨rfl,hb,hkp⟩;refine ⟨_,rfl,?_⟩;have dS:=am (blk_kept au75 hkp (fun hs_=>(fun e_=>(Kd.R_ne Nb.out kL.out (by decide)) e_) hs_));have dT:=am (hb);clear kL;clear HB;clear Nb;have kL:=dS;have HB:=dT;clear dS dT;(try clear hb);(try clear hkp)))
 (try simp only [Act.put,List.setIfInBounds_toArray,List.set_cons_zero,List.set_cons_succ])
 go_cut [18] (fun v18 wc=>∃ (kq:Nat) (xE:Bool),v18=.bool xE∧Aside0 (impl_inverseForm.j0 kq mH xE bI aA aX aZ=some r)∧Aside0 (kq≤k)∧Aside0 (wc.heap[U0]?=some (.cells #[(.slice fQ bI.length fR),.string aA,.string aX,.string aZ] 68 (0,0)))∧Aside0 (Below w.heap.size w wc))
 case first =>
  have H:=Ar.out;clear Ar;by_cases c10:(bI.length:Int)>0
  ·
   rw [if_pos c10] at H;have c10b0:=dt c10;have c10b1:decide (0<bI.length)=true:=dt (by omega);clear c10
   (first|rw [c10b0]|(simp only [i64_w,i32_w];rw [c10b0])|skip)
   have H':=am H;clear H;obtain ⟨jQ,jR,jS,jT,jU,jV,jW,jX⟩:=blkc4 kL.out;go_wp2;go_meet
   case rel=>exact ⟨_,(true),au104,H',⟨by first|omega|exact Nat.le_refl _⟩,⟨by (with_reducible repeat (first|refine blk_drewN ?_ _|refine blk_drew ?_|refine blk_alloc ?_ _));exact kL.out⟩,⟨by repeat (first|(with_reducible first|exact HB.out|apply below_alloc|apply pw_below_drewN|apply below_drew1|refine below_set ?_ Jj.out)|exact HB.out)⟩⟩
  ·
   rw [if_neg c10] at H;have c10b0:=df c10;have c10b1:decide (0<bI.length)=false:=df (by omega);clear c10
   (first|rw [c10b0]|(simp only [i64_w,i32_w];rw [c10b0])|skip)
   have H':=am H;clear H;obtain ⟨oH,oI,oJ,oK,oL,oM,oN,oO⟩:=blkc4 kL.out;go_wp2;go_meet
   case rel=>exact ⟨_,((aZ.toList != ([]:List UInt8))),(by first|rfl|(simp;done)|(simp [*];done)|(simp;exact (show ∀ l_:List UInt8,l_.isEmpty=!(l_ != ([]:List UInt8)) from fun l_=>by cases l_ <;> rfl) _)),H',⟨by first|omega|exact Nat.le_refl _⟩,⟨by (with_reducible repeat (first|refine blk_drewN ?_ _|refine blk_drew ?_|refine blk_alloc ?_ _));exact kL.out⟩,⟨by repeat (first|(with_reducible first|exact HB.out|apply below_alloc|apply pw_below_drewN|apply below_drew1|refine below_set ?_ Jj.out)|exact HB.out)⟩⟩
 case rest =>
  clear Ar
  try clear c1
  try clear p2
  try clear c7
  try clear c9
  try clear c10
  try clear c10b0
  try clear c10b1
  try clear jQ jR jS jT jU jV jW jX
  try clear oH oI oJ oK oL oM oN oO
  try clear BA BB BC EM EN BD BE EO
  obtain ⟨kq,xE,rfl,HA,Hg,kL,HB⟩:=hcut
  cases kq with
  | zero=>exact absurd HA.out (by simp [impl_inverseForm.j0])
  | succ Oe =>
   have H:=HA.out;clear HA;simp only [impl_inverseForm.j0] at H;by_cases dE:xE=true
   ·
    subst dE;replace H:=(if_pos rfl).symm.trans H;replace H:=obz H;obtain ⟨qM,sO,H⟩:=H
    try dsimp only at H
    have He:=am sO;clear sO;by_cases dJ:2+qM.size≤9223372036854775807
    ·
     rw [if_pos dJ] at H;have c15b0:=eq_true dJ;have c15b1:=dt dJ
     try have c15b2:(9223372036854775807<2+qM.size)=False:=eq_false (Nat.not_lt.2 dJ)
     by_cases dB:mH.size+((⟨#[44,32]⟩:ByteArray)++qM).size≤9223372036854775807
     ·
      rw [if_pos dB] at H;have c16b0:=eq_true dB;have c16b1:=dt dB
      try have c16b2:(9223372036854775807<mH.size+((⟨#[44,32]⟩:ByteArray)++qM).size)=False:=eq_false (Nat.not_lt.2 dB)
      try have c16x:(9223372036854775807<mH.size+(2+qM.size))=False:=eq_false (by have z_:=dB;simp only [ByteArray.size_append] at z_;have sW:(⟨#[44,32]⟩:ByteArray).size=2:=rfl;omega)
      by_cases gD:aZ.toList=([]:List UInt8)
      · rw [if_pos gD] at H;have c17b0:=qt gD;have c17b1:=bfz gD;clear gD;obtain rfl:=ojz H;obtain ⟨xG,xH,xI,xJ,xK,xL,xM,xN⟩:=blkc4 kL.out;exact impl_inverseForm.L0
      ·
       rw [if_neg gD] at H;have c17b0:=qf gD;have c17b1:=bu gD;by_cases gT:2+aZ.size≤9223372036854775807
       ·
        rw [if_pos gT] at H;have c21b0:=eq_true gT;have c21b1:=dt gT
        try have c21b2:(9223372036854775807<2+aZ.size)=False:=eq_false (Nat.not_lt.2 gT)
        by_cases fP:(mH++((⟨#[44,32]⟩:ByteArray)++qM)).size+((⟨#[44,32]⟩:ByteArray)++aZ).size≤9223372036854775807
        ·
         rw [if_pos fP] at H;have c22b0:=eq_true fP;have c22b1:=dt fP
         try have c22b2:(9223372036854775807<(mH++((⟨#[44,32]⟩:ByteArray)++qM)).size+((⟨#[44,32]⟩:ByteArray)++aZ).size)=False:=eq_false (Nat.not_lt.2 fP)
         try have c22x:(9223372036854775807<mH.size+2+(qM.size)+(2+aZ.size))=False:=eq_false (by have z_:=fP;simp only [ByteArray.size_append] at z_;have sW:(⟨#[44,32]⟩:ByteArray).size=2:=rfl;omega)
         obtain rfl:=ojz H;obtain ⟨D9,Da,Db,Dc,Dd,De,Df,Dg⟩:=blkc4 kL.out;exact impl_inverseForm.L0
        · rw [if_neg fP] at H;exact absurd H (by simp)
       · rw [if_neg gT] at H;exact absurd H (by simp)
     · rw [if_neg dB] at H;exact absurd H (by simp)
    · rw [if_neg dJ] at H;exact absurd H (by simp)
   ·
    replace dE:=Bool.eq_false_iff.mpr dE;subst dE;replace H:=(if_neg (show ¬ (false=true) by decide)).symm.trans H;by_cases kH:aZ.toList=([]:List UInt8)
    · rw [if_pos kH] at H;have c26b0:=qt kH;have c26b1:=bfz kH;clear kH;obtain rfl:=ojz H;obtain ⟨ZD,ZE,ZF,ZG,ZH,ZI,ZJ,ZK⟩:=blkc4 kL.out;exact impl_inverseForm.L0
    ·
     rw [if_neg kH] at H;have c26b0:=qf kH;have c26b1:=bu kH;by_cases kY:2+aZ.size≤9223372036854775807
     ·
      rw [if_pos kY] at H;have c28b0:=eq_true kY;have c28b1:=dt kY
      try have c28b2:(9223372036854775807<2+aZ.size)=False:=eq_false (Nat.not_lt.2 kY)
      by_cases lG:mH.size+((⟨#[44,32]⟩:ByteArray)++aZ).size≤9223372036854775807
      ·
       rw [if_pos lG] at H;have c29b0:=eq_true lG;have c29b1:=dt lG
       try have c29b2:(9223372036854775807<mH.size+((⟨#[44,32]⟩:ByteArray)++aZ).size)=False:=eq_false (Nat.not_lt.2 lG)
       try have c29x:(9223372036854775807<mH.size+(2+aZ.size))=False:=eq_false (by have z_:=lG;simp only [ByteArray.size_append] at z_;have sW:(⟨#[44,32]⟩:ByteArray).size=2:=rfl;omega)
       obtain rfl:=ojz H;obtain ⟨tY,tZ,uA,uB,uC,uD,uE,uF⟩:=blkc4 kL.out;exact impl_inverseForm.L0
      · rw [if_neg lG] at H;exact absurd H (by simp)
     · rw [if_neg kY] at H;exact absurd H (by simp)
end Go.Proofs.YtcbhlghofihjcaaGreatDoor.G

namespace Go.Proofs.YtcbhlghofihjcaaGreatDoor.G
open Go.RowKit Go.Proofs.YtcbhlghofihjcaaGreatDoorW.PrintWords Go.Proofs.YtcbhlghofihjcaaGreatDoorW.PrintLast Go.Proofs.YtcbhlghofihjcaaGreatDoor.B
set_option linter.unusedVariables false
set_option linter.unusedSimpArgs false
def cmB:ByteArray:=⟨#[44,32]⟩
def tailI (t:ByteArray) (G:List ByteArray) (S:ByteArray):ByteArray:=if S.size=0 then (t++cmB)++joinD G else (((t++cmB)++joinD G)++cmB)++S
def invD (G:List ByteArray) (P F S:ByteArray):ByteArray:=if G.length>0∨S.size≠0 then tailI (joinD [P,F]) G S else joinD [P,F]
theorem inv_sum (G:List ByteArray) (P F S:ByteArray) (h:bulkN G P F S≤1048576):(joinD G).size≤1048576∧sumB [P,F]≤1048580∧(joinD [P,F]).size≤1048580∧S.size≤1048576∧G.length≤1048576∧sumB G≤1048576:=by
  have h1:=joinD_size G;have h2:=sumB_bulk G;have h3:=joinD_size [P,F];have h4:sumB [P,F]=P.size+1+(F.size+1+0):=rfl;unfold bulkN at h;unfold bulkS at h h2;omega
theorem cm_size (t:ByteArray):(t++(⟨#[44,32]⟩:ByteArray)).size=t.size+2:=by rw [size_append];rfl
theorem cm_size' (t:ByteArray):((⟨#[44,32]⟩:ByteArray)++t).size=2+t.size:=by rw [size_append];rfl
theorem spec_inv_j (t:ByteArray) (G:List ByteArray) (P F S:ByteArray) (ht:t.size≤1048580) (h:bulkN G P F S≤1048576):Ev (fun k=>spec_l2Inverse.j0 k t true G P F S) (tailI t G S):=by
  obtain ⟨b1,b2,b3,b4,b5,b6⟩:=inv_sum G P F S h;obtain ⟨K,hK⟩:=spec_join G (by omega) (by omega)
  have hK':∀ k,K≤k→spec_l2Given.f k G P F S=some (joinD G):=fun k hk=>by unfold spec_l2Given.f;rw [show spec_l2Join.f k G=some (joinD G) from hK k hk];rfl
  refine ⟨K+1,fun k hk=>?_⟩
  obtain ⟨k',rfl⟩:∃ k',k=k'+1:=⟨k-1,by omega⟩
  have a1:t.size+2≤9223372036854775807:=by omega
  have a2:(t++(⟨#[44,32]⟩:ByteArray)).size+(joinD G).size≤9223372036854775807:=by rw [cm_size];omega
  have a3:((t++(⟨#[44,32]⟩:ByteArray))++joinD G).size+2≤9223372036854775807:=by rw [size_append,cm_size];omega
  have a4:(((t++(⟨#[44,32]⟩:ByteArray))++joinD G)++(⟨#[44,32]⟩:ByteArray)).size+S.size≤9223372036854775807:=by rw [cm_size,size_append,cm_size];omega
  simp only [spec_l2Inverse.j0];rw [if_pos trivial,if_pos a1,hK' k' (by omega)];simp only [Option.bind_some];rw [if_pos a2];unfold tailI;by_cases c:S.size=0
  · rw [if_pos ((nil_iff S).2 c),if_pos c];rfl
  · rw [if_neg (fun e=>c ((nil_iff S).1 e)),if_pos a3,if_pos a4,if_neg c];rfl
theorem spec_inv (G:List ByteArray) (P F S:ByteArray) (h:bulkN G P F S≤1048576):Ev (fun k=>spec_l2Inverse.f k G P F S) (invD G P F S):=by
  obtain ⟨b1,b2,b3,b4,b5,b6⟩:=inv_sum G P F S h;have hj:=spec_inv_j (joinD [P,F]) G P F S b3 h;unfold spec_l2Inverse.f invD;refine Ev.bind (spec_join [P,F] (by simp) (by omega)) ?_;by_cases c:G.length>0
  · exact ev_pos (by omega) (ev_eq hj (if_pos (Or.inl c)).symm)
  · refine ev_neg (by omega) ?_
    by_cases d:S.size=0
    · have e:(S.toList != ([]:List UInt8))=false:=by rw [(nil_iff S).2 d];rfl
      rw [e];refine Ev.step (f:=fun _=>some (joinD [P,F])) (fun k=>?_) (ev_eq (Ev.now _) (if_neg (fun x=>x.elim c (fun y=>y d))).symm);simp only [spec_l2Inverse.j0];rw [if_neg (by simp),if_pos ((nil_iff S).2 d)]
    · have e:(S.toList != ([]:List UInt8))=true:=bne_iff_ne.2 (fun x=>d ((nil_iff S).1 x))
      rw [e];exact ev_eq hj (if_pos (Or.inr d)).symm
theorem app3 (a b c:ByteArray):a++(b++c)=(a++b)++c:=L_inj (by simp only [L_append,List.append_assoc])
theorem impl_inv_j (t:ByteArray) (G:List ByteArray) (P F S:ByteArray) (ht:t.size≤1048580) (hg:goodN G P F S=true) (h:bulkN G P F S≤1048576):Ev (fun k=>impl_inverseForm.j0 k t true G P F S) (tailI t G S):=by
  obtain ⟨b1,b2,b3,b4,b5,b6⟩:=inv_sum G P F S h;obtain ⟨h3,h4⟩:=good_pos hg;have hK:=libJoin_all G h4 (by omega) (by omega);refine ⟨1,fun k hk=>?_⟩
  obtain ⟨k',rfl⟩:∃ k',k=k'+1:=⟨k-1,by omega⟩
  have a1:2+(joinD G).size≤9223372036854775807:=by omega
  have a2:t.size+((⟨#[44,32]⟩:ByteArray)++joinD G).size≤9223372036854775807:=by rw [cm_size'];omega
  have a3:2+S.size≤9223372036854775807:=by omega
  have a4:(t++((⟨#[44,32]⟩:ByteArray)++joinD G)).size+((⟨#[44,32]⟩:ByteArray)++S).size≤9223372036854775807:=by rw [cm_size',size_append,cm_size'];omega
  simp only [impl_inverseForm.j0];rw [if_pos trivial,hK];simp only [Option.bind_some];rw [if_pos a1,if_pos a2];unfold tailI;by_cases c:S.size=0
  · rw [if_pos ((nil_iff S).2 c),if_pos c,app3];rfl
  · rw [if_neg (fun e=>c ((nil_iff S).1 e)),if_pos a3,if_pos a4,if_neg c,app3,app3];rfl
theorem impl_inv (G:List ByteArray) (P F S:ByteArray) (hg:goodN G P F S=true) (h:bulkN G P F S≤1048576):Ev (fun k=>impl_inverseForm.f k G P F S) (invD G P F S):=by
  obtain ⟨b1,b2,b3,b4,b5,b6⟩:=inv_sum G P F S h;have hj:=impl_inv_j (joinD [P,F]) G P F S b3 hg h;unfold impl_inverseForm.f invD;refine ev_bind0 (spaced_eq [P,F] (by simp) (by simp) (by omega)) ?_;by_cases c:G.length>0
  · exact ev_pos (by omega) (ev_eq hj (if_pos (Or.inl c)).symm)
  · refine ev_neg (by omega) ?_
    by_cases d:S.size=0
    · have e:(S.toList != ([]:List UInt8))=false:=by rw [(nil_iff S).2 d];rfl
      rw [e];refine Ev.step (f:=fun _=>some (joinD [P,F])) (fun k=>?_) (ev_eq (Ev.now _) (if_neg (fun x=>x.elim c (fun y=>y d))).symm);simp only [impl_inverseForm.j0];rw [if_neg (by simp),if_pos ((nil_iff S).2 d)]
    · have e:(S.toList != ([]:List UInt8))=true:=bne_iff_ne.2 (fun x=>d ((nil_iff S).1 x))
      rw [e];exact ev_eq hj (if_pos (Or.inr d)).symm
end Go.Proofs.YtcbhlghofihjcaaGreatDoor.G

namespace Go.Proofs.YtcbhlghofihjcaaGreatDoor.G
open Go.RowKit Go.Proofs.YtcbhlghofihjcaaGreatDoorW.PrintWords Go.Proofs.YtcbhlghofihjcaaGreatDoorW.PrintLast Go.Proofs.YtcbhlghofihjcaaGreatDoorW.PrintMore
open Go.Proofs.YtcbhlghofihjcaaGreatDoor.Gl Go.Proofs.YtcbhlghofihjcaaGreatDoor.Ext
attribute [local go_sem] max2_int min2_int max_two min_two max_three min_three max_four min_four   -- for this text's walks alone
set_option linter.unusedVariables false
set_option linter.unusedSimpArgs false
def impl_namesText.l0:Nat→List ByteArray→List (S68)→Int→Int→Option (ByteArray)
 | 0,_,_,_,_=>none
 | k+1,x3,x7,x8,x9=>if x9<x8 then (if 0≤x9 then (if x9<(x7.length:Int) then ((impl_inverseForm.f k ((rd_T68 x7 x9).f0) ((rd_T68 x7 x9).f1) ((rd_T68 x7 x9).f2) ((rd_T68 x7 x9).f3)).bind fun MJ=>(if x3.length<8796093022208 then (impl_namesText.l0 k (x3++[MJ]) x7 x8 (wrap64 (x9+1))) else (none))) else (none)) else (none)) else ((strings_Join.f x3 (⟨#[59,32]⟩:ByteArray)).bind fun Ws=>(some Ws))
def impl_namesText.f (k:Nat) (l0:List (S68)):Option (ByteArray):=impl_namesText.l0 k (([]:List ByteArray)) l0 (l0.length:Int) 0
theorem impl_namesText.mono_l:∀ k,(∀ y0 y1 y2 y3,LeO (impl_namesText.l0 k y0 y1 y2 y3) (impl_namesText.l0 (k+1) y0 y1 y2 y3))
 | 0=>fun _ _ _ _ r h=>by simp [impl_namesText.l0] at h
 | k+1=>by
  have ih0:=impl_namesText.mono_l k
  ·
   intro y0 y1 y2 y3;unfold impl_namesText.l0
   repeat' first
   | (with_reducible exact ih0 _ _ _ _)
   | (with_reducible exact impl_inverseForm.mono _ _ _ _ _)
   | (with_reducible exact LeO.refl _)
   | (with_reducible exact LeO.none _)
   | (with_reducible refine LeO.ite ?_ ?_)
   | (with_reducible refine LeO.bind ?_ (fun _=>?_))
   | exact ih0 _ _ _ _
   | exact impl_inverseForm.mono _ _ _ _ _
   | exact LeO.none _
   | refine LeO.ite ?_ ?_
   | refine LeO.bind ?_ (fun _=>?_)
theorem impl_namesText.mono:∀ a0 k,LeO (impl_namesText.f k a0) (impl_namesText.f (k+1) a0):=by
 intro a0 k;have ih0:=impl_namesText.mono_l k;unfold impl_namesText.f
 repeat' first
   | (with_reducible exact ih0 _ _ _ _)
   | (with_reducible exact impl_inverseForm.mono _ _ _ _ _)
   | (with_reducible exact LeO.refl _)
   | (with_reducible exact LeO.none _)
   | (with_reducible refine LeO.ite ?_ ?_)
   | (with_reducible refine LeO.bind ?_ (fun _=>?_))
   | exact ih0 _ _ _ _
   | exact impl_inverseForm.mono _ _ _ _ _
   | exact LeO.none _
   | refine LeO.ite ?_ ?_
   | refine LeO.bind ?_ (fun _=>?_)
theorem impl_namesText.calls (k:Nat) (A0:Option Addr) (c0:Nat) (l0:List (S68)) (r:ByteArray) (w:World) (dW:Kd.C k68 w A0 l0.length l0) (fT:l0.length≤c0) (h:impl_namesText.f k l0=some r) :
  Calls Tryz.prog 55 #[.slice A0 l0.length c0] w fun e w'=>e=.returned (.string r)∧Below w.heap.size w w':=by
 have hu68:=Tryz.underlying68;have iQ:=am dW;have zX:=am fT;clear dW fT;have HB:=am (Below.refl w.heap.size w);have H:(impl_namesText.l0 k (([]:List ByteArray)) l0 (l0.length:Int) 0)=some r:=h;clear h
 obtain ⟨a8B,Kh⟩:∃ y_:List ByteArray,y_=(([]:List ByteArray)):=⟨_,rfl⟩
 replace H:(impl_namesText.l0 k a8B l0 (l0.length:Int) 0)=some r:=by first|(rw [Kh];with_reducible exact H)|(have H2_:=(Option.bind_some _ _).symm.trans H;rw [Kh];with_reducible exact H2_)|(have H2_:=(Option.bind_some _ _).symm.trans H;with_reducible exact H2_)|with_reducible exact H|(rw [Kh];exact H)|exact H
 have XN:=am Kh;clear Kh;have H':=am H;clear H;go_enter Tryz.func55,Tryz.ntmps55;go_wp2_with (first|((with_reducible refine gate_dst (N:=6) rfl ?_);refine Kd.R_lit Kd.string _ 9 ?hg (N:=6) ?hd (xs:=([]:List ByteArray)) (inner:=[]) (ok:=fun _=>True) (okp:=fun _=>True) ?hr ?hp (fun _ hk=>hk) trivial (Below.refl _ _) (Nat.le_refl _) (by simp) ?_;(case hd=>rfl);(case hg=>rfl);(case hr=>first|(go_simp;done)|(go_simp;rfl));(case hp=>exact (Reps.none _ _));intro aN5 w2 ho3 hb hg_ hnew_;clear hg_ hnew_;(first|rw [← XN.out] at ho3|(simp only [Int.reduceToNat] at ho3;rw [← XN.out] at ho3));have abX:=am (Kd.R_lower ho3 (below_size au59));replace HB:=am (below_step au59 hb);clear hb ho3))
 go_loopg [3,9] k (fun kq v3 v9 w'=>∃ (aU:List ByteArray) (fN:Int),v9=.int .i64 fN∧Aside0 (impl_namesText.l0 kq aU l0 (l0.length:Int) fN=some r)∧Aside0 (kq≤k)∧Aside0 (Kd.R Kd.string 9 w' w.heap.size (fun _=>True) v3 aU)∧Aside0 (Below w.heap.size w w'))
 case atStart=>exact ⟨(a8B),(0),au104,H',⟨Nat.le_refl _⟩,⟨by (with_reducible repeat (first|apply Kd.R_alloc|apply Kd.R_drewN|apply Kd.R_drew));exact abX.out⟩,⟨by repeat (first|(with_reducible first|exact HB.out|apply below_alloc|apply pw_below_drewN|apply below_drew1)|exact HB.out)⟩⟩
 case round =>
  clear H'
  try clear p2
  obtain ⟨aU,fN,rfl,HA,HK1,cS,HB⟩:=hrel
  cases gk with
  | zero=>exact absurd HA.out (by simp [impl_namesText.l0])
  | succ k1 =>
   have H:=HA.out;clear HA;simp only [impl_namesText.l0] at H;by_cases c4:fN<(l0.length:Int)
   ·
    rw [if_pos c4] at H;have c4b0:=dt c4;clear c4;by_cases c5:0≤fN
    ·
     rw [if_pos c5] at H;have c5b0:=dt c5;clear c5;by_cases c6:fN<(l0.length:Int)
     ·
      rw [if_pos c6] at H;have c6b0:=dt c6;clear c6;replace H:=obz H;obtain ⟨MJ,kP,H⟩:=H
      try dsimp only at H
      have A7:=am kP;clear kP;by_cases c8:aU.length<8796093022208
      ·
       rw [if_pos c8] at H;have V8:=am c8;clear c8
       obtain ⟨a8C,Ki⟩:∃ y_:List ByteArray,y_=(aU++[MJ]):=⟨_,rfl⟩
       replace H:(impl_namesText.l0 k1 a8C l0 (l0.length:Int) (wrap64 (fN+1)))=some r:=by first|(rw [Ki];with_reducible exact H)|(have H2_:=(Option.bind_some _ _).symm.trans H;rw [Ki];with_reducible exact H2_)|(have H2_:=(Option.bind_some _ _).symm.trans H;with_reducible exact H2_)|with_reducible exact H|(rw [Ki];exact H)|exact H
       have abY:=am Ki;clear Ki;have H':=am H;clear H;have Wt:0≤(fN:Int):=od au103;have Wu:fN<(l0.length:Int):=od au103;obtain ⟨aLO,AK,AL,amR,Sl,Sm,Sn,Sp,Sq,Sr⟩:=at_T68 iQ.out fN Wt Wu
       cases amR
       replace Sl:=bcl HB.out Sl;replace Sm:=bcl HB.out Sm;replace Sn:=bcl HB.out Sn;replace Sp:=bcl HB.out Sp;have a2H:=am Sr;have a2I:=am Sq;clear Sr Sq;replace Wt:=eq_true Wt;replace Wu:=eq_true Wu;go_wp2_with (first|((with_reducible refine gate_dst (N:=5) rfl ?_);refine box_event ?hg (N:=5) ?hd (cs:=#[.slice none 0 0,.string (⟨#[]⟩:ByteArray),.string (⟨#[]⟩:ByteArray),.string (⟨#[]⟩:ByteArray)]) (t:=68) ?hr ?_;(case hd=>rfl);(case hg=>rfl);(case hr=>first|(go_simp;done)|(go_simp;rfl));intro H8 hg w9 hbox hb;replace cS:=am (Kd.R_below au99 hb);have Be:=am (hbox);have aLP:=am (bsz hg au59);have Xb:=am (bsz hg au59);replace HB:=am (below_step au59 hb);clear hb hbox hg;obtain ⟨uK,uL,uM,uN,uO,uP,uQ,uR⟩:=blkc4 Be.out)|((with_reducible refine gate_callee (f:=70) rfl ?_);refine goesL_ (some 15) rfl rfl Tryz.func70 (by kernel_rfl) rfl #[.agg #[.slice AK ((rd_T68 l0 fN).f0).length AL,.string ((rd_T68 l0 fN).f1),.string ((rd_T68 l0 fN).f2),.string ((rd_T68 l0 fN).f3)]] rfl au58 ?_;(with_reducible refine (impl_inverseForm.calls k1 _ _ ((rd_T68 l0 fN).f0) ((rd_T68 l0 fN).f1) ((rd_T68 l0 fN).f2) ((rd_T68 l0 fN).f3) MJ _ ?aE ?aG A7.out).mono ?_);(case aE=>exact Kd.C_below a2H.out au45);(case aG=>exact a2I.out);rintro e Q9 ⟨rfl,hb⟩;refine ⟨_,rfl,?_⟩;replace cS:=am (Kd.R_below (by (with_reducible repeat (first|apply Kd.R_alloc|apply Kd.R_drewN|apply Kd.R_drew));exact (Kd.R_mono (Kd.R_far (p:=⟨H8,3,none⟩) (Kd.R_far (p:=⟨H8,2,none⟩) (Kd.R_far (p:=⟨H8,1,none⟩) (Kd.R_far (p:=⟨H8,0,none⟩) (Kd.R_types cS.out Be.out (by decide)) (fun _ hk=>hk.2) (.slice AK ((rd_T68 l0 fN).f0).length AL)) (fun _ hk=>hk.2) (.string ((rd_T68 l0 fN).f1))) (fun _ hk=>hk.2) (.string ((rd_T68 l0 fN).f2))) (fun _ hk=>hk.2) (.string ((rd_T68 l0 fN).f3))) (fun _ h_=>h_.1))) hb);replace Be:=am (blk_below (g:=H8) (o:=.cells #[.slice AK ((rd_T68 l0 fN).f0).length AL,.string ((rd_T68 l0 fN).f1),.string ((rd_T68 l0 fN).f2),.string ((rd_T68 l0 fN).f3)] 68 (0,0)) (by (with_reducible repeat (first|refine blk_drewN ?_ _|refine blk_drew ?_|refine blk_alloc ?_ _));apply put4;(with_reducible repeat (first|refine blk_drewN ?_ _|refine blk_drew ?_|refine blk_alloc ?_ _));exact Be.out) hb);replace HB:=am (below_step au45 hb);(try clear hb))|((with_reducible refine gate_builtin (b:=.append) (xs:=#[.tmp 13,.tmp 16]) rfl ?_);at_builtin;refine Kd.R_append Kd.string (w0:=w) w.heap.size rfl (.tmp 13) (.tmp 16) 31 9 (.string ⟨#[]⟩) 16 rfl Tryz.underlying31 info9 rfl (by decide) (by omega) u3 aU MJ [.string MJ] (fun _=>True) (fun _=>False) rfl rfl ?aP (fun _ hk=>hk.elim) ?aF ?aO ?aB ?aS ?aL ?_;(case aP=>exact rfl);(case aB=>exact au45);(case aF=>exact (fun _ _=>trivial));(case aO=>exact au99);(case aS=>exact (below_size au45));(case aL=>have:=V8.out;omega);intro aN6 EX ho hb hg hat;rw [← abY.out] at ho;have dS:=am (blk_grown (g:=H8) (o:=.cells #[.slice AK ((rd_T68 l0 fN).f0).length AL,.string ((rd_T68 l0 fN).f1),.string ((rd_T68 l0 fN).f2),.string ((rd_T68 l0 fN).f3)] 68 (0,0)) (by (with_reducible repeat (first|refine blk_drewN ?_ _|refine blk_drew ?_|refine blk_alloc ?_ _));exact Be.out) hg (Kd.R_ne cS.out Be.out (by decide)));have dT:=am (hb);have eG:=am (ho);clear Be;clear HB;clear cS;have Be:=dS;have HB:=dT;have abZ:=eG;clear dS dT eG;clear ho hb hg hat))
       go_roundg k1
       case measure=>have:=HK1.out;omega
       case rel=>exact ⟨(a8C),(wrap64 (fN+1)),au104,H',⟨by have:=HK1.out;omega⟩,⟨by (with_reducible repeat (first|apply Kd.R_alloc|apply Kd.R_drewN|apply Kd.R_drew));exact abZ.out⟩,⟨by repeat (first|(with_reducible first|exact HB.out|apply below_alloc|apply pw_below_drewN|apply below_drew1|refine below_set ?_ Xb.out)|exact HB.out)⟩⟩
      · rw [if_neg c8] at H;exact absurd H (by simp)
     · rw [if_neg c6] at H;exact absurd H (by simp)
    · rw [if_neg c5] at H;exact absurd H (by simp)
   ·
    rw [if_neg c4] at H;have c4b0:=df c4;clear c4;replace H:=obz H;obtain ⟨Ws,sL,H⟩:=H
    try dsimp only at H
    have EE:=am sL;clear sL;obtain rfl:=ojz H;obtain ⟨wN,wO,Vo⟩:=Kd.R_slice cS.out;subst Vo;go_wp2_with (first|((with_reducible refine gate_callee (f:=71) rfl ?_);refine goesL_ (some 20) rfl rfl Tryz.func71 (by kernel_rfl) rfl #[.slice wN aU.length wO,.string (⟨#[59,32]⟩:ByteArray)] rfl au58 ?_;(with_reducible refine (strings_Join.calls _ _ aU (⟨#[59,32]⟩:ByteArray) Ws _ ?aE ?aG EE.out).mono ?_);(case aE=>repeat (first|exact (Kd.R_reads' cS.out).2.2|(with_reducible refine Kd.C_alloc ?_ _)|(with_reducible refine Kd.C_drewN ?_ _)|(with_reducible refine Kd.C_drew ?_)));(case aG=>exact (Kd.R_reads' cS.out).2.1);rintro e Xk ⟨rfl,hb⟩;refine ⟨_,rfl,?_⟩;replace cS:=am (Kd.R_below au99 hb);replace HB:=am (below_step au59 hb);(try clear hb)));go_ret;exact ax3
def spec_l4Names.l0:Nat→List (S68)→ByteArray→Int→Option (ByteArray)
 | 0,_,_,_=>none
 | k+1,x0,x3,x4=>if x4<(x0.length:Int) then (if x4>0 then (if x3.size+2≤9223372036854775807 then (if 0≤x4 then ((spec_l2Inverse.f k ((rd_T68 x0 x4).f0) ((rd_T68 x0 x4).f1) ((rd_T68 x0 x4).f2) ((rd_T68 x0 x4).f3)).bind fun Fg=>(if (x3++(⟨#[59,32]⟩:ByteArray)).size+Fg.size≤9223372036854775807 then (spec_l4Names.l0 k x0 ((x3++(⟨#[59,32]⟩:ByteArray))++Fg) (wrap64 (x4+1))) else (none))) else (none)) else (none)) else (if 0≤x4 then ((spec_l2Inverse.f k ((rd_T68 x0 x4).f0) ((rd_T68 x0 x4).f1) ((rd_T68 x0 x4).f2) ((rd_T68 x0 x4).f3)).bind fun J3=>(if x3.size+J3.size≤9223372036854775807 then (spec_l4Names.l0 k x0 (x3++J3) (wrap64 (x4+1))) else (none))) else (none))) else (some x3)
def spec_l4Names.f (k:Nat) (l0:List (S68)):Option (ByteArray):=spec_l4Names.l0 k l0 (⟨#[]⟩:ByteArray) 0
theorem spec_l4Names.mono_l:∀ k,(∀ y0 y1 y2,LeO (spec_l4Names.l0 k y0 y1 y2) (spec_l4Names.l0 (k+1) y0 y1 y2))
 | 0=>fun _ _ _ r h=>by simp [spec_l4Names.l0] at h
 | k+1=>by
  have ih0:=spec_l4Names.mono_l k
  ·
   intro y0 y1 y2;unfold spec_l4Names.l0
   repeat' first
   | (with_reducible exact ih0 _ _ _)
   | (with_reducible exact spec_l2Inverse.mono _ _ _ _ _)
   | (with_reducible exact LeO.refl _)
   | (with_reducible exact LeO.none _)
   | (with_reducible refine LeO.ite ?_ ?_)
   | (with_reducible refine LeO.bind ?_ (fun _=>?_))
   | exact ih0 _ _ _
   | exact spec_l2Inverse.mono _ _ _ _ _
   | exact LeO.none _
   | refine LeO.ite ?_ ?_
   | refine LeO.bind ?_ (fun _=>?_)
theorem spec_l4Names.mono:∀ a0 k,LeO (spec_l4Names.f k a0) (spec_l4Names.f (k+1) a0):=by
 intro a0 k;have ih0:=spec_l4Names.mono_l k;unfold spec_l4Names.f
 repeat' first
   | (with_reducible exact ih0 _ _ _)
   | (with_reducible exact spec_l2Inverse.mono _ _ _ _ _)
   | (with_reducible exact LeO.refl _)
   | (with_reducible exact LeO.none _)
   | (with_reducible refine LeO.ite ?_ ?_)
   | (with_reducible refine LeO.bind ?_ (fun _=>?_))
   | exact ih0 _ _ _
   | exact spec_l2Inverse.mono _ _ _ _ _
   | exact LeO.none _
   | refine LeO.ite ?_ ?_
   | refine LeO.bind ?_ (fun _=>?_)
theorem spec_l4Names.calls (k:Nat) (A0:Option Addr) (c0:Nat) (l0:List (S68)) (r:ByteArray) (w:World) (dW:Kd.C k68 w A0 l0.length l0) (fT:l0.length≤c0) (h:spec_l4Names.f k l0=some r) :
  Calls Tryz.prog 40 #[.slice A0 l0.length c0] w fun e w'=>e=.returned (.string r)∧Below w.heap.size w w':=by
 have hu68:=Tryz.underlying68;have iQ:=am dW;have zX:=am fT;clear dW fT;have HB:=am (Below.refl w.heap.size w);have H:(spec_l4Names.l0 k l0 (⟨#[]⟩:ByteArray) 0)=some r:=h;clear h;have H':=am H;clear H;go_enter Tryz.func40,Tryz.ntmps40;go_wp2
 go_loopg [3,4] k (fun kq v3 v4 w'=>∃ (aU:ByteArray) (aW:Int),v3=.string aU∧v4=.int .i64 aW∧Aside0 (spec_l4Names.l0 kq l0 aU aW=some r)∧Aside0 (kq≤k)∧Aside0 (Below w.heap.size w w'))
 case atStart=>exact ⟨((⟨#[]⟩:ByteArray)),(0),au104,au104,H',⟨Nat.le_refl _⟩,⟨by repeat (first|(with_reducible first|exact HB.out|apply below_alloc|apply pw_below_drewN|apply below_drew1)|exact HB.out)⟩⟩
 case round =>
  clear H';obtain ⟨aU,aW,rfl,rfl,HA,HK1,HB⟩:=hrel
  cases gk with
  | zero=>exact absurd HA.out (by simp [spec_l4Names.l0])
  | succ k1 =>
   have H:=HA.out;clear HA;simp only [spec_l4Names.l0] at H;by_cases c2:aW<(l0.length:Int)
   ·
    rw [if_pos c2] at H;have c2b0:=dt c2;clear c2;by_cases c3:aW>0
    ·
     rw [if_pos c3] at H;have c3b0:=dt c3;clear c3;by_cases c4:aU.size+2≤9223372036854775807
     ·
      rw [if_pos c4] at H;have c4b0:=eq_true c4;have c4b1:=dt c4
      try have c4b2:(9223372036854775807<aU.size+2)=False:=eq_false (Nat.not_lt.2 c4)
      by_cases c5:0≤aW
      ·
       rw [if_pos c5] at H;have c5b0:=dt c5;clear c5;replace H:=obz H;obtain ⟨Fg,nF,H⟩:=H
       try dsimp only at H
       have A6:=am nF;clear nF;by_cases c7:(aU++(⟨#[59,32]⟩:ByteArray)).size+Fg.size≤9223372036854775807
       ·
        rw [if_pos c7] at H;have c7b0:=eq_true c7;have c7b1:=dt c7
        try have c7b2:(9223372036854775807<(aU++(⟨#[59,32]⟩:ByteArray)).size+Fg.size)=False:=eq_false (Nat.not_lt.2 c7)
        try have c7x:(9223372036854775807<aU.size+2+Fg.size)=False:=eq_false (by have z_:=c7;simp only [ByteArray.size_append] at z_;have sW:(⟨#[59,32]⟩:ByteArray).size=2:=rfl;omega)
        have H':=am H;clear H;have Wv:0≤(aW:Int):=od au103;have Ww:aW<(l0.length:Int):=od au103;obtain ⟨aLQ,a8D,a8E,amS,Ss,Su,Sv,Sw,Sx,Sy⟩:=at_T68 iQ.out aW Wv Ww
        cases amS
        replace Ss:=bcl HB.out Ss;replace Su:=bcl HB.out Su;replace Sv:=bcl HB.out Sv;replace Sw:=bcl HB.out Sw;have a2J:=am Sy;have a2K:=am Sx;clear Sy Sx;replace Wv:=eq_true Wv;replace Ww:=eq_true Ww;go_wp2_with (first|((with_reducible refine gate_callee (f:=61) rfl ?_);refine goesL_ (some 20) rfl rfl Tryz.func61 (by kernel_rfl) rfl #[.agg #[.slice a8D ((rd_T68 l0 aW).f0).length a8E,.string ((rd_T68 l0 aW).f1),.string ((rd_T68 l0 aW).f2),.string ((rd_T68 l0 aW).f3)]] rfl au58 ?_;(with_reducible refine (spec_l2Inverse.calls k1 _ _ ((rd_T68 l0 aW).f0) ((rd_T68 l0 aW).f1) ((rd_T68 l0 aW).f2) ((rd_T68 l0 aW).f3) Fg _ ?aE ?aG A6.out).mono ?_);(case aE=>repeat (first|exact (Kd.C_below a2J.out HB.out)|(with_reducible refine Kd.C_alloc ?_ _)|(with_reducible refine Kd.C_drewN ?_ _)|(with_reducible refine Kd.C_drew ?_)));(case aG=>exact a2K.out);rintro e w8 ⟨rfl,hb⟩;refine ⟨_,rfl,?_⟩;replace HB:=am (below_step au59 hb);(try clear hb)))
        go_roundg k1
        case measure=>have:=HK1.out;omega
        case rel=>exact ⟨((aU++(⟨#[59,32]⟩:ByteArray))++Fg),(wrap64 (aW+1)),au104,au104,H',⟨by have:=HK1.out;omega⟩,⟨by repeat (first|(with_reducible first|exact HB.out|apply below_alloc|apply pw_below_drewN|apply below_drew1)|exact HB.out)⟩⟩
       · rw [if_neg c7] at H;exact absurd H (by simp)
      · rw [if_neg c5] at H;exact absurd H (by simp)
     · rw [if_neg c4] at H;exact absurd H (by simp)
    ·
     rw [if_neg c3] at H;have c3b0:=df c3;clear c3;by_cases c9:0≤aW
     ·
      rw [if_pos c9] at H;have c9b0:=dt c9;clear c9;replace H:=obz H;obtain ⟨J3,kC,H⟩:=H
      try dsimp only at H
      have nO:=am kC;clear kC;by_cases cO:aU.size+J3.size≤9223372036854775807
      ·
       rw [if_pos cO] at H;have c11b0:=eq_true cO;have c11b1:=dt cO
       try have c11b2:(9223372036854775807<aU.size+J3.size)=False:=eq_false (Nat.not_lt.2 cO)
       have H':=am H;clear H;have Wx:0≤(aW:Int):=od au103;have Wy:aW<(l0.length:Int):=od au103;obtain ⟨aLR,a8F,a8G,amT,Sz,SA,SB,SC,SD,SE⟩:=at_T68 iQ.out aW Wx Wy
       cases amT
       replace Sz:=bcl HB.out Sz;replace SA:=bcl HB.out SA;replace SB:=bcl HB.out SB;replace SC:=bcl HB.out SC;have a2L:=am SE;have a2M:=am SD;clear SE SD;replace Wx:=eq_true Wx;replace Wy:=eq_true Wy;go_wp2_with (first|((with_reducible refine gate_callee (f:=61) rfl ?_);refine goesL_ (some 20) rfl rfl Tryz.func61 (by kernel_rfl) rfl #[.agg #[.slice a8F ((rd_T68 l0 aW).f0).length a8G,.string ((rd_T68 l0 aW).f1),.string ((rd_T68 l0 aW).f2),.string ((rd_T68 l0 aW).f3)]] rfl au58 ?_;(with_reducible refine (spec_l2Inverse.calls k1 _ _ ((rd_T68 l0 aW).f0) ((rd_T68 l0 aW).f1) ((rd_T68 l0 aW).f2) ((rd_T68 l0 aW).f3) J3 _ ?aE ?aG nO.out).mono ?_);(case aE=>repeat (first|exact (Kd.C_below a2L.out HB.out)|(with_reducible refine Kd.C_alloc ?_ _)|(with_reducible refine Kd.C_drewN ?_ _)|(with_reducible refine Kd.C_drew ?_)));(case aG=>exact a2M.out);rintro e EX ⟨rfl,hb⟩;refine ⟨_,rfl,?_⟩;replace HB:=am (below_step au59 hb);(try clear hb)))
       go_roundg k1
       case measure=>have:=HK1.out;omega
       case rel=>exact ⟨(aU++J3),(wrap64 (aW+1)),au104,au104,H',⟨by have:=HK1.out;omega⟩,⟨by repeat (first|(with_reducible first|exact HB.out|apply below_alloc|apply pw_below_drewN|apply below_drew1)|exact HB.out)⟩⟩
      · rw [if_neg cO] at H;exact absurd H (by simp)
     · rw [if_neg c9] at H;exact absurd H (by simp)
   · rw [if_neg c2] at H;have c2b0:=df c2;clear c2;obtain rfl:=ojz H;go_wp2;go_ret;exact ax3
end Go.Proofs.YtcbhlghofihjcaaGreatDoor.G

namespace Go.Proofs.YtcbhlghofihjcaaGreatDoor.G
open Go.RowKit Go.Proofs.YtcbhlghofihjcaaGreatDoorW.PrintWords Go.Proofs.YtcbhlghofihjcaaGreatDoorW.PrintLast Go.Proofs.YtcbhlghofihjcaaGreatDoor.B
set_option linter.unusedVariables false
set_option linter.unusedSimpArgs false
def smB:ByteArray:=⟨#[59,32]⟩
def ivS (x:S68):ByteArray:=invD x.f0 x.f1 x.f2 x.f3
theorem iv_len (G:List ByteArray) (P F S:ByteArray) (h:bulkN G P F S≤1048576):(invD G P F S).size≤3200000:=by
  obtain ⟨h1,h2,h3,h4,h5,h6⟩:=inv_sum G P F S h;have hc:cmB.size=2:=rfl;unfold invD tailI
  split
  · split
    · rw [size_append,size_append];omega
    · rw [size_append,size_append,size_append,size_append];omega
  · omega
theorem lens_le2 (B:Nat) (l:List (List UInt8)) (h:∀ x∈l,x.length≤B):Lib.lens l≤B*l.length:=by
  induction l with
  | nil=>exact Nat.le_refl _
  | cons a l ih =>
    have h1:=ih (fun x hx=>h x (List.mem_cons_of_mem _ hx));have h2:=h a (List.mem_cons_self);simp only [Lib.lens,List.map_cons,List.sum_cons,List.length_cons] at h1 ⊢;rw [Nat.mul_succ];omega
theorem join_le2 (B:Nat) (sep:List UInt8) (l:List (List UInt8)) (h:∀ x∈l,x.length≤B):(Lib.join l sep).length≤(B+sep.length)*l.length:=by
  cases l with
  | nil=>simp [Lib.join_nil]
  | cons a l =>
    have h1:=lens_le2 B l (fun x hx=>h x (List.mem_cons_of_mem _ hx));have h2:=h a (List.mem_cons_self);rw [Lib.join_cons,List.length_append,Lib.joinTail_length,List.length_cons,Nat.mul_succ,Nat.add_mul];omega
theorem tail_snoc (sep y:List UInt8) (l:List (List UInt8)):Lib.joinTail sep (l++[y])=Lib.joinTail sep l++(sep++y):=by
  induction l with
  | nil=>simp [Lib.joinTail]
  | cons a l ih=>simp [Lib.joinTail,ih]
theorem join_snoc (sep y:List UInt8) (l:List (List UInt8)):Lib.join (l++[y]) sep=if l=[] then y else Lib.join l sep++(sep++y):=by
  cases l with
  | nil=>simp [Lib.join_cons,Lib.joinTail]
  | cons a l=>rw [if_neg (by simp),List.cons_append,Lib.join_cons,Lib.join_cons,tail_snoc,List.append_assoc]
def ntD (l:List S68):ByteArray:=mkB (Lib.join (l.map fun x=>L (ivS x)) [59,32])
structure NOk (l:List S68):Prop where
  four:l.length≤4
  good:∀ x∈l,goodS x=true
  bulk:∀ x∈l,bulkN x.f0 x.f1 x.f2 x.f3≤1048576
theorem nt_size {l:List S68} (h:NOk l) (i:Nat):(ntD (l.take i)).size≤13000000:=by
  unfold ntD;rw [size_mk]
  have:=join_le2 3200000 [59,32] ((l.take i).map fun x=>L (ivS x)) (fun x hx=>by
    obtain ⟨y,hy,rfl⟩:=List.mem_map.1 hx;rw [L_len]
    exact iv_len _ _ _ _ (h.bulk y (List.mem_of_mem_take hy)))
  have h4:=h.four
  have hl:((l.take i).map fun x=>L (ivS x)).length≤4:=by rw [List.length_map,List.length_take];omega
  exact Nat.le_trans this (Nat.le_trans (Nat.mul_le_mul_left _ hl) (by decide))
theorem nt_next (l:List S68) (i:Nat) (hi:i<l.length):ntD (l.take (i+1))=if i=0 then ntD (l.take i)++ivS l[i] else (ntD (l.take i)++smB)++ivS l[i]:=by
  have e:(l.take (i+1)).map (fun x=>L (ivS x))=(l.take i).map (fun x=>L (ivS x))++[L (ivS l[i])]:=by
    rw [List.take_succ_eq_append_getElem hi,List.map_append];rfl
  apply L_inj;unfold ntD;rw [L_mk,e,join_snoc];by_cases c:i=0
  · subst c
    rw [if_pos (by simp),if_pos rfl,L_append,L_mk];simp [Lib.join_nil]
  · rw [if_neg (fun z=>by have:=congrArg List.length z;rw [List.length_map,List.length_take,List.length_nil] at this;omega),if_neg c,L_append,L_append,L_mk]
    have:L smB=[59,32]:=rfl;rw [this,List.append_assoc]
theorem spec_nt_loop (l:List S68) (h:NOk l) (d:Nat):∀ i:Nat,i≤l.length→l.length-i=d→Ev (fun k=>spec_l4Names.l0 k l (ntD (l.take i)) (i:Int)) (ntD l):=by
  have h4:=h.four
  induction d with
  | zero =>
    intro i h1 h2;refine Ev.step (f:=fun _=>some (ntD l)) (fun k=>?_) (Ev.now _);simp only [spec_l4Names.l0];rw [if_neg (by omega),List.take_of_length_le (by omega)]
  | succ d ih =>
    intro i h1 h2
    have hi:i<l.length:=by omega
    have hm:=List.getElem_mem hi
    have hw:wrap64 ((i:Int)+1)=((i+1:Nat):Int):=by rw [w64 (by omega) (by omega)];rfl
    have hz:=nt_size h i;have hv:=iv_len _ _ _ _ (h.bulk _ hm);have hs:=spec_inv _ _ _ _ (h.bulk _ hm);have hn:=ih (i+1) (by omega) (by omega);rw [nt_next l i hi] at hn
    have hb:(ntD (l.take i)++(⟨#[59,32]⟩:ByteArray)).size=(ntD (l.take i)).size+2:=by rw [size_append];rfl
    by_cases c:i=0
    · subst c
      rw [if_pos rfl] at hn;refine Ev.step (f:=fun k=>(spec_l2Inverse.f k (l[0]).f0 (l[0]).f1 (l[0]).f2 (l[0]).f3).bind fun t=>if (ntD (l.take 0)).size+t.size≤9223372036854775807 then spec_l4Names.l0 k l (ntD (l.take 0)++t) ((0+1:Nat):Int) else none) (fun k=>?_) (Ev.bind hs (ev_pos (by show _+(ivS l[0]).size≤_;unfold ivS;omega) hn));simp only [spec_l4Names.l0,rd27 l 0 hi,hw];rw [if_pos (by omega),if_neg (by omega),if_pos (by omega)]
    · rw [if_neg c] at hn
      refine Ev.step (f:=fun k=>(spec_l2Inverse.f k (l[i]).f0 (l[i]).f1 (l[i]).f2 (l[i]).f3).bind fun t=>if (ntD (l.take i)++(⟨#[59,32]⟩:ByteArray)).size+t.size≤9223372036854775807 then spec_l4Names.l0 k l ((ntD (l.take i)++(⟨#[59,32]⟩:ByteArray))++t) ((i+1:Nat):Int) else none) (fun k=>?_) (Ev.bind hs (ev_pos (by show _+(ivS l[i]).size≤_;rw [hb];unfold ivS;omega) hn));simp only [spec_l4Names.l0,rd27 l i hi,hw];rw [if_pos (by omega),if_pos (by omega),if_pos (by omega),if_pos (by omega)]
theorem spec_nt (l:List S68) (h:NOk l):Ev (fun k=>spec_l4Names.f k l) (ntD l):=by
  unfold spec_l4Names.f;have:=spec_nt_loop l h _ 0 (by omega) rfl;have e:ntD (l.take 0)=(⟨#[]⟩:ByteArray):=rfl;rw [e] at this;exact this
theorem impl_nt_loop (l:List S68) (h:NOk l) (d:Nat):∀ i:Nat,i≤l.length→l.length-i=d→Ev (fun k=>impl_namesText.l0 k ((l.take i).map ivS) l (l.length:Int) (i:Int)) (ntD l):=by
  have h4:=h.four
  induction d with
  | zero =>
    intro i h1 h2;have hz:=nt_size h l.length;rw [List.take_length] at hz
    have hj:strings_Join.f ((l.take i).map ivS) (⟨#[59,32]⟩:ByteArray)=some (ntD l):=by
      rw [List.take_of_length_le (by omega)];unfold strings_Join.f
      have e:(l.map ivS).map (·.data.toList)=l.map fun x=>L (ivS x):=by rw [List.map_map];rfl
      rw [e];rw [if_pos ⟨by rw [List.length_map];omega,by unfold ntD at hz;rw [size_mk] at hz;exact Nat.le_trans hz (by decide)⟩];rfl
    refine Ev.step (f:=fun _=>some (ntD l)) (fun k=>?_) (Ev.now _);simp only [impl_namesText.l0];rw [if_neg (by omega),hj];rfl
  | succ d ih =>
    intro i h1 h2
    have hi:i<l.length:=by omega
    have hm:=List.getElem_mem hi
    have hw:wrap64 ((i:Int)+1)=((i+1:Nat):Int):=by rw [w64 (by omega) (by omega)];rfl
    have hs:=impl_inv _ _ _ _ (h.good _ hm) (h.bulk _ hm);have hn:=ih (i+1) (by omega) (by omega);rw [List.take_succ_eq_append_getElem hi,List.map_append] at hn;refine Ev.step (f:=fun k=>(impl_inverseForm.f k (l[i]).f0 (l[i]).f1 (l[i]).f2 (l[i]).f3).bind fun t=>impl_namesText.l0 k ((l.take i).map ivS++[t]) l (l.length:Int) ((i+1:Nat):Int)) (fun k=>?_) (Ev.bind hs hn);simp only [impl_namesText.l0,rd27 l i hi,hw];rw [if_pos (by omega),if_pos (by omega),if_pos (by omega)]
    have hq:((l.take i).map ivS).length<8796093022208:=by rw [List.length_map,List.length_take];omega
    simp only [if_pos hq]
theorem impl_nt (l:List S68) (h:NOk l):Ev (fun k=>impl_namesText.f k l) (ntD l):=by
  unfold impl_namesText.f;exact impl_nt_loop l h _ 0 (by omega) rfl
end Go.Proofs.YtcbhlghofihjcaaGreatDoor.G

namespace Go.Proofs.YtcbhlghofihjcaaGreatDoor.B
open Go.RowKit Go.Proofs.YtcbhlghofihjcaaGreatDoorW.PrintWords Go.Proofs.YtcbhlghofihjcaaGreatDoorW.PrintLast
set_option linter.unusedVariables false
set_option linter.unusedSimpArgs false
end Go.Proofs.YtcbhlghofihjcaaGreatDoor.B

namespace Go.Proofs.YtcbhlghofihjcaaGreatDoor.G
open Go.RowKit Go.Proofs.YtcbhlghofihjcaaGreatDoorW.PrintWords Go.Proofs.YtcbhlghofihjcaaGreatDoorW.PrintLast Go.Proofs.YtcbhlghofihjcaaGreatDoorW.PrintMore
open Go.Proofs.YtcbhlghofihjcaaGreatDoor.Gl Go.Proofs.YtcbhlghofihjcaaGreatDoor.Ext
attribute [local go_sem] max2_int min2_int max_two min_two max_three min_three max_four min_four   -- for this text's walks alone
set_option linter.unusedVariables false
set_option linter.unusedSimpArgs false
def spec_l1Num.f:Nat→Int→Option (ByteArray)
 | 0,_=>none
 | k+1,a0=>if a0<0 then ((spec_l1Num.f k (wrap64 (-a0))).bind fun Eu=>(if 1+Eu.size≤9223372036854775807 then (some ((⟨#[45]⟩:ByteArray)++Eu)) else (none))) else (if a0<10 then (if 0≤a0 then (if a0≤(wrap64 (a0+1)) then (if (wrap64 (a0+1))≤10 then (some ((⟨#[48,49,50,51,52,53,54,55,56,57]⟩:ByteArray).extract (a0:Int).toNat ((wrap64 (a0+1)):Int).toNat)) else (none)) else (none)) else (none)) else ((spec_l1Num.f k (wrap64 (Int.tdiv a0 10))).bind fun wP=>(if 0≤(Int.tmod a0 10) then (if (Int.tmod a0 10)≤(wrap64 ((Int.tmod a0 10)+1)) then (if (wrap64 ((Int.tmod a0 10)+1))≤10 then (if wP.size+((⟨#[48,49,50,51,52,53,54,55,56,57]⟩:ByteArray).extract ((Int.tmod a0 10):Int).toNat ((wrap64 ((Int.tmod a0 10)+1)):Int).toNat).size≤9223372036854775807 then (some (wP++((⟨#[48,49,50,51,52,53,54,55,56,57]⟩:ByteArray).extract ((Int.tmod a0 10):Int).toNat ((wrap64 ((Int.tmod a0 10)+1)):Int).toNat))) else (none)) else (none)) else (none)) else (none))))
theorem spec_l1Num.mono_l:∀ k,(∀ y0,LeO (spec_l1Num.f k y0) (spec_l1Num.f (k+1) y0))
 | 0=>fun _ r h=>by simp [spec_l1Num.f] at h
 | k+1=>by
  have ih0:=spec_l1Num.mono_l k
  ·
   intro y0;unfold spec_l1Num.f
   repeat' first
   | (with_reducible exact ih0 _)
   | (with_reducible exact LeO.refl _)
   | (with_reducible exact LeO.none _)
   | (with_reducible refine LeO.ite ?_ ?_)
   | (with_reducible refine LeO.bind ?_ (fun _=>?_))
   | exact ih0 _
   | exact LeO.none _
   | refine LeO.ite ?_ ?_
   | refine LeO.bind ?_ (fun _=>?_)
theorem spec_l1Num.mono:∀ a0 k,LeO (spec_l1Num.f k a0) (spec_l1Num.f (k+1) a0):=by
 intro a0 k;have ih0:=spec_l1Num.mono_l k;exact ih0 a0
def spec_l1Num.T5:Bool × List (List Nat × List Nat):=(true,[([],[]),([0],[0]),([1],[1]),([],[]),([3],[3]),([],[]),([5],[5]),([6],[6]),([4,7],[4,7]),([2,8],[2,8]),([9,2,0,1,2,3,4,5,6,7,8,9],[9])])
def spec_l1Num.B5:List Nat:=[0,1,3,0,8,0,32,96,248,511,1023]
theorem spec_l1Num.tab5:rtab .any (opsOf Tryz.f42 5)=spec_l1Num.T5:=by kernel_rfl
theorem spec_l1Num.bits5:waitsOk spec_l1Num.T5.2 spec_l1Num.B5=true:=by kernel_rfl
theorem spec_l1Num.calls (k:Nat):∀ (a0:Int) (r:ByteArray) (w:World) (h:spec_l1Num.f k a0=some r),
  Calls Tryz.prog 42 #[.int .i64 a0] w fun e w'=>e=.returned (.string r)∧Below w.heap.size w w':=by
 induction k using Nat.strongRecOn with
 | _ k ih =>
 intro a0 r w h
 cases k with
 | zero=>exact absurd h (by simp [spec_l1Num.f])
 | succ k =>
 simp only [spec_l1Num.f] at h;have HB:=am (Below.refl w.heap.size w);have H:(if a0<0 then ((spec_l1Num.f k (wrap64 (-a0))).bind fun Eu=>(if 1+Eu.size≤9223372036854775807 then (some ((⟨#[45]⟩:ByteArray)++Eu)) else (none))) else (if a0<10 then (if 0≤a0 then (if a0≤(wrap64 (a0+1)) then (if (wrap64 (a0+1))≤10 then (some ((⟨#[48,49,50,51,52,53,54,55,56,57]⟩:ByteArray).extract (a0:Int).toNat ((wrap64 (a0+1)):Int).toNat)) else (none)) else (none)) else (none)) else ((spec_l1Num.f k (wrap64 (Int.tdiv a0 10))).bind fun wP=>(if 0≤(Int.tmod a0 10) then (if (Int.tmod a0 10)≤(wrap64 ((Int.tmod a0 10)+1)) then (if (wrap64 ((Int.tmod a0 10)+1))≤10 then (if wP.size+((⟨#[48,49,50,51,52,53,54,55,56,57]⟩:ByteArray).extract ((Int.tmod a0 10):Int).toNat ((wrap64 ((Int.tmod a0 10)+1)):Int).toNat).size≤9223372036854775807 then (some (wP++((⟨#[48,49,50,51,52,53,54,55,56,57]⟩:ByteArray).extract ((Int.tmod a0 10):Int).toNat ((wrap64 ((Int.tmod a0 10)+1)):Int).toNat))) else (none)) else (none)) else (none)) else (none)))))=some r:=h;clear h;by_cases c2:a0<0
 ·
  rw [if_pos c2] at H;have c2b0:=dt c2;clear c2;replace H:=obz H;obtain ⟨Eu,dR,H⟩:=H
  try dsimp only at H
  have A3:=am dR;clear dR;by_cases c4:1+Eu.size≤9223372036854775807
  ·
   rw [if_pos c4] at H;have c4b0:=eq_true c4;have c4b1:=dt c4
   try have c4b2:(9223372036854775807<1+Eu.size)=False:=eq_false (Nat.not_lt.2 c4)
   obtain rfl:=ojz H;go_enter Tryz.func42,Tryz.ntmps42;go_wp2_with (first|((with_reducible refine gate_callee (f:=42) rfl ?_);refine goesL_ (some 7) rfl rfl Tryz.func42 (by kernel_rfl) rfl #[.int .i64 (wrap64 (-a0))] rfl au58 ?_;(with_reducible refine (ih k (by omega) (wrap64 (-a0)) Eu _ A3.out).mono ?_);rintro e w5 ⟨rfl,hb⟩;refine ⟨_,rfl,?_⟩;replace HB:=am (below_step au59 hb);(try clear hb)));go_ret;exact ax3
  · rw [if_neg c4] at H;exact absurd H (by simp)
 ·
  rw [if_neg c2] at H;have c2b0:=df c2;clear c2;by_cases c6:a0<10
  ·
   rw [if_pos c6] at H;have c6b0:=dt c6;clear c6;by_cases c7:0≤a0
   ·
    rw [if_pos c7] at H;have c7b0:=eq_true c7;have c7b1:=dt c7;clear c7;by_cases c8:a0≤(wrap64 (a0+1))
    ·
     rw [if_pos c8] at H;have c8b0:=eq_true c8;have c8b1:=dt c8;by_cases c9:(wrap64 (a0+1))≤10
     · rw [if_pos c9] at H;have c9b0:=eq_true c9;have c9b1:=dt c9;obtain rfl:=ojz H;go_enter Tryz.func42,Tryz.ntmps42;go_wp2;go_ret;exact ax3
     · rw [if_neg c9] at H;exact absurd H (by simp)
    · rw [if_neg c8] at H;exact absurd H (by simp)
   · rw [if_neg c7] at H;exact absurd H (by simp)
  ·
   rw [if_neg c6] at H;have c6b0:=df c6;clear c6;replace H:=obz H;obtain ⟨wP,kC,H⟩:=H
   try dsimp only at H
   have nO:=am kC;clear kC
   obtain ⟨mW,Nc⟩:∃ j_:Int,(Int.tmod a0 10)=j_:=⟨_,rfl⟩
   replace H:(if 0≤(mW) then (if (mW)≤(wrap64 ((mW)+1)) then (if (wrap64 ((mW)+1))≤10 then (if wP.size+((⟨#[48,49,50,51,52,53,54,55,56,57]⟩:ByteArray).extract ((mW):Int).toNat ((wrap64 ((mW)+1)):Int).toNat).size≤9223372036854775807 then (some (wP++((⟨#[48,49,50,51,52,53,54,55,56,57]⟩:ByteArray).extract ((mW):Int).toNat ((wrap64 ((mW)+1)):Int).toNat))) else (none)) else (none)) else (none)) else (none))=some r:=by first|(rw [Nc] at H;exact H)|(simp only [Nc] at H ⊢;exact H)
   (try rw [Nc] at nO)
   by_cases dD:0≤(mW)
   ·
    rw [if_pos dD] at H;have c12b0:=eq_true dD;have c12b1:=dt dD;clear dD;by_cases dE:(mW)≤(wrap64 ((mW)+1))
    ·
     rw [if_pos dE] at H;have c13b0:=eq_true dE;have c13b1:=dt dE;by_cases eY:(wrap64 ((mW)+1))≤10
     ·
      rw [if_pos eY] at H;have c14b0:=eq_true eY;have c14b1:=dt eY;by_cases dJ:wP.size+((⟨#[48,49,50,51,52,53,54,55,56,57]⟩:ByteArray).extract ((mW):Int).toNat ((wrap64 ((mW)+1)):Int).toNat).size≤9223372036854775807
      ·
       rw [if_pos dJ] at H;have c15b0:=eq_true dJ;have c15b1:=dt dJ
       try have c15b2:(9223372036854775807<wP.size+((⟨#[48,49,50,51,52,53,54,55,56,57]⟩:ByteArray).extract ((mW):Int).toNat ((wrap64 ((mW)+1)):Int).toNat).size)=False:=eq_false (Nat.not_lt.2 dJ)
       try have c15x:(9223372036854775807<wP.size+(((wrap64 ((mW)+1)):Int).toNat-((mW):Int).toNat))=False:=eq_false (by have z_:=dJ;have hsz_:(⟨#[48,49,50,51,52,53,54,55,56,57]⟩:ByteArray).size=10:=rfl;rw [ByteArray.size_extract,hsz_] at z_;omega)
       obtain rfl:=ojz H;go_enter Tryz.func42,Tryz.ntmps42
       try go_wp2
       replace HB:=am (below_drew1 HB.out);refine start_ (n:=11) (S:=fun w'=>True) (ds:=[]) #[false,false,false,false,false,false,false,false,false,false,false] (by kernel_rfl) rfl rfl trivial (fun hHeld=>?_);refine with_tabW spec_l1Num.tab5 spec_l1Num.bits5 (fun HT_ HW_=>?_);generalize w.drew=Ey at HB hHeld ⊢;refine pu_ 0 (some 15) #[true,false,false,false,false,false,false,false,false,false,false] HT_.out ?_;refine pu_ 1 (some 16) #[true,true,false,false,false,false,false,false,false,false,false] HT_.out ?_;refine pu_ 3 (some 18) #[true,true,false,true,false,false,false,false,false,false,false] HT_.out ?_;refine pu_ 4 (some 19) #[true,true,false,true,true,false,false,false,false,false,false] HT_.out ?_;refine pu_ 5 (some 20) #[true,true,false,true,true,true,false,false,false,false,false] HT_.out ?_;refine pu_ 6 (some 21) #[true,true,false,true,true,true,true,false,false,false,false] HT_.out ?_;refine pu_ 7 (some 22) #[true,true,false,true,true,true,true,true,false,false,false] HT_.out ?_;refine pu_ 8 (some 23) #[true,true,false,true,true,true,true,true,true,false,false] HT_.out ?_;refine on_ 2 (some 17) #[true,true,true,true,true,true,true,true,true,false,false] HT_.out (fun K hK=>?_);refine gs_ Tryz.func42 #[.int .i64 (wrap64 (Int.tdiv a0 10))] ?_
       with_reducible refine (ih k (by omega) (wrap64 (Int.tdiv a0 10)) wP _ nO.out).mono ?_
       rintro e Ug ⟨rfl,hb⟩;refine ⟨_,rfl,?_⟩;replace HB:=am (below_step au59 hb)
       (try clear hb)
       refine hK.out _ _ trivial (fun hHeld=>?_);clear hK K;refine no_ (some 17) ?_;refine pu_ 9 (some 24) #[true,true,true,true,true,true,true,true,true,true,false] HT_.out ?_;refine pu_ 10 (some 2) #[true,true,true,true,true,true,true,true,true,true,true] HT_.out ?_;refine done_ (done_of HT_.out (by kernel_rfl)) ?_
       try go_wp2
       go_ret;exact ⟨by first|rfl|(simp [errW_none,errW_some] <;> rfl)|(simp only [← Nc];first|rfl|(simp [errW_none,errW_some] <;> rfl))|(simp [*,errW_none,errW_some] <;> rfl),by repeat (first|(with_reducible first|exact HB.out|apply below_alloc|apply pw_below_drewN|apply below_drew1)|exact HB.out)⟩
      · rw [if_neg dJ] at H;exact absurd H (by simp)
     · rw [if_neg eY] at H;exact absurd H (by simp)
    · rw [if_neg dE] at H;exact absurd H (by simp)
   · rw [if_neg dD] at H;exact absurd H (by simp)
end Go.Proofs.YtcbhlghofihjcaaGreatDoor.G

namespace Go.Proofs.YtcbhlghofihjcaaGreatDoor.G
open Go.RowKit Go.Proofs.YtcbhlghofihjcaaGreatDoorW.PrintWords Go.Proofs.YtcbhlghofihjcaaGreatDoorW.PrintLast Go.Proofs.YtcbhlghofihjcaaGreatDoor.B
set_option linter.unusedVariables false
set_option linter.unusedSimpArgs false
def tenB:ByteArray:=(⟨#[48,49,50,51,52,53,54,55,56,57]⟩:ByteArray)
theorem ten_fin:∀ i:Fin 10,((L tenB).drop i.val).take 1=[UInt8.ofNat (48+i.val)]:=by decide
theorem ten_at (i:Nat) (h:i<10) (x:Int) (hx:x=i) (y:Int) (hy:y=(i+1:Nat)):tenB.extract x.toNat y.toNat=mkB [UInt8.ofNat (48+i)]:=by
  apply L_inj
  have e1:x.toNat=i:=by omega
  have e2:y.toNat=i+1:=by omega
  rw [L_extract,L_mk,e1,e2,show i+1-i=1 by omega];exact ten_fin ⟨i,h⟩
theorem dec_len (u:Nat) (h:u≤9223372036854775807):(Lib.decDigits u).length≤21:=by
  have:=Lib.itoa_length_le (u:Int) (by omega) (by omega);unfold Lib.itoa at this;rw [if_neg (by omega)] at this
  simpa using this
theorem num_nat (n:Nat):∀ u:Nat,u≤n→u≤4611686018427387904→Ev (fun k=>spec_l1Num.f k (u:Int)) (mkB (Lib.decDigits u)):=by
  induction n with
  | zero =>
    intro u hu _
    have:u=0:=by omega
    subst this;refine Ev.step (f:=fun _=>some (mkB (Lib.decDigits 0))) (fun k=>?_) (Ev.now _);have hd:Lib.decDigits 0=[UInt8.ofNat (48+0)]:=Lib.decDigits_one (by omega);simp only [spec_l1Num.f];rw [hd,if_neg (by omega),if_pos (by omega),if_pos (by omega),w64 (by omega) (by omega),if_pos (by omega),if_pos (by omega)];exact congrArg some (ten_at 0 (by omega) _ (by omega) _ (by omega))
  | succ n ih =>
    intro u hu hb;by_cases h:u<10
    · refine Ev.step (f:=fun _=>some (mkB (Lib.decDigits u))) (fun k=>?_) (Ev.now _)
      simp only [spec_l1Num.f];rw [Lib.decDigits_one h,if_neg (by omega),if_pos (by omega),if_pos (by omega),w64 (by omega) (by omega),if_pos (by omega),if_pos (by omega)];exact congrArg some (ten_at u h _ rfl _ (by omega))
    · have hdiv:Int.tdiv (u:Int) 10=((u / 10:Nat):Int):=rfl
      have hmod:Int.tmod (u:Int) 10=((u % 10:Nat):Int):=rfl;have hm:u % 10<10:=Nat.mod_lt _ (by omega);have hq:=ih (u / 10) (by omega) (by omega);have hl:=dec_len (u / 10) (by omega);have hw1:wrap64 (((u / 10:Nat):Int))=((u / 10:Nat):Int):=w64 (by omega) (by omega)
      have Hh:wrap64 (((u % 10:Nat):Int)+1)=((u % 10+1:Nat):Int):=by rw [w64 (by omega) (by omega)];rfl
      have ht:=ten_at (u % 10) hm ((u % 10:Nat):Int) rfl ((u % 10+1:Nat):Int) rfl
      have hd:Lib.decDigits u=Lib.decDigits (u / 10)++[UInt8.ofNat (48+u % 10)]:=by rw [Lib.decDigits,dif_neg h]
      have a1:(0:Int)≤((u % 10:Nat):Int):=by omega
      have a2:((u % 10:Nat):Int)≤((u % 10+1:Nat):Int):=by omega
      have a3:((u % 10+1:Nat):Int)≤10:=by omega
      refine Ev.step (f:=fun k=>(spec_l1Num.f k ((u / 10:Nat):Int)).bind fun t=>if t.size+(tenB.extract ((u % 10:Nat):Int).toNat ((u % 10+1:Nat):Int).toNat).size≤9223372036854775807 then some (t++tenB.extract ((u % 10:Nat):Int).toNat ((u % 10+1:Nat):Int).toNat) else none) (fun k=>?_) ?_
      · simp only [spec_l1Num.f]
        rw [if_neg (show ¬ (u:Int)<0 by omega),if_neg (show ¬ (u:Int)<10 by omega)];simp only [hdiv,hmod,hw1,Hh,if_pos a1,if_pos a2,if_pos a3];rfl
      · rw [ht]
        refine Ev.bind hq (ev_pos ?_ (ev_eq (Ev.now _) ?_))
        · rw [size_mk,size_mk,List.length_singleton];omega
        · rw [hd,mk_append]
theorem num_ev (x:Int) (h0:-4611686018427387904≤x) (h1:x≤4611686018427387904):Ev (fun k=>spec_l1Num.f k x) (mkB (Lib.itoa x)):=by
  unfold Lib.itoa;by_cases h:x<0
  · rw [if_pos h]
    have hq:=num_nat x.natAbs x.natAbs (Nat.le_refl _) (by omega);have hl:=dec_len x.natAbs (by omega)
    have hw:wrap64 (-x)=((x.natAbs:Nat):Int):=by rw [w64 (by omega) (by omega)];omega
    refine Ev.step (f:=fun k=>(spec_l1Num.f k ((x.natAbs:Nat):Int)).bind fun t=>if 1+t.size≤9223372036854775807 then some ((⟨#[45]⟩:ByteArray)++t) else none) (fun k=>?_) ?_
    · simp only [spec_l1Num.f];rw [if_pos h,hw]
    · refine Ev.bind hq (ev_pos (by rw [size_mk];omega) (ev_eq (Ev.now _) ?_))
      rw [show (⟨#[45]⟩:ByteArray)=mkB [45] from rfl,mk_append];rfl
  · rw [if_neg h]
    have hq:=num_nat x.toNat x.toNat (Nat.le_refl _) (by omega);rw [show ((x.toNat:Nat):Int)=x by omega] at hq;exact hq
end Go.Proofs.YtcbhlghofihjcaaGreatDoor.G



namespace Go.Proofs.YtcbhlghofihjcaaGreatDoor.G
open Go.RowKit Go.Proofs.YtcbhlghofihjcaaGreatDoorW.PrintWords Go.Proofs.YtcbhlghofihjcaaGreatDoorW.PrintLast Go.Proofs.YtcbhlghofihjcaaGreatDoorW.PrintMore
open Go.Proofs.YtcbhlghofihjcaaGreatDoor.Gl Go.Proofs.YtcbhlghofihjcaaGreatDoor.Ext
attribute [local go_sem] max2_int min2_int max_two min_two max_three min_three max_four min_four   -- for this text's walks alone
set_option linter.unusedVariables false
set_option linter.unusedSimpArgs false
def spec_l3Pad.l0:Nat→Int→ByteArray→Option (ByteArray)
 | 0,_,_=>none
 | k+1,x1,x5=>if (x5.size:Int)<x1 then (if 1+x5.size≤9223372036854775807 then (spec_l3Pad.l0 k x1 ((⟨#[48]⟩:ByteArray)++x5)) else (none)) else (some x5)
def spec_l3Pad.f (k:Nat) (a0:Int) (a1:Int):Option (ByteArray):=(spec_l1Num.f k a0).bind fun MK=>(spec_l3Pad.l0 k a1 MK)
theorem spec_l3Pad.mono_l:∀ k,(∀ y0 y1,LeO (spec_l3Pad.l0 k y0 y1) (spec_l3Pad.l0 (k+1) y0 y1))
 | 0=>fun _ _ r h=>by simp [spec_l3Pad.l0] at h
 | k+1=>by
  have ih0:=spec_l3Pad.mono_l k
  ·
   intro y0 y1;unfold spec_l3Pad.l0
   repeat' first
   | (with_reducible exact ih0 _ _)
   | (with_reducible exact spec_l1Num.mono _ _)
   | (with_reducible exact LeO.refl _)
   | (with_reducible exact LeO.none _)
   | (with_reducible refine LeO.ite ?_ ?_)
   | (with_reducible refine LeO.bind ?_ (fun _=>?_))
   | exact ih0 _ _
   | exact spec_l1Num.mono _ _
   | exact LeO.none _
   | refine LeO.ite ?_ ?_
   | refine LeO.bind ?_ (fun _=>?_)
theorem spec_l3Pad.mono:∀ a0 a1 k,LeO (spec_l3Pad.f k a0 a1) (spec_l3Pad.f (k+1) a0 a1):=by
 intro a0 a1 k;have ih0:=spec_l3Pad.mono_l k;unfold spec_l3Pad.f
 repeat' first
   | (with_reducible exact ih0 _ _)
   | (with_reducible exact spec_l1Num.mono _ _)
   | (with_reducible exact LeO.refl _)
   | (with_reducible exact LeO.none _)
   | (with_reducible refine LeO.ite ?_ ?_)
   | (with_reducible refine LeO.bind ?_ (fun _=>?_))
   | exact ih0 _ _
   | exact spec_l1Num.mono _ _
   | exact LeO.none _
   | refine LeO.ite ?_ ?_
   | refine LeO.bind ?_ (fun _=>?_)
theorem spec_l3Pad.calls (k:Nat) (a0:Int) (a1:Int) (r:ByteArray) (w:World) (h:spec_l3Pad.f k a0 a1=some r) :
  Calls Tryz.prog 62 #[.int .i64 a0,.int .i64 a1] w fun e w'=>e=.returned (.string r)∧Below w.heap.size w w':=by
 have HB:=am (Below.refl w.heap.size w);have H:((spec_l1Num.f k a0).bind fun MK=>(spec_l3Pad.l0 k a1 MK))=some r:=h;clear h;replace H:=obz H;obtain ⟨MK,dR,H⟩:=H
 try dsimp only at H
 have A3:=am dR;clear dR;have H':=am H;clear H;go_enter Tryz.func62,Tryz.ntmps62;go_wp2_with (first|((with_reducible refine gate_callee (f:=42) rfl ?_);refine goesL_ (some 7) rfl rfl Tryz.func42 (by kernel_rfl) rfl #[.int .i64 a0] rfl au58 ?_;(with_reducible refine (spec_l1Num.calls k a0 MK _ A3.out).mono ?_);rintro e w4 ⟨rfl,hb⟩;refine ⟨_,rfl,?_⟩;replace HB:=am (below_step au59 hb);(try clear hb)))
 go_loopg [5] k (fun kq v5 w'=>∃ (bH:ByteArray),v5=.string bH∧Aside0 (spec_l3Pad.l0 kq a1 bH=some r)∧Aside0 (kq≤k)∧Aside0 (Below w.heap.size w w'))
 case atStart=>exact ⟨(MK),au104,H',⟨Nat.le_refl _⟩,⟨by repeat (first|(with_reducible first|exact HB.out|apply below_alloc|apply pw_below_drewN|apply below_drew1)|exact HB.out)⟩⟩
 case round =>
  clear H'
  try clear p2
  try clear c4
  obtain ⟨bH,rfl,HA,HK1,HB⟩:=hrel
  cases gk with
  | zero=>exact absurd HA.out (by simp [spec_l3Pad.l0])
  | succ k1 =>
   have H:=HA.out;clear HA;simp only [spec_l3Pad.l0] at H;by_cases c5:(bH.size:Int)<a1
   ·
    rw [if_pos c5] at H;have c5b0:=dt c5;clear c5;by_cases c6:1+bH.size≤9223372036854775807
    ·
     rw [if_pos c6] at H;have c6b0:=eq_true c6;have c6b1:=dt c6
     try have c6b2:(9223372036854775807<1+bH.size)=False:=eq_false (Nat.not_lt.2 c6)
     have H':=am H;clear H;go_wp2
     go_roundg k1
     case measure=>have:=HK1.out;omega
     case rel=>exact ⟨((⟨#[48]⟩:ByteArray)++bH),au104,H',⟨by have:=HK1.out;omega⟩,⟨by repeat (first|(with_reducible first|exact HB.out|apply below_alloc|apply pw_below_drewN|apply below_drew1)|exact HB.out)⟩⟩
    · rw [if_neg c6] at H;exact absurd H (by simp)
   · rw [if_neg c5] at H;have c5b0:=df c5;clear c5;obtain rfl:=ojz H;go_wp2;go_ret;exact ax3
def spec_l3Text.j0:Nat→ByteArray→Int→Int→Int→Bool→Option (ByteArray)
 | 0,_,_,_,_,_=>none
 | k+1,x3,aEg,aEh,SF,SG=>if SF>0 then (if x3.size+1≤9223372036854775807 then ((spec_l3Pad.f k SF 2).bind fun wQ=>(if (x3++(⟨#[45]⟩:ByteArray)).size+wQ.size≤9223372036854775807 then (if SG=true then (if 1+((x3++(⟨#[45]⟩:ByteArray))++wQ).size≤9223372036854775807 then (some ((⟨#[99]⟩:ByteArray)++((x3++(⟨#[45]⟩:ByteArray))++wQ))) else (none)) else (some ((x3++(⟨#[45]⟩:ByteArray))++wQ))) else (none))) else (none)) else (if SG=true then (if 1+x3.size≤9223372036854775807 then (some ((⟨#[99]⟩:ByteArray)++x3)) else (none)) else (some x3))
def spec_l3Text.f (k:Nat) (aD:Int) (aA:Int) (aX:Int) (aZ:Bool):Option (ByteArray):=if aD=0 then (some (⟨#[117,110,107,110,111,119,110]⟩:ByteArray)) else ((spec_l3Pad.f k aD 4).bind fun mX=>(if aA>0 then (if mX.size+1≤9223372036854775807 then ((spec_l3Pad.f k aA 2).bind fun AM=>(if (mX++(⟨#[45]⟩:ByteArray)).size+AM.size≤9223372036854775807 then (spec_l3Text.j0 k ((mX++(⟨#[45]⟩:ByteArray))++AM) aD aA aX aZ) else (none))) else (none)) else (spec_l3Text.j0 k mX aD aA aX aZ)))
theorem spec_l3Text.mono_l:∀ k,(∀ y0 y1 y2 y3 y4,LeO (spec_l3Text.j0 k y0 y1 y2 y3 y4) (spec_l3Text.j0 (k+1) y0 y1 y2 y3 y4))
 | 0=>fun _ _ _ _ _ r h=>by simp [spec_l3Text.j0] at h
 | k+1=>by
  have ih0:=spec_l3Text.mono_l k
  ·
   intro y0 y1 y2 y3 y4;unfold spec_l3Text.j0
   repeat' first
   | (with_reducible exact ih0 _ _ _ _ _)
   | (with_reducible exact spec_l3Pad.mono _ _ _)
   | (with_reducible exact LeO.refl _)
   | (with_reducible exact LeO.none _)
   | (with_reducible refine LeO.ite ?_ ?_)
   | (with_reducible refine LeO.bind ?_ (fun _=>?_))
   | exact ih0 _ _ _ _ _
   | exact spec_l3Pad.mono _ _ _
   | exact LeO.none _
   | refine LeO.ite ?_ ?_
   | refine LeO.bind ?_ (fun _=>?_)
theorem spec_l3Text.mono:∀ a0 a1 a2 a3 k,LeO (spec_l3Text.f k a0 a1 a2 a3) (spec_l3Text.f (k+1) a0 a1 a2 a3):=by
 intro a0 a1 a2 a3 k;have ih0:=spec_l3Text.mono_l k;unfold spec_l3Text.f
 repeat' first
   | (with_reducible exact ih0 _ _ _ _ _)
   | (with_reducible exact spec_l3Pad.mono _ _ _)
   | (with_reducible exact LeO.refl _)
   | (with_reducible exact LeO.none _)
   | (with_reducible refine LeO.ite ?_ ?_)
   | (with_reducible refine LeO.bind ?_ (fun _=>?_))
   | exact ih0 _ _ _ _ _
   | exact spec_l3Pad.mono _ _ _
   | exact LeO.none _
   | refine LeO.ite ?_ ?_
   | refine LeO.bind ?_ (fun _=>?_)
theorem spec_l3Text.L0 {P:Prop} (h:P:=by
  go_wp2_with (first|((with_reducible refine gate_callee (f:=62) rfl ?_);refine goesL_ (some 26) rfl rfl Tryz.func62 (by kernel_rfl) rfl #[.int .i64 aX,.int .i64 2] rfl au58 ?_;(with_reducible refine (spec_l3Pad.calls EA aX 2 wQ _ A19.out).mono ?_);rintro e ND ⟨rfl,hb⟩;refine ⟨_,rfl,?_⟩;replace kM:=am (blk_below (g:=Kj) au76 hb);replace HB:=am (below_step au46 hb);(try clear hb);obtain ⟨SH,SI,SJ,SK,SL,SN,SO,SP⟩:=blkc4 kM.out));go_ret
  exact ⟨by first|rfl|(simp [errW_none,errW_some] <;> rfl)|(simp [*,errW_none,errW_some] <;> rfl),by repeat (first|(with_reducible first|exact HB.out|apply below_alloc|apply pw_below_drewN|apply below_drew1|refine below_set ?_ FA.out)|exact HB.out)⟩):P:=h
theorem spec_l3Text.calls (k:Nat) (aD:Int) (aA:Int) (aX:Int) (aZ:Bool) (r:ByteArray) (w:World) (h:spec_l3Text.f k aD aA aX aZ=some r) :
  Calls Tryz.prog 41 #[.agg #[.int .i64 aD,.int .i64 aA,.int .i64 aX,.bool aZ]] w fun e w'=>e=.returned (.string r)∧Below w.heap.size w w':=by
 have hu26:=Tryz.underlying26;have HB:=am (Below.refl w.heap.size w);have H:(if aD=0 then (some (⟨#[117,110,107,110,111,119,110]⟩:ByteArray)) else ((spec_l3Pad.f k aD 4).bind fun mX=>(if aA>0 then (if mX.size+1≤9223372036854775807 then ((spec_l3Pad.f k aA 2).bind fun AM=>(if (mX++(⟨#[45]⟩:ByteArray)).size+AM.size≤9223372036854775807 then (spec_l3Text.j0 k ((mX++(⟨#[45]⟩:ByteArray))++AM) aD aA aX aZ) else (none))) else (none)) else (spec_l3Text.j0 k mX aD aA aX aZ))))=some r:=h;clear h;by_cases c2:aD=0
 · rw [if_pos c2] at H;have c2b0:=qt c2;have c2b1:=bfz c2;clear c2;obtain rfl:=ojz H;go_enter Tryz.func41,Tryz.ntmps41;go_wp2_with (first|((with_reducible refine gate_dst (N:=1) rfl ?_);refine box_event ?hg (N:=1) ?hd (cs:=#[.int .i64 aD,.int .i64 aA,.int .i64 aX,.bool aZ]) (t:=26) ?hr ?_;(case hd=>rfl);(case hg=>rfl);(case hr=>first|(go_simp;done)|(go_simp;rfl));intro Kj hg w3 hbox hb;have kM:=am (hbox);have acA:=am (bsz hg au59);have FA:=am (bsz hg au59);replace HB:=am (below_step au59 hb);clear hb hbox hg;obtain ⟨lZ,mA,mB,mC,mD,mE,mF,mG⟩:=blkc4 kM.out));go_ret;exact ⟨by first|rfl|(simp [errW_none,errW_some] <;> rfl)|(simp [*,errW_none,errW_some] <;> rfl),by repeat (first|(with_reducible first|exact HB.out|apply below_alloc|apply pw_below_drewN|apply below_drew1|refine below_set ?_ FA.out)|exact HB.out)⟩
 ·
  rw [if_neg c2] at H;have c2b0:=qf c2;have c2b1:=bu c2;replace H:=obz H;obtain ⟨mX,nI,H⟩:=H
  try dsimp only at H
  have A5:=am nI;clear nI;have Fb:=am H;clear H;go_enter Tryz.func41,Tryz.ntmps41
  go_upto_if 12 with (first|((with_reducible refine gate_dst (N:=1) rfl ?_);refine box_event ?hg (N:=1) ?hd (cs:=#[.int .i64 aD,.int .i64 aA,.int .i64 aX,.bool aZ]) (t:=26) ?hr ?_;(case hd=>rfl);(case hg=>rfl);(case hr=>first|(go_simp;done)|(go_simp;rfl));intro Kj hg w7 hbox hb;have kM:=am (hbox);have acA:=am (bsz hg au59);have FA:=am (bsz hg au59);replace HB:=am (below_step au59 hb);clear hb hbox hg;obtain ⟨Jl,Jm,Jn,Pi,Pj,Jo,Jp,Pk⟩:=blkc4 kM.out)|((with_reducible refine gate_callee (f:=62) rfl ?_);refine goesL_ (some 9) rfl rfl Tryz.func62 (by kernel_rfl) rfl #[.int .i64 aD,.int .i64 4] rfl au58 ?_;(with_reducible refine (spec_l3Pad.calls k aD 4 mX _ A5.out).mono ?_);rintro e w9 ⟨rfl,hb⟩;refine ⟨_,rfl,?_⟩;replace kM:=am (blk_below (g:=Kj) au76 hb);replace HB:=am (below_step au46 hb);(try clear hb);obtain ⟨uK,uL,uM,uN,uO,uP,uQ,uR⟩:=blkc4 kM.out))
  (try simp only [Act.put,List.setIfInBounds_toArray,List.set_cons_zero,List.set_cons_succ])
  go_cut [3] (fun v3 wc=>∃ (kq:Nat) (iP:ByteArray),v3=.string iP∧Aside0 (spec_l3Text.j0 kq iP aD aA aX aZ=some r)∧Aside0 (kq≤k)∧Aside0 (wc.heap[Kj]?=some (.cells #[.int .i64 aD,.int .i64 aA,.int .i64 aX,.bool aZ] 26 (0,0)))∧Aside0 (Below w.heap.size w wc))
  case first =>
   have H:=Fb.out;clear Fb;by_cases cO:aA>0
   ·
    rw [if_pos cO] at H;have c11b0:=dt cO;clear cO
    (first|rw [c11b0]|(simp only [i64_w,i32_w];rw [c11b0])|skip)
    by_cases dD:mX.size+1≤9223372036854775807
    ·
     rw [if_pos dD] at H;have c12b0:=eq_true dD;have c12b1:=dt dD
     try have c12b2:(9223372036854775807<mX.size+1)=False:=eq_false (Nat.not_lt.2 dD)
     replace H:=obz H;obtain ⟨AM,sL,H⟩:=H
     try dsimp only at H
     have EE:=am sL;clear sL;by_cases eY:(mX++(⟨#[45]⟩:ByteArray)).size+AM.size≤9223372036854775807
     ·
      rw [if_pos eY] at H;have c14b0:=eq_true eY;have c14b1:=dt eY
      try have c14b2:(9223372036854775807<(mX++(⟨#[45]⟩:ByteArray)).size+AM.size)=False:=eq_false (Nat.not_lt.2 eY)
      try have c14x:(9223372036854775807<mX.size+1+AM.size)=False:=eq_false (by have z_:=eY;simp only [ByteArray.size_append] at z_;have sW:(⟨#[45]⟩:ByteArray).size=1:=rfl;omega)
      have H':=am H;clear H;obtain ⟨lQ,lR,lS,lT,lU,lV,lW,lX⟩:=blkc4 kM.out;go_wp2_with (first|((with_reducible refine gate_callee (f:=62) rfl ?_);refine goesL_ (some 17) rfl rfl Tryz.func62 (by kernel_rfl) rfl #[.int .i64 aA,.int .i64 2] rfl au58 ?_;(with_reducible refine (spec_l3Pad.calls k aA 2 AM _ EE.out).mono ?_);rintro e Ey ⟨rfl,hb⟩;refine ⟨_,rfl,?_⟩;replace kM:=am (blk_below (g:=Kj) au76 hb);replace HB:=am (below_step au46 hb);(try clear hb)));go_meet
      case rel=>exact ⟨_,((mX++(⟨#[45]⟩:ByteArray))++AM),au104,H',⟨by first|omega|exact Nat.le_refl _⟩,⟨by (with_reducible repeat (first|refine blk_drewN ?_ _|refine blk_drew ?_|refine blk_alloc ?_ _));exact kM.out⟩,⟨by repeat (first|(with_reducible first|exact HB.out|apply below_alloc|apply pw_below_drewN|apply below_drew1|refine below_set ?_ FA.out)|exact HB.out)⟩⟩
     · rw [if_neg eY] at H;exact absurd H (by simp)
    · rw [if_neg dD] at H;exact absurd H (by simp)
   ·
    rw [if_neg cO] at H;have c11b0:=df cO;clear cO
    (first|rw [c11b0]|(simp only [i64_w,i32_w];rw [c11b0])|skip)
    have H':=am H;clear H;go_wp2;go_meet
    case rel=>exact ⟨_,(mX),au104,H',⟨by first|omega|exact Nat.le_refl _⟩,⟨by (with_reducible repeat (first|refine blk_drewN ?_ _|refine blk_drew ?_|refine blk_alloc ?_ _));exact kM.out⟩,⟨by repeat (first|(with_reducible first|exact HB.out|apply below_alloc|apply pw_below_drewN|apply below_drew1|refine below_set ?_ FA.out)|exact HB.out)⟩⟩
  case rest =>
   clear Fb
   try clear c1
   try clear c2
   try clear c2b0
   try clear c2b1
   try clear p2
   try clear c4
   try clear c6
   try clear cO
   try clear c11b0
   try clear dD
   try clear c12b0
   try clear c12b1
   try clear c12b2
   try clear eY
   try clear c14b0
   try clear c14b1
   try clear c14b2
   try clear uK uL uM uN uO uP uQ uR
   try clear lQ lR lS lT lU lV lW lX
   try clear lZ mA mB mC mD mE mF mG
   try clear Jl Jm Jn Pi Pj Jo Jp Pk
   obtain ⟨kq,iP,rfl,HA,HJ5,kM,HB⟩:=hcut
   cases kq with
   | zero=>exact absurd HA.out (by simp [spec_l3Text.j0])
   | succ EA =>
    have H:=HA.out;clear HA;simp only [spec_l3Text.j0] at H;by_cases gD:aX>0
    ·
     rw [if_pos gD] at H;have c17b0:=dt gD;clear gD;by_cases hZ:iP.size+1≤9223372036854775807
     ·
      rw [if_pos hZ] at H;have c18b0:=eq_true hZ;have c18b1:=dt hZ
      try have c18b2:(9223372036854775807<iP.size+1)=False:=eq_false (Nat.not_lt.2 hZ)
      replace H:=obz H;obtain ⟨wQ,a8H,H⟩:=H
      try dsimp only at H
      have A19:=am a8H;clear a8H;by_cases kX:(iP++(⟨#[45]⟩:ByteArray)).size+wQ.size≤9223372036854775807
      ·
       rw [if_pos kX] at H;have c20b0:=eq_true kX;have c20b1:=dt kX
       try have c20b2:(9223372036854775807<(iP++(⟨#[45]⟩:ByteArray)).size+wQ.size)=False:=eq_false (Nat.not_lt.2 kX)
       try have c20x:(9223372036854775807<iP.size+1+wQ.size)=False:=eq_false (by have z_:=kX;simp only [ByteArray.size_append] at z_;have sW:(⟨#[45]⟩:ByteArray).size=1:=rfl;omega)
       by_cases gT:aZ=true
       ·
        subst gT;replace H:=(if_pos rfl).symm.trans H;by_cases fP:1+((iP++(⟨#[45]⟩:ByteArray))++wQ).size≤9223372036854775807
        ·
         rw [if_pos fP] at H;have c22b0:=eq_true fP;have c22b1:=dt fP
         try have c22b2:(9223372036854775807<1+((iP++(⟨#[45]⟩:ByteArray))++wQ).size)=False:=eq_false (Nat.not_lt.2 fP)
         try have c22x:(9223372036854775807<1+(iP.size+1+wQ.size))=False:=eq_false (by have z_:=fP;simp only [ByteArray.size_append] at z_;have sW:(⟨#[45]⟩:ByteArray).size=1:=rfl;omega)
         obtain rfl:=ojz H;obtain ⟨D9,Da,Db,Dc,Dd,De,Df,Dg⟩:=blkc4 kM.out;exact spec_l3Text.L0
        · rw [if_neg fP] at H;exact absurd H (by simp)
       · replace gT:=Bool.eq_false_iff.mpr gT;subst gT;replace H:=(if_neg (show ¬ (false=true) by decide)).symm.trans H;obtain rfl:=ojz H;obtain ⟨Cc,Cd,Ce,Cf,Cg,Ch,Ci,Cj⟩:=blkc4 kM.out;exact spec_l3Text.L0
      · rw [if_neg kX] at H;exact absurd H (by simp)
     · rw [if_neg hZ] at H;exact absurd H (by simp)
    ·
     rw [if_neg gD] at H;have c17b0:=df gD;clear gD;by_cases lG:aZ=true
     ·
      subst lG;replace H:=(if_pos rfl).symm.trans H;by_cases mQ:1+iP.size≤9223372036854775807
      ·
       rw [if_pos mQ] at H;have c30b0:=eq_true mQ;have c30b1:=dt mQ
       try have c30b2:(9223372036854775807<1+iP.size)=False:=eq_false (Nat.not_lt.2 mQ)
       obtain rfl:=ojz H;obtain ⟨BR,BS,BU,BV,BW,BX,BZ,C0⟩:=blkc4 kM.out;exact spec_l3Text.L0
      · rw [if_neg mQ] at H;exact absurd H (by simp)
     · replace lG:=Bool.eq_false_iff.mpr lG;subst lG;replace H:=(if_neg (show ¬ (false=true) by decide)).symm.trans H;obtain rfl:=ojz H;obtain ⟨LM,LN,LO,LP,LQ,LR,LS,LU⟩:=blkc4 kM.out;exact spec_l3Text.L0
def strconv_Itoa.f (a0:Int):Option ByteArray:=if -9223372036854775808≤a0∧a0≤9223372036854775807 then some ⟨(Lib.itoa a0).toArray⟩ else none
theorem strconv_Itoa.calls (a0:Int) (r:ByteArray) (w:World) {gF2 gF3:Bool} (hG:GL true gF2 gF3 w) (h:strconv_Itoa.f a0=some r) :
  Calls Tryz.prog 57 #[.int .i64 a0] w fun e w'=>e=.returned (.string r)∧Below w.heap.size w w':=by
 unfold strconv_Itoa.f at h;by_cases hg:-9223372036854775808≤a0∧a0≤9223372036854775807
 · rw [if_pos hg] at h;obtain rfl:=ojz h;refine (Tryz.strconv_Itoa a0 hg.1 hg.2 w (hG.tab rfl)).mono ?_;rintro e w' ⟨rfl,k,os,rfl⟩;exact ⟨rfl,(show Below w.heap.size w (w.drewN k) from (Drawn0.below ⟨k,rfl⟩)).trans ⟨rfl,rfl,rfl,by simp,fun i hi=>Go.Sort.heap_grow_old _ _ hi⟩⟩
 · rw [if_neg hg] at h;cases h
def impl_digits.l0:Nat→Int→ByteArray→Option (ByteArray)
 | 0,_,_=>none
 | k+1,x1,x5=>if (x5.size:Int)<x1 then (if 1+x5.size≤9223372036854775807 then (impl_digits.l0 k x1 ((⟨#[48]⟩:ByteArray)++x5)) else (none)) else (some x5)
def impl_digits.f (k:Nat) (a0:Int) (a1:Int):Option (ByteArray):=(strconv_Itoa.f a0).bind fun ML=>(impl_digits.l0 k a1 ML)
theorem impl_digits.mono_l:∀ k,(∀ y0 y1,LeO (impl_digits.l0 k y0 y1) (impl_digits.l0 (k+1) y0 y1))
 | 0=>fun _ _ r h=>by simp [impl_digits.l0] at h
 | k+1=>by
  have ih0:=impl_digits.mono_l k
  ·
   intro y0 y1;unfold impl_digits.l0
   repeat' first
   | (with_reducible exact ih0 _ _)
   | (with_reducible exact LeO.refl _)
   | (with_reducible exact LeO.none _)
   | (with_reducible refine LeO.ite ?_ ?_)
   | (with_reducible refine LeO.bind ?_ (fun _=>?_))
   | exact ih0 _ _
   | exact LeO.none _
   | refine LeO.ite ?_ ?_
   | refine LeO.bind ?_ (fun _=>?_)
theorem impl_digits.mono:∀ a0 a1 k,LeO (impl_digits.f k a0 a1) (impl_digits.f (k+1) a0 a1):=by
 intro a0 a1 k;have ih0:=impl_digits.mono_l k;unfold impl_digits.f
 repeat' first
   | (with_reducible exact ih0 _ _)
   | (with_reducible exact LeO.refl _)
   | (with_reducible exact LeO.none _)
   | (with_reducible refine LeO.ite ?_ ?_)
   | (with_reducible refine LeO.bind ?_ (fun _=>?_))
   | exact ih0 _ _
   | exact LeO.none _
   | refine LeO.ite ?_ ?_
   | refine LeO.bind ?_ (fun _=>?_)
theorem impl_digits.calls (k:Nat) (a0:Int) (a1:Int) (r:ByteArray) (w:World) {gF2 gF3:Bool} (hG:GL true gF2 gF3 w) (h:impl_digits.f k a0 a1=some r) :
  Calls Tryz.prog 72 #[.int .i64 a0,.int .i64 a1] w fun e w'=>e=.returned (.string r)∧Below w.heap.size w w':=by
 have HG:=am hG;clear hG;have HB:=am (Below.refl w.heap.size w);have H:((strconv_Itoa.f a0).bind fun ML=>(impl_digits.l0 k a1 ML))=some r:=h;clear h;replace H:=obz H;obtain ⟨ML,dR,H⟩:=H
 try dsimp only at H
 have A3:=am dR;clear dR;have H':=am H;clear H;go_enter Tryz.func72,Tryz.ntmps72;go_wp2_with (first|((with_reducible refine gate_callee (f:=57) rfl ?_);refine goesL_ (some 7) rfl rfl Tryz.func57 (by kernel_rfl) rfl #[.int .i64 a0] rfl au58 ?_;(with_reducible refine (strconv_Itoa.calls (hG:=au6) a0 ML _ A3.out).mono ?_);rintro e w4 ⟨rfl,hb⟩;refine ⟨_,rfl,?_⟩;replace HB:=am (below_step au59 hb);(try clear hb)))
 go_loopg [5] k (fun kq v5 w'=>∃ (bH:ByteArray),v5=.string bH∧Aside0 (impl_digits.l0 kq a1 bH=some r)∧Aside0 (kq≤k)∧Aside0 (Below w.heap.size w w'))
 case atStart=>exact ⟨(ML),au104,H',⟨Nat.le_refl _⟩,⟨by repeat (first|(with_reducible first|exact HB.out|apply below_alloc|apply pw_below_drewN|apply below_drew1)|exact HB.out)⟩⟩
 case round =>
  clear H'
  try clear p2
  obtain ⟨bH,rfl,HA,HK1,HB⟩:=hrel
  cases gk with
  | zero=>exact absurd HA.out (by simp [impl_digits.l0])
  | succ k1 =>
   have H:=HA.out;clear HA;simp only [impl_digits.l0] at H;by_cases c5:(bH.size:Int)<a1
   ·
    rw [if_pos c5] at H;have c5b0:=dt c5;clear c5;by_cases c6:1+bH.size≤9223372036854775807
    ·
     rw [if_pos c6] at H;have c6b0:=eq_true c6;have c6b1:=dt c6
     try have c6b2:(9223372036854775807<1+bH.size)=False:=eq_false (Nat.not_lt.2 c6)
     have H':=am H;clear H;go_wp2
     go_roundg k1
     case measure=>have:=HK1.out;omega
     case rel=>exact ⟨((⟨#[48]⟩:ByteArray)++bH),au104,H',⟨by have:=HK1.out;omega⟩,⟨by repeat (first|(with_reducible first|exact HB.out|apply below_alloc|apply pw_below_drewN|apply below_drew1)|exact HB.out)⟩⟩
    · rw [if_neg c6] at H;exact absurd H (by simp)
   · rw [if_neg c5] at H;have c5b0:=df c5;clear c5;obtain rfl:=ojz H;go_wp2;go_ret;exact ax3
def impl_formatDate.j0:Nat→ByteArray→Int→Int→Int→Bool→Option (ByteArray)
 | 0,_,_,_,_,_=>none
 | k+1,x3,aEi,SQ,H9,aEj=>if SQ>0 then ((impl_digits.f k SQ 2).bind fun qN=>(if 1+qN.size≤9223372036854775807 then (if x3.size+((⟨#[45]⟩:ByteArray)++qN).size≤9223372036854775807 then (if H9>0 then ((impl_digits.f k H9 2).bind fun Bu=>(if 1+Bu.size≤9223372036854775807 then (if (x3++((⟨#[45]⟩:ByteArray)++qN)).size+((⟨#[45]⟩:ByteArray)++Bu).size≤9223372036854775807 then (some ((x3++((⟨#[45]⟩:ByteArray)++qN))++((⟨#[45]⟩:ByteArray)++Bu))) else (none)) else (none))) else (some (x3++((⟨#[45]⟩:ByteArray)++qN)))) else (none)) else (none))) else (if H9>0 then ((impl_digits.f k H9 2).bind fun Bv=>(if 1+Bv.size≤9223372036854775807 then (if x3.size+((⟨#[45]⟩:ByteArray)++Bv).size≤9223372036854775807 then (some (x3++((⟨#[45]⟩:ByteArray)++Bv))) else (none)) else (none))) else (some x3))
def impl_formatDate.f (k:Nat) (aD:Int) (aA:Int) (aX:Int) (aZ:Bool):Option (ByteArray):=if aD=0 then (some (⟨#[117,110,107,110,111,119,110]⟩:ByteArray)) else ((impl_digits.f k aD 4).bind fun vR=>(if aZ=true then (if 1+vR.size≤9223372036854775807 then (impl_formatDate.j0 k ((⟨#[99]⟩:ByteArray)++vR) aD aA aX aZ) else (none)) else (impl_formatDate.j0 k vR aD aA aX aZ)))
theorem impl_formatDate.mono_l:∀ k,(∀ y0 y1 y2 y3 y4,LeO (impl_formatDate.j0 k y0 y1 y2 y3 y4) (impl_formatDate.j0 (k+1) y0 y1 y2 y3 y4))
 | 0=>fun _ _ _ _ _ r h=>by simp [impl_formatDate.j0] at h
 | k+1=>by
  have ih0:=impl_formatDate.mono_l k
  ·
   intro y0 y1 y2 y3 y4;unfold impl_formatDate.j0
   repeat' first
   | (with_reducible exact ih0 _ _ _ _ _)
   | (with_reducible exact impl_digits.mono _ _ _)
   | (with_reducible exact LeO.refl _)
   | (with_reducible exact LeO.none _)
   | (with_reducible refine LeO.ite ?_ ?_)
   | (with_reducible refine LeO.bind ?_ (fun _=>?_))
   | exact ih0 _ _ _ _ _
   | exact impl_digits.mono _ _ _
   | exact LeO.none _
   | refine LeO.ite ?_ ?_
   | refine LeO.bind ?_ (fun _=>?_)
theorem impl_formatDate.mono:∀ a0 a1 a2 a3 k,LeO (impl_formatDate.f k a0 a1 a2 a3) (impl_formatDate.f (k+1) a0 a1 a2 a3):=by
 intro a0 a1 a2 a3 k;have ih0:=impl_formatDate.mono_l k;unfold impl_formatDate.f
 repeat' first
   | (with_reducible exact ih0 _ _ _ _ _)
   | (with_reducible exact impl_digits.mono _ _ _)
   | (with_reducible exact LeO.refl _)
   | (with_reducible exact LeO.none _)
   | (with_reducible refine LeO.ite ?_ ?_)
   | (with_reducible refine LeO.bind ?_ (fun _=>?_))
   | exact ih0 _ _ _ _ _
   | exact impl_digits.mono _ _ _
   | exact LeO.none _
   | refine LeO.ite ?_ ?_
   | refine LeO.bind ?_ (fun _=>?_)
theorem impl_formatDate.L0 {P:Prop} (h:P:=by
  go_wp2_with (first|((with_reducible refine gate_callee (f:=72) rfl ?_);refine goesL_ (some 20) rfl rfl Tryz.func72 (by kernel_rfl) rfl #[.int .i64 aA,.int .i64 2] rfl au58 ?_;(with_reducible refine (impl_digits.calls (hG:=au6) EA aA 2 qN _ He.out).mono ?_);rintro e Ur ⟨rfl,hb⟩;refine ⟨_,rfl,?_⟩;replace kN:=am (blk_below (g:=Ha) au77 hb);replace HB:=am (below_step au47 hb);(try clear hb);obtain ⟨D9,Da,Db,Dc,Dd,De,Df,Dg⟩:=blkc4 kN.out)|((with_reducible refine gate_callee (f:=72) rfl ?_);refine goesL_ (some 29) rfl rfl Tryz.func72 (by kernel_rfl) rfl #[.int .i64 aX,.int .i64 2] rfl au58 ?_;(with_reducible refine (impl_digits.calls (hG:=au6) EA aX 2 Bu _ sJ.out).mono ?_);rintro e ND ⟨rfl,hb⟩;refine ⟨_,rfl,?_⟩;replace kN:=am (blk_below (g:=Ha) au77 hb);replace HB:=am (below_step au47 hb);(try clear hb)));go_ret
  exact ax10):P:=h
theorem impl_formatDate.calls (k:Nat) (aD:Int) (aA:Int) (aX:Int) (aZ:Bool) (r:ByteArray) (w:World) {gF2 gF3:Bool} (hG:GL true gF2 gF3 w) (h:impl_formatDate.f k aD aA aX aZ=some r) :
  Calls Tryz.prog 56 #[.agg #[.int .i64 aD,.int .i64 aA,.int .i64 aX,.bool aZ]] w fun e w'=>e=.returned (.string r)∧Below w.heap.size w w':=by
 have HG:=am hG;clear hG;have hu26:=Tryz.underlying26;have HB:=am (Below.refl w.heap.size w);have H:(if aD=0 then (some (⟨#[117,110,107,110,111,119,110]⟩:ByteArray)) else ((impl_digits.f k aD 4).bind fun vR=>(if aZ=true then (if 1+vR.size≤9223372036854775807 then (impl_formatDate.j0 k ((⟨#[99]⟩:ByteArray)++vR) aD aA aX aZ) else (none)) else (impl_formatDate.j0 k vR aD aA aX aZ))))=some r:=h;clear h;by_cases c2:aD=0
 · rw [if_pos c2] at H;have c2b0:=qt c2;have c2b1:=bfz c2;clear c2;obtain rfl:=ojz H;go_enter Tryz.func56,Tryz.ntmps56;go_wp2_with (first|((with_reducible refine gate_dst (N:=1) rfl ?_);refine box_event ?hg (N:=1) ?hd (cs:=#[.int .i64 aD,.int .i64 aA,.int .i64 aX,.bool aZ]) (t:=26) ?hr ?_;(case hd=>rfl);(case hg=>rfl);(case hr=>first|(go_simp;done)|(go_simp;rfl));intro Ha hg w3 hbox hb;have kN:=am (hbox);have acB:=am (bsz hg au59);have Jk:=am (bsz hg au59);replace HB:=am (below_step au59 hb);clear hb hbox hg;obtain ⟨lZ,mA,mB,mC,mD,mE,mF,mG⟩:=blkc4 kN.out));go_ret;exact ax10
 ·
  rw [if_neg c2] at H;have c2b0:=qf c2;have c2b1:=bu c2;replace H:=obz H;obtain ⟨vR,nI,H⟩:=H
  try dsimp only at H
  have A5:=am nI;clear nI;have Fb:=am H;clear H;go_enter Tryz.func56,Tryz.ntmps56
  go_upto_if 11 with (first|((with_reducible refine gate_dst (N:=1) rfl ?_);refine box_event ?hg (N:=1) ?hd (cs:=#[.int .i64 aD,.int .i64 aA,.int .i64 aX,.bool aZ]) (t:=26) ?hr ?_;(case hd=>rfl);(case hg=>rfl);(case hr=>first|(go_simp;done)|(go_simp;rfl));intro Ha hg w7 hbox hb;have kN:=am (hbox);have acB:=am (bsz hg au59);have Jk:=am (bsz hg au59);replace HB:=am (below_step au59 hb);clear hb hbox hg;obtain ⟨Jl,Jm,Jn,Pi,Pj,Jo,Jp,Pk⟩:=blkc4 kN.out)|((with_reducible refine gate_callee (f:=72) rfl ?_);refine goesL_ (some 9) rfl rfl Tryz.func72 (by kernel_rfl) rfl #[.int .i64 aD,.int .i64 4] rfl au58 ?_;(with_reducible refine (impl_digits.calls (hG:=au6) k aD 4 vR _ A5.out).mono ?_);rintro e w9 ⟨rfl,hb⟩;refine ⟨_,rfl,?_⟩;replace kN:=am (blk_below (g:=Ha) au77 hb);replace HB:=am (below_step au47 hb);(try clear hb);obtain ⟨uK,uL,uM,uN,uO,uP,uQ,uR⟩:=blkc4 kN.out))
  (try simp only [Act.put,List.setIfInBounds_toArray,List.set_cons_zero,List.set_cons_succ])
  go_cut [3] (fun v3 wc=>∃ (kq:Nat) (iP:ByteArray),v3=.string iP∧Aside0 (impl_formatDate.j0 kq iP aD aA aX aZ=some r)∧Aside0 (kq≤k)∧Aside0 (wc.heap[Ha]?=some (.cells #[.int .i64 aD,.int .i64 aA,.int .i64 aX,.bool aZ] 26 (0,0)))∧Aside0 (Below w.heap.size w wc))
  case first =>
   have H:=Fb.out;clear Fb;by_cases cO:aZ=true
   ·
    subst cO;replace H:=(if_pos rfl).symm.trans H;by_cases dD:1+vR.size≤9223372036854775807
    ·
     rw [if_pos dD] at H;have c12b0:=eq_true dD;have c12b1:=dt dD
     try have c12b2:(9223372036854775807<1+vR.size)=False:=eq_false (Nat.not_lt.2 dD)
     have H':=am H;clear H;go_wp2;go_meet
     case rel=>exact ⟨_,((⟨#[99]⟩:ByteArray)++vR),au104,H',⟨by first|omega|exact Nat.le_refl _⟩,⟨by (with_reducible repeat (first|refine blk_drewN ?_ _|refine blk_drew ?_|refine blk_alloc ?_ _));exact kN.out⟩,⟨by repeat (first|(with_reducible first|exact HB.out|apply below_alloc|apply pw_below_drewN|apply below_drew1|refine below_set ?_ Jk.out)|exact HB.out)⟩⟩
    · rw [if_neg dD] at H;exact absurd H (by simp)
   ·
    replace cO:=Bool.eq_false_iff.mpr cO;subst cO;replace H:=(if_neg (show ¬ (false=true) by decide)).symm.trans H;have H':=am H;clear H;go_wp2;go_meet
    case rel=>exact ⟨_,(vR),au104,H',⟨by first|omega|exact Nat.le_refl _⟩,⟨by (with_reducible repeat (first|refine blk_drewN ?_ _|refine blk_drew ?_|refine blk_alloc ?_ _));exact kN.out⟩,⟨by repeat (first|(with_reducible first|exact HB.out|apply below_alloc|apply pw_below_drewN|apply below_drew1|refine below_set ?_ Jk.out)|exact HB.out)⟩⟩
  case rest =>
   clear Fb
   try clear c1
   try clear c2
   try clear c2b0
   try clear c2b1
   try clear p2
   try clear c5
   try clear c7
   try clear cO
   try clear dD
   try clear c12b0
   try clear c12b1
   try clear c12b2
   try clear uK uL uM uN uO uP uQ uR
   try clear lZ mA mB mC mD mE mF mG
   try clear Jl Jm Jn Pi Pj Jo Jp Pk
   obtain ⟨kq,iP,rfl,HA,HJ5,kN,HB⟩:=hcut
   cases kq with
   | zero=>exact absurd HA.out (by simp [impl_formatDate.j0])
   | succ EA =>
    have H:=HA.out;clear HA;simp only [impl_formatDate.j0] at H;by_cases dE:aA>0
    ·
     rw [if_pos dE] at H;have c13b0:=dt dE;clear dE;replace H:=obz H;obtain ⟨qN,sO,H⟩:=H
     try dsimp only at H
     have He:=am sO;clear sO;by_cases dJ:1+qN.size≤9223372036854775807
     ·
      rw [if_pos dJ] at H;have c15b0:=eq_true dJ;have c15b1:=dt dJ
      try have c15b2:(9223372036854775807<1+qN.size)=False:=eq_false (Nat.not_lt.2 dJ)
      by_cases dB:iP.size+((⟨#[45]⟩:ByteArray)++qN).size≤9223372036854775807
      ·
       rw [if_pos dB] at H;have c16b0:=eq_true dB;have c16b1:=dt dB
       try have c16b2:(9223372036854775807<iP.size+((⟨#[45]⟩:ByteArray)++qN).size)=False:=eq_false (Nat.not_lt.2 dB)
       try have c16x:(9223372036854775807<iP.size+(1+qN.size))=False:=eq_false (by have z_:=dB;simp only [ByteArray.size_append] at z_;have sW:(⟨#[45]⟩:ByteArray).size=1:=rfl;omega)
       by_cases gD:aX>0
       ·
        rw [if_pos gD] at H;have c17b0:=dt gD;clear gD;replace H:=obz H;obtain ⟨Bu,EF,H⟩:=H
        try dsimp only at H
        have sJ:=am EF;clear EF;by_cases fO:1+Bu.size≤9223372036854775807
        ·
         rw [if_pos fO] at H;have c19b0:=eq_true fO;have c19b1:=dt fO
         try have c19b2:(9223372036854775807<1+Bu.size)=False:=eq_false (Nat.not_lt.2 fO)
         by_cases kX:(iP++((⟨#[45]⟩:ByteArray)++qN)).size+((⟨#[45]⟩:ByteArray)++Bu).size≤9223372036854775807
         ·
          rw [if_pos kX] at H;have c20b0:=eq_true kX;have c20b1:=dt kX
          try have c20b2:(9223372036854775807<(iP++((⟨#[45]⟩:ByteArray)++qN)).size+((⟨#[45]⟩:ByteArray)++Bu).size)=False:=eq_false (Nat.not_lt.2 kX)
          try have c20x:(9223372036854775807<iP.size+1+(qN.size)+(1+Bu.size))=False:=eq_false (by have z_:=kX;simp only [ByteArray.size_append] at z_;have sW:(⟨#[45]⟩:ByteArray).size=1:=rfl;omega)
          obtain rfl:=ojz H;obtain ⟨BH,BI,BJ,BK,BL,BM,BN,BO⟩:=blkc4 kN.out;exact impl_formatDate.L0
         · rw [if_neg kX] at H;exact absurd H (by simp)
        · rw [if_neg fO] at H;exact absurd H (by simp)
       · rw [if_neg gD] at H;have c17b0:=df gD;clear gD;obtain rfl:=ojz H;obtain ⟨SH,SI,SJ,SK,SL,SN,SO,SP⟩:=blkc4 kN.out;exact impl_formatDate.L0
      · rw [if_neg dB] at H;exact absurd H (by simp)
     · rw [if_neg dJ] at H;exact absurd H (by simp)
    ·
     rw [if_neg dE] at H;have c13b0:=df dE;clear dE;by_cases kY:aX>0
     ·
      rw [if_pos kY] at H;have c28b0:=dt kY;clear kY;replace H:=obz H;obtain ⟨Bv,Pm,H⟩:=H
      try dsimp only at H
      have A29:=am Pm;clear Pm;by_cases mQ:1+Bv.size≤9223372036854775807
      ·
       rw [if_pos mQ] at H;have c30b0:=eq_true mQ;have c30b1:=dt mQ
       try have c30b2:(9223372036854775807<1+Bv.size)=False:=eq_false (Nat.not_lt.2 mQ)
       by_cases kB:iP.size+((⟨#[45]⟩:ByteArray)++Bv).size≤9223372036854775807
       ·
        rw [if_pos kB] at H;have c31b0:=eq_true kB;have c31b1:=dt kB
        try have c31b2:(9223372036854775807<iP.size+((⟨#[45]⟩:ByteArray)++Bv).size)=False:=eq_false (Nat.not_lt.2 kB)
        try have c31x:(9223372036854775807<iP.size+(1+Bv.size))=False:=eq_false (by have z_:=kB;simp only [ByteArray.size_append] at z_;have sW:(⟨#[45]⟩:ByteArray).size=1:=rfl;omega)
        obtain rfl:=ojz H;obtain ⟨LM,LN,LO,LP,LQ,LR,LS,LU⟩:=blkc4 kN.out;go_wp2_with (first|((with_reducible refine gate_callee (f:=72) rfl ?_);refine goesL_ (some 29) rfl rfl Tryz.func72 (by kernel_rfl) rfl #[.int .i64 aX,.int .i64 2] rfl au58 ?_;(with_reducible refine (impl_digits.calls (hG:=au6) EA aX 2 Bv _ A29.out).mono ?_);rintro e w33 ⟨rfl,hb⟩;refine ⟨_,rfl,?_⟩;replace kN:=am (blk_below (g:=Ha) au77 hb);replace HB:=am (below_step au47 hb);(try clear hb)));go_ret;exact ax10
       · rw [if_neg kB] at H;exact absurd H (by simp)
      · rw [if_neg mQ] at H;exact absurd H (by simp)
     · rw [if_neg kY] at H;have c28b0:=df kY;clear kY;obtain rfl:=ojz H;obtain ⟨C1,C2,C3,C4,C5,C6,C7,C8⟩:=blkc4 kN.out;exact impl_formatDate.L0
end Go.Proofs.YtcbhlghofihjcaaGreatDoor.G

namespace Go.Proofs.YtcbhlghofihjcaaGreatDoor.G
open Go.RowKit Go.Proofs.YtcbhlghofihjcaaGreatDoorW.PrintWords Go.Proofs.YtcbhlghofihjcaaGreatDoorW.PrintLast Go.Proofs.YtcbhlghofihjcaaGreatDoor.B
set_option linter.unusedVariables false
set_option linter.unusedSimpArgs false
theorem pad_same (k:Nat):∀ (w:Int) (t:ByteArray),impl_digits.l0 k w t=spec_l3Pad.l0 k w t:=by
  induction k with
  | zero=>intro w t;rfl
  | succ k ih=>intro w t;simp only [impl_digits.l0,spec_l3Pad.l0,ih]
theorem pad_loop (w:Nat) (hw:w≤10) (d:Nat):∀ t:ByteArray,w-t.size=d→t.size≤1000→∃ u,Ev (fun k=>spec_l3Pad.l0 k (w:Int) t) u∧u.size≤max w t.size:=by
  induction d with
  | zero =>
    intro t h ht;refine ⟨t,Ev.step (f:=fun _=>some t) (fun k=>?_) (Ev.now _),by omega⟩;simp only [spec_l3Pad.l0];rw [if_neg (by omega)]
  | succ d ih =>
    intro t h ht
    have hs:((⟨#[48]⟩:ByteArray)++t).size=1+t.size:=by rw [size_append];rfl
    obtain ⟨u,hu,hz⟩:=ih ((⟨#[48]⟩:ByteArray)++t) (by omega) (by omega);refine ⟨u,Ev.step (fun k=>?_) hu,by omega⟩;simp only [spec_l3Pad.l0];rw [if_pos (by omega),if_pos (by omega)]
theorem pad_ev (n:Int) (w:Nat) (h0:0≤n) (h1:n≤1000000) (hw:w≤10):∃ u,Ev (fun k=>spec_l3Pad.f k n (w:Int)) u∧Ev (fun k=>impl_digits.f k n (w:Int)) u∧u.size≤30:=by
  have hl:=Lib.itoa_length_le n (by omega) (by omega)
  have hz:(mkB (Lib.itoa n)).size≤21:=by rw [size_mk];exact hl
  obtain ⟨u,hu,hs⟩:=pad_loop w hw _ (mkB (Lib.itoa n)) rfl (by omega);refine ⟨u,?_,?_,by omega⟩
  · unfold spec_l3Pad.f
    exact Ev.bind (num_ev n (by omega) (by omega)) hu
  · have hi:strconv_Itoa.f n=some (mkB (Lib.itoa n)):=by
      unfold strconv_Itoa.f;rw [if_pos ⟨by omega,by omega⟩];rfl
    unfold impl_digits.f;exact ev_bind0 hi (Ev.congr (fun k=>pad_same k _ _) hu)
theorem sz1 (b:UInt8) (t:ByteArray):((⟨#[b]⟩:ByteArray)++t).size=1+t.size:=by rw [size_append];rfl
theorem sz2 (b:UInt8) (t:ByteArray):(t++(⟨#[b]⟩:ByteArray)).size=t.size+1:=by rw [size_append];rfl
theorem assoc3 (a b c:ByteArray):(a++b)++c=a++(b++c):=L_inj (by rw [L_append,L_append,L_append,L_append,List.append_assoc])
theorem date_text (y m d:Int) (c:Bool) (hy:1≤y∧y≤2999) (hm:0≤m∧m≤12) (hd:0≤d∧d≤31):∃ v,Ev (fun k=>spec_l3Text.f k y m d c) v∧Ev (fun k=>impl_formatDate.f k y m d c) v:=by
  obtain ⟨Y,sY,iY,zY⟩:=pad_ev y 4 (by omega) (by omega) (by omega);obtain ⟨M,sM,iM,zM⟩:=pad_ev m 2 (by omega) (by omega) (by omega);obtain ⟨D,sD,iD,zD⟩:=pad_ev d 2 (by omega) (by omega) (by omega);have e2:=sz2 45 Y;have e1:=sz1 45 M;have e1':=sz1 45 D
  have ny:¬ y=0:=by omega
  -- the program: behind the year
  have impl_rest:∀ x:ByteArray,x.size≤60→Ev (fun k=>impl_formatDate.j0 k x y m d c) (if m>0 then (if d>0 then (x++((⟨#[45]⟩:ByteArray)++M))++((⟨#[45]⟩:ByteArray)++D) else x++((⟨#[45]⟩:ByteArray)++M)) else (if d>0 then x++((⟨#[45]⟩:ByteArray)++D) else x)):=by
    intro x hx
    have xm:(x++((⟨#[45]⟩:ByteArray)++M)).size=x.size+(1+M.size):=by rw [size_append,e1]
    by_cases cm:m>0
    · rw [if_pos cm]
      by_cases cd:d>0
      · rw [if_pos cd]
        refine Ev.step (f:=fun k=>(impl_digits.f k m 2).bind fun kI=>(if 1+kI.size≤9223372036854775807 then (if x.size+((⟨#[45]⟩:ByteArray)++kI).size≤9223372036854775807 then ((impl_digits.f k d 2).bind fun Bi=>(if 1+Bi.size≤9223372036854775807 then (if (x++((⟨#[45]⟩:ByteArray)++kI)).size+((⟨#[45]⟩:ByteArray)++Bi).size≤9223372036854775807 then (some ((x++((⟨#[45]⟩:ByteArray)++kI))++((⟨#[45]⟩:ByteArray)++Bi))) else (none)) else (none))) else (none)) else (none))) (fun k=>by simp only [impl_formatDate.j0,if_pos cm,if_pos cd]) ?_;exact Ev.bind iM (ev_pos (by omega) (ev_pos (by omega) (Ev.bind iD (ev_pos (by omega) (ev_pos (by omega) (Ev.now _))))))
      · rw [if_neg cd]
        refine Ev.step (f:=fun k=>(impl_digits.f k m 2).bind fun kI=>(if 1+kI.size≤9223372036854775807 then (if x.size+((⟨#[45]⟩:ByteArray)++kI).size≤9223372036854775807 then (some (x++((⟨#[45]⟩:ByteArray)++kI))) else (none)) else (none))) (fun k=>by simp only [impl_formatDate.j0,if_pos cm,if_neg cd]) ?_;exact Ev.bind iM (ev_pos (by omega) (ev_pos (by omega) (Ev.now _)))
    · rw [if_neg cm]
      by_cases cd:d>0
      · rw [if_pos cd]
        refine Ev.step (f:=fun k=>(impl_digits.f k d 2).bind fun Bj=>(if 1+Bj.size≤9223372036854775807 then (if x.size+((⟨#[45]⟩:ByteArray)++Bj).size≤9223372036854775807 then (some (x++((⟨#[45]⟩:ByteArray)++Bj))) else (none)) else (none))) (fun k=>by simp only [impl_formatDate.j0,if_neg cm,if_pos cd]) ?_;exact Ev.bind iD (ev_pos (by omega) (ev_pos (by omega) (Ev.now _)))
      · rw [if_neg cd]
        exact Ev.step (f:=fun _=>some x) (fun k=>by simp only [impl_formatDate.j0,if_neg cm,if_neg cd]) (Ev.now _)
  -- the reference: behind the month
  have spec_rest:∀ x:ByteArray,x.size≤100→Ev (fun k=>spec_l3Text.j0 k x y m d c) (if d>0 then (if c=true then (⟨#[99]⟩:ByteArray)++((x++(⟨#[45]⟩:ByteArray))++D) else (x++(⟨#[45]⟩:ByteArray))++D) else (if c=true then (⟨#[99]⟩:ByteArray)++x else x)):=by
    intro x hx;have x2:=sz2 45 x
    have x3:((x++(⟨#[45]⟩:ByteArray))++D).size=x.size+1+D.size:=by rw [size_append,x2]
    by_cases cd:d>0
    · rw [if_pos cd]
      by_cases cc:c=true
      · rw [if_pos cc]
        refine Ev.step (f:=fun k=>if x.size+1≤9223372036854775807 then ((spec_l3Pad.f k d 2).bind fun iB=>(if (x++(⟨#[45]⟩:ByteArray)).size+iB.size≤9223372036854775807 then (if 1+((x++(⟨#[45]⟩:ByteArray))++iB).size≤9223372036854775807 then (some ((⟨#[99]⟩:ByteArray)++((x++(⟨#[45]⟩:ByteArray))++iB))) else (none)) else (none))) else (none)) (fun k=>by simp only [spec_l3Text.j0,if_pos cd,if_pos cc]) ?_;exact ev_pos (by omega) (Ev.bind sD (ev_pos (by omega) (ev_pos (by omega) (Ev.now _))))
      · rw [if_neg cc]
        refine Ev.step (f:=fun k=>if x.size+1≤9223372036854775807 then ((spec_l3Pad.f k d 2).bind fun iB=>(if (x++(⟨#[45]⟩:ByteArray)).size+iB.size≤9223372036854775807 then (some ((x++(⟨#[45]⟩:ByteArray))++iB)) else (none))) else (none)) (fun k=>by simp only [spec_l3Text.j0,if_pos cd,if_neg cc]) ?_;exact ev_pos (by omega) (Ev.bind sD (ev_pos (by omega) (Ev.now _)))
    · rw [if_neg cd]
      by_cases cc:c=true
      · rw [if_pos cc]
        refine Ev.step (f:=fun k=>if 1+x.size≤9223372036854775807 then (some ((⟨#[99]⟩:ByteArray)++x)) else (none)) (fun k=>by simp only [spec_l3Text.j0,if_neg cd,if_pos cc]) ?_;exact ev_pos (by omega) (Ev.now _)
      · rw [if_neg cc]
        exact Ev.step (f:=fun _=>some x) (fun k=>by simp only [spec_l3Text.j0,if_neg cd,if_neg cc]) (Ev.now _)
  have ym:((Y++(⟨#[45]⟩:ByteArray))++M).size=Y.size+1+M.size:=by rw [size_append,e2]
  have hspec:Ev (fun k=>spec_l3Text.f k y m d c) (if m>0 then (if d>0 then (if c=true then (⟨#[99]⟩:ByteArray)++((((Y++(⟨#[45]⟩:ByteArray))++M)++(⟨#[45]⟩:ByteArray))++D) else (((Y++(⟨#[45]⟩:ByteArray))++M)++(⟨#[45]⟩:ByteArray))++D) else (if c=true then (⟨#[99]⟩:ByteArray)++((Y++(⟨#[45]⟩:ByteArray))++M) else (Y++(⟨#[45]⟩:ByteArray))++M))
      else (if d>0 then (if c=true then (⟨#[99]⟩:ByteArray)++((Y++(⟨#[45]⟩:ByteArray))++D) else (Y++(⟨#[45]⟩:ByteArray))++D) else (if c=true then (⟨#[99]⟩:ByteArray)++Y else Y))):=by
    unfold spec_l3Text.f;refine ev_neg ny (Ev.bind sY ?_);by_cases cm:m>0
    · rw [if_pos cm]
      exact ev_pos cm (ev_pos (by omega) (Ev.bind sM (ev_pos (by omega) (spec_rest _ (by omega)))))
    · rw [if_neg cm]
      exact ev_neg cm (spec_rest _ (by omega))
  have himpl:Ev (fun k=>impl_formatDate.f k y m d c) (if c=true then (if m>0 then (if d>0 then (((⟨#[99]⟩:ByteArray)++Y)++((⟨#[45]⟩:ByteArray)++M))++((⟨#[45]⟩:ByteArray)++D) else ((⟨#[99]⟩:ByteArray)++Y)++((⟨#[45]⟩:ByteArray)++M)) else (if d>0 then ((⟨#[99]⟩:ByteArray)++Y)++((⟨#[45]⟩:ByteArray)++D) else (⟨#[99]⟩:ByteArray)++Y))
      else (if m>0 then (if d>0 then (Y++((⟨#[45]⟩:ByteArray)++M))++((⟨#[45]⟩:ByteArray)++D) else Y++((⟨#[45]⟩:ByteArray)++M)) else (if d>0 then Y++((⟨#[45]⟩:ByteArray)++D) else Y))):=by
    unfold impl_formatDate.f;refine ev_neg ny (Ev.bind iY ?_);by_cases cc:c=true
    · rw [if_pos cc]
      have:=sz1 99 Y;exact ev_pos cc (ev_pos (by omega) (impl_rest _ (by omega)))
    · rw [if_neg cc]
      exact ev_neg cc (impl_rest _ (by omega))
  refine ⟨_,hspec,ev_eq himpl ?_⟩
  · by_cases cm:m>0 <;> by_cases cd:d>0 <;> cases c <;> simp [cm,cd] <;> simp only [assoc3]
end Go.Proofs.YtcbhlghofihjcaaGreatDoor.G

namespace Go.Proofs.YtcbhlghofihjcaaGreatDoor.G
open Go.RowKit Go.Proofs.YtcbhlghofihjcaaGreatDoorW.PrintWords Go.Proofs.YtcbhlghofihjcaaGreatDoorW.PrintLast Go.Proofs.YtcbhlghofihjcaaGreatDoorW.PrintMore
open Go.Proofs.YtcbhlghofihjcaaGreatDoor.Gl Go.Proofs.YtcbhlghofihjcaaGreatDoor.Ext
attribute [local go_sem] max2_int min2_int max_two min_two max_three min_three max_four min_four   -- for this text's walks alone
set_option linter.unusedVariables false
set_option linter.unusedSimpArgs false
def spec_l4Field.f (k:Nat) (aD:ByteArray) (aA:Int) (aN:List (S68)) (aQ:List (S68)) (bB:ByteArray) (bC:ByteArray) (bD:ByteArray) (aV:Int) (aY:Int) (bA:Int) (aH:Bool) (aI:Int) (aK:ByteArray) (aM:ByteArray) (a1:ByteArray):Option (ByteArray × Bool):=if a1.toList=([97,117,116,104,111,114,115]:List UInt8) then ((spec_l4Names.f k aN).bind fun Pn=>(some (Pn,true))) else (if a1.toList=([101,100,105,116,111,114,115]:List UInt8) then ((spec_l4Names.f k aQ).bind fun Po=>(some (Po,true))) else (if a1.toList=([116,105,116,108,101]:List UInt8) then (some (bB,true)) else (if a1.toList=([99,111,110,116,97,105,110,101,114]:List UInt8) then (some (bC,true)) else (if a1.toList=([112,117,98,108,105,115,104,101,114]:List UInt8) then (some (bD,true)) else (if a1.toList=([112,97,103,101,115]:List UInt8) then (some (aK,true)) else (if a1.toList=([100,97,116,101]:List UInt8) then (if aV=0 then (some ((⟨#[]⟩:ByteArray),true)) else ((spec_l3Text.f k aV aY bA aH).bind fun Pp=>(some (Pp,true)))) else (if a1.toList=([118,111,108,117,109,101]:List UInt8) then (if aI=0 then (some ((⟨#[]⟩:ByteArray),true)) else ((spec_l1Num.f k aI).bind fun Pq=>(some (Pq,true)))) else (some ((⟨#[]⟩:ByteArray),false)))))))))
theorem spec_l4Field.mono:∀ a0 a1 a2 a3 a4 a5 a6 a7 a8 a9 hJ hU hV hY nP k,LeO (spec_l4Field.f k a0 a1 a2 a3 a4 a5 a6 a7 a8 a9 hJ hU hV hY nP) (spec_l4Field.f (k+1) a0 a1 a2 a3 a4 a5 a6 a7 a8 a9 hJ hU hV hY nP):=by
 intro a0 a1 a2 a3 a4 a5 a6 a7 a8 a9 hJ hU hV hY nP k;unfold spec_l4Field.f
 repeat' first
   | (with_reducible exact spec_l1Num.mono _ _)
   | (with_reducible exact spec_l3Text.mono _ _ _ _ _)
   | (with_reducible exact spec_l4Names.mono _ _)
   | (with_reducible exact LeO.refl _)
   | (with_reducible exact LeO.none _)
   | (with_reducible refine LeO.ite ?_ ?_)
   | (with_reducible refine LeO.bind ?_ (fun _=>?_))
   | exact spec_l1Num.mono _ _
   | exact spec_l3Text.mono _ _ _ _ _
   | exact spec_l4Names.mono _ _
   | exact LeO.none _
   | refine LeO.ite ?_ ?_
   | refine LeO.bind ?_ (fun _=>?_)
theorem spec_l4Field.L0 {P:Prop} (h:P:=by
  go_enter Tryz.func19,Tryz.ntmps19;go_wp2_with (first|((with_reducible refine gate_dst (N:=2) rfl ?_);refine box_event ?hg (N:=2) ?hd (cs:=#[.string aD,.int .i64 aA,.slice cK aN.length cL,.slice cH aQ.length cI,.string bB,.string bC,.string bD,.int .i64 aV,.int .i64 aY,.int .i64 bA,.bool aH,.int .i64 aI,.string aK,.string aM]) (t:=28) ?hr ?_;(case hd=>rfl);(case hg=>rfl);(case hr=>first|(go_simp;done)|(go_simp;rfl));intro Bf hg ER hbox hb;have nU:=am (hbox);have Nf:=am (bsz hg au59);have FB:=am (bsz hg au59);replace HB:=am (below_step au59 hb);clear hb hbox hg;obtain ⟨jQ,jR,jS,jT,CW,CX,CY,CZ,D1,D2,AC,AD,AE,AF,jU,jV,jW,jX,D3,D4,D5,D6,D7,D8,AG,AH,AI,AJ⟩:=blkc14 nU.out)|((with_reducible refine gate_callee (f:=40) rfl ?_);refine goesL_ (some 16) rfl rfl Tryz.func40 (by kernel_rfl) rfl #[.slice cH aQ.length cI] rfl au58 ?_;(with_reducible refine (spec_l4Names.calls k _ _ aQ Po _ ?aE ?aG A9.out).mono ?_);(case aE=>repeat (first|exact (Kd.C_below gB.out HB.out)|(with_reducible refine Kd.C_alloc ?_ _)|(with_reducible refine Kd.C_drewN ?_ _)|(with_reducible refine Kd.C_drew ?_)));(case aG=>exact gC.out);rintro e EX ⟨rfl,hb⟩;refine ⟨_,rfl,?_⟩;replace nU:=am (blk_below (g:=Bf) au78 hb);replace HB:=am (below_step au48 hb);(try clear hb)));go_ret2
  exact ax11):P:=h
theorem spec_l4Field.calls (k:Nat) (aD:ByteArray) (aA:Int) (cK:Option Addr) (cL:Nat) (aN:List (S68)) (cH:Option Addr) (cI:Nat) (aQ:List (S68)) (bB:ByteArray) (bC:ByteArray) (bD:ByteArray) (aV:Int) (aY:Int) (bA:Int) (aH:Bool) (aI:Int) (aK:ByteArray) (aM:ByteArray) (a1:ByteArray) (r1:ByteArray) (r2:Bool) (w:World) (gF:Kd.C k68 w cK aN.length aN) (gG:aN.length≤cL) (gH:Kd.C k68 w cH aQ.length aQ) (gI:aQ.length≤cI) (h:spec_l4Field.f k aD aA aN aQ bB bC bD aV aY bA aH aI aK aM a1=some (r1,r2)) :
  Calls Tryz.prog 19 #[.agg #[.string aD,.int .i64 aA,.slice cK aN.length cL,.slice cH aQ.length cI,.string bB,.string bC,.string bD,.int .i64 aV,.int .i64 aY,.int .i64 bA,.bool aH,.int .i64 aI,.string aK,.string aM],.string a1] w fun e w'=>e=.returned (.tuple #[.string r1,.bool r2])∧Below w.heap.size w w':=by
 have hu28:=Tryz.underlying28;have hu26:=Tryz.underlying26;have fJ:=am gF;have fK:=am gG;clear gF gG;have gB:=am gH;have gC:=am gI;clear gH gI;have HB:=am (Below.refl w.heap.size w);have H:(if a1.toList=([97,117,116,104,111,114,115]:List UInt8) then ((spec_l4Names.f k aN).bind fun Pn=>(some (Pn,true))) else (if a1.toList=([101,100,105,116,111,114,115]:List UInt8) then ((spec_l4Names.f k aQ).bind fun Po=>(some (Po,true))) else (if a1.toList=([116,105,116,108,101]:List UInt8) then (some (bB,true)) else (if a1.toList=([99,111,110,116,97,105,110,101,114]:List UInt8) then (some (bC,true)) else (if a1.toList=([112,117,98,108,105,115,104,101,114]:List UInt8) then (some (bD,true)) else (if a1.toList=([112,97,103,101,115]:List UInt8) then (some (aK,true)) else (if a1.toList=([100,97,116,101]:List UInt8) then (if aV=0 then (some ((⟨#[]⟩:ByteArray),true)) else ((spec_l3Text.f k aV aY bA aH).bind fun Pp=>(some (Pp,true)))) else (if a1.toList=([118,111,108,117,109,101]:List UInt8) then (if aI=0 then (some ((⟨#[]⟩:ByteArray),true)) else ((spec_l1Num.f k aI).bind fun Pq=>(some (Pq,true)))) else (some ((⟨#[]⟩:ByteArray),false))))))))))=some (r1,r2):=h;clear h;by_cases c3:a1.toList=([97,117,116,104,111,114,115]:List UInt8)
 ·
  rw [if_pos c3] at H;have c3b0:=qt c3;have c3b1:=bfz c3;clear c3;replace H:=obz H;obtain ⟨Pn,nE,H⟩:=H
  try dsimp only at H
  have A4:=am nE;clear nE;simp only [Option.some.injEq,Prod.mk.injEq] at H;obtain ⟨rfl,rfl⟩:=H;go_enter Tryz.func19,Tryz.ntmps19;go_wp2_with (first|((with_reducible refine gate_dst (N:=2) rfl ?_);refine box_event ?hg (N:=2) ?hd (cs:=#[.string aD,.int .i64 aA,.slice cK aN.length cL,.slice cH aQ.length cI,.string bB,.string bC,.string bD,.int .i64 aV,.int .i64 aY,.int .i64 bA,.bool aH,.int .i64 aI,.string aK,.string aM]) (t:=28) ?hr ?_;(case hd=>rfl);(case hg=>rfl);(case hr=>first|(go_simp;done)|(go_simp;rfl));intro Bf hg w5 hbox hb;have nU:=am (hbox);have Nf:=am (bsz hg au59);have FB:=am (bsz hg au59);replace HB:=am (below_step au59 hb);clear hb hbox hg;obtain ⟨Ub,Uc,Ud,a8J,a8K,a8L,a8M,a8N,a8O,a8P,a2N,a2O,a2P,a2Q,a8Q,Ue,Uf,a8R,a8S,a8T,a8U,a8V,a8W,a8X,a2R,a2S,a2T,a2U⟩:=blkc14 nU.out)|((with_reducible refine gate_callee (f:=40) rfl ?_);refine goesL_ (some 11) rfl rfl Tryz.func40 (by kernel_rfl) rfl #[.slice cK aN.length cL] rfl au58 ?_;(with_reducible refine (spec_l4Names.calls k _ _ aN Pn _ ?aE ?aG A4.out).mono ?_);(case aE=>repeat (first|exact (Kd.C_below fJ.out HB.out)|(with_reducible refine Kd.C_alloc ?_ _)|(with_reducible refine Kd.C_drewN ?_ _)|(with_reducible refine Kd.C_drew ?_)));(case aG=>exact fK.out);rintro e w7 ⟨rfl,hb⟩;refine ⟨_,rfl,?_⟩;replace nU:=am (blk_below (g:=Bf) au78 hb);replace HB:=am (below_step au48 hb);(try clear hb)));go_ret2;exact ax11
 ·
  rw [if_neg c3] at H;have c3b0:=qf c3;have c3b1:=bu c3;by_cases c8:a1.toList=([101,100,105,116,111,114,115]:List UInt8)
  ·
   rw [if_pos c8] at H;have c8b0:=qt c8;have c8b1:=bfz c8;clear c8;replace H:=obz H;obtain ⟨Po,qP,H⟩:=H
   try dsimp only at H
   have A9:=am qP;clear qP;simp only [Option.some.injEq,Prod.mk.injEq] at H;obtain ⟨rfl,rfl⟩:=H;exact spec_l4Field.L0
  ·
   rw [if_neg c8] at H;have c8b0:=qf c8;have c8b1:=bu c8;by_cases dE:a1.toList=([116,105,116,108,101]:List UInt8)
   · rw [if_pos dE] at H;have c13b0:=qt dE;have c13b1:=bfz dE;clear dE;simp only [Option.some.injEq,Prod.mk.injEq] at H;obtain ⟨rfl,rfl⟩:=H;exact spec_l4Field.L0
   ·
    rw [if_neg dE] at H;have c13b0:=qf dE;have c13b1:=bu dE;by_cases dB:a1.toList=([99,111,110,116,97,105,110,101,114]:List UInt8)
    · rw [if_pos dB] at H;have c16b0:=qt dB;have c16b1:=bfz dB;clear dB;simp only [Option.some.injEq,Prod.mk.injEq] at H;obtain ⟨rfl,rfl⟩:=H;exact spec_l4Field.L0
    ·
     rw [if_neg dB] at H;have c16b0:=qf dB;have c16b1:=bu dB;by_cases fO:a1.toList=([112,117,98,108,105,115,104,101,114]:List UInt8)
     · rw [if_pos fO] at H;have c19b0:=qt fO;have c19b1:=bfz fO;clear fO;simp only [Option.some.injEq,Prod.mk.injEq] at H;obtain ⟨rfl,rfl⟩:=H;exact spec_l4Field.L0
     ·
      rw [if_neg fO] at H;have c19b0:=qf fO;have c19b1:=bu fO;by_cases fP:a1.toList=([112,97,103,101,115]:List UInt8)
      · rw [if_pos fP] at H;have c22b0:=qt fP;have c22b1:=bfz fP;clear fP;simp only [Option.some.injEq,Prod.mk.injEq] at H;obtain ⟨rfl,rfl⟩:=H;exact spec_l4Field.L0
      ·
       rw [if_neg fP] at H;have c22b0:=qf fP;have c22b1:=bu fP;by_cases pR:a1.toList=([100,97,116,101]:List UInt8)
       ·
        rw [if_pos pR] at H;have c25b0:=qt pR;have c25b1:=bfz pR;clear pR;by_cases kH:aV=0
        · rw [if_pos kH] at H;have c26b0:=qt kH;have c26b1:=bfz kH;clear kH;simp only [Option.some.injEq,Prod.mk.injEq] at H;obtain ⟨rfl,rfl⟩:=H;exact spec_l4Field.L0
        ·
         rw [if_neg kH] at H;have c26b0:=qf kH;have c26b1:=bu kH;replace H:=obz H;obtain ⟨Pp,Pm,H⟩:=H
         try dsimp only at H
         have A29:=am Pm;clear Pm;simp only [Option.some.injEq,Prod.mk.injEq] at H;obtain ⟨rfl,rfl⟩:=H;go_enter Tryz.func19,Tryz.ntmps19;go_wp2_with (first|((with_reducible refine gate_dst (N:=2) rfl ?_);refine box_event ?hg (N:=2) ?hd (cs:=#[.string aD,.int .i64 aA,.slice cK aN.length cL,.slice cH aQ.length cI,.string bB,.string bC,.string bD,.int .i64 aV,.int .i64 aY,.int .i64 bA,.bool aH,.int .i64 aI,.string aK,.string aM]) (t:=28) ?hr ?_;(case hd=>rfl);(case hg=>rfl);(case hr=>first|(go_simp;done)|(go_simp;rfl));intro Bf hg w30 hbox hb;have nU:=am (hbox);have Nf:=am (bsz hg au59);have FB:=am (bsz hg au59);replace HB:=am (below_step au59 hb);clear hb hbox hg;obtain ⟨BR,BS,BU,BV,Ml,Mm,Mn,Mo,Mp,Mq,II,IJ,IK,IL,BW,BX,BZ,C0,Mr,Ms,Mt,Mu,Mv,Mw,IM,IP,IQ,IR⟩:=blkc14 nU.out)|((with_reducible refine gate_callee (f:=41) rfl ?_);refine goesL_ (some 41) rfl rfl Tryz.func41 (by kernel_rfl) rfl #[.agg #[.int .i64 aV,.int .i64 aY,.int .i64 bA,.bool aH]] rfl au58 ?_;(with_reducible refine (spec_l3Text.calls k aV aY bA aH Pp _ A29.out).mono ?_);rintro e w32 ⟨rfl,hb⟩;refine ⟨_,rfl,?_⟩;replace nU:=am (blk_below (g:=Bf) au78 hb);replace HB:=am (below_step au48 hb);(try clear hb)));go_ret2;exact ax11
       ·
        rw [if_neg pR] at H;have c25b0:=qf pR;have c25b1:=bu pR;by_cases Pr:a1.toList=([118,111,108,117,109,101]:List UInt8)
        ·
         rw [if_pos Pr] at H;have c33b0:=qt Pr;have c33b1:=bfz Pr;clear Pr;by_cases EB:aI=0
         · rw [if_pos EB] at H;have c34b0:=qt EB;have c34b1:=bfz EB;clear EB;simp only [Option.some.injEq,Prod.mk.injEq] at H;obtain ⟨rfl,rfl⟩:=H;exact spec_l4Field.L0
         ·
          rw [if_neg EB] at H;have c34b0:=qf EB;have c34b1:=bu EB;replace H:=obz H;obtain ⟨Pq,EY,H⟩:=H
          try dsimp only at H
          have K2:=am EY;clear EY;simp only [Option.some.injEq,Prod.mk.injEq] at H;obtain ⟨rfl,rfl⟩:=H;go_enter Tryz.func19,Tryz.ntmps19;go_wp2_with (first|((with_reducible refine gate_dst (N:=2) rfl ?_);refine box_event ?hg (N:=2) ?hd (cs:=#[.string aD,.int .i64 aA,.slice cK aN.length cL,.slice cH aQ.length cI,.string bB,.string bC,.string bD,.int .i64 aV,.int .i64 aY,.int .i64 bA,.bool aH,.int .i64 aI,.string aK,.string aM]) (t:=28) ?hr ?_;(case hd=>rfl);(case hg=>rfl);(case hr=>first|(go_simp;done)|(go_simp;rfl));intro Bf hg Xg hbox hb;have nU:=am (hbox);have Nf:=am (bsz hg au59);have FB:=am (bsz hg au59);replace HB:=am (below_step au59 hb);clear hb hbox hg;obtain ⟨Yd,Ye,Yf,Yg,aEk,aEl,aEm,aEn,aEo,aEp,amU,amV,amW,amX,Yh,Yi,Yj,Yk,aEq,aEr,aEs,aEt,aEu,aEv,amY,amZ,anA,anB⟩:=blkc14 nU.out)|((with_reducible refine gate_callee (f:=42) rfl ?_);refine goesL_ (some 49) rfl rfl Tryz.func42 (by kernel_rfl) rfl #[.int .i64 aI] rfl au58 ?_;(with_reducible refine (spec_l1Num.calls k aI Pq _ K2.out).mono ?_);rintro e w40 ⟨rfl,hb⟩;refine ⟨_,rfl,?_⟩;replace nU:=am (blk_below (g:=Bf) au78 hb);replace HB:=am (below_step au48 hb);(try clear hb)));go_ret2;exact ax11
        · rw [if_neg Pr] at H;have c33b0:=qf Pr;have c33b1:=bu Pr;simp only [Option.some.injEq,Prod.mk.injEq] at H;obtain ⟨rfl,rfl⟩:=H;go_enter Tryz.func19,Tryz.ntmps19;go_wp2_with (first|((with_reducible refine gate_dst (N:=2) rfl ?_);refine box_event ?hg (N:=2) ?hd (cs:=#[.string aD,.int .i64 aA,.slice cK aN.length cL,.slice cH aQ.length cI,.string bB,.string bC,.string bD,.int .i64 aV,.int .i64 aY,.int .i64 bA,.bool aH,.int .i64 aI,.string aK,.string aM]) (t:=28) ?hr ?_;(case hd=>rfl);(case hg=>rfl);(case hr=>first|(go_simp;done)|(go_simp;rfl));intro Bf hg w41 hbox hb;have nU:=am (hbox);have Nf:=am (bsz hg au59);have FB:=am (bsz hg au59);replace HB:=am (below_step au59 hb);clear hb hbox hg));go_ret2;exact ax11
def impl_fieldText.f (k:Nat) (aD:ByteArray) (aA:Int) (aN:List (S68)) (aQ:List (S68)) (bB:ByteArray) (bC:ByteArray) (bD:ByteArray) (aV:Int) (aY:Int) (bA:Int) (aH:Bool) (aI:Int) (aK:ByteArray) (aM:ByteArray) (a1:ByteArray):Option (ByteArray):=if a1.toList=([97,117,116,104,111,114,115]:List UInt8) then ((impl_namesText.f k aN).bind fun Ps=>(some Ps)) else (if a1.toList=([101,100,105,116,111,114,115]:List UInt8) then ((impl_namesText.f k aQ).bind fun Pt=>(some Pt)) else (if a1.toList=([116,105,116,108,101]:List UInt8) then (some bB) else (if a1.toList=([99,111,110,116,97,105,110,101,114]:List UInt8) then (some bC) else (if a1.toList=([112,117,98,108,105,115,104,101,114]:List UInt8) then (some bD) else (if a1.toList=([100,97,116,101]:List UInt8) then (if aV>0 then ((impl_formatDate.f k aV aY bA aH).bind fun Pu=>(some Pu)) else (some (⟨#[]⟩:ByteArray))) else (if a1.toList=([118,111,108,117,109,101]:List UInt8) then (if aI>0 then ((strconv_Itoa.f aI).bind fun Pv=>(some Pv)) else (some (⟨#[]⟩:ByteArray))) else (if a1.toList=([112,97,103,101,115]:List UInt8) then (some aK) else (some (⟨#[]⟩:ByteArray)))))))))
theorem impl_fieldText.mono:∀ a0 a1 a2 a3 a4 a5 a6 a7 a8 a9 hJ hU hV hY nP k,LeO (impl_fieldText.f k a0 a1 a2 a3 a4 a5 a6 a7 a8 a9 hJ hU hV hY nP) (impl_fieldText.f (k+1) a0 a1 a2 a3 a4 a5 a6 a7 a8 a9 hJ hU hV hY nP):=by
 intro a0 a1 a2 a3 a4 a5 a6 a7 a8 a9 hJ hU hV hY nP k;unfold impl_fieldText.f
 repeat' first
   | (with_reducible exact impl_formatDate.mono _ _ _ _ _)
   | (with_reducible exact impl_namesText.mono _ _)
   | (with_reducible exact LeO.refl _)
   | (with_reducible exact LeO.none _)
   | (with_reducible refine LeO.ite ?_ ?_)
   | (with_reducible refine LeO.bind ?_ (fun _=>?_))
   | exact impl_formatDate.mono _ _ _ _ _
   | exact impl_namesText.mono _ _
   | exact LeO.none _
   | refine LeO.ite ?_ ?_
   | refine LeO.bind ?_ (fun _=>?_)
theorem impl_fieldText.L0 {P:Prop} (h:P:=by
  go_enter Tryz.func34,Tryz.ntmps34;go_wp2_with (first|((with_reducible refine gate_dst (N:=2) rfl ?_);refine box_event ?hg (N:=2) ?hd (cs:=#[.string aD,.int .i64 aA,.slice cK aN.length cL,.slice cH aQ.length cI,.string bB,.string bC,.string bD,.int .i64 aV,.int .i64 aY,.int .i64 bA,.bool aH,.int .i64 aI,.string aK,.string aM]) (t:=28) ?hr ?_;(case hd=>rfl);(case hg=>rfl);(case hr=>first|(go_simp;done)|(go_simp;rfl));intro Bg hg Un hbox hb;have nV:=am (hbox);have Ng:=am (bsz hg au59);have FC:=am (bsz hg au59);replace HB:=am (below_step au59 hb);clear hb hbox hg;obtain ⟨Cc,Cd,Ce,Cf,RU,RV,RX,RY,RZ,S0,ON,OO,OP,OQ,Cg,Ch,Ci,Cj,S1,S3,S4,S5,S6,S7,OS,OT,OU,OV⟩:=blkc14 nV.out)|((with_reducible refine gate_callee (f:=56) rfl ?_);refine goesL_ (some 36) rfl rfl Tryz.func56 (by kernel_rfl) rfl #[.agg #[.int .i64 aV,.int .i64 aY,.int .i64 bA,.bool aH]] rfl au58 ?_;(with_reducible refine (impl_formatDate.calls (hG:=au6) k aV aY bA aH Pu _ XO.out).mono ?_);rintro e w27 ⟨rfl,hb⟩;refine ⟨_,rfl,?_⟩;replace nV:=am (blk_below (g:=Bg) au79 hb);replace HB:=am (below_step au49 hb);(try clear hb)));go_ret
  exact ax12):P:=h
theorem impl_fieldText.calls (k:Nat) (aD:ByteArray) (aA:Int) (cK:Option Addr) (cL:Nat) (aN:List (S68)) (cH:Option Addr) (cI:Nat) (aQ:List (S68)) (bB:ByteArray) (bC:ByteArray) (bD:ByteArray) (aV:Int) (aY:Int) (bA:Int) (aH:Bool) (aI:Int) (aK:ByteArray) (aM:ByteArray) (a1:ByteArray) (r:ByteArray) (w:World) {gF2 gF3:Bool} (hG:GL true gF2 gF3 w) (gF:Kd.C k68 w cK aN.length aN) (gG:aN.length≤cL) (gH:Kd.C k68 w cH aQ.length aQ) (gI:aQ.length≤cI) (h:impl_fieldText.f k aD aA aN aQ bB bC bD aV aY bA aH aI aK aM a1=some r) :
  Calls Tryz.prog 34 #[.agg #[.string aD,.int .i64 aA,.slice cK aN.length cL,.slice cH aQ.length cI,.string bB,.string bC,.string bD,.int .i64 aV,.int .i64 aY,.int .i64 bA,.bool aH,.int .i64 aI,.string aK,.string aM],.string a1] w fun e w'=>e=.returned (.string r)∧Below w.heap.size w w':=by
 have HG:=am hG;clear hG;have hu28:=Tryz.underlying28;have hu26:=Tryz.underlying26;have fJ:=am gF;have fK:=am gG;clear gF gG;have gB:=am gH;have gC:=am gI;clear gH gI;have HB:=am (Below.refl w.heap.size w);have H:(if a1.toList=([97,117,116,104,111,114,115]:List UInt8) then ((impl_namesText.f k aN).bind fun Ps=>(some Ps)) else (if a1.toList=([101,100,105,116,111,114,115]:List UInt8) then ((impl_namesText.f k aQ).bind fun Pt=>(some Pt)) else (if a1.toList=([116,105,116,108,101]:List UInt8) then (some bB) else (if a1.toList=([99,111,110,116,97,105,110,101,114]:List UInt8) then (some bC) else (if a1.toList=([112,117,98,108,105,115,104,101,114]:List UInt8) then (some bD) else (if a1.toList=([100,97,116,101]:List UInt8) then (if aV>0 then ((impl_formatDate.f k aV aY bA aH).bind fun Pu=>(some Pu)) else (some (⟨#[]⟩:ByteArray))) else (if a1.toList=([118,111,108,117,109,101]:List UInt8) then (if aI>0 then ((strconv_Itoa.f aI).bind fun Pv=>(some Pv)) else (some (⟨#[]⟩:ByteArray))) else (if a1.toList=([112,97,103,101,115]:List UInt8) then (some aK) else (some (⟨#[]⟩:ByteArray))))))))))=some r:=h;clear h;by_cases c3:a1.toList=([97,117,116,104,111,114,115]:List UInt8)
 ·
  rw [if_pos c3] at H;have c3b0:=qt c3;have c3b1:=bfz c3;clear c3;replace H:=obz H;obtain ⟨Ps,nE,H⟩:=H
  try dsimp only at H
  have A4:=am nE;clear nE;obtain rfl:=ojz H;go_enter Tryz.func34,Tryz.ntmps34;go_wp2_with (first|((with_reducible refine gate_dst (N:=2) rfl ?_);refine box_event ?hg (N:=2) ?hd (cs:=#[.string aD,.int .i64 aA,.slice cK aN.length cL,.slice cH aQ.length cI,.string bB,.string bC,.string bD,.int .i64 aV,.int .i64 aY,.int .i64 bA,.bool aH,.int .i64 aI,.string aK,.string aM]) (t:=28) ?hr ?_;(case hd=>rfl);(case hg=>rfl);(case hr=>first|(go_simp;done)|(go_simp;rfl));intro Bg hg w5 hbox hb;have nV:=am (hbox);have Ng:=am (bsz hg au59);have FC:=am (bsz hg au59);replace HB:=am (below_step au59 hb);clear hb hbox hg;obtain ⟨Ub,Uc,Ud,a8J,a8K,a8L,a8M,a8N,a8O,a8P,a2N,a2O,a2P,a2Q,a8Q,Ue,Uf,a8R,a8S,a8T,a8U,a8V,a8W,a8X,a2R,a2S,a2T,a2U⟩:=blkc14 nV.out)|((with_reducible refine gate_callee (f:=55) rfl ?_);refine goesL_ (some 10) rfl rfl Tryz.func55 (by kernel_rfl) rfl #[.slice cK aN.length cL] rfl au58 ?_;(with_reducible refine (impl_namesText.calls k _ _ aN Ps _ ?aE ?aG A4.out).mono ?_);(case aE=>repeat (first|exact (Kd.C_below fJ.out HB.out)|(with_reducible refine Kd.C_alloc ?_ _)|(with_reducible refine Kd.C_drewN ?_ _)|(with_reducible refine Kd.C_drew ?_)));(case aG=>exact fK.out);rintro e w7 ⟨rfl,hb⟩;refine ⟨_,rfl,?_⟩;replace nV:=am (blk_below (g:=Bg) au79 hb);replace HB:=am (below_step au49 hb);(try clear hb)));go_ret;exact ax12
 ·
  rw [if_neg c3] at H;have c3b0:=qf c3;have c3b1:=bu c3;by_cases c8:a1.toList=([101,100,105,116,111,114,115]:List UInt8)
  ·
   rw [if_pos c8] at H;have c8b0:=qt c8;have c8b1:=bfz c8;clear c8;replace H:=obz H;obtain ⟨Pt,qP,H⟩:=H
   try dsimp only at H
   have A9:=am qP;clear qP;obtain rfl:=ojz H;go_enter Tryz.func34,Tryz.ntmps34;go_wp2_with (first|((with_reducible refine gate_dst (N:=2) rfl ?_);refine box_event ?hg (N:=2) ?hd (cs:=#[.string aD,.int .i64 aA,.slice cK aN.length cL,.slice cH aQ.length cI,.string bB,.string bC,.string bD,.int .i64 aV,.int .i64 aY,.int .i64 bA,.bool aH,.int .i64 aI,.string aK,.string aM]) (t:=28) ?hr ?_;(case hd=>rfl);(case hg=>rfl);(case hr=>first|(go_simp;done)|(go_simp;rfl));intro Bg hg ER hbox hb;have nV:=am (hbox);have Ng:=am (bsz hg au59);have FC:=am (bsz hg au59);replace HB:=am (below_step au59 hb);clear hb hbox hg;obtain ⟨jQ,jR,jS,jT,CW,CX,CY,CZ,D1,D2,AC,AD,AE,AF,jU,jV,jW,jX,D3,D4,D5,D6,D7,D8,AG,AH,AI,AJ⟩:=blkc14 nV.out)|((with_reducible refine gate_callee (f:=55) rfl ?_);refine goesL_ (some 15) rfl rfl Tryz.func55 (by kernel_rfl) rfl #[.slice cH aQ.length cI] rfl au58 ?_;(with_reducible refine (impl_namesText.calls k _ _ aQ Pt _ ?aE ?aG A9.out).mono ?_);(case aE=>repeat (first|exact (Kd.C_below gB.out HB.out)|(with_reducible refine Kd.C_alloc ?_ _)|(with_reducible refine Kd.C_drewN ?_ _)|(with_reducible refine Kd.C_drew ?_)));(case aG=>exact gC.out);rintro e EX ⟨rfl,hb⟩;refine ⟨_,rfl,?_⟩;replace nV:=am (blk_below (g:=Bg) au79 hb);replace HB:=am (below_step au49 hb);(try clear hb)));go_ret;exact ax12
  ·
   rw [if_neg c8] at H;have c8b0:=qf c8;have c8b1:=bu c8;by_cases dE:a1.toList=([116,105,116,108,101]:List UInt8)
   · rw [if_pos dE] at H;have c13b0:=qt dE;have c13b1:=bfz dE;clear dE;obtain rfl:=ojz H;exact impl_fieldText.L0
   ·
    rw [if_neg dE] at H;have c13b0:=qf dE;have c13b1:=bu dE;by_cases dB:a1.toList=([99,111,110,116,97,105,110,101,114]:List UInt8)
    · rw [if_pos dB] at H;have c16b0:=qt dB;have c16b1:=bfz dB;clear dB;obtain rfl:=ojz H;exact impl_fieldText.L0
    ·
     rw [if_neg dB] at H;have c16b0:=qf dB;have c16b1:=bu dB;by_cases fO:a1.toList=([112,117,98,108,105,115,104,101,114]:List UInt8)
     · rw [if_pos fO] at H;have c19b0:=qt fO;have c19b1:=bfz fO;clear fO;obtain rfl:=ojz H;exact impl_fieldText.L0
     ·
      rw [if_neg fO] at H;have c19b0:=qf fO;have c19b1:=bu fO;by_cases fP:a1.toList=([100,97,116,101]:List UInt8)
      ·
       rw [if_pos fP] at H;have c22b0:=qt fP;have c22b1:=bfz fP;clear fP;by_cases kG:aV>0
       ·
        rw [if_pos kG] at H;have c23b0:=dt kG;clear kG;replace H:=obz H;obtain ⟨Pu,Pw,H⟩:=H
        try dsimp only at H
        have XO:=am Pw;clear Pw;obtain rfl:=ojz H;exact impl_fieldText.L0
       · rw [if_neg kG] at H;have c23b0:=df kG;clear kG;obtain rfl:=ojz H;exact impl_fieldText.L0
      ·
       rw [if_neg fP] at H;have c22b0:=qf fP;have c22b1:=bu fP;by_cases mQ:a1.toList=([118,111,108,117,109,101]:List UInt8)
       ·
        rw [if_pos mQ] at H;have c30b0:=qt mQ;have c30b1:=bfz mQ;clear mQ;by_cases kB:aI>0
        ·
         rw [if_pos kB] at H;have c31b0:=dt kB;clear kB;replace H:=obz H;obtain ⟨Pv,NS,H⟩:=H
         try dsimp only at H
         have A32:=am NS;clear NS;obtain rfl:=ojz H;go_enter Tryz.func34,Tryz.ntmps34;go_wp2_with (first|((with_reducible refine gate_dst (N:=2) rfl ?_);refine box_event ?hg (N:=2) ?hd (cs:=#[.string aD,.int .i64 aA,.slice cK aN.length cL,.slice cH aQ.length cI,.string bB,.string bC,.string bD,.int .i64 aV,.int .i64 aY,.int .i64 bA,.bool aH,.int .i64 aI,.string aK,.string aM]) (t:=28) ?hr ?_;(case hd=>rfl);(case hg=>rfl);(case hr=>first|(go_simp;done)|(go_simp;rfl));intro Bg hg w33 hbox hb;have nV:=am (hbox);have Ng:=am (bsz hg au59);have FC:=am (bsz hg au59);replace HB:=am (below_step au59 hb);clear hb hbox hg;obtain ⟨C1,C2,C3,C4,LV,LW,LX,LY,LZ,M0,Ip,Iq,Ir,It,C5,C6,C7,C8,M1,M2,M3,M4,M5,M6,Iu,Iv,Iw,Ix⟩:=blkc14 nV.out)|((with_reducible refine gate_callee (f:=57) rfl ?_);refine goesL_ (some 44) rfl rfl Tryz.func57 (by kernel_rfl) rfl #[.int .i64 aI] rfl au58 ?_;(with_reducible refine (strconv_Itoa.calls (hG:=au6) aI Pv _ A32.out).mono ?_);rintro e Xf ⟨rfl,hb⟩;refine ⟨_,rfl,?_⟩;replace nV:=am (blk_below (g:=Bg) au79 hb);replace HB:=am (below_step au49 hb);(try clear hb)));go_ret;exact ax12
        · rw [if_neg kB] at H;have c31b0:=df kB;clear kB;obtain rfl:=ojz H;exact impl_fieldText.L0
       ·
        rw [if_neg mQ] at H;have c30b0:=qf mQ;have c30b1:=bu mQ;by_cases kW:a1.toList=([112,97,103,101,115]:List UInt8)
        · rw [if_pos kW] at H;have c38b0:=qt kW;have c38b1:=bfz kW;clear kW;obtain rfl:=ojz H;exact impl_fieldText.L0
        · rw [if_neg kW] at H;have c38b0:=qf kW;have c38b1:=bu kW;obtain rfl:=ojz H;go_enter Tryz.func34,Tryz.ntmps34;go_wp2_with (first|((with_reducible refine gate_dst (N:=2) rfl ?_);refine box_event ?hg (N:=2) ?hd (cs:=#[.string aD,.int .i64 aA,.slice cK aN.length cL,.slice cH aQ.length cI,.string bB,.string bC,.string bD,.int .i64 aV,.int .i64 aY,.int .i64 bA,.bool aH,.int .i64 aI,.string aK,.string aM]) (t:=28) ?hr ?_;(case hd=>rfl);(case hg=>rfl);(case hr=>first|(go_simp;done)|(go_simp;rfl));intro Bg hg w41 hbox hb;have nV:=am (hbox);have Ng:=am (bsz hg au59);have FC:=am (bsz hg au59);replace HB:=am (below_step au59 hb);clear hb hbox hg));go_ret;exact ax12
end Go.Proofs.YtcbhlghofihjcaaGreatDoor.G

namespace Go.Proofs.YtcbhlghofihjcaaGreatDoor.G
open Go.RowKit Go.Proofs.YtcbhlghofihjcaaGreatDoorW.PrintWords Go.Proofs.YtcbhlghofihjcaaGreatDoorW.PrintLast Go.Proofs.YtcbhlghofihjcaaGreatDoor.B Go.Proofs.YtcbhlghofihjcaaGreatDoor.Opn
set_option linter.unusedVariables false
set_option linter.unusedSimpArgs false
def fld8:List (List UInt8):=[[97,117,116,104,111,114,115],[101,100,105,116,111,114,115],[116,105,116,108,101],[99,111,110,116,97,105,110,101,114],[112,117,98,108,105,115,104,101,114],[100,97,116,101],[118,111,108,117,109,101],[112,97,103,101,115]]
theorem n_ok {l:List S68} (h:listD l=true) (hb:∀ x∈l,bulkN x.f0 x.f1 x.f2 x.f3≤1048576):NOk l:=⟨(list_good h).1,(list_good h).2,hb⟩
end Go.Proofs.YtcbhlghofihjcaaGreatDoor.G

namespace Go.Proofs.YtcbhlghofihjcaaGreatDoor.G
open Go.RowKit Go.Proofs.YtcbhlghofihjcaaGreatDoorW.PrintWords Go.Proofs.YtcbhlghofihjcaaGreatDoorW.PrintLast Go.Proofs.YtcbhlghofihjcaaGreatDoorW.PrintMore
open Go.Proofs.YtcbhlghofihjcaaGreatDoor.Gl Go.Proofs.YtcbhlghofihjcaaGreatDoor.Ext
attribute [local go_sem] max2_int min2_int max_two min_two max_three min_three max_four min_four   -- for this text's walks alone
set_option linter.unusedVariables false
set_option linter.unusedSimpArgs false
def spec_l4Fields.f :Option (List ByteArray):=some (([(⟨#[97,117,116,104,111,114,115]⟩:ByteArray),(⟨#[101,100,105,116,111,114,115]⟩:ByteArray),(⟨#[116,105,116,108,101]⟩:ByteArray),(⟨#[99,111,110,116,97,105,110,101,114]⟩:ByteArray),(⟨#[112,117,98,108,105,115,104,101,114]⟩:ByteArray),(⟨#[100,97,116,101]⟩:ByteArray),(⟨#[118,111,108,117,109,101]⟩:ByteArray),(⟨#[112,97,103,101,115]⟩:ByteArray)]:List ByteArray))
theorem spec_l4Fields.calls  (r:List ByteArray) (w:World) (h:spec_l4Fields.f =some r) :
  Calls Tryz.prog 18 #[] w fun e w'=>∃ gO:Value,e=.returned (gO)∧Kd.R Kd.string 9 w' w.heap.size (fun _=>True) gO r∧Below w.heap.size w w':=by
 have HB:=am (Below.refl w.heap.size w);have H:(some (([(⟨#[97,117,116,104,111,114,115]⟩:ByteArray),(⟨#[101,100,105,116,111,114,115]⟩:ByteArray),(⟨#[116,105,116,108,101]⟩:ByteArray),(⟨#[99,111,110,116,97,105,110,101,114]⟩:ByteArray),(⟨#[112,117,98,108,105,115,104,101,114]⟩:ByteArray),(⟨#[100,97,116,101]⟩:ByteArray),(⟨#[118,111,108,117,109,101]⟩:ByteArray),(⟨#[112,97,103,101,115]⟩:ByteArray)]:List ByteArray)))=some r:=h;clear h
 obtain ⟨anC,Kk⟩:∃ y_:List ByteArray,y_=(([(⟨#[97,117,116,104,111,114,115]⟩:ByteArray),(⟨#[101,100,105,116,111,114,115]⟩:ByteArray),(⟨#[116,105,116,108,101]⟩:ByteArray),(⟨#[99,111,110,116,97,105,110,101,114]⟩:ByteArray),(⟨#[112,117,98,108,105,115,104,101,114]⟩:ByteArray),(⟨#[100,97,116,101]⟩:ByteArray),(⟨#[118,111,108,117,109,101]⟩:ByteArray),(⟨#[112,97,103,101,115]⟩:ByteArray)]:List ByteArray)):=⟨_,rfl⟩
 replace H:(some anC)=some r:=by first|(rw [Kk];with_reducible exact H)|(have H2_:=(Option.bind_some _ _).symm.trans H;rw [Kk];with_reducible exact H2_)|(have H2_:=(Option.bind_some _ _).symm.trans H;with_reducible exact H2_)|with_reducible exact H|(rw [Kk];exact H)|exact H
 have XP:=am Kk;clear Kk;obtain rfl:=ojz H;go_enter Tryz.func18,Tryz.ntmps18;go_wp2_with (first|((with_reducible refine gate_dst (N:=1) rfl ?_);refine Kd.R_lit Kd.string _ 9 ?hg (N:=1) ?hd (xs:=([(⟨#[97,117,116,104,111,114,115]⟩:ByteArray),(⟨#[101,100,105,116,111,114,115]⟩:ByteArray),(⟨#[116,105,116,108,101]⟩:ByteArray),(⟨#[99,111,110,116,97,105,110,101,114]⟩:ByteArray),(⟨#[112,117,98,108,105,115,104,101,114]⟩:ByteArray),(⟨#[100,97,116,101]⟩:ByteArray),(⟨#[118,111,108,117,109,101]⟩:ByteArray),(⟨#[112,97,103,101,115]⟩:ByteArray)]:List ByteArray)) (inner:=[.string (⟨#[97,117,116,104,111,114,115]⟩:ByteArray),.string (⟨#[101,100,105,116,111,114,115]⟩:ByteArray),.string (⟨#[116,105,116,108,101]⟩:ByteArray),.string (⟨#[99,111,110,116,97,105,110,101,114]⟩:ByteArray),.string (⟨#[112,117,98,108,105,115,104,101,114]⟩:ByteArray),.string (⟨#[100,97,116,101]⟩:ByteArray),.string (⟨#[118,111,108,117,109,101]⟩:ByteArray),.string (⟨#[112,97,103,101,115]⟩:ByteArray)]) (ok:=fun _=>True) (okp:=fun _=>True) ?hr ?hp (fun _ hk=>hk) trivial (Below.refl _ _) (Nat.le_refl _) (by simp) ?_;(case hd=>rfl);(case hg=>rfl);(case hr=>first|(go_simp;done)|(go_simp;rfl));(case hp=>exact (Reps.one (show Kd.M Kd.string _ _ _ (⟨#[97,117,116,104,111,114,115]⟩:ByteArray) [.string (⟨#[97,117,116,104,111,114,115]⟩:ByteArray)] from rfl) (Reps.one (show Kd.M Kd.string _ _ _ (⟨#[101,100,105,116,111,114,115]⟩:ByteArray) [.string (⟨#[101,100,105,116,111,114,115]⟩:ByteArray)] from rfl) (Reps.one (show Kd.M Kd.string _ _ _ (⟨#[116,105,116,108,101]⟩:ByteArray) [.string (⟨#[116,105,116,108,101]⟩:ByteArray)] from rfl) (Reps.one (show Kd.M Kd.string _ _ _ (⟨#[99,111,110,116,97,105,110,101,114]⟩:ByteArray) [.string (⟨#[99,111,110,116,97,105,110,101,114]⟩:ByteArray)] from rfl) (Reps.one (show Kd.M Kd.string _ _ _ (⟨#[112,117,98,108,105,115,104,101,114]⟩:ByteArray) [.string (⟨#[112,117,98,108,105,115,104,101,114]⟩:ByteArray)] from rfl) (Reps.one (show Kd.M Kd.string _ _ _ (⟨#[100,97,116,101]⟩:ByteArray) [.string (⟨#[100,97,116,101]⟩:ByteArray)] from rfl) (Reps.one (show Kd.M Kd.string _ _ _ (⟨#[118,111,108,117,109,101]⟩:ByteArray) [.string (⟨#[118,111,108,117,109,101]⟩:ByteArray)] from rfl) (Reps.one (show Kd.M Kd.string _ _ _ (⟨#[112,97,103,101,115]⟩:ByteArray) [.string (⟨#[112,97,103,101,115]⟩:ByteArray)] from rfl) (Reps.none _ _))))))))));intro aN7 w1 ho2 hb hg_ hnew_;clear hg_ hnew_;(first|rw [← XP.out] at ho2|(simp only [Int.reduceToNat] at ho2;rw [← XP.out] at ho2));have acC:=am (Kd.R_lower ho2 (below_size au59));replace HB:=am (below_step au59 hb);clear hb ho2));go_ret;exact ⟨_,by first|rfl|(simp [errW_none,errW_some] <;> rfl)|(simp [*,errW_none,errW_some] <;> rfl),by (with_reducible repeat (first|apply Kd.R_alloc|apply Kd.R_drewN|apply Kd.R_drew));exact acC.out,by repeat (first|(with_reducible first|exact HB.out|apply below_alloc|apply pw_below_drewN|apply below_drew1)|exact HB.out)⟩
end Go.Proofs.YtcbhlghofihjcaaGreatDoor.G
