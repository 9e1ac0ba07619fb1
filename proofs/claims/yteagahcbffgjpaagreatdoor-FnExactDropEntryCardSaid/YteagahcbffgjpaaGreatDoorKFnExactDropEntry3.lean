/- Texts of this session for the law FnExactDropEntry, put together by a program (merge.py): each ends with its namespace; conditions stand with each theorem. -/
import Derived.Test.YteagahcbffgjpaaGreatDoorKFnExactDropEntry2
import Derived.Lib.SliceRun
import Derived.Shelf.RegionOpenPlain
import Derived.Shelf.Small.Strs
import Derived.Shelf.Strings.Search1
import Derived.Shelf.Strings.Search2
import Derived.Shelf.Strings.Search3
import Derived.Shelf.Strings.Count
import Derived.Shelf.Strings.Split
import Derived.Shelf.LaysM
import Derived.Shelf.Strings.SplitShaped
import Derived.Test.YteagahcbffgjpaaGreatDoorProg
namespace Go.Proofs.YteagahcbffgjpaaGreatDoor.G
open Go.RowKit Go.Proofs.YteagahcbffgjpaaGreatDoorW.PrintWords Go.Proofs.YteagahcbffgjpaaGreatDoorW.PrintLast Go.Proofs.YteagahcbffgjpaaGreatDoorW.PrintMore Go.Proofs.YteagahcbffgjpaaGreatDoor.B
set_option linter.unusedVariables false
set_option linter.unusedSimpArgs false
def cellsE (x:S42) (vA vE:Value):List Value:=[.string x.f0,.int .i64 x.f1,vA,vE,.string x.f4,.string x.f5,.string x.f6,.int .i64 x.f7.f0,.int .i64 x.f7.f1,.int .i64 x.f7.f2,.bool x.f7.f3,.int .i64 x.f8,.string x.f9,.string x.f10]
def DM (w:World) (base:Nat) (ok:Nat→Prop) (x:S42) (cs:List Value):Prop :=
  ∃ (f:Nat→Bool) (vA vE:Value),cs=cellsE x vA vE∧Kd.S k69 69 w base (fun k=>ok k∧f k=true) vA x.f2∧Kd.S k69 69 w base (fun k=>ok k∧f k=false) vE x.f3
theorem DM_M {w:World} {base:Nat} {ok:Nat→Prop} {x:S42} {cs:List Value} (h:DM w base ok x cs):Kd.M k42 w base ok x cs:=by
  obtain ⟨f,vA,vE,rfl,hA,hE⟩:=h;exact ⟨[_],_,rfl,rfl,[_],_,rfl,rfl,[_],_,rfl,⟨vA,rfl,Kd.R_mono (Kd.S_R hA) (fun _ h=>h.1)⟩,[_],_,rfl,⟨vE,rfl,Kd.R_mono (Kd.S_R hE) (fun _ h=>h.1)⟩,[_],_,rfl,rfl,[_],_,rfl,rfl,[_],_,rfl,rfl,[_,_,_,_],_,rfl,⟨[_],_,rfl,rfl,[_],_,rfl,rfl,[_],_,rfl,rfl,rfl⟩,[_],_,rfl,rfl,[_],_,rfl,rfl,rfl⟩
theorem E_in:∀ q,q∈69 :: Kd.E k69→q∈Kd.E k42:=by
  have h1:Kd.E k69=[9]:=rfl;have h2:Kd.E k42=[69,9,69,9]:=rfl;rw [h1,h2];intro q hq
  rcases List.mem_cons.1 hq with rfl|hq
  · simp
  · rw [List.mem_singleton.1 hq];simp
def kES:Kd S42 where
  sz:=Kd.sz k42
  E:=Kd.E k42
  K:=Kd.K k42
  M:=DM
  K_len:=fun h=>Kd.K_len k42 h
  K_one:=fun h=>Kd.K_one k42 h
  K_below:=fun hb h=>Kd.K_below k42 hb h
  K_of_M:=fun h=>Kd.K_of_M k42 (DM_M h)
  M_mono:=by
    rintro w base ok ok' x cs hok ⟨f,vA,vE,e,hA,hE⟩;exact ⟨f,vA,vE,e,Kd.S_mono hA (fun k hk=>⟨hok k hk.1,hk.2⟩),Kd.S_mono hE (fun k hk=>⟨hok k hk.1,hk.2⟩)⟩
  M_bound:=by
    rintro w base ok x cs ⟨f,vA,vE,e,hA,hE⟩;refine ⟨f,vA,vE,e,Kd.S_mono (Kd.S_bound hA) ?_,Kd.S_mono (Kd.S_bound hE) ?_⟩
    · rintro k ⟨h1,h2,h3,q,hq,hc⟩
      exact ⟨⟨h1.1,h2,h3,q,E_in q hq,hc⟩,h1.2⟩
    · rintro k ⟨h1,h2,h3,q,hq,hc⟩
      exact ⟨⟨h1.1,h2,h3,q,E_in q hq,hc⟩,h1.2⟩
  M_move:=by
    rintro w w1 base ok x cs hm ⟨f,vA,vE,e,hA,hE⟩;exact ⟨f,vA,vE,e,Kd.S_move hA (fun k hk=>hm k hk.1),Kd.S_move hE (fun k hk=>hm k hk.1)⟩
  M_lower:=by
    rintro w base base' ok x cs hb ⟨f,vA,vE,e,hA,hE⟩;exact ⟨f,vA,vE,e,Kd.S_lower hA hb,Kd.S_lower hE hb⟩
theorem cut3 {W w1:World} {base:Nat} {ok ok0 ok1:Nat→Prop} {v vA vE:Value} {xs:List S42} {a e:List S69} (h:Kd.S kES 42 W base ok v xs) (h0:Kd.S k69 69 w1 W.heap.size ok0 vA a) (h1:Kd.S k69 69 w1 W.heap.size ok1 vE e) (hb:Below W.heap.size W w1) (hle:base≤W.heap.size) :
    ∃ N,Kd.S kES 42 w1 base (fun k=>ok k∧k<N) v xs∧Kd.S k69 69 w1 base (fun k=>ok0 k∧N≤k) vA a∧Kd.S k69 69 w1 base (fun k=>ok1 k∧N≤k) vE e :=
  ⟨W.heap.size,Kd.S_below (Kd.S_mono (Kd.S_bound h) (fun _ hk=>⟨hk.1,hk.2.2.1⟩)) hb,Kd.S_lower (Kd.S_mono (Kd.S_bound h0) (fun _ hk=>⟨hk.1,hk.2.1⟩)) hle,Kd.S_lower (Kd.S_mono (Kd.S_bound h1) (fun _ hk=>⟨hk.1,hk.2.1⟩)) hle⟩
theorem kES_weak {w:World} {base:Nat} {ok:Nat→Prop} {v:Value} {l:List S42} (h:Kd.S kES 42 w base ok v l):Kd.S k42 42 w base ok v l:=by
  obtain ⟨f,h0,inner,ho,hr⟩:=h;exact ⟨f,h0,inner,ho,hr.1,fun j p hj=>DM_M (hr.2 j p hj)⟩
theorem rowD_at {W:World} {P:Nat→Prop} {f:Nat→Nat} {base g cap n:Nat} {L:List S42} (HR:(Kd.tag f kES).R 42 W base P (.slice (some ⟨g,0,none⟩) n cap) L.zipIdx) (i:Nat) (hi:i<L.length) :
    ∃ (cur:Array Value) (vA vE:Value) (fa:Nat→Bool),W.heap[g]?=some (.cells cur 42 (0,0))∧n=L.length∧i*14+14≤cur.size∧(cur.toList.drop (i*14)).take 14=cellsE L[i] vA vE ∧
      Kd.S k69 69 W base (fun k=>((P k∧k≠g)∧f k=i)∧fa k=true) vA L[i].f2∧Kd.S k69 69 W base (fun k=>((P k∧k≠g)∧f k=i)∧fa k=false) vE L[i].f3:=by
  obtain ⟨h0,inner,ho,hr⟩:=HR
  have hn:n=L.length:=by
    rcases ho.2 with ⟨hv,h2⟩|⟨g',cap',cur',hv,_⟩
    · cases hv
    · injection hv with _ hv2 _
      rw [List.length_zipIdx] at hv2;exact hv2
  subst hn;rw [List.length_zipIdx] at ho
  rcases ho.2 with ⟨hv,_⟩|⟨g',cap',cur',hv,hg,hh,r1,r2,r3,r4⟩
  · cases hv
  · injection hv with hv1 hv2 hv3
    injection hv1 with hv1
    injection hv1 with hv1 _ _
    subst hv1 hv3;have hsz':(Kd.tag f kES).sz=14:=rfl;rw [hsz'] at r3 r4
    have hC:L.length*14≤cur'.size:=by rw [r3];exact Nat.mul_le_mul_right _ r1
    have hone:i*14+14≤L.length*14:=by rw [← Nat.succ_mul];exact Nat.mul_le_mul_right _ hi
    have hM:=hr.2 i (L[i],i) (by rw [List.getElem?_zipIdx,List.getElem?_eq_getElem hi,Nat.zero_add];rfl);rw [hsz',← r4,List.drop_take,List.take_take,Nat.min_eq_left (by omega)] at hM;obtain ⟨fa,vA,vE,e,hA,hE⟩:=hM
    have hne:∀ k,some k≠(Value.slice (some ⟨g,0,none⟩) L.length cap).ownBlock→k≠g:=fun k hk e=>hk (by rw [e];rfl)
    exact ⟨cur',vA,vE,fa,hh,rfl,by omega,e,Kd.S_mono hA (fun k hk=>⟨⟨⟨hk.1.1.1,hne k hk.1.1.2⟩,hk.1.2⟩,hk.2⟩),Kd.S_mono hE (fun k hk=>⟨⟨⟨hk.1.1.1,hne k hk.1.1.2⟩,hk.1.2⟩,hk.2⟩)⟩
theorem segD_at {cur:Array Value} {i o:Nat} {vs:List Value} (hs:(cur.toList.drop (i*14)).take 14=vs) (ho:o<14) {v:Value} (hv:vs[o]?=some v):cur[i*14+o]?=some v:=by
  rw [← hs,List.getElem?_take,if_pos ho,List.getElem?_drop,Array.getElem?_toList] at hv;exact hv
theorem segD_set {cur:Array Value} {i o:Nat} {vs:List Value} (hs:(cur.toList.drop (i*14)).take 14=vs) (ho:o<14) (u:Value):((cur.setIfInBounds (i*14+o) u).toList.drop (i*14)).take 14=vs.set o u:=by
  rw [Array.toList_setIfInBounds,List.drop_set,if_neg (by omega),Nat.add_sub_cancel_left,List.take_set,hs]
def OutD (cur cur0:Array Value) (i:Nat):Prop:=∀ j,¬ (i*14≤j∧j<i*14+14)→cur[j]?=cur0[j]?
def CzD (cur cur0:Array Value):Prop:=cur.size=cur0.size
theorem CzD.set {cur cur0:Array Value} (h:CzD cur cur0) (j:Nat) (u:Value):CzD (cur.setIfInBounds j u) cur0:=(Array.size_setIfInBounds ..).trans h
theorem segD_out {cur cur0:Array Value} {i o:Nat} (h:OutD cur cur0 i) (ho:o<14) (u:Value):OutD (cur.setIfInBounds (i*14+o) u) cur0 i:=by
  intro j hj;rw [Array.getElem?_setIfInBounds_ne (by omega)];exact h j hj
noncomputable def mkE1 (k:Int) (x:S42):S42:=⟨mt k,(k+1),mkN (((k+1)+1)) x.f2,mkN ((((k+1)+1)+cntN x.f2)) x.f3,mt ((((k+1)+1)+cntN x.f2)+cntN x.f3),mt (((((k+1)+1)+cntN x.f2)+cntN x.f3)+1),mt ((((((k+1)+1)+cntN x.f2)+cntN x.f3)+1)+1),⟨(((((((k+1)+1)+cntN x.f2)+cntN x.f3)+1)+1)+1),((((((((k+1)+1)+cntN x.f2)+cntN x.f3)+1)+1)+1)+1),(((((((((k+1)+1)+cntN x.f2)+cntN x.f3)+1)+1)+1)+1)+1),(Int.tmod ((((((((((k+1)+1)+cntN x.f2)+cntN x.f3)+1)+1)+1)+1)+1)+1) 3 == 0)⟩,(((((((((((k+1)+1)+cntN x.f2)+cntN x.f3)+1)+1)+1)+1)+1)+1)+1),mt ((((((((((((k+1)+1)+cntN x.f2)+cntN x.f3)+1)+1)+1)+1)+1)+1)+1)+1),mt (((((((((((((k+1)+1)+cntN x.f2)+cntN x.f3)+1)+1)+1)+1)+1)+1)+1)+1)+1)⟩
noncomputable def mkE:Int→List S42→List S42
  | _,[]=>[]
  | k,x :: l=>mkE1 k x :: mkE (k+elE x) l
theorem mkE_len (l:List S42):∀ k,(mkE k l).length=l.length:=by
  induction l with
  | nil=>intro k;rfl
  | cons x l ih=>intro k;simp only [mkE,List.length_cons,ih]
theorem mkE_app (l:List S42):∀ (k:Int) (r:List S42),mkE k (l++r)=mkE k l++mkE (k+cntE l) r:=by
  induction l with
  | nil=>intro k r;simp [mkE,cntE]
  | cons x l ih =>
    intro k r;simp only [mkE,cntE,List.cons_append,ih];rw [show k+elE x+cntE l=k+(elE x+cntE l) from Int.add_assoc _ _ _]
noncomputable def rowX (a:Int) (l:List S42) (i:Nat):List S42:=mkE a (l.take i)++l.drop i
theorem rowX_len (a:Int) (l:List S42) (i:Nat) (hi:i≤l.length):(rowX a l i).length=l.length:=by
  unfold rowX;rw [List.length_append,mkE_len,List.length_take,List.length_drop];omega
theorem rowX_at (a:Int) (l:List S42) (i:Nat) (hi:i<l.length):(rowX a l i)[i]'(by rw [rowX_len a l i (by omega)];exact hi)=l[i]:=by
  unfold rowX;rw [List.getElem_append_right (by rw [mkE_len,List.length_take];omega)];simp only [mkE_len,List.length_take,List.getElem_drop]
  congr 1
  omega
theorem rowX_next (a:Int) (l:List S42) (i:Nat) (hi:i<l.length):rowX a l (i+1)=(rowX a l i).set i (mkE1 (a+cntE (l.take i)) l[i]):=by
  have hl:(mkE a (l.take i)).length=i:=by rw [mkE_len,List.length_take];omega
  unfold rowX;rw [List.take_succ_eq_append_getElem hi,mkE_app,List.set_append,if_neg (show ¬ i<(mkE a (l.take i)).length by omega),hl,Nat.sub_self,List.drop_eq_getElem_cons hi,List.set_cons_zero,List.append_assoc];rfl
theorem S_kept {α:Type} {d:Kd α} {e base:Nat} {w w':World} {ok P:Nat→Prop} {v:Value} {xs:List α} (h:Kd.S d e w base ok v xs) (hk:Kept w w' P) (hp:∀ k,ok k→¬ P k):Kd.S d e w' base ok v xs :=
  Kd.S_step h (fun k ho hlt=>hk.2 k hlt (hp k ho))
def KeepD (P:Nat→Prop) (g:Nat) (f:Nat→Nat) (i:Nat) (a b:World):Prop:=∀ k,P k→k≠g→f k≠i→k<a.heap.size→b.heap[k]?=a.heap[k]?
theorem idK {w:World} {g:Nat} {o:Obj} (_:w.heap[g]?=some o) (P:Nat→Prop) (f:Nat→Nat) (i:Nat):KeepD P g f i w w:=fun _ _ _ _ _=>rfl
theorem KeepD.set {P:Nat→Prop} {g i j:Nat} {f:Nat→Nat} {a b c:World} {u:Value} (h:KeepD P g f i a b) (hw:c=b.setCell ⟨g,j,none⟩ u):KeepD P g f i a c :=
  fun k hp hg hf hlt=>((congrArg (fun z_:World=>z_.heap[k]?) hw).trans (Below.heap_setCell _ _ _ _ hg)).trans (h k hp hg hf hlt)
theorem KeepD.kept {P Q:Nat→Prop} {g i:Nat} {f:Nat→Nat} {a b c:World} (h:KeepD P g f i a b) (hk:Kept b c Q) (hq:∀ k,Q k→f k=i):KeepD P g f i a c :=
  fun k hp hg hf hlt=>(hk.2 k (by have h_:=h k hp hg hf hlt;rw [Array.getElem?_eq_getElem hlt] at h_;exact blk_ltH h_) (fun e=>hf (hq k e))).trans (h k hp hg hf hlt)
theorem KeepD.below {P:Nat→Prop} {g i:Nat} {f:Nat→Nat} {a b c:World} (h:KeepD P g f i a b) (hb:Below b.heap.size b c):KeepD P g f i a c :=
  fun k hp hg hf hlt=>heap_step hb (h k hp hg hf hlt) hlt
theorem KeepD.drewN {P:Nat→Prop} {g i:Nat} {f:Nat→Nat} {a b:World} (h:KeepD P g f i a b) (n:Nat):KeepD P g f i a (b.drewN n):=h
theorem KeepD.drew {P:Nat→Prop} {g i:Nat} {f:Nat→Nat} {a b:World} (h:KeepD P g f i a b):KeepD P g f i a b.drew:=h
theorem rowD_put {w w2:World} {P:Nat→Prop} {f:Nat→Nat} {base g cap n:Nat} {L:List S42} {cur0 cur:Array Value} {fa:Nat→Bool} {i:Nat} {x':S42} {vA vE:Value} (h:(Kd.tag f kES).R 42 w base P (.slice (some ⟨g,0,none⟩) n cap) L.zipIdx) (hn:n=L.length) (hi:i<L.length)
    (hw:w.heap[g]?=some (.cells cur0 42 (0,0))) (hw2:w2.heap[g]?=some (.cells cur 42 (0,0))) (hz:CzD cur cur0) (ho:OutD cur cur0 i) (hk:KeepD P g f i w w2) (hs:(cur.toList.drop (i*14)).take 14=cellsE x' vA vE)
    (hA:Kd.S k69 69 w2 base (fun k=>((P k∧k≠g)∧f k=i)∧fa k=true) vA x'.f2) (hE:Kd.S k69 69 w2 base (fun k=>((P k∧k≠g)∧f k=i)∧fa k=false) vE x'.f3) :
    (Kd.tag f kES).R 42 w2 base P (.slice (some ⟨g,0,none⟩) n cap) (L.set i x').zipIdx:=by
  refine S_putn h hn hi hw hw2 hz (fun j hj=>ho j hj) hk ?_
  show DM _ _ _ _ (List.take 14 (List.drop (i*14) _))
  rw [hs];exact ⟨fa,vA,vE,rfl,Kd.S_mono hA (fun k_ h_=>⟨⟨⟨h_.1.1.1,fun q_=>h_.1.1.2 (ojz q_)⟩,h_.1.2⟩,h_.2⟩),Kd.S_mono hE (fun k_ h_=>⟨⟨⟨h_.1.1.1,fun q_=>h_.1.1.2 (ojz q_)⟩,h_.1.2⟩,h_.2⟩)⟩
set_option maxHeartbeats 8000000 in
set_option maxRecDepth 100000 in
theorem markE_s (P:Nat→Prop) (u:Value) (l:List S42) (a1:Int) (w0 w:World) (h0:0≤a1) (h1:a1+cntE l≤4611686018427387904) (hB:Below w0.heap.size w0 w) (ho:Kd.S kES 42 w w0.heap.size P u l) :
    Calls Tryz.prog 20 #[u,.int .i64 a1] w fun e w'=>e=.returned (.int .i64 (a1+cntE l))∧Kd.S kES 42 w' w0.heap.size P u (mkE a1 l)∧Below w0.heap.size w0 w'∧Kept w w' P:=by
  have HL:=am (And.intro h0 h1);have HZ:=am (show (l.length:Int)≤4611686018427387904 from Int.le_trans (cntE_len l) (by omega));obtain ⟨f,hR⟩:=ho;obtain ⟨A,c,e⟩:=Kd.R_slice hR;rw [List.length_zipIdx] at e;subst e;have HRW:=am (show (Kd.tag f kES).R 42 w w0.heap.size P (.slice A l.length c) (rowX a1 l 0).zipIdx from by rw [show rowX a1 l 0=l from by simp [rowX,mkE]];exact hR);have HB:=am hB;have HK:=am (Kept.refl w P)
  obtain ⟨kk,hkk⟩:∃ kk,kk=l.length+1:=⟨_,rfl⟩
  have HKK:=am hkk;have hu1:=Tryz.underlying42;have hu2:=Tryz.underlying40;clear hR hB hkk h0 h1;go_enter Tryz.func20,Tryz.ntmps20;go_wp2
  go_loopg [1,5] kk (fun kq v1 v5 w'=>∃ (i:Nat) (n:Int),v1=.int .i64 n∧v5=.int .i64 (i:Int)∧Aside0 (n=a1+cntE (l.take i))∧Aside0 (i≤l.length∧l.length-i<kq)∧Aside0 (kq≤kk)∧Aside0 ((Kd.tag f kES).R 42 w' w0.heap.size P (.slice A l.length c) (rowX a1 l i).zipIdx)∧Aside0 (Below w0.heap.size w0 w')∧Aside0 (Kept w w' P))
  case atStart=>exact ⟨0,a1,rfl,(by first|rfl|simp),⟨by simp [cntE]⟩,⟨Nat.zero_le _,by have:=HKK.out;omega⟩,⟨Nat.le_refl _⟩,⟨(by (with_reducible repeat (first|apply Kd.R_alloc|apply Kd.R_drewN|apply Kd.R_drew));exact HRW.out)⟩,⟨by repeat (first|exact HB.out|apply pw_below_drewN|apply below_drew1|apply below_alloc)⟩,⟨by repeat (first|exact HK.out|apply Kept.alloc|apply Kept.drewN|apply Kept.drew)⟩⟩
  case round =>
    clear HRW HB HK;obtain ⟨i,n,rfl,rfl,HN,HI,HK1,HRW,HB,HK⟩:=hrel
    cases gk with
    | zero=>exact absurd HI.out.2 (Nat.not_lt_zero _)
    | succ k1 =>
      by_cases ci:i<l.length
      · have c0:decide ((i:Int)<(l.length:Int))=true:=dt (by omega)
        have c1:decide ((0:Int)≤(i:Int))=true:=dt (by omega);have CI:=am ci;have HW2:=am (mk_i i (by have:=HZ.out;omega));have HQ:=am (show (0≤n∧n+elE l[i]≤4611686018427387904)∧n+elE l[i]=a1+cntE (l.take (i+1)) from cntE_at HN.out HL.out ci)
        obtain ⟨q0,hq0⟩:∃ q:Int,q=cntN l[i].f2:=⟨_,rfl⟩
        have Du:=am hq0
        obtain ⟨q1,hq1⟩:∃ q:Int,q=cntN l[i].f3:=⟨_,rfl⟩
        have IG:=am hq1;have HQN:=am (show 0≤n∧n+(q0+q1+12)≤4611686018427387904 from by have h_:=HQ.out.1;rw [show elE l[i]=q0+q1+12 from by rw [hq0,hq1];exact elE_eq _] at h_;exact h_);have HQP:=am (show 0≤q0∧0≤q1 from by rw [hq0,hq1];exact ⟨cntN_nonneg _,cntN_nonneg _⟩);clear hq0 hq1
        have hlz:(rowX a1 l i).zipIdx.length=l.length:=by rw [List.length_zipIdx,rowX_len a1 l i (by omega)]
        obtain ⟨g,cap,eo,gb,gl,cl,HG0⟩:=Kd.R_form HRW.out (by rw [hlz];omega);rw [hlz] at eo
        cases eo
        have hri:i<(rowX a1 l i).length:=by rw [rowX_len a1 l i (by omega)];exact ci
        obtain ⟨cur0,vA,vE,fa,hG,hn,hs,hsg,hA,hE⟩:=rowD_at HRW.out i hri;rw [rowX_at a1 l i ci] at hsg hA hE;obtain ⟨Aa,ca,rfl⟩:=Kd.S_slice hA;obtain ⟨Ae,ce,rfl⟩:=Kd.S_slice hE;have GB:=am gb;have PG:=am (HRW.out.1 g rfl);have HSA:=am hA;have HSE:=am hE;have HSG:=am hsg;have HSZ:=am hs;have HGS:=am hG;have HG:=am hG;have HQK:=am (idK hG P f i);have HOUT:=am (show OutD cur0 cur0 i from fun _ _=>rfl);have HCZ:=am (show CzD cur0 cur0 from rfl);clear hlz gb gl HG0 hG hn hs hsg hA hE hri
        go_wp2_with (first
          | ((with_reducible refine gate_callee (f:=32) rfl ?_);refine goesL_ (some 15) rfl rfl Tryz.func32 (by kernel_rfl) rfl #[.int .i64 n] rfl (by (try simp only [List.map_toArray,List.map_cons,List.map_nil]);first|done|rfl) ?_;obtain ⟨kt,hkt⟩:=(mt_ev n (by have bW:=HQN.out;have cD:=HQP.out;omega) (by have bW:=HQN.out;have cD:=HQP.out;omega));(refine (laws_markText.calls kt n (mt n) _ (hkt kt (Nat.le_refl _))).mono ?_);rintro e a2D ⟨rfl,hb⟩;refine ⟨_,rfl,?_⟩;clear hkt;have HSA2:=am (Kd.S_below (by (with_reducible repeat (first|apply Kd.S_alloc|apply Kd.S_drewN|apply Kd.S_drew));exact HSA.out) hb);have HSE2:=am (Kd.S_below (by (with_reducible repeat (first|apply Kd.S_alloc|apply Kd.S_drewN|apply Kd.S_drew));exact HSE.out) hb);have cK:=am (blk_below (g:=g) (by (with_reducible repeat (first|refine blk_drewN ?_ _|refine blk_drew ?_|refine blk_alloc ?_ _));exact HG.out) hb);have HK2:=am (Kept.below (S:=fun k_=>P k_) (show Kept w _ P from by repeat (first|exact HK.out|apply Kept.alloc|apply Kept.drewN|apply Kept.drew)) hb);have HQK2:=am (KeepD.below (by repeat (first|exact HQK.out|apply KeepD.drewN|apply KeepD.drew)) hb);have HB2:=am (below_step (show Below w0.heap.size w0 _ from by repeat (first|exact HB.out|apply pw_below_drewN|apply below_drew1|apply below_alloc)) hb);clear HSA HSE HG HK HQK HB hb;have HSA:=HSA2;have HSE:=HSE2;have HG:=cK;have HK:=HK2;have HQK:=HQK2;have HB:=HB2;clear HSA2 HSE2 cK HK2 HQK2 HB2;have Dt:=(blk_cell HG.out (i*14)).trans (segD_at (o:=0) HSG.out (by omega) rfl);have hf0:=blk_frozen HG.out (i*14))
          | ((with_reducible refine gate_store (t:=9) (p:=17) rfl ?_);refine store_event (t:=9) (p:=17) (v:=?vo_w200) (w1:=(a2D.setCell ⟨g,i*14,none⟩ (.string (mt n)))) ?hg ?ho ?hn ?hr ?_;(case ho=>rfl);(case hg=>rfl);(case hn=>rfl);(case hr=>first|(go_simp;done)|(go_simp;rfl));intro pE hw;clear Dt hf0;have HOUT2:=am (segD_out HOUT.out (o:=0) (by omega) (.string (mt n)));have HSG2:=am (by have h_:=segD_set HSG.out (o:=0) (by omega) (.string (mt n));rw [Nat.add_zero] at h_;exact h_);have HCZ2:=am (HCZ.out.set (i*14+0) (.string (mt n)));have HSA2:=am (show Kd.S k69 69 pE w0.heap.size _ _ _ from by rw [hw];exact Kd.S_far HSA.out (fun k_ e_=>e_.1.1.2) _);have HSE2:=am (show Kd.S k69 69 pE w0.heap.size _ _ _ from by rw [hw];exact Kd.S_far HSE.out (fun k_ e_=>e_.1.1.2) _);have cK:=am ((congrArg (fun z_:World=>z_.heap[g]?) hw).trans (heap_set_row HG.out _));have HK2:=am (show Kept w pE P from by rw [hw];exact kept_set HK.out PG.out);have HQK2:=am (HQK.out.set hw);have HB2:=am (show Below w0.heap.size w0 pE from by rw [hw];exact HB.out.setCell GB.out _);clear HSA HSE HG HK HQK HB hw HOUT HSG HCZ;have HSA:=HSA2;have HSE:=HSE2;have HG:=cK;have HK:=HK2;have HQK:=HQK2;have HB:=HB2;clear HSA2 HSE2 cK HK2 HQK2 HB2;have HOUT:=HOUT2;have HSG:=HSG2;have HCZ:=HCZ2;clear HOUT2 HSG2 HCZ2;simp only [cellsE,List.set_cons_zero,List.set_cons_succ] at HSG;have pD:=am (show (wrap64 (n+1))=(n+1) from by exact mk_w1 _ (by have bW:=HQN.out;have cD:=HQP.out;omega) (by have bW:=HQN.out;have cD:=HQP.out;omega));have xL:=(blk_cell HG.out (i*14+1)).trans (segD_at (o:=1) HSG.out (by omega) rfl);have eG:=blk_frozen HG.out (i*14+1))
          | ((with_reducible refine gate_store (t:=3) (p:=24) rfl ?_);refine store_event (t:=3) (p:=24) (v:=?vo_w201) (w1:=(pE.setCell ⟨g,i*14+1,none⟩ (.int .i64 (wrap64 (n+1))))) ?hg ?ho ?hn ?hr ?_;(case ho=>rfl);(case hg=>rfl);(case hn=>rfl);(case hr=>first|(go_simp;done)|(go_simp;rfl));intro oM hw;clear xL eG;have HOUT2:=am (segD_out HOUT.out (o:=1) (by omega) (.int .i64 (wrap64 (n+1))));have HSG2:=am (segD_set HSG.out (o:=1) (by omega) (.int .i64 (wrap64 (n+1))));have HCZ2:=am (HCZ.out.set (i*14+1) (.int .i64 (wrap64 (n+1))));have HSA2:=am (show Kd.S k69 69 oM w0.heap.size _ _ _ from by rw [hw];exact Kd.S_far HSA.out (fun k_ e_=>e_.1.1.2) _);have HSE2:=am (show Kd.S k69 69 oM w0.heap.size _ _ _ from by rw [hw];exact Kd.S_far HSE.out (fun k_ e_=>e_.1.1.2) _);have cK:=am ((congrArg (fun z_:World=>z_.heap[g]?) hw).trans (heap_set_row HG.out _));have HK2:=am (show Kept w oM P from by rw [hw];exact kept_set HK.out PG.out);have HQK2:=am (HQK.out.set hw);have HB2:=am (show Below w0.heap.size w0 oM from by rw [hw];exact HB.out.setCell GB.out _);clear HSA HSE HG HK HQK HB hw HOUT HSG HCZ;have HSA:=HSA2;have HSE:=HSE2;have HG:=cK;have HK:=HK2;have HQK:=HQK2;have HB:=HB2;clear HSA2 HSE2 cK HK2 HQK2 HB2;have HOUT:=HOUT2;have HSG:=HSG2;have HCZ:=HCZ2;clear HOUT2 HSG2 HCZ2;simp only [cellsE,List.set_cons_zero,List.set_cons_succ] at HSG;have lG:=am (show (wrap64 ((wrap64 (n+1))+1))=((n+1)+1) from by rw [pD.out];exact mk_w1 _ (by have bW:=HQN.out;have cD:=HQP.out;omega) (by have bW:=HQN.out;have cD:=HQP.out;omega));have DD:=(blk_cell HG.out (i*14+2)).trans (segD_at (o:=2) HSG.out (by omega) rfl);have NF:=blk_frozen HG.out (i*14+2))
          | ((with_reducible refine gate_callee (f:=33) rfl ?_);refine goesL_ (some 33) rfl rfl Tryz.func33 (by kernel_rfl) rfl #[.slice Aa l[i].f2.length ca,.int .i64 (wrap64 ((wrap64 (n+1))+1))] rfl (by (try simp only [List.map_toArray,List.map_cons,List.map_nil]);first|done|rfl) ?_;(refine (markN_s (fun k_=>((P k_∧k_≠g)∧f k_=i)∧fa k_=true) (.slice Aa l[i].f2.length ca) l[i].f2 (wrap64 ((wrap64 (n+1))+1)) w0 _ (by rw [lG.out];have bW:=HQN.out;have cD:=HQP.out;omega) (by rw [lG.out];rw [← Du.out];have bW:=HQN.out;have cD:=HQP.out;omega) (show Below w0.heap.size w0 _ from by repeat (first|exact HB.out|apply pw_below_drewN|apply below_drew1|apply below_alloc)) (by (with_reducible repeat (first|apply Kd.S_alloc|apply Kd.S_drewN|apply Kd.S_drew));exact HSA.out)).mono ?_);rintro e Ns ⟨rfl,hy,hb,hkp⟩;refine ⟨_,rfl,?_⟩;have HSA2:=am hy;have HSE2:=am (S_kept (by (with_reducible repeat (first|apply Kd.S_alloc|apply Kd.S_drewN|apply Kd.S_drew));exact HSE.out) hkp (fun k_ h1_ h2_=>by have e_:=h1_.2.symm.trans h2_.2;cases e_));have cK:=am (blk_keptP (g:=g) (by (with_reducible repeat (first|refine blk_drewN ?_ _|refine blk_drew ?_|refine blk_alloc ?_ _));exact HG.out) hkp (fun e_=>e_.1.1.2 rfl));have HK2:=am (kept_step (show Kept w _ P from by repeat (first|exact HK.out|apply Kept.alloc|apply Kept.drewN|apply Kept.drew)) hkp (fun k_ e_=>e_.1.1.1));have HQK2:=am (KeepD.kept (by repeat (first|exact HQK.out|apply KeepD.drewN|apply KeepD.drew)) hkp (fun k_ e_=>e_.1.2));have HB2:=am hb;clear HSA HSE HG HK HQK HB hy hb hkp DD NF;have HSA:=HSA2;have HSE:=HSE2;have HG:=cK;have HK:=HK2;have HQK:=HQK2;have HB:=HB2;clear HSA2 HSE2 cK HK2 HQK2 HB2;have oN:=am (show ((wrap64 ((wrap64 (n+1))+1))+cntN l[i].f2)=(((n+1)+1)+q0) from by rw [lG.out];rw [Du.out]);have K3:=(blk_cell HG.out (i*14+3)).trans (segD_at (o:=3) HSG.out (by omega) rfl);have hf3:=blk_frozen HG.out (i*14+3))
          | ((with_reducible refine gate_callee (f:=33) rfl ?_);refine goesL_ (some 40) rfl rfl Tryz.func33 (by kernel_rfl) rfl #[.slice Ae l[i].f3.length ce,.int .i64 ((wrap64 ((wrap64 (n+1))+1))+cntN l[i].f2)] rfl (by (try simp only [List.map_toArray,List.map_cons,List.map_nil]);first|done|rfl) ?_;(refine (markN_s (fun k_=>((P k_∧k_≠g)∧f k_=i)∧fa k_=false) (.slice Ae l[i].f3.length ce) l[i].f3 ((wrap64 ((wrap64 (n+1))+1))+cntN l[i].f2) w0 _ (by rw [oN.out];have bW:=HQN.out;have cD:=HQP.out;omega) (by rw [oN.out];rw [← IG.out];have bW:=HQN.out;have cD:=HQP.out;omega) (show Below w0.heap.size w0 _ from by repeat (first|exact HB.out|apply pw_below_drewN|apply below_drew1|apply below_alloc)) (by (with_reducible repeat (first|apply Kd.S_alloc|apply Kd.S_drewN|apply Kd.S_drew));exact HSE.out)).mono ?_);rintro e Nt ⟨rfl,hy,hb,hkp⟩;refine ⟨_,rfl,?_⟩;have HSA2:=am (S_kept (by (with_reducible repeat (first|apply Kd.S_alloc|apply Kd.S_drewN|apply Kd.S_drew));exact HSA.out) hkp (fun k_ h1_ h2_=>by have e_:=h1_.2.symm.trans h2_.2;cases e_));have HSE2:=am hy;have cK:=am (blk_keptP (g:=g) (by (with_reducible repeat (first|refine blk_drewN ?_ _|refine blk_drew ?_|refine blk_alloc ?_ _));exact HG.out) hkp (fun e_=>e_.1.1.2 rfl));have HK2:=am (kept_step (show Kept w _ P from by repeat (first|exact HK.out|apply Kept.alloc|apply Kept.drewN|apply Kept.drew)) hkp (fun k_ e_=>e_.1.1.1));have HQK2:=am (KeepD.kept (by repeat (first|exact HQK.out|apply KeepD.drewN|apply KeepD.drew)) hkp (fun k_ e_=>e_.1.2));have HB2:=am hb;clear HSA HSE HG HK HQK HB hy hb hkp K3 hf3;have HSA:=HSA2;have HSE:=HSE2;have HG:=cK;have HK:=HK2;have HQK:=HQK2;have HB:=HB2;clear HSA2 HSE2 cK HK2 HQK2 HB2;have xE:=am (show (((wrap64 ((wrap64 (n+1))+1))+cntN l[i].f2)+cntN l[i].f3)=((((n+1)+1)+q0)+q1) from by rw [oN.out];rw [IG.out]))
          | ((with_reducible refine gate_callee (f:=32) rfl ?_);refine goesL_ (some 44) rfl rfl Tryz.func32 (by kernel_rfl) rfl #[.int .i64 (((wrap64 ((wrap64 (n+1))+1))+cntN l[i].f2)+cntN l[i].f3)] rfl (by (try simp only [List.map_toArray,List.map_cons,List.map_nil]);first|done|rfl) ?_;obtain ⟨kt,hkt⟩:=(mt_ev (((wrap64 ((wrap64 (n+1))+1))+cntN l[i].f2)+cntN l[i].f3) (by rw [xE.out];have bW:=HQN.out;have cD:=HQP.out;omega) (by rw [xE.out];have bW:=HQN.out;have cD:=HQP.out;omega));(refine (laws_markText.calls kt (((wrap64 ((wrap64 (n+1))+1))+cntN l[i].f2)+cntN l[i].f3) (mt (((wrap64 ((wrap64 (n+1))+1))+cntN l[i].f2)+cntN l[i].f3)) _ (hkt kt (Nat.le_refl _))).mono ?_);rintro e Nu ⟨rfl,hb⟩;refine ⟨_,rfl,?_⟩;clear hkt;have HSA2:=am (Kd.S_below (by (with_reducible repeat (first|apply Kd.S_alloc|apply Kd.S_drewN|apply Kd.S_drew));exact HSA.out) hb);have HSE2:=am (Kd.S_below (by (with_reducible repeat (first|apply Kd.S_alloc|apply Kd.S_drewN|apply Kd.S_drew));exact HSE.out) hb);have cK:=am (blk_below (g:=g) (by (with_reducible repeat (first|refine blk_drewN ?_ _|refine blk_drew ?_|refine blk_alloc ?_ _));exact HG.out) hb);have HK2:=am (Kept.below (S:=fun k_=>P k_) (show Kept w _ P from by repeat (first|exact HK.out|apply Kept.alloc|apply Kept.drewN|apply Kept.drew)) hb);have HQK2:=am (KeepD.below (by repeat (first|exact HQK.out|apply KeepD.drewN|apply KeepD.drew)) hb);have HB2:=am (below_step (show Below w0.heap.size w0 _ from by repeat (first|exact HB.out|apply pw_below_drewN|apply below_drew1|apply below_alloc)) hb);clear HSA HSE HG HK HQK HB hb;have HSA:=HSA2;have HSE:=HSE2;have HG:=cK;have HK:=HK2;have HQK:=HQK2;have HB:=HB2;clear HSA2 HSE2 cK HK2 HQK2 HB2;have Mz:=(blk_cell HG.out (i*14+4)).trans (segD_at (o:=4) HSG.out (by omega) rfl);have hf4:=blk_frozen HG.out (i*14+4))
          | ((with_reducible refine gate_store (t:=9) (p:=46) rfl ?_);refine store_event (t:=9) (p:=46) (v:=?vo_w204) (w1:=(Nu.setCell ⟨g,i*14+4,none⟩ (.string (mt (((wrap64 ((wrap64 (n+1))+1))+cntN l[i].f2)+cntN l[i].f3))))) ?hg ?ho ?hn ?hr ?_;(case ho=>rfl);(case hg=>rfl);(case hn=>rfl);(case hr=>first|(go_simp;done)|(go_simp;rfl));intro IT hw;clear Mz hf4;have HOUT2:=am (segD_out HOUT.out (o:=4) (by omega) (.string (mt (((wrap64 ((wrap64 (n+1))+1))+cntN l[i].f2)+cntN l[i].f3))));have HSG2:=am (segD_set HSG.out (o:=4) (by omega) (.string (mt (((wrap64 ((wrap64 (n+1))+1))+cntN l[i].f2)+cntN l[i].f3))));have HCZ2:=am (HCZ.out.set (i*14+4) (.string (mt (((wrap64 ((wrap64 (n+1))+1))+cntN l[i].f2)+cntN l[i].f3))));have HSA2:=am (show Kd.S k69 69 IT w0.heap.size _ _ _ from by rw [hw];exact Kd.S_far HSA.out (fun k_ e_=>e_.1.1.2) _);have HSE2:=am (show Kd.S k69 69 IT w0.heap.size _ _ _ from by rw [hw];exact Kd.S_far HSE.out (fun k_ e_=>e_.1.1.2) _);have cK:=am ((congrArg (fun z_:World=>z_.heap[g]?) hw).trans (heap_set_row HG.out _));have HK2:=am (show Kept w IT P from by rw [hw];exact kept_set HK.out PG.out);have HQK2:=am (HQK.out.set hw);have HB2:=am (show Below w0.heap.size w0 IT from by rw [hw];exact HB.out.setCell GB.out _);clear HSA HSE HG HK HQK HB hw HOUT HSG HCZ;have HSA:=HSA2;have HSE:=HSE2;have HG:=cK;have HK:=HK2;have HQK:=HQK2;have HB:=HB2;clear HSA2 HSE2 cK HK2 HQK2 HB2;have HOUT:=HOUT2;have HSG:=HSG2;have HCZ:=HCZ2;clear HOUT2 HSG2 HCZ2;simp only [cellsE,List.set_cons_zero,List.set_cons_succ] at HSG;have Dv:=am (show (wrap64 ((((wrap64 ((wrap64 (n+1))+1))+cntN l[i].f2)+cntN l[i].f3)+1))=(((((n+1)+1)+q0)+q1)+1) from by rw [xE.out];exact mk_w1 _ (by have bW:=HQN.out;have cD:=HQP.out;omega) (by have bW:=HQN.out;have cD:=HQP.out;omega)))
          | ((with_reducible refine gate_callee (f:=32) rfl ?_);refine goesL_ (some 52) rfl rfl Tryz.func32 (by kernel_rfl) rfl #[.int .i64 (wrap64 ((((wrap64 ((wrap64 (n+1))+1))+cntN l[i].f2)+cntN l[i].f3)+1))] rfl (by (try simp only [List.map_toArray,List.map_cons,List.map_nil]);first|done|rfl) ?_;obtain ⟨kt,hkt⟩:=(mt_ev (wrap64 ((((wrap64 ((wrap64 (n+1))+1))+cntN l[i].f2)+cntN l[i].f3)+1)) (by rw [Dv.out];have bW:=HQN.out;have cD:=HQP.out;omega) (by rw [Dv.out];have bW:=HQN.out;have cD:=HQP.out;omega));(refine (laws_markText.calls kt (wrap64 ((((wrap64 ((wrap64 (n+1))+1))+cntN l[i].f2)+cntN l[i].f3)+1)) (mt (wrap64 ((((wrap64 ((wrap64 (n+1))+1))+cntN l[i].f2)+cntN l[i].f3)+1))) _ (hkt kt (Nat.le_refl _))).mono ?_);rintro e a7T ⟨rfl,hb⟩;refine ⟨_,rfl,?_⟩;clear hkt;have HSA2:=am (Kd.S_below (by (with_reducible repeat (first|apply Kd.S_alloc|apply Kd.S_drewN|apply Kd.S_drew));exact HSA.out) hb);have HSE2:=am (Kd.S_below (by (with_reducible repeat (first|apply Kd.S_alloc|apply Kd.S_drewN|apply Kd.S_drew));exact HSE.out) hb);have cK:=am (blk_below (g:=g) (by (with_reducible repeat (first|refine blk_drewN ?_ _|refine blk_drew ?_|refine blk_alloc ?_ _));exact HG.out) hb);have HK2:=am (Kept.below (S:=fun k_=>P k_) (show Kept w _ P from by repeat (first|exact HK.out|apply Kept.alloc|apply Kept.drewN|apply Kept.drew)) hb);have HQK2:=am (KeepD.below (by repeat (first|exact HQK.out|apply KeepD.drewN|apply KeepD.drew)) hb);have HB2:=am (below_step (show Below w0.heap.size w0 _ from by repeat (first|exact HB.out|apply pw_below_drewN|apply below_drew1|apply below_alloc)) hb);clear HSA HSE HG HK HQK HB hb;have HSA:=HSA2;have HSE:=HSE2;have HG:=cK;have HK:=HK2;have HQK:=HQK2;have HB:=HB2;clear HSA2 HSE2 cK HK2 HQK2 HB2;have DF:=(blk_cell HG.out (i*14+5)).trans (segD_at (o:=5) HSG.out (by omega) rfl);have gV:=blk_frozen HG.out (i*14+5))
          | ((with_reducible refine gate_store (t:=9) (p:=54) rfl ?_);refine store_event (t:=9) (p:=54) (v:=?vo_w205) (w1:=(a7T.setCell ⟨g,i*14+5,none⟩ (.string (mt (wrap64 ((((wrap64 ((wrap64 (n+1))+1))+cntN l[i].f2)+cntN l[i].f3)+1)))))) ?hg ?ho ?hn ?hr ?_;(case ho=>rfl);(case hg=>rfl);(case hn=>rfl);(case hr=>first|(go_simp;done)|(go_simp;rfl));intro IU hw;clear DF gV;have HOUT2:=am (segD_out HOUT.out (o:=5) (by omega) (.string (mt (wrap64 ((((wrap64 ((wrap64 (n+1))+1))+cntN l[i].f2)+cntN l[i].f3)+1)))));have HSG2:=am (segD_set HSG.out (o:=5) (by omega) (.string (mt (wrap64 ((((wrap64 ((wrap64 (n+1))+1))+cntN l[i].f2)+cntN l[i].f3)+1)))));have HCZ2:=am (HCZ.out.set (i*14+5) (.string (mt (wrap64 ((((wrap64 ((wrap64 (n+1))+1))+cntN l[i].f2)+cntN l[i].f3)+1)))));have HSA2:=am (show Kd.S k69 69 IU w0.heap.size _ _ _ from by rw [hw];exact Kd.S_far HSA.out (fun k_ e_=>e_.1.1.2) _);have HSE2:=am (show Kd.S k69 69 IU w0.heap.size _ _ _ from by rw [hw];exact Kd.S_far HSE.out (fun k_ e_=>e_.1.1.2) _);have cK:=am ((congrArg (fun z_:World=>z_.heap[g]?) hw).trans (heap_set_row HG.out _));have HK2:=am (show Kept w IU P from by rw [hw];exact kept_set HK.out PG.out);have HQK2:=am (HQK.out.set hw);have HB2:=am (show Below w0.heap.size w0 IU from by rw [hw];exact HB.out.setCell GB.out _);clear HSA HSE HG HK HQK HB hw HOUT HSG HCZ;have HSA:=HSA2;have HSE:=HSE2;have HG:=cK;have HK:=HK2;have HQK:=HQK2;have HB:=HB2;clear HSA2 HSE2 cK HK2 HQK2 HB2;have HOUT:=HOUT2;have HSG:=HSG2;have HCZ:=HCZ2;clear HOUT2 HSG2 HCZ2;simp only [cellsE,List.set_cons_zero,List.set_cons_succ] at HSG;have Dw:=am (show (wrap64 ((wrap64 ((((wrap64 ((wrap64 (n+1))+1))+cntN l[i].f2)+cntN l[i].f3)+1))+1))=((((((n+1)+1)+q0)+q1)+1)+1) from by rw [Dv.out];exact mk_w1 _ (by have bW:=HQN.out;have cD:=HQP.out;omega) (by have bW:=HQN.out;have cD:=HQP.out;omega)))
          | ((with_reducible refine gate_callee (f:=32) rfl ?_);refine goesL_ (some 60) rfl rfl Tryz.func32 (by kernel_rfl) rfl #[.int .i64 (wrap64 ((wrap64 ((((wrap64 ((wrap64 (n+1))+1))+cntN l[i].f2)+cntN l[i].f3)+1))+1))] rfl (by (try simp only [List.map_toArray,List.map_cons,List.map_nil]);first|done|rfl) ?_;obtain ⟨kt,hkt⟩:=(mt_ev (wrap64 ((wrap64 ((((wrap64 ((wrap64 (n+1))+1))+cntN l[i].f2)+cntN l[i].f3)+1))+1)) (by rw [Dw.out];have bW:=HQN.out;have cD:=HQP.out;omega) (by rw [Dw.out];have bW:=HQN.out;have cD:=HQP.out;omega));(refine (laws_markText.calls kt (wrap64 ((wrap64 ((((wrap64 ((wrap64 (n+1))+1))+cntN l[i].f2)+cntN l[i].f3)+1))+1)) (mt (wrap64 ((wrap64 ((((wrap64 ((wrap64 (n+1))+1))+cntN l[i].f2)+cntN l[i].f3)+1))+1))) _ (hkt kt (Nat.le_refl _))).mono ?_);rintro e a7U ⟨rfl,hb⟩;refine ⟨_,rfl,?_⟩;clear hkt;have HSA2:=am (Kd.S_below (by (with_reducible repeat (first|apply Kd.S_alloc|apply Kd.S_drewN|apply Kd.S_drew));exact HSA.out) hb);have HSE2:=am (Kd.S_below (by (with_reducible repeat (first|apply Kd.S_alloc|apply Kd.S_drewN|apply Kd.S_drew));exact HSE.out) hb);have cK:=am (blk_below (g:=g) (by (with_reducible repeat (first|refine blk_drewN ?_ _|refine blk_drew ?_|refine blk_alloc ?_ _));exact HG.out) hb);have HK2:=am (Kept.below (S:=fun k_=>P k_) (show Kept w _ P from by repeat (first|exact HK.out|apply Kept.alloc|apply Kept.drewN|apply Kept.drew)) hb);have HQK2:=am (KeepD.below (by repeat (first|exact HQK.out|apply KeepD.drewN|apply KeepD.drew)) hb);have HB2:=am (below_step (show Below w0.heap.size w0 _ from by repeat (first|exact HB.out|apply pw_below_drewN|apply below_drew1|apply below_alloc)) hb);clear HSA HSE HG HK HQK HB hb;have HSA:=HSA2;have HSE:=HSE2;have HG:=cK;have HK:=HK2;have HQK:=HQK2;have HB:=HB2;clear HSA2 HSE2 cK HK2 HQK2 HB2;have qN:=(blk_cell HG.out (i*14+6)).trans (segD_at (o:=6) HSG.out (by omega) rfl);have hf6:=blk_frozen HG.out (i*14+6))
          | ((with_reducible refine gate_store (t:=9) (p:=62) rfl ?_);refine store_event (t:=9) (p:=62) (v:=?vo_w206) (w1:=(a7U.setCell ⟨g,i*14+6,none⟩ (.string (mt (wrap64 ((wrap64 ((((wrap64 ((wrap64 (n+1))+1))+cntN l[i].f2)+cntN l[i].f3)+1))+1)))))) ?hg ?ho ?hn ?hr ?_;(case ho=>rfl);(case hg=>rfl);(case hn=>rfl);(case hr=>first|(go_simp;done)|(go_simp;rfl));intro Bw hw;clear qN hf6;have HOUT2:=am (segD_out HOUT.out (o:=6) (by omega) (.string (mt (wrap64 ((wrap64 ((((wrap64 ((wrap64 (n+1))+1))+cntN l[i].f2)+cntN l[i].f3)+1))+1)))));have HSG2:=am (segD_set HSG.out (o:=6) (by omega) (.string (mt (wrap64 ((wrap64 ((((wrap64 ((wrap64 (n+1))+1))+cntN l[i].f2)+cntN l[i].f3)+1))+1)))));have HCZ2:=am (HCZ.out.set (i*14+6) (.string (mt (wrap64 ((wrap64 ((((wrap64 ((wrap64 (n+1))+1))+cntN l[i].f2)+cntN l[i].f3)+1))+1)))));have HSA2:=am (show Kd.S k69 69 Bw w0.heap.size _ _ _ from by rw [hw];exact Kd.S_far HSA.out (fun k_ e_=>e_.1.1.2) _);have HSE2:=am (show Kd.S k69 69 Bw w0.heap.size _ _ _ from by rw [hw];exact Kd.S_far HSE.out (fun k_ e_=>e_.1.1.2) _);have cK:=am ((congrArg (fun z_:World=>z_.heap[g]?) hw).trans (heap_set_row HG.out _));have HK2:=am (show Kept w Bw P from by rw [hw];exact kept_set HK.out PG.out);have HQK2:=am (HQK.out.set hw);have HB2:=am (show Below w0.heap.size w0 Bw from by rw [hw];exact HB.out.setCell GB.out _);clear HSA HSE HG HK HQK HB hw HOUT HSG HCZ;have HSA:=HSA2;have HSE:=HSE2;have HG:=cK;have HK:=HK2;have HQK:=HQK2;have HB:=HB2;clear HSA2 HSE2 cK HK2 HQK2 HB2;have HOUT:=HOUT2;have HSG:=HSG2;have HCZ:=HCZ2;clear HOUT2 HSG2 HCZ2;simp only [cellsE,List.set_cons_zero,List.set_cons_succ] at HSG;have a3A:=am (show (wrap64 ((wrap64 ((wrap64 ((((wrap64 ((wrap64 (n+1))+1))+cntN l[i].f2)+cntN l[i].f3)+1))+1))+1))=(((((((n+1)+1)+q0)+q1)+1)+1)+1) from by rw [Dw.out];exact mk_w1 _ (by have bW:=HQN.out;have cD:=HQP.out;omega) (by have bW:=HQN.out;have cD:=HQP.out;omega));have DG:=(blk_cell HG.out (i*14+7)).trans (segD_at (o:=7) HSG.out (by omega) rfl);have jA:=blk_frozen HG.out (i*14+7))
          | ((with_reducible refine gate_store (t:=3) (p:=70) rfl ?_);refine store_event (t:=3) (p:=70) (v:=?vo_w207) (w1:=(Bw.setCell ⟨g,i*14+7,none⟩ (.int .i64 (wrap64 ((wrap64 ((wrap64 ((((wrap64 ((wrap64 (n+1))+1))+cntN l[i].f2)+cntN l[i].f3)+1))+1))+1))))) ?hg ?ho ?hn ?hr ?_;(case ho=>rfl);(case hg=>rfl);(case hn=>rfl);(case hr=>first|(go_simp;done)|(go_simp;rfl));intro Bz hw;clear DG jA;have HOUT2:=am (segD_out HOUT.out (o:=7) (by omega) (.int .i64 (wrap64 ((wrap64 ((wrap64 ((((wrap64 ((wrap64 (n+1))+1))+cntN l[i].f2)+cntN l[i].f3)+1))+1))+1))));have HSG2:=am (segD_set HSG.out (o:=7) (by omega) (.int .i64 (wrap64 ((wrap64 ((wrap64 ((((wrap64 ((wrap64 (n+1))+1))+cntN l[i].f2)+cntN l[i].f3)+1))+1))+1))));have HCZ2:=am (HCZ.out.set (i*14+7) (.int .i64 (wrap64 ((wrap64 ((wrap64 ((((wrap64 ((wrap64 (n+1))+1))+cntN l[i].f2)+cntN l[i].f3)+1))+1))+1))));have HSA2:=am (show Kd.S k69 69 Bz w0.heap.size _ _ _ from by rw [hw];exact Kd.S_far HSA.out (fun k_ e_=>e_.1.1.2) _);have HSE2:=am (show Kd.S k69 69 Bz w0.heap.size _ _ _ from by rw [hw];exact Kd.S_far HSE.out (fun k_ e_=>e_.1.1.2) _);have cK:=am ((congrArg (fun z_:World=>z_.heap[g]?) hw).trans (heap_set_row HG.out _));have HK2:=am (show Kept w Bz P from by rw [hw];exact kept_set HK.out PG.out);have HQK2:=am (HQK.out.set hw);have HB2:=am (show Below w0.heap.size w0 Bz from by rw [hw];exact HB.out.setCell GB.out _);clear HSA HSE HG HK HQK HB hw HOUT HSG HCZ;have HSA:=HSA2;have HSE:=HSE2;have HG:=cK;have HK:=HK2;have HQK:=HQK2;have HB:=HB2;clear HSA2 HSE2 cK HK2 HQK2 HB2;have HOUT:=HOUT2;have HSG:=HSG2;have HCZ:=HCZ2;clear HOUT2 HSG2 HCZ2;simp only [cellsE,List.set_cons_zero,List.set_cons_succ] at HSG;have a3B:=am (show (wrap64 ((wrap64 ((wrap64 ((wrap64 ((((wrap64 ((wrap64 (n+1))+1))+cntN l[i].f2)+cntN l[i].f3)+1))+1))+1))+1))=((((((((n+1)+1)+q0)+q1)+1)+1)+1)+1) from by rw [a3A.out];exact mk_w1 _ (by have bW:=HQN.out;have cD:=HQP.out;omega) (by have bW:=HQN.out;have cD:=HQP.out;omega));have DI:=(blk_cell HG.out (i*14+8)).trans (segD_at (o:=8) HSG.out (by omega) rfl);have hf8:=blk_frozen HG.out (i*14+8))
          | ((with_reducible refine gate_store (t:=3) (p:=78) rfl ?_);refine store_event (t:=3) (p:=78) (v:=?vo_w208) (w1:=(Bz.setCell ⟨g,i*14+8,none⟩ (.int .i64 (wrap64 ((wrap64 ((wrap64 ((wrap64 ((((wrap64 ((wrap64 (n+1))+1))+cntN l[i].f2)+cntN l[i].f3)+1))+1))+1))+1))))) ?hg ?ho ?hn ?hr ?_;(case ho=>rfl);(case hg=>rfl);(case hn=>rfl);(case hr=>first|(go_simp;done)|(go_simp;rfl));intro BA hw;clear DI hf8;have HOUT2:=am (segD_out HOUT.out (o:=8) (by omega) (.int .i64 (wrap64 ((wrap64 ((wrap64 ((wrap64 ((((wrap64 ((wrap64 (n+1))+1))+cntN l[i].f2)+cntN l[i].f3)+1))+1))+1))+1))));have HSG2:=am (segD_set HSG.out (o:=8) (by omega) (.int .i64 (wrap64 ((wrap64 ((wrap64 ((wrap64 ((((wrap64 ((wrap64 (n+1))+1))+cntN l[i].f2)+cntN l[i].f3)+1))+1))+1))+1))));have HCZ2:=am (HCZ.out.set (i*14+8) (.int .i64 (wrap64 ((wrap64 ((wrap64 ((wrap64 ((((wrap64 ((wrap64 (n+1))+1))+cntN l[i].f2)+cntN l[i].f3)+1))+1))+1))+1))));have HSA2:=am (show Kd.S k69 69 BA w0.heap.size _ _ _ from by rw [hw];exact Kd.S_far HSA.out (fun k_ e_=>e_.1.1.2) _);have HSE2:=am (show Kd.S k69 69 BA w0.heap.size _ _ _ from by rw [hw];exact Kd.S_far HSE.out (fun k_ e_=>e_.1.1.2) _);have cK:=am ((congrArg (fun z_:World=>z_.heap[g]?) hw).trans (heap_set_row HG.out _));have HK2:=am (show Kept w BA P from by rw [hw];exact kept_set HK.out PG.out);have HQK2:=am (HQK.out.set hw);have HB2:=am (show Below w0.heap.size w0 BA from by rw [hw];exact HB.out.setCell GB.out _);clear HSA HSE HG HK HQK HB hw HOUT HSG HCZ;have HSA:=HSA2;have HSE:=HSE2;have HG:=cK;have HK:=HK2;have HQK:=HQK2;have HB:=HB2;clear HSA2 HSE2 cK HK2 HQK2 HB2;have HOUT:=HOUT2;have HSG:=HSG2;have HCZ:=HCZ2;clear HOUT2 HSG2 HCZ2;simp only [cellsE,List.set_cons_zero,List.set_cons_succ] at HSG;have a3C:=am (show (wrap64 ((wrap64 ((wrap64 ((wrap64 ((wrap64 ((((wrap64 ((wrap64 (n+1))+1))+cntN l[i].f2)+cntN l[i].f3)+1))+1))+1))+1))+1))=(((((((((n+1)+1)+q0)+q1)+1)+1)+1)+1)+1) from by rw [a3B.out];exact mk_w1 _ (by have bW:=HQN.out;have cD:=HQP.out;omega) (by have bW:=HQN.out;have cD:=HQP.out;omega));have NG:=(blk_cell HG.out (i*14+9)).trans (segD_at (o:=9) HSG.out (by omega) rfl);have kW:=blk_frozen HG.out (i*14+9))
          | ((with_reducible refine gate_store (t:=3) (p:=86) rfl ?_);refine store_event (t:=3) (p:=86) (v:=?vo_w209) (w1:=(BA.setCell ⟨g,i*14+9,none⟩ (.int .i64 (wrap64 ((wrap64 ((wrap64 ((wrap64 ((wrap64 ((((wrap64 ((wrap64 (n+1))+1))+cntN l[i].f2)+cntN l[i].f3)+1))+1))+1))+1))+1))))) ?hg ?ho ?hn ?hr ?_;(case ho=>rfl);(case hg=>rfl);(case hn=>rfl);(case hr=>first|(go_simp;done)|(go_simp;rfl));intro BB hw;clear NG kW;have HOUT2:=am (segD_out HOUT.out (o:=9) (by omega) (.int .i64 (wrap64 ((wrap64 ((wrap64 ((wrap64 ((wrap64 ((((wrap64 ((wrap64 (n+1))+1))+cntN l[i].f2)+cntN l[i].f3)+1))+1))+1))+1))+1))));have HSG2:=am (segD_set HSG.out (o:=9) (by omega) (.int .i64 (wrap64 ((wrap64 ((wrap64 ((wrap64 ((wrap64 ((((wrap64 ((wrap64 (n+1))+1))+cntN l[i].f2)+cntN l[i].f3)+1))+1))+1))+1))+1))));have HCZ2:=am (HCZ.out.set (i*14+9) (.int .i64 (wrap64 ((wrap64 ((wrap64 ((wrap64 ((wrap64 ((((wrap64 ((wrap64 (n+1))+1))+cntN l[i].f2)+cntN l[i].f3)+1))+1))+1))+1))+1))));have HSA2:=am (show Kd.S k69 69 BB w0.heap.size _ _ _ from by rw [hw];exact Kd.S_far HSA.out (fun k_ e_=>e_.1.1.2) _);have HSE2:=am (show Kd.S k69 69 BB w0.heap.size _ _ _ from by rw [hw];exact Kd.S_far HSE.out (fun k_ e_=>e_.1.1.2) _);have cK:=am ((congrArg (fun z_:World=>z_.heap[g]?) hw).trans (heap_set_row HG.out _));have HK2:=am (show Kept w BB P from by rw [hw];exact kept_set HK.out PG.out);have HQK2:=am (HQK.out.set hw);have HB2:=am (show Below w0.heap.size w0 BB from by rw [hw];exact HB.out.setCell GB.out _);clear HSA HSE HG HK HQK HB hw HOUT HSG HCZ;have HSA:=HSA2;have HSE:=HSE2;have HG:=cK;have HK:=HK2;have HQK:=HQK2;have HB:=HB2;clear HSA2 HSE2 cK HK2 HQK2 HB2;have HOUT:=HOUT2;have HSG:=HSG2;have HCZ:=HCZ2;clear HOUT2 HSG2 HCZ2;simp only [cellsE,List.set_cons_zero,List.set_cons_succ] at HSG;have MX:=am (show (wrap64 ((wrap64 ((wrap64 ((wrap64 ((wrap64 ((wrap64 ((((wrap64 ((wrap64 (n+1))+1))+cntN l[i].f2)+cntN l[i].f3)+1))+1))+1))+1))+1))+1))=((((((((((n+1)+1)+q0)+q1)+1)+1)+1)+1)+1)+1) from by rw [a3C.out];exact mk_w1 _ (by have bW:=HQN.out;have cD:=HQP.out;omega) (by have bW:=HQN.out;have cD:=HQP.out;omega));have NH:=(blk_cell HG.out (i*14+10)).trans (segD_at (o:=10) HSG.out (by omega) rfl);have aFA:=blk_frozen HG.out (i*14+10))
          | ((with_reducible refine gate_store (t:=4) (p:=96) rfl ?_);refine store_event (t:=4) (p:=96) (v:=?vo_w210) (w1:=(BB.setCell ⟨g,i*14+10,none⟩ (.bool (Int.tmod (wrap64 ((wrap64 ((wrap64 ((wrap64 ((wrap64 ((wrap64 ((((wrap64 ((wrap64 (n+1))+1))+cntN l[i].f2)+cntN l[i].f3)+1))+1))+1))+1))+1))+1)) 3 == 0)))) ?hg ?ho ?hn ?hr ?_;(case ho=>rfl);(case hg=>rfl);(case hn=>rfl);(case hr=>first|(go_simp;done)|(go_simp;rfl));intro BC hw;clear NH aFA;have HOUT2:=am (segD_out HOUT.out (o:=10) (by omega) (.bool (Int.tmod (wrap64 ((wrap64 ((wrap64 ((wrap64 ((wrap64 ((wrap64 ((((wrap64 ((wrap64 (n+1))+1))+cntN l[i].f2)+cntN l[i].f3)+1))+1))+1))+1))+1))+1)) 3 == 0)));have HSG2:=am (segD_set HSG.out (o:=10) (by omega) (.bool (Int.tmod (wrap64 ((wrap64 ((wrap64 ((wrap64 ((wrap64 ((wrap64 ((((wrap64 ((wrap64 (n+1))+1))+cntN l[i].f2)+cntN l[i].f3)+1))+1))+1))+1))+1))+1)) 3 == 0)));have HCZ2:=am (HCZ.out.set (i*14+10) (.bool (Int.tmod (wrap64 ((wrap64 ((wrap64 ((wrap64 ((wrap64 ((wrap64 ((((wrap64 ((wrap64 (n+1))+1))+cntN l[i].f2)+cntN l[i].f3)+1))+1))+1))+1))+1))+1)) 3 == 0)));have HSA2:=am (show Kd.S k69 69 BC w0.heap.size _ _ _ from by rw [hw];exact Kd.S_far HSA.out (fun k_ e_=>e_.1.1.2) _);have HSE2:=am (show Kd.S k69 69 BC w0.heap.size _ _ _ from by rw [hw];exact Kd.S_far HSE.out (fun k_ e_=>e_.1.1.2) _);have cK:=am ((congrArg (fun z_:World=>z_.heap[g]?) hw).trans (heap_set_row HG.out _));have HK2:=am (show Kept w BC P from by rw [hw];exact kept_set HK.out PG.out);have HQK2:=am (HQK.out.set hw);have HB2:=am (show Below w0.heap.size w0 BC from by rw [hw];exact HB.out.setCell GB.out _);clear HSA HSE HG HK HQK HB hw HOUT HSG HCZ;have HSA:=HSA2;have HSE:=HSE2;have HG:=cK;have HK:=HK2;have HQK:=HQK2;have HB:=HB2;clear HSA2 HSE2 cK HK2 HQK2 HB2;have HOUT:=HOUT2;have HSG:=HSG2;have HCZ:=HCZ2;clear HOUT2 HSG2 HCZ2;simp only [cellsE,List.set_cons_zero,List.set_cons_succ] at HSG;have MY:=am (show (wrap64 ((wrap64 ((wrap64 ((wrap64 ((wrap64 ((wrap64 ((wrap64 ((((wrap64 ((wrap64 (n+1))+1))+cntN l[i].f2)+cntN l[i].f3)+1))+1))+1))+1))+1))+1))+1))=(((((((((((n+1)+1)+q0)+q1)+1)+1)+1)+1)+1)+1)+1) from by rw [MX.out];exact mk_w1 _ (by have bW:=HQN.out;have cD:=HQP.out;omega) (by have bW:=HQN.out;have cD:=HQP.out;omega));have oO:=(blk_cell HG.out (i*14+11)).trans (segD_at (o:=11) HSG.out (by omega) rfl);have aFB:=blk_frozen HG.out (i*14+11))
          | ((with_reducible refine gate_store (t:=3) (p:=103) rfl ?_);refine store_event (t:=3) (p:=103) (v:=?vo_w211) (w1:=(BC.setCell ⟨g,i*14+11,none⟩ (.int .i64 (wrap64 ((wrap64 ((wrap64 ((wrap64 ((wrap64 ((wrap64 ((wrap64 ((((wrap64 ((wrap64 (n+1))+1))+cntN l[i].f2)+cntN l[i].f3)+1))+1))+1))+1))+1))+1))+1))))) ?hg ?ho ?hn ?hr ?_;(case ho=>rfl);(case hg=>rfl);(case hn=>rfl);(case hr=>first|(go_simp;done)|(go_simp;rfl));intro IV hw;clear oO aFB;have HOUT2:=am (segD_out HOUT.out (o:=11) (by omega) (.int .i64 (wrap64 ((wrap64 ((wrap64 ((wrap64 ((wrap64 ((wrap64 ((wrap64 ((((wrap64 ((wrap64 (n+1))+1))+cntN l[i].f2)+cntN l[i].f3)+1))+1))+1))+1))+1))+1))+1))));have HSG2:=am (segD_set HSG.out (o:=11) (by omega) (.int .i64 (wrap64 ((wrap64 ((wrap64 ((wrap64 ((wrap64 ((wrap64 ((wrap64 ((((wrap64 ((wrap64 (n+1))+1))+cntN l[i].f2)+cntN l[i].f3)+1))+1))+1))+1))+1))+1))+1))));have HCZ2:=am (HCZ.out.set (i*14+11) (.int .i64 (wrap64 ((wrap64 ((wrap64 ((wrap64 ((wrap64 ((wrap64 ((wrap64 ((((wrap64 ((wrap64 (n+1))+1))+cntN l[i].f2)+cntN l[i].f3)+1))+1))+1))+1))+1))+1))+1))));have HSA2:=am (show Kd.S k69 69 IV w0.heap.size _ _ _ from by rw [hw];exact Kd.S_far HSA.out (fun k_ e_=>e_.1.1.2) _);have HSE2:=am (show Kd.S k69 69 IV w0.heap.size _ _ _ from by rw [hw];exact Kd.S_far HSE.out (fun k_ e_=>e_.1.1.2) _);have cK:=am ((congrArg (fun z_:World=>z_.heap[g]?) hw).trans (heap_set_row HG.out _));have HK2:=am (show Kept w IV P from by rw [hw];exact kept_set HK.out PG.out);have HQK2:=am (HQK.out.set hw);have HB2:=am (show Below w0.heap.size w0 IV from by rw [hw];exact HB.out.setCell GB.out _);clear HSA HSE HG HK HQK HB hw HOUT HSG HCZ;have HSA:=HSA2;have HSE:=HSE2;have HG:=cK;have HK:=HK2;have HQK:=HQK2;have HB:=HB2;clear HSA2 HSE2 cK HK2 HQK2 HB2;have HOUT:=HOUT2;have HSG:=HSG2;have HCZ:=HCZ2;clear HOUT2 HSG2 HCZ2;simp only [cellsE,List.set_cons_zero,List.set_cons_succ] at HSG;have wS:=am (show (wrap64 ((wrap64 ((wrap64 ((wrap64 ((wrap64 ((wrap64 ((wrap64 ((wrap64 ((((wrap64 ((wrap64 (n+1))+1))+cntN l[i].f2)+cntN l[i].f3)+1))+1))+1))+1))+1))+1))+1))+1))=((((((((((((n+1)+1)+q0)+q1)+1)+1)+1)+1)+1)+1)+1)+1) from by rw [MY.out];exact mk_w1 _ (by have bW:=HQN.out;have cD:=HQP.out;omega) (by have bW:=HQN.out;have cD:=HQP.out;omega)))
          | ((with_reducible refine gate_callee (f:=32) rfl ?_);refine goesL_ (some 109) rfl rfl Tryz.func32 (by kernel_rfl) rfl #[.int .i64 (wrap64 ((wrap64 ((wrap64 ((wrap64 ((wrap64 ((wrap64 ((wrap64 ((wrap64 ((((wrap64 ((wrap64 (n+1))+1))+cntN l[i].f2)+cntN l[i].f3)+1))+1))+1))+1))+1))+1))+1))+1))] rfl (by (try simp only [List.map_toArray,List.map_cons,List.map_nil]);first|done|rfl) ?_;obtain ⟨kt,hkt⟩:=(mt_ev (wrap64 ((wrap64 ((wrap64 ((wrap64 ((wrap64 ((wrap64 ((wrap64 ((wrap64 ((((wrap64 ((wrap64 (n+1))+1))+cntN l[i].f2)+cntN l[i].f3)+1))+1))+1))+1))+1))+1))+1))+1)) (by rw [wS.out];have bW:=HQN.out;have cD:=HQP.out;omega) (by rw [wS.out];have bW:=HQN.out;have cD:=HQP.out;omega));(refine (laws_markText.calls kt (wrap64 ((wrap64 ((wrap64 ((wrap64 ((wrap64 ((wrap64 ((wrap64 ((wrap64 ((((wrap64 ((wrap64 (n+1))+1))+cntN l[i].f2)+cntN l[i].f3)+1))+1))+1))+1))+1))+1))+1))+1)) (mt (wrap64 ((wrap64 ((wrap64 ((wrap64 ((wrap64 ((wrap64 ((wrap64 ((wrap64 ((((wrap64 ((wrap64 (n+1))+1))+cntN l[i].f2)+cntN l[i].f3)+1))+1))+1))+1))+1))+1))+1))+1))) _ (hkt kt (Nat.le_refl _))).mono ?_);rintro e a7V ⟨rfl,hb⟩;refine ⟨_,rfl,?_⟩;clear hkt;have HSA2:=am (Kd.S_below (by (with_reducible repeat (first|apply Kd.S_alloc|apply Kd.S_drewN|apply Kd.S_drew));exact HSA.out) hb);have HSE2:=am (Kd.S_below (by (with_reducible repeat (first|apply Kd.S_alloc|apply Kd.S_drewN|apply Kd.S_drew));exact HSE.out) hb);have cK:=am (blk_below (g:=g) (by (with_reducible repeat (first|refine blk_drewN ?_ _|refine blk_drew ?_|refine blk_alloc ?_ _));exact HG.out) hb);have HK2:=am (Kept.below (S:=fun k_=>P k_) (show Kept w _ P from by repeat (first|exact HK.out|apply Kept.alloc|apply Kept.drewN|apply Kept.drew)) hb);have HQK2:=am (KeepD.below (by repeat (first|exact HQK.out|apply KeepD.drewN|apply KeepD.drew)) hb);have HB2:=am (below_step (show Below w0.heap.size w0 _ from by repeat (first|exact HB.out|apply pw_below_drewN|apply below_drew1|apply below_alloc)) hb);clear HSA HSE HG HK HQK HB hb;have HSA:=HSA2;have HSE:=HSE2;have HG:=cK;have HK:=HK2;have HQK:=HQK2;have HB:=HB2;clear HSA2 HSE2 cK HK2 HQK2 HB2;have rI:=(blk_cell HG.out (i*14+12)).trans (segD_at (o:=12) HSG.out (by omega) rfl);have aFC:=blk_frozen HG.out (i*14+12))
          | ((with_reducible refine gate_store (t:=9) (p:=111) rfl ?_);refine store_event (t:=9) (p:=111) (v:=?vo_w212) (w1:=(a7V.setCell ⟨g,i*14+12,none⟩ (.string (mt (wrap64 ((wrap64 ((wrap64 ((wrap64 ((wrap64 ((wrap64 ((wrap64 ((wrap64 ((((wrap64 ((wrap64 (n+1))+1))+cntN l[i].f2)+cntN l[i].f3)+1))+1))+1))+1))+1))+1))+1))+1)))))) ?hg ?ho ?hn ?hr ?_;(case ho=>rfl);(case hg=>rfl);(case hn=>rfl);(case hr=>first|(go_simp;done)|(go_simp;rfl));intro IW hw;clear rI aFC;have HOUT2:=am (segD_out HOUT.out (o:=12) (by omega) (.string (mt (wrap64 ((wrap64 ((wrap64 ((wrap64 ((wrap64 ((wrap64 ((wrap64 ((wrap64 ((((wrap64 ((wrap64 (n+1))+1))+cntN l[i].f2)+cntN l[i].f3)+1))+1))+1))+1))+1))+1))+1))+1)))));have HSG2:=am (segD_set HSG.out (o:=12) (by omega) (.string (mt (wrap64 ((wrap64 ((wrap64 ((wrap64 ((wrap64 ((wrap64 ((wrap64 ((wrap64 ((((wrap64 ((wrap64 (n+1))+1))+cntN l[i].f2)+cntN l[i].f3)+1))+1))+1))+1))+1))+1))+1))+1)))));have HCZ2:=am (HCZ.out.set (i*14+12) (.string (mt (wrap64 ((wrap64 ((wrap64 ((wrap64 ((wrap64 ((wrap64 ((wrap64 ((wrap64 ((((wrap64 ((wrap64 (n+1))+1))+cntN l[i].f2)+cntN l[i].f3)+1))+1))+1))+1))+1))+1))+1))+1)))));have HSA2:=am (show Kd.S k69 69 IW w0.heap.size _ _ _ from by rw [hw];exact Kd.S_far HSA.out (fun k_ e_=>e_.1.1.2) _);have HSE2:=am (show Kd.S k69 69 IW w0.heap.size _ _ _ from by rw [hw];exact Kd.S_far HSE.out (fun k_ e_=>e_.1.1.2) _);have cK:=am ((congrArg (fun z_:World=>z_.heap[g]?) hw).trans (heap_set_row HG.out _));have HK2:=am (show Kept w IW P from by rw [hw];exact kept_set HK.out PG.out);have HQK2:=am (HQK.out.set hw);have HB2:=am (show Below w0.heap.size w0 IW from by rw [hw];exact HB.out.setCell GB.out _);clear HSA HSE HG HK HQK HB hw HOUT HSG HCZ;have HSA:=HSA2;have HSE:=HSE2;have HG:=cK;have HK:=HK2;have HQK:=HQK2;have HB:=HB2;clear HSA2 HSE2 cK HK2 HQK2 HB2;have HOUT:=HOUT2;have HSG:=HSG2;have HCZ:=HCZ2;clear HOUT2 HSG2 HCZ2;simp only [cellsE,List.set_cons_zero,List.set_cons_succ] at HSG;have wT:=am (show (wrap64 ((wrap64 ((wrap64 ((wrap64 ((wrap64 ((wrap64 ((wrap64 ((wrap64 ((wrap64 ((((wrap64 ((wrap64 (n+1))+1))+cntN l[i].f2)+cntN l[i].f3)+1))+1))+1))+1))+1))+1))+1))+1))+1))=(((((((((((((n+1)+1)+q0)+q1)+1)+1)+1)+1)+1)+1)+1)+1)+1) from by rw [wS.out];exact mk_w1 _ (by have bW:=HQN.out;have cD:=HQP.out;omega) (by have bW:=HQN.out;have cD:=HQP.out;omega)))
          | ((with_reducible refine gate_callee (f:=32) rfl ?_);refine goesL_ (some 117) rfl rfl Tryz.func32 (by kernel_rfl) rfl #[.int .i64 (wrap64 ((wrap64 ((wrap64 ((wrap64 ((wrap64 ((wrap64 ((wrap64 ((wrap64 ((wrap64 ((((wrap64 ((wrap64 (n+1))+1))+cntN l[i].f2)+cntN l[i].f3)+1))+1))+1))+1))+1))+1))+1))+1))+1))] rfl (by (try simp only [List.map_toArray,List.map_cons,List.map_nil]);first|done|rfl) ?_;obtain ⟨kt,hkt⟩:=(mt_ev (wrap64 ((wrap64 ((wrap64 ((wrap64 ((wrap64 ((wrap64 ((wrap64 ((wrap64 ((wrap64 ((((wrap64 ((wrap64 (n+1))+1))+cntN l[i].f2)+cntN l[i].f3)+1))+1))+1))+1))+1))+1))+1))+1))+1)) (by rw [wT.out];have bW:=HQN.out;have cD:=HQP.out;omega) (by rw [wT.out];have bW:=HQN.out;have cD:=HQP.out;omega));(refine (laws_markText.calls kt (wrap64 ((wrap64 ((wrap64 ((wrap64 ((wrap64 ((wrap64 ((wrap64 ((wrap64 ((wrap64 ((((wrap64 ((wrap64 (n+1))+1))+cntN l[i].f2)+cntN l[i].f3)+1))+1))+1))+1))+1))+1))+1))+1))+1)) (mt (wrap64 ((wrap64 ((wrap64 ((wrap64 ((wrap64 ((wrap64 ((wrap64 ((wrap64 ((wrap64 ((((wrap64 ((wrap64 (n+1))+1))+cntN l[i].f2)+cntN l[i].f3)+1))+1))+1))+1))+1))+1))+1))+1))+1))) _ (hkt kt (Nat.le_refl _))).mono ?_);rintro e a7W ⟨rfl,hb⟩;refine ⟨_,rfl,?_⟩;clear hkt;have HSA2:=am (Kd.S_below (by (with_reducible repeat (first|apply Kd.S_alloc|apply Kd.S_drewN|apply Kd.S_drew));exact HSA.out) hb);have HSE2:=am (Kd.S_below (by (with_reducible repeat (first|apply Kd.S_alloc|apply Kd.S_drewN|apply Kd.S_drew));exact HSE.out) hb);have cK:=am (blk_below (g:=g) (by (with_reducible repeat (first|refine blk_drewN ?_ _|refine blk_drew ?_|refine blk_alloc ?_ _));exact HG.out) hb);have HK2:=am (Kept.below (S:=fun k_=>P k_) (show Kept w _ P from by repeat (first|exact HK.out|apply Kept.alloc|apply Kept.drewN|apply Kept.drew)) hb);have HQK2:=am (KeepD.below (by repeat (first|exact HQK.out|apply KeepD.drewN|apply KeepD.drew)) hb);have HB2:=am (below_step (show Below w0.heap.size w0 _ from by repeat (first|exact HB.out|apply pw_below_drewN|apply below_drew1|apply below_alloc)) hb);clear HSA HSE HG HK HQK HB hb;have HSA:=HSA2;have HSE:=HSE2;have HG:=cK;have HK:=HK2;have HQK:=HQK2;have HB:=HB2;clear HSA2 HSE2 cK HK2 HQK2 HB2;have IY:=(blk_cell HG.out (i*14+13)).trans (segD_at (o:=13) HSG.out (by omega) rfl);have aFD:=blk_frozen HG.out (i*14+13))
          | ((with_reducible refine gate_store (t:=9) (p:=119) rfl ?_);refine store_event (t:=9) (p:=119) (v:=?vo_w213) (w1:=(a7W.setCell ⟨g,i*14+13,none⟩ (.string (mt (wrap64 ((wrap64 ((wrap64 ((wrap64 ((wrap64 ((wrap64 ((wrap64 ((wrap64 ((wrap64 ((((wrap64 ((wrap64 (n+1))+1))+cntN l[i].f2)+cntN l[i].f3)+1))+1))+1))+1))+1))+1))+1))+1))+1)))))) ?hg ?ho ?hn ?hr ?_;(case ho=>rfl);(case hg=>rfl);(case hn=>rfl);(case hr=>first|(go_simp;done)|(go_simp;rfl));intro IX hw;clear IY aFD;have HOUT2:=am (segD_out HOUT.out (o:=13) (by omega) (.string (mt (wrap64 ((wrap64 ((wrap64 ((wrap64 ((wrap64 ((wrap64 ((wrap64 ((wrap64 ((wrap64 ((((wrap64 ((wrap64 (n+1))+1))+cntN l[i].f2)+cntN l[i].f3)+1))+1))+1))+1))+1))+1))+1))+1))+1)))));have HSG2:=am (segD_set HSG.out (o:=13) (by omega) (.string (mt (wrap64 ((wrap64 ((wrap64 ((wrap64 ((wrap64 ((wrap64 ((wrap64 ((wrap64 ((wrap64 ((((wrap64 ((wrap64 (n+1))+1))+cntN l[i].f2)+cntN l[i].f3)+1))+1))+1))+1))+1))+1))+1))+1))+1)))));have HCZ2:=am (HCZ.out.set (i*14+13) (.string (mt (wrap64 ((wrap64 ((wrap64 ((wrap64 ((wrap64 ((wrap64 ((wrap64 ((wrap64 ((wrap64 ((((wrap64 ((wrap64 (n+1))+1))+cntN l[i].f2)+cntN l[i].f3)+1))+1))+1))+1))+1))+1))+1))+1))+1)))));have HSA2:=am (show Kd.S k69 69 IX w0.heap.size _ _ _ from by rw [hw];exact Kd.S_far HSA.out (fun k_ e_=>e_.1.1.2) _);have HSE2:=am (show Kd.S k69 69 IX w0.heap.size _ _ _ from by rw [hw];exact Kd.S_far HSE.out (fun k_ e_=>e_.1.1.2) _);have cK:=am ((congrArg (fun z_:World=>z_.heap[g]?) hw).trans (heap_set_row HG.out _));have HK2:=am (show Kept w IX P from by rw [hw];exact kept_set HK.out PG.out);have HQK2:=am (HQK.out.set hw);have HB2:=am (show Below w0.heap.size w0 IX from by rw [hw];exact HB.out.setCell GB.out _);clear HSA HSE HG HK HQK HB hw HOUT HSG HCZ;have HSA:=HSA2;have HSE:=HSE2;have HG:=cK;have HK:=HK2;have HQK:=HQK2;have HB:=HB2;clear HSA2 HSE2 cK HK2 HQK2 HB2;have HOUT:=HOUT2;have HSG:=HSG2;have HCZ:=HCZ2;clear HOUT2 HSG2 HCZ2;simp only [cellsE,List.set_cons_zero,List.set_cons_succ] at HSG;have a3D:=am (show (wrap64 ((wrap64 ((wrap64 ((wrap64 ((wrap64 ((wrap64 ((wrap64 ((wrap64 ((wrap64 ((wrap64 ((((wrap64 ((wrap64 (n+1))+1))+cntN l[i].f2)+cntN l[i].f3)+1))+1))+1))+1))+1))+1))+1))+1))+1))+1))=((((((((((((((n+1)+1)+q0)+q1)+1)+1)+1)+1)+1)+1)+1)+1)+1)+1) from by rw [wT.out];exact mk_w1 _ (by have bW:=HQN.out;have cD:=HQP.out;omega) (by have bW:=HQN.out;have cD:=HQP.out;omega))))
        go_roundg k1
        case rel =>
          refine ⟨i+1,(wrap64 ((wrap64 ((wrap64 ((wrap64 ((wrap64 ((wrap64 ((wrap64 ((wrap64 ((wrap64 ((wrap64 ((((wrap64 ((wrap64 (n+1))+1))+cntN l[i].f2)+cntN l[i].f3)+1))+1))+1))+1))+1))+1))+1))+1))+1))+1)),(by (try simp only [i64_w])),(by (try simp only [i64_w]);rw [HW2.out]),⟨by rw [a3D.out];have h_:=HQ.out.2;rw [show elE l[i]=q0+q1+12 from by rw [Du.out,IG.out];exact elE_eq _] at h_;rw [← h_];omega⟩,⟨by have:=HI.out;have:=CI.out;omega⟩,⟨by have:=HK1.out;omega⟩,⟨?rw_⟩,⟨by repeat (first|exact HB.out|apply pw_below_drewN|apply below_drew1|apply below_alloc)⟩,⟨by repeat (first|exact HK.out|apply Kept.alloc|apply Kept.drewN|apply Kept.drew)⟩⟩
          (with_reducible repeat (first|apply Kd.R_alloc|apply Kd.R_drewN|apply Kd.R_drew))
          rw [rowX_next a1 l i CI.out];refine rowD_put (fa:=fa) (vA:=.slice Aa l[i].f2.length ca) (vE:=.slice Ae l[i].f3.length ce) HRW.out (rowX_len a1 l i (Nat.le_of_lt CI.out)).symm (by rw [rowX_len a1 l i (Nat.le_of_lt CI.out)];exact CI.out) HGS.out HG.out HCZ.out HOUT.out HQK.out (HSG.out.trans ?_) ?_ ?_
          · rw [wT.out,wS.out,MY.out,MX.out,a3C.out,a3B.out,a3A.out,Dw.out,Dv.out,xE.out,pD.out,Du.out,IG.out,HN.out];rfl
          · have h_:=HSA.out;rw [lG.out,HN.out] at h_;exact h_
          · have h_:=HSE.out;rw [oN.out,Du.out,HN.out] at h_;exact h_
        case measure=>have:=HK1.out;omega
      · have c0:decide ((i:Int)<(l.length:Int))=false:=df (by omega)
        have HE:=am (show n=a1+cntE l from by rw [HN.out,List.take_of_length_le (by omega)]);have HV:=am (show rowX a1 l i=mkE a1 l from by unfold rowX;rw [List.take_of_length_le (by omega),List.drop_of_length_le (by omega),List.append_nil]);go_wp2;go_ret;exact ⟨by first|(rw [HE.out];rfl)|(rw [← HE.out];rfl)|rfl,⟨f,by rw [← HV.out];exact (by (with_reducible repeat (first|apply Kd.R_alloc|apply Kd.R_drewN|apply Kd.R_drew));exact HRW.out)⟩,by repeat (first|exact HB.out|apply pw_below_drewN|apply below_drew1|apply below_alloc),by repeat (first|exact HK.out|apply Kept.alloc|apply Kept.drewN|apply Kept.drew)⟩
def zeroL:List Value:=[.string ⟨#[]⟩,.int .i64 0,.slice none 0 0,.slice none 0 0,.string ⟨#[]⟩,.string ⟨#[]⟩,.string ⟨#[]⟩,.int .i64 0,.int .i64 0,.int .i64 0,.bool false,.int .i64 0,.string ⟨#[]⟩,.string ⟨#[]⟩]
theorem clear_tail {w w0:World} {g c m base:Nat} {ok:Nat→Prop} {xs:List S42} (h:Kd.S kES 42 w base ok (.slice (some ⟨g,0,none⟩) m c) xs) (hm:m<c) (l:Nat) (hl:l=1) (HB:Below base w0 w) :
    ∃ w2:World,(∀ ty C,(Builtin.clear_ #[26] ty #[.slice (some ⟨g,m*14,none⟩) l C]).run Tryz.prog w=.ok (.tuple #[]) w2)∧Kd.S kES 42 w2 base ok (.slice (some ⟨g,0,none⟩) m c) xs∧Below base w0 w2∧w.heap.size≤w2.heap.size∧∀ k,k≠g→w2.heap[k]?=w.heap[k]?:=by
  subst hl;obtain ⟨f,h0,inner,ho,hr⟩:=h
  rcases ho.2 with ⟨hv,h2⟩|⟨g',cap',cur,hv,hg,hh,r1,r2,r3,r4⟩
  · cases hv
  · injection hv with hv1 hv2 hv3
    injection hv1 with hv1
    injection hv1 with hv1 _ _
    subst hv1 hv3 hv2;have hsz':(Kd.tag f kES).sz=14:=rfl;rw [hsz'] at r3
    have hone:xs.zipIdx.length*14+14≤c*14:=by rw [← Nat.succ_mul];exact Nat.mul_le_mul_right _ hm
    have hzl:zeroL.length=14:=rfl
    have hfit:xs.zipIdx.length*14+zeroL.length≤cur.size:=by omega
    obtain ⟨cur',h3,h4,h5⟩:=setCells_row zeroL (xs.zipIdx.length*14) w cur hh hfit;refine ⟨w.setCells g (xs.zipIdx.length*14) zeroL,fun ty C=>?_,⟨f,h0,inner,⟨ho.1,.inr ⟨g,c,cur',rfl,hg,h3,r1,r2,by rw [h4,hsz',r3],?_⟩⟩,?_⟩,?_,Nat.le_of_eq (setCells_same g zeroL (xs.zipIdx.length*14) w).2.2.2.symm,fun k hk=>setCells_far zeroL _ k hk⟩
    · have hcell:∀ j,j<zeroL.length→(w.cell? ⟨g,xs.zipIdx.length*14+0+j,none⟩).isSome=true:=fun j hj=>by
        rw [blk_cell hh,Array.getElem?_eq_getElem (by omega)];rfl
      have hfro:∀ j,j<zeroL.length→w.frozen? ⟨g,xs.zipIdx.length*14+0+j,none⟩=false:=fun j hj=>blk_frozen hh _
      have hone1:∀ v∈zeroL,v.oneCell'=true:=by
        intro v hv;simp only [zeroL,List.mem_cons,List.not_mem_nil,or_false] at hv
        rcases hv with rfl|rfl|rfl|rfl|rfl|rfl|rfl|rfl|rfl|rfl|rfl|rfl|rfl|rfl <;> rfl
      have hst:=run_storeCells_cells (P:=Tryz.prog) g (xs.zipIdx.length*14) zeroL 0 w hcell hfro hone1;simp only [Nat.add_zero] at hst
      obtain ⟨z,hv,hzc⟩:∃ z:Value,(∀ w,(zeroValue 42).run Tryz.prog w=.ok z w)∧(Builtin.zeroCells z.cells 1).toList=zeroL:=⟨.agg zeroL.toArray,Tryz.zeroValue42,by kernel_rfl⟩
      have hst2:=hst;simp only [List.length_zipIdx] at hst2;simp [Builtin.clear_,run_underlying Tryz.underlying26,hv,hzc,hst,hst2]
    · have hle:xs.zipIdx.length*14≤cur.size:=by omega
      have hlen:(List.take (xs.zipIdx.length*14) cur.toList).length=xs.zipIdx.length*14:=by
        rw [List.length_take];exact Nat.min_eq_left (by simpa using hle)
      rw [h5,hsz',List.append_assoc,List.take_append_of_le_length (Nat.le_of_eq hlen.symm),List.take_take,Nat.min_self];rw [← r4,hsz']
    · refine hr.imp_ (fun _ _ hp=>Kd.M_step hp (fun k hk _=>setCells_far zeroL _ k (fun e=>hk.2 (by rw [e];rfl))))
    · obtain ⟨s1,s2,s3,s4⟩:=setCells_same g zeroL (xs.zipIdx.length*14) w
      exact HB.trans ⟨s1,s2,s3,Nat.le_of_eq s4.symm,fun k hk=>setCells_far zeroL _ k (by omega)⟩
set_option maxHeartbeats 4000000 in
set_option maxRecDepth 100000 in
theorem del_s (w:World) (g c k base:Nat) (ok:Nat→Prop) (xs:List S42) (HO:Kd.S kES 42 w base ok (.slice (some ⟨g,0,none⟩) xs.length c) xs) (hk:k<xs.length) (hb:base≤w.heap.size) :
    Calls Tryz.prog 30 #[.slice (some ⟨g,0,none⟩) xs.length c,.int .i64 (k:Int),.int .i64 ((k+1:Nat):Int)] w fun e w'=>e=.returned (.slice (some ⟨g,0,none⟩) (xs.length-1) c)∧Kd.S kES 42 w' base ok (.slice (some ⟨g,0,none⟩) (xs.length-1) c) (xs.eraseIdx k)∧Below base w w'∧w.heap.size≤w'.heap.size∧∀ k_,k_<w.heap.size→k_≠g→w'.heap[k_]?=w.heap[k_]?:=by
  obtain ⟨_,hnc,_⟩:=Kd.S_reads' HO;have HS:=am HO;have HB0:=am hb
  have h1:(k:Int)≤((k+1:Nat):Int):=by omega
  have h2:((k+1:Nat):Int)≤(xs.length:Int):=by omega
  have h3:¬ ((k:Int)=((k+1:Nat):Int)):=by omega
  have hic:k≤c:=by omega
  have hjc:k+1≤c:=by omega
  have h4:(0:Int)≤(k:Int)+1:=by omega
  have h5:(k:Int)+1≤(xs.length:Int):=by omega
  have h6:(0:Int)≤(k:Int)+1∧(k:Int)+1≤(xs.length:Int):=⟨h4,h5⟩
  have mixed:Tryz.prog.follows Departure.mixedOrders=true:=by kernel_rfl
  have HA:=am (show (if c=k+1 then (some ⟨g,0,none⟩:Option Addr) else some ⟨g,(k+1)*14,none⟩)=if c=k+1 then (some ⟨g,0,none⟩:Option Addr) else (some (⟨g,0,none⟩:Addr)).map (·.add ((k+1)*14)) from by simp [Addr.add]);clear HO hb;go_enter Tryz.func30,Tryz.ntmps30;go_wp2_with fail
  go_region_law_o (refine Kd.S_delete_step kES (w0:=w) base rfl (.tmp 22) (.tmp 25) 26 42 rfl Tryz.underlying26 (by kernel_rfl) (k:=k) (by simp [Act.eval,Act.put]) (A:=if c=k+1 then (some ⟨g,0,none⟩:Option Addr) else some ⟨g,(k+1)*14,none⟩) (m:=xs.length-(k+1)) (c2:=c-(k+1)) (by simp [Act.eval,Act.put]) HA.out rfl (by (with_reducible repeat (first|apply Kd.S_alloc|apply Kd.S_drewN|apply Kd.S_drew));exact HS.out) hk (by repeat (first|exact Below.refl _ _|apply pw_below_drewN|apply below_drew1)) HB0.out ?_;intro w1 hS1 hB1 hG1;obtain ⟨w2,hcl,hS2,hB2,IA,NF⟩:=clear_tail hS1 (by omega) (xs.length-(xs.length-1)) (by omega) hB1;have HS2:=am hS2;have HB2:=am hB2;have HF2:=am (And.intro (show w.heap.size≤w2.heap.size from Nat.le_trans (show w.heap.size≤w1.heap.size from hG1.size) IA) (fun (k_:Nat) (hlt_:k_<w.heap.size) (hne_:k_≠g)=>(NF k_ hne_).trans (show w1.heap[k_]?=w.heap[k_]? from hG1.block k_ hlt_ (fun e_=>hne_ (ojz e_)))));clear hS1 hB1 hG1 hS2 hB2 IA NF)
  go_wp2
  all_goals go_ret
  all_goals first
    | exact ⟨rfl,HS2.out,HB2.out,HF2.out⟩
    | (have e_:c=k+1:=(by first|assumption|omega);subst e_;exact ⟨rfl,HS2.out,HB2.out,HF2.out⟩)
end Go.Proofs.YteagahcbffgjpaaGreatDoor.G

namespace Go.Proofs.YteagahcbffgjpaaGreatDoor.G
open Go.RowKit Go.Proofs.YteagahcbffgjpaaGreatDoorW.PrintWords Go.Proofs.YteagahcbffgjpaaGreatDoorW.PrintLast Go.Proofs.YteagahcbffgjpaaGreatDoorW.PrintMore
open Go.Proofs.YteagahcbffgjpaaGreatDoor.Gl Go.Proofs.YteagahcbffgjpaaGreatDoor.Ext
attribute [local go_sem] max2_int min2_int max_two min_two max_three min_three max_four min_four   -- for this text's walks alone
set_option linter.unusedVariables false
set_option linter.unusedSimpArgs false
def impl_newNames.l0:Nat→List (S69)→List (S69)→Int→Int→Option ((List (S69)))
 | 0,_,_,_,_=>none
 | k+1,x3,x7,x8,x9=>if x9<x8 then (if 0≤x9 then (if x9<(x7.length:Int) then ((some (([]:List ByteArray):List ByteArray)).bind fun DJ=>(if DJ.length+((rd_T69 x7 x9).f0).length<8796093022208 then (if x3.length<1954687338268 then (impl_newNames.l0 k (x3++[(⟨(DJ++((rd_T69 x7 x9).f0)),(rd_T69 x7 x9).f1,(rd_T69 x7 x9).f2,(rd_T69 x7 x9).f3⟩:S69)]) x7 x8 (wrap64 (x9+1))) else (none)) else (none))) else (none)) else (none)) else (some x3)
def impl_newNames.f (k:Nat) (l0:List (S69)):Option ((List (S69))):=impl_newNames.l0 k (([]:List (S69))) l0 (l0.length:Int) 0
theorem impl_newNames.mono_l:∀ k,(∀ y0 y1 y2 y3,LeO (impl_newNames.l0 k y0 y1 y2 y3) (impl_newNames.l0 (k+1) y0 y1 y2 y3))
 | 0=>fun _ _ _ _ r h=>by simp [impl_newNames.l0] at h
 | k+1=>by
  have ih0:=impl_newNames.mono_l k
  ·
   intro y0 y1 y2 y3;unfold impl_newNames.l0
   repeat' first
   | (with_reducible exact ih0 _ _ _ _)
   | (with_reducible exact LeO.refl _)
   | (with_reducible exact LeO.none _)
   | (with_reducible refine LeO.ite ?_ ?_)
   | (with_reducible refine LeO.bind ?_ (fun _=>?_))
   | exact ih0 _ _ _ _
   | exact LeO.none _
   | refine LeO.ite ?_ ?_
   | refine LeO.bind ?_ (fun _=>?_)
theorem impl_newNames.mono:∀ a0 k,LeO (impl_newNames.f k a0) (impl_newNames.f (k+1) a0):=by
 intro a0 k;have ih0:=impl_newNames.mono_l k;unfold impl_newNames.f
 repeat' first
   | (with_reducible exact ih0 _ _ _ _)
   | (with_reducible exact LeO.refl _)
   | (with_reducible exact LeO.none _)
   | (with_reducible refine LeO.ite ?_ ?_)
   | (with_reducible refine LeO.bind ?_ (fun _=>?_))
   | exact ih0 _ _ _ _
   | exact LeO.none _
   | refine LeO.ite ?_ ?_
   | refine LeO.bind ?_ (fun _=>?_)
set_option maxHeartbeats 8000000 in
set_option maxRecDepth 100000 in
theorem impl_newNames.calls (k:Nat) (A0:Option Addr) (c0:Nat) (l0:List (S69)) (r:List (S69)) (w:World) (dH:Kd.C k69 w A0 l0.length l0) (cP:l0.length≤c0) (h:impl_newNames.f k l0=some r) :
  Calls Tryz.prog 66 #[.slice A0 l0.length c0] w fun e w'=>∃ dS:Value,e=.returned (dS)∧Kd.S k69 69 w' w.heap.size (fun _=>True) dS r∧Below w.heap.size w w':=by
 have hu69:=Tryz.underlying69;have cW:=am dH;have mM:=am cP;clear dH cP;have HB:=am (Below.refl w.heap.size w);have H:(impl_newNames.l0 k (([]:List (S69))) l0 (l0.length:Int) 0)=some r:=h;clear h
 obtain ⟨avA,K4⟩:∃ y_:List (S69),y_=(([]:List (S69))):=⟨_,rfl⟩
 replace H:(impl_newNames.l0 k avA l0 (l0.length:Int) 0)=some r:=by first|(rw [K4];with_reducible exact H)|(have H2_:=(Option.bind_some _ _).symm.trans H;rw [K4];with_reducible exact H2_)|(have H2_:=(Option.bind_some _ _).symm.trans H;with_reducible exact H2_)|with_reducible exact H|(rw [K4];exact H)|exact H
 have afF:=am K4;clear K4;have H':=am H;clear H;go_enter Tryz.func66,Tryz.ntmps66;go_wp2_with (first|((with_reducible refine gate_dst (N:=6) rfl ?_);refine Kd.S_lit k69 _ 69 ?hg (N:=6) ?hd (xs:=([]:List (S69))) (inner:=[]) (ok:=fun _=>True) (okp:=fun _=>True) ?hr ?hp (fun _ hk=>hk) trivial (Below.refl _ _) (Nat.le_refl _) (by simp) ?_;(case hd=>rfl);(case hg=>rfl);(case hr=>first|(go_simp;done)|(go_simp;rfl));(case hp=>exact (Reps.none _ _));intro aZY w2 ho3 hb hg_ hnew_;clear hg_ hnew_;(first|rw [← afF.out] at ho3|(simp only [Int.reduceToNat] at ho3;rw [← afF.out] at ho3));have aDz:=am (Kd.S_lower ho3 (below_size au46));replace HB:=am (below_step au46 hb);clear hb ho3))
 go_loopg [3,9] k (fun kq v3 v9 w'=>∃ (aE:List (S69)) (cG:Int),v9=.int .i64 cG∧Aside0 (impl_newNames.l0 kq aE l0 (l0.length:Int) cG=some r)∧Aside0 (kq≤k)∧Aside0 (Kd.S k69 69 w' w.heap.size (fun _=>True) v3 aE)∧Aside0 (Below w.heap.size w w'))
 case atStart=>exact ⟨(avA),(0),au88,H',⟨Nat.le_refl _⟩,⟨by (with_reducible repeat (first|apply Kd.S_alloc|apply Kd.S_drewN|apply Kd.S_drew));exact aDz.out⟩,⟨by repeat (first|(with_reducible first|exact HB.out|apply below_alloc|apply pw_below_drewN|apply below_drew1)|exact HB.out)⟩⟩
 case round =>
  clear H'
  try clear p2
  obtain ⟨aE,cG,rfl,HA,HK1,bS,HB⟩:=hrel
  cases gk with
  | zero=>exact absurd HA.out (by simp [impl_newNames.l0])
  | succ k1 =>
   have H:=HA.out;clear HA;simp only [impl_newNames.l0] at H;by_cases c4:cG<(l0.length:Int)
   ·
    rw [if_pos c4] at H;have c4b0:=dt c4;clear c4;by_cases c5:0≤cG
    ·
     rw [if_pos c5] at H;have c5b0:=dt c5;clear c5;by_cases c6:cG<(l0.length:Int)
     ·
      rw [if_pos c6] at H;have c6b0:=dt c6;clear c6
      obtain ⟨DJ,K5⟩:∃ y_:List ByteArray,y_=(([]:List ByteArray)):=⟨_,rfl⟩
      replace H:(if DJ.length+((rd_T69 l0 cG).f0).length<8796093022208 then (if aE.length<1954687338268 then (impl_newNames.l0 k1 (aE++[(⟨(DJ++((rd_T69 l0 cG).f0)),(rd_T69 l0 cG).f1,(rd_T69 l0 cG).f2,(rd_T69 l0 cG).f3⟩:S69)]) l0 (l0.length:Int) (wrap64 (cG+1))) else (none)) else (none))=some r:=by first|(rw [K5];with_reducible exact H)|(have H2_:=(Option.bind_some _ _).symm.trans H;rw [K5];with_reducible exact H2_)|(have H2_:=(Option.bind_some _ _).symm.trans H;with_reducible exact H2_)|with_reducible exact H|(rw [K5];exact H)|exact H
      have afG:=am K5;clear K5;by_cases c7:DJ.length+((rd_T69 l0 cG).f0).length<8796093022208
      ·
       rw [if_pos c7] at H;have a7X:=am c7;clear c7
       obtain ⟨nB,K6⟩:∃ y_:List ByteArray,y_=(DJ++((rd_T69 l0 cG).f0)):=⟨_,rfl⟩
       replace H:(if aE.length<1954687338268 then (impl_newNames.l0 k1 (aE++[(⟨nB,(rd_T69 l0 cG).f1,(rd_T69 l0 cG).f2,(rd_T69 l0 cG).f3⟩:S69)]) l0 (l0.length:Int) (wrap64 (cG+1))) else (none))=some r:=by first|(rw [K6];with_reducible exact H)|(have H2_:=(Option.bind_some _ _).symm.trans H;rw [K6];with_reducible exact H2_)|(have H2_:=(Option.bind_some _ _).symm.trans H;with_reducible exact H2_)|with_reducible exact H|(rw [K6];exact H)|exact H
       have aDA:=am K6;clear K6;by_cases c8:aE.length<1954687338268
       ·
        rw [if_pos c8] at H;have aFE:=am c8;clear c8
        obtain ⟨avB,K7⟩:∃ y_:List (S69),y_=(aE++[(⟨nB,(rd_T69 l0 cG).f1,(rd_T69 l0 cG).f2,(rd_T69 l0 cG).f3⟩:S69)]):=⟨_,rfl⟩
        replace H:(impl_newNames.l0 k1 avB l0 (l0.length:Int) (wrap64 (cG+1)))=some r:=by first|(rw [K7];with_reducible exact H)|(have H2_:=(Option.bind_some _ _).symm.trans H;rw [K7];with_reducible exact H2_)|(have H2_:=(Option.bind_some _ _).symm.trans H;with_reducible exact H2_)|with_reducible exact H|(rw [K7];exact H)|exact H
        have aDB:=am K7;clear K7;have H':=am H;clear H;have a7Y:0≤(cG:Int):=od au87;have a7Z:cG<(l0.length:Int):=od au87;obtain ⟨aWG,uO,uP,aFF,Sw,Sx,Sy,Sz,SA,SB⟩:=at_T69 cW.out cG a7Y a7Z
        cases aFF
        replace Sw:=bcl HB.out Sw;replace Sx:=bcl HB.out Sx;replace Sy:=bcl HB.out Sy;replace Sz:=bcl HB.out Sz;have ahQ:=am SB;have aJK:=am SA;clear SB SA;replace a7Y:=eq_true a7Y;replace a7Z:=eq_true a7Z;go_wp2_with (first|((with_reducible refine gate_dst (N:=5) rfl ?_);refine box_event ?hg (N:=5) ?hd (cs:=#[.slice none 0 0,.string (⟨#[]⟩:ByteArray),.string (⟨#[]⟩:ByteArray),.string (⟨#[]⟩:ByteArray)]) (t:=69) ?hr ?_;(case hd=>rfl);(case hg=>rfl);(case hr=>first|(go_simp;done)|(go_simp;rfl));intro fX hg w9 hbox hb;replace bS:=am (Kd.S_below (Kd.S_elderB au83 fX (Nat.le_of_eq hg.symm)) hb);have iC:=am (hbox);have aWH:=am (bsz hg au46);have aeN:=am (bsz hg au46);replace HB:=am (below_step au46 hb);clear hb hbox hg;obtain ⟨nM,KS,KT,KU,nN,KV,KW,KX⟩:=blkc4 iC.out)|((with_reducible refine gate_dst (N:=13) rfl ?_);refine Kd.R_lit Kd.string _ 9 ?hg (N:=13) ?hd (xs:=([]:List ByteArray)) (inner:=[]) (ok:=fun _=>True) (okp:=fun _=>True) ?hr ?hp (fun _ hk=>hk) trivial (Below.refl _ _) (Nat.le_refl _) (by simp) ?_;(case hd=>rfl);(case hg=>rfl);(case hr=>first|(go_simp;done)|(go_simp;rfl));(case hp=>exact (Reps.none _ _));intro aFG dM ho12 hb hg_ hnew_;clear hg_ hnew_;(first|rw [← afG.out] at ho12|(simp only [Int.reduceToNat] at ho12;rw [← afG.out] at ho12));replace bS:=am (Kd.S_elder' (by (with_reducible repeat (first|apply Kd.S_alloc|apply Kd.S_drewN|apply Kd.S_drew));exact (Kd.S_mono (Kd.S_far (p:=⟨fX,3,none⟩) (Kd.S_far (p:=⟨fX,2,none⟩) (Kd.S_far (p:=⟨fX,1,none⟩) (Kd.S_far (p:=⟨fX,0,none⟩) (Kd.S_mono bS.out (fun k_ hk=>(⟨hk,hk.2⟩:_∧k_≠fX))) (fun _ hk=>hk.2) (.slice uO ((rd_T69 l0 cG).f0).length uP)) (fun _ hk=>hk.2) (.string ((rd_T69 l0 cG).f1))) (fun _ hk=>hk.2) (.string ((rd_T69 l0 cG).f2))) (fun _ hk=>hk.2) (.string ((rd_T69 l0 cG).f3))) (fun _ h_=>h_.1))) (Kd.R_base ho12) hb);have a3E:=am (Kd.R_lower ho12 (below_size au21));replace iC:=am (blk_below (g:=fX) (o:=.cells #[.slice uO ((rd_T69 l0 cG).f0).length uP,.string ((rd_T69 l0 cG).f1),.string ((rd_T69 l0 cG).f2),.string ((rd_T69 l0 cG).f3)] 69 (0,0)) (by (with_reducible repeat (first|refine blk_drewN ?_ _|refine blk_drew ?_|refine blk_alloc ?_ _));apply put4;(with_reducible repeat (first|refine blk_drewN ?_ _|refine blk_drew ?_|refine blk_alloc ?_ _));exact iC.out) hb);replace HB:=am (below_step au21 hb);clear hb ho12;obtain ⟨lV,nO,nP,nQ,lW,nR,nS,nT⟩:=blkc4 iC.out)|((with_reducible refine gate_builtin (b:=.append) (xs:=#[.tmp 13,.tmp 15]) rfl ?_);at_builtin;refine Kd.R_append_rows Kd.string (w0:=w) w.heap.size rfl (.tmp 13) (.tmp 15) 67 9 (.string ⟨#[]⟩) 16 rfl Tryz.underlying67 info9 rfl (by decide) (by omega) aFG DJ ((rd_T69 l0 cG).f0) _ _ _ (fun _=>True) (fun _=>False) rfl rfl ?aO ?aR (fun _ _ h=>h) (fun _ h=>h.elim) ?aF ?aB ?aS ?aL ?_;(case aR=>repeat (first|exact (Kd.C_below ahQ.out HB.out)|(with_reducible refine Kd.C_alloc ?_ _)|(with_reducible refine Kd.C_drewN ?_ _)|(with_reducible refine Kd.C_drew ?_)));(case aB=>exact au21);(case aF=>exact (fun _ _=>trivial));(case aO=>exact (by (with_reducible repeat (first|apply Kd.R_alloc|apply Kd.R_drewN|apply Kd.R_drew));exact a3E.out));(case aS=>exact (below_size au21));(case aL=>have:=a7X.out;omega);intro aZZ rL ho hb hg hat;rw [← aDA.out] at ho;have dT:=am (Kd.S_after (ok:=(fun k_=>k_≠fX)) au44 hg hat);have dU:=am (blk_grown (g:=fX) (o:=.cells #[.slice uO ((rd_T69 l0 cG).f0).length uP,.string ((rd_T69 l0 cG).f1),.string ((rd_T69 l0 cG).f2),.string ((rd_T69 l0 cG).f3)] 69 (0,0)) au48 hg (Kd.R_ne a3E.out iC.out (by decide)));have fH:=am (hb);have kX:=am (ho);clear bS;clear iC;clear HB;clear a3E;have bS:=dT;have iC:=dU;have HB:=fH;have BD:=kX;clear dT dU fH kX;clear ho hb hg hat;obtain ⟨xF,xG,aFH⟩:=Kd.R_slice BD.out;subst aFH;obtain ⟨nU,pF,pG,pH,nV,pI,pJ,pK⟩:=blkc4 iC.out)|((with_reducible refine gate_store (t:=67) (p:=17) rfl ?_);refine store_event (t:=67) (p:=17) (v:=?vo_w17) (w1:=(rL.setCell ⟨fX,0,none⟩ (.slice xF nB.length xG))) ?hg ?ho ?hn ?hr ?_;(case ho=>rfl);(case hg=>rfl);(case hn=>rfl);(case hr=>first|(go_simp;done)|(go_simp;rfl));intro oP hw;have dT:Aside0 (Kd.S k69 69 oP w.heap.size (fun k_=>some k_≠(.slice xF nB.length xG:Value).ownBlock∧k_≠fX) u3 aE):=⟨(by rw [hw];exact (by (with_reducible repeat (first|apply Kd.S_alloc|apply Kd.S_drewN|apply Kd.S_drew));exact Kd.S_mono (Kd.S_far (p:=⟨fX,0,none⟩) (Kd.S_mono bS.out (fun k_ hk=>(⟨hk,hk.1⟩:_∧k_≠fX))) (fun _ hk=>hk.2) (.slice xF nB.length xG)) (fun _ hk=>⟨hk.1.2,hk.1.1⟩)))⟩;have dU:Aside0 (Kd.R Kd.string 9 oP w.heap.size (fun _=>True) (.slice xF nB.length xG) nB):=⟨(by rw [hw];exact (by (with_reducible repeat (first|apply Kd.R_alloc|apply Kd.R_drewN|apply Kd.R_drew));exact Kd.R_mono (Kd.R_far (p:=⟨fX,0,none⟩) (Kd.R_types BD.out iC.out (by decide)) (fun _ hk=>hk.2) (.slice xF nB.length xG)) (fun _ hk=>trivial)))⟩;have fH:Aside0 (oP.heap[fX]?=some (.cells #[.slice xF nB.length xG,.string ((rd_T69 l0 cG).f1),.string ((rd_T69 l0 cG).f2),.string ((rd_T69 l0 cG).f3)] 69 (0,0))):=⟨(by rw [hw];exact (by (with_reducible repeat (first|refine blk_drewN ?_ _|refine blk_drew ?_|refine blk_alloc ?_ _));refine blk_put (cs:=#[.slice uO ((rd_T69 l0 cG).f0).length uP,.string ((rd_T69 l0 cG).f1),.string ((rd_T69 l0 cG).f2),.string ((rd_T69 l0 cG).f3)]) ?_ 0 _ rfl;(with_reducible repeat (first|refine blk_drewN ?_ _|refine blk_drew ?_|refine blk_alloc ?_ _));exact iC.out))⟩;have kX:Aside0 (Below w.heap.size w oP):=⟨(by rw [hw];exact au21)⟩;clear hw;clear bS;clear BD;clear iC;clear HB;have bS:=dT;have BD:=dU;have iC:=fH;have HB:=kX;clear dT dU fH kX;obtain ⟨Ew,Ex,Ey,Ez,EA,EB,EC,ED⟩:=blkc4 iC.out)|((with_reducible refine gate_builtin (b:=.append) (xs:=#[.tmp 18,.tmp 20]) rfl ?_);at_builtin;refine Kd.S_append k69 (w0:=w) w.heap.size rfl (.tmp 18) (.tmp 20) 38 69 (.agg #[(.slice none 0 0),(.string ⟨#[]⟩),(.string ⟨#[]⟩),(.string ⟨#[]⟩)]) 72 rfl Tryz.underlying38 info69 rfl (by decide) (by omega) u3 aE (⟨nB,(rd_T69 l0 cG).f1,(rd_T69 l0 cG).f2,(rd_T69 l0 cG).f3⟩:S69) [.slice xF nB.length xG,.string ((rd_T69 l0 cG).f1),.string ((rd_T69 l0 cG).f2),.string ((rd_T69 l0 cG).f3)] (fun k_=>k_≠fX) (fun k_=>some k_=(.slice xF nB.length xG:Value).ownBlock) rfl rfl ?aP (fun k_ hk_=>((Kd.R_mono (ok':=fun k_=>((fun k_=>k_≠fX)) k_∧some k_≠(u3:Value).ownBlock) (Kd.R_types (Kd.R_apart' (BD.out) (Kd.S_typed bS.out) (by decide)) iC.out (by decide)) (fun k_ hk=>⟨hk.2,hk.1.2⟩))).1 k_ hk_.symm) ?aF ?aO ?aB ?aS ?aL ?_;(case aP=>exact k69_mkM _ _ _ (⟨nB,(rd_T69 l0 cG).f1,(rd_T69 l0 cG).f2,(rd_T69 l0 cG).f3⟩:S69) (Kd.R_mono (Kd.R_tight rfl (Kd.R_mono (ok':=fun k_=>((fun k_=>k_≠fX)) k_∧some k_≠(u3:Value).ownBlock) (Kd.R_types (Kd.R_apart' (BD.out) (Kd.S_typed bS.out) (by decide)) iC.out (by decide)) (fun k_ hk=>⟨hk.2,hk.1.2⟩))) (fun _ h_=>h_)));(case aB=>exact au21);(case aF=>exact (fun k_ hk=>Kd.freshB (g:=fX) (o:=.cells #[.slice xF nB.length xG,.string ((rd_T69 l0 cG).f1),.string ((rd_T69 l0 cG).f2),.string ((rd_T69 l0 cG).f3)] 69 (0,0)) au48 k_ hk));(case aO=>exact au43);(case aS=>exact (below_size au21));(case aL=>have:=aFE.out;omega);intro b0A xM ho hb hg hat;rw [← aDB.out] at ho;have dT:=am (blk_grown (g:=fX) (o:=.cells #[.slice xF nB.length xG,.string ((rd_T69 l0 cG).f1),.string ((rd_T69 l0 cG).f2),.string ((rd_T69 l0 cG).f3)] 69 (0,0)) au48 hg (Kd.S_away bS.out (fun _ hk=>hk.2)));have dU:=am (hb);have fH:=am (ho);clear iC;clear HB;clear bS;clear BD;have iC:=dT;have HB:=dU;have aDC:=fH;clear dT dU fH;clear ho hb hg hat))
        go_roundg k1
        case measure=>have:=HK1.out;omega
        case rel=>exact ⟨(avB),(wrap64 (cG+1)),au88,H',⟨by have:=HK1.out;omega⟩,⟨by (with_reducible repeat (first|apply Kd.S_alloc|apply Kd.S_drewN|apply Kd.S_drew));exact Kd.S_mono aDC.out (fun _ hk=>trivial)⟩,⟨by repeat (first|(with_reducible first|exact HB.out|apply below_alloc|apply pw_below_drewN|apply below_drew1|refine below_set ?_ aeN.out)|exact HB.out)⟩⟩
       · rw [if_neg c8] at H;exact absurd H (by simp)
      · rw [if_neg c7] at H;exact absurd H (by simp)
     · rw [if_neg c6] at H;exact absurd H (by simp)
    · rw [if_neg c5] at H;exact absurd H (by simp)
   · rw [if_neg c4] at H;have c4b0:=df c4;clear c4;obtain rfl:=ojz H;go_wp2;go_ret;exact ⟨_,by first|rfl|(simp [errW_none,errW_some] <;> rfl)|(simp [*,errW_none,errW_some] <;> rfl),by (with_reducible repeat (first|apply Kd.S_alloc|apply Kd.S_drewN|apply Kd.S_drew));exact bS.out,by repeat (first|(with_reducible first|exact HB.out|apply below_alloc|apply pw_below_drewN|apply below_drew1)|exact HB.out)⟩
def impl_newEntry.f (k:Nat) (aJ:ByteArray) (aH:Int) (bJ:List (S69)) (bM:List (S69)) (aX:ByteArray) (bB:ByteArray) (bE:ByteArray) (bN:Int) (bO:Int) (bQ:Int) (bF:Bool) (bI:Int) (bD:ByteArray) (bL:ByteArray):Option (ByteArray × Int × (List (S69)) × (List (S69)) × ByteArray × ByteArray × ByteArray × Int × Int × Int × Bool × Int × ByteArray × ByteArray):=(impl_newNames.f k bJ).bind fun iY=>((impl_newNames.f k bM).bind fun jE=>(some (aJ,aH,iY,jE,aX,bB,bE,bN,bO,bQ,bF,bI,bD,bL)))
theorem impl_newEntry.mono:∀ a0 a1 a2 a3 a4 a5 a6 a7 a8 a9 iG iH iI iJ k,LeO (impl_newEntry.f k a0 a1 a2 a3 a4 a5 a6 a7 a8 a9 iG iH iI iJ) (impl_newEntry.f (k+1) a0 a1 a2 a3 a4 a5 a6 a7 a8 a9 iG iH iI iJ):=by
 intro a0 a1 a2 a3 a4 a5 a6 a7 a8 a9 iG iH iI iJ k;unfold impl_newEntry.f
 repeat' first
   | (with_reducible exact impl_newNames.mono _ _)
   | (with_reducible exact LeO.refl _)
   | (with_reducible exact LeO.none _)
   | (with_reducible refine LeO.ite ?_ ?_)
   | (with_reducible refine LeO.bind ?_ (fun _=>?_))
   | exact impl_newNames.mono _ _
   | exact LeO.none _
   | refine LeO.ite ?_ ?_
   | refine LeO.bind ?_ (fun _=>?_)
def impl_newEntry.T1:Bool × List (List Nat × List Nat):=(true,[([],[]),([0],[0]),([1],[1]),([],[]),([3],[3]),([4,2],[4]),([0,1,2,3,4],[]),([6,2,5,0,1,2,3,4],[2,6]),([0,1,2,3,4,5,6,7],[]),([8,5,7,0,1,2,3,4,5,6,7],[5,8])])
def impl_newEntry.B1:List Nat:=[0,1,3,0,8,31,31,127,255,511]
theorem impl_newEntry.tab1:rtab .any (opsOf Tryz.f49 1)=impl_newEntry.T1:=by kernel_rfl
theorem impl_newEntry.bits1:waitsOk impl_newEntry.T1.2 impl_newEntry.B1=true:=by kernel_rfl
set_option maxHeartbeats 8000000 in
set_option maxRecDepth 100000 in
theorem impl_newEntry.calls (k:Nat) (aJ:ByteArray) (aH:Int) (dD:Option Addr) (dE:Nat) (bJ:List (S69)) (dF:Option Addr) (dG:Nat) (bM:List (S69)) (aX:ByteArray) (bB:ByteArray) (bE:ByteArray) (bN:Int) (bO:Int) (bQ:Int) (bF:Bool) (bI:Int) (bD:ByteArray) (bL:ByteArray) (r1:ByteArray) (r2:Int) (r3:List (S69)) (r4:List (S69)) (r5:ByteArray) (r6:ByteArray) (r7:ByteArray) (r8:Int) (r9:Int) (r10:Int) (r11:Bool) (r12:Int) (r13:ByteArray) (r14:ByteArray) (w:World) (fY:Kd.C k69 w dD bJ.length bJ) (eZ:bJ.length≤dE) (fZ:Kd.C k69 w dF bM.length bM) (fA:bM.length≤dG) (h:impl_newEntry.f k aJ aH bJ bM aX bB bE bN bO bQ bF bI bD bL=some (r1,r2,r3,r4,r5,r6,r7,r8,r9,r10,r11,r12,r13,r14)) :
  Calls Tryz.prog 49 #[.agg #[.string aJ,.int .i64 aH,.slice dD bJ.length dE,.slice dF bM.length dG,.string aX,.string bB,.string bE,.int .i64 bN,.int .i64 bO,.int .i64 bQ,.bool bF,.int .i64 bI,.string bD,.string bL]] w fun e w'=>∃ (IH II:Value) (N_:Nat),e=.returned (.agg #[.string r1,.int .i64 r2,IH,II,.string r5,.string r6,.string r7,.int .i64 r8,.int .i64 r9,.int .i64 r10,.bool r11,.int .i64 r12,.string r13,.string r14])∧Kd.S k69 69 w' w.heap.size (fun k_=>k_<N_) IH r3∧Kd.S k69 69 w' w.heap.size (fun k_=>N_≤k_) II r4∧Below w.heap.size w w':=by
 have hu42:=Tryz.underlying42;have gQ:=am fY;have gR:=am eZ;clear fY eZ;have jC:=am fZ;have jD:=am fA;clear fZ fA;have HB:=am (Below.refl w.heap.size w);have H:((impl_newNames.f k bJ).bind fun iY=>((impl_newNames.f k bM).bind fun jE=>(some (aJ,aH,iY,jE,aX,bB,bE,bN,bO,bQ,bF,bI,bD,bL))))=some (r1,r2,r3,r4,r5,r6,r7,r8,r9,r10,r11,r12,r13,r14):=h;clear h;replace H:=ob H;obtain ⟨iY,fC,H⟩:=H
 try dsimp only at H
 have A2:=am fC;clear fC;replace H:=ob H;obtain ⟨jE,dL,H⟩:=H
 try dsimp only at H
 have A3:=am dL;clear dL;simp only [Option.some.injEq,Prod.mk.injEq] at H;obtain ⟨rfl,rfl,rfl,rfl,rfl,rfl,rfl,rfl,rfl,rfl,rfl,rfl,rfl,rfl⟩:=H;go_enter Tryz.func49,Tryz.ntmps49
 try go_wp2_with (first|((with_reducible refine gate_dst (N:=1) rfl ?_);refine box_event ?hg (N:=1) ?hd (cs:=#[.string aJ,.int .i64 aH,.slice dD bJ.length dE,.slice dF bM.length dG,.string aX,.string bB,.string bE,.int .i64 bN,.int .i64 bO,.int .i64 bQ,.bool bF,.int .i64 bI,.string bD,.string bL]) (t:=42) ?hr ?_;(case hd=>rfl);(case hg=>rfl);(case hr=>first|(go_simp;done)|(go_simp;rfl));intro eX hg w4 hbox hb;have cC:=am (hbox);have aWI:=am (bsz hg au46);have a1M:=am (bsz hg au46);replace HB:=am (below_step au46 hb);clear hb hbox hg)|((with_reducible refine gate_dst (N:=2) rfl ?_);refine box_event ?hg (N:=2) ?hd (cs:=#[.string (⟨#[]⟩:ByteArray),.int .i64 0,.slice none 0 0,.slice none 0 0,.string (⟨#[]⟩:ByteArray),.string (⟨#[]⟩:ByteArray),.string (⟨#[]⟩:ByteArray),.int .i64 0,.int .i64 0,.int .i64 0,.bool false,.int .i64 0,.string (⟨#[]⟩:ByteArray),.string (⟨#[]⟩:ByteArray)]) (t:=42) ?hr ?_;(case hd=>rfl);(case hg=>rfl);(case hr=>first|(go_simp;done)|(go_simp;rfl));intro dN hg w5 hbox hb;have qK:=am (hbox);have aWJ:=am (bsz hg au22);have aeJ:=am (bsz hg au22);replace HB:=am (below_step au22 hb);have DK:=am (bne (g:=eX) hg au49);have qO:=am (ben (g:=eX) hg au49);replace cC:=am (blk_below (g:=eX) au49 hb);clear hb hbox hg))
 replace cC:=am (blk_drew cC.out);replace qK:=am (blk_drew qK.out);replace HB:=am (below_drew1 HB.out);refine start_ (n:=10) (S:=fun w'=>w'.cell? ⟨eX,0,none⟩=some (.string aJ)∧w'.cell? ⟨eX,1,none⟩=some (.int .i64 aH)∧w'.cell? ⟨eX,2,none⟩=some (.slice dD bJ.length dE)∧w'.cell? ⟨eX,3,none⟩=some (.slice dF bM.length dG)∧w'.cell? ⟨eX,4,none⟩=some (.string aX)∧w'.cell? ⟨eX,5,none⟩=some (.string bB)∧w'.cell? ⟨eX,6,none⟩=some (.string bE)∧w'.cell? ⟨eX,7,none⟩=some (.int .i64 bN)∧w'.cell? ⟨eX,8,none⟩=some (.int .i64 bO)∧w'.cell? ⟨eX,9,none⟩=some (.int .i64 bQ)∧w'.cell? ⟨eX,10,none⟩=some (.bool bF)∧w'.cell? ⟨eX,11,none⟩=some (.int .i64 bI)∧w'.cell? ⟨eX,12,none⟩=some (.string bD)∧w'.cell? ⟨eX,13,none⟩=some (.string bL)) (ds:=[7,9]) #[false,false,false,false,false,false,false,false,false,false] (by kernel_rfl) rfl rfl ⟨(blk_cell cC.out 0).trans rfl,(blk_cell cC.out 1).trans rfl,(blk_cell cC.out 2).trans rfl,(blk_cell cC.out 3).trans rfl,(blk_cell cC.out 4).trans rfl,(blk_cell cC.out 5).trans rfl,(blk_cell cC.out 6).trans rfl,(blk_cell cC.out 7).trans rfl,(blk_cell cC.out 8).trans rfl,(blk_cell cC.out 9).trans rfl,(blk_cell cC.out 10).trans rfl,(blk_cell cC.out 11).trans rfl,(blk_cell cC.out 12).trans rfl,(blk_cell cC.out 13).trans rfl⟩ (fun hHeld=>?_);refine with_tabW impl_newEntry.tab1 impl_newEntry.bits1 (fun HT_ HW_=>?_);generalize w5.drew=w6 at cC qK HB hHeld ⊢;refine pu_ 0 (some 3) #[true,false,false,false,false,false,false,false,false,false] HT_.out ?_;refine pu_ 3 (some 6) #[true,false,false,true,false,false,false,false,false,false] HT_.out ?_;refine ta0_ 1 (some 4) #[true,true,false,true,false,false,false,false,false,false] HT_.out HW_.out hHeld ?_;refine ta0_ 4 (some 7) #[true,true,false,true,true,false,false,false,false,false] HT_.out HW_.out hHeld ?_;refine on_ 2 (some 5) #[true,true,true,true,true,false,false,false,false,false] HT_.out (fun K hK=>?_);refine gs_ Tryz.func66 #[.slice dD bJ.length dE] ?_
 with_reducible refine (impl_newNames.calls k _ _ bJ iY _ ?aU ?aV A2.out).mono ?_
 (case aU=>repeat (first|exact (Kd.C_below gQ.out HB.out)|(with_reducible refine Kd.C_alloc ?_ _)|(with_reducible refine Kd.C_drewN ?_ _)|(with_reducible refine Kd.C_drew ?_)))
 (case aV=>exact gR.out)
 rintro e w7 ⟨b0B,rfl,ho0,hb⟩;refine ⟨_,rfl,?_⟩;have MZ:=am (Kd.S_lower ho0 (below_size au10));replace cC:=am (blk_below (g:=eX) au49 hb);replace qK:=am (blk_below (g:=dN) au50 hb);replace HB:=am (below_step au10 hb)
 (try clear hb)
 (try clear ho0)
 refine hK.out _ _ ⟨(blk_cell cC.out 0).trans rfl,(blk_cell cC.out 1).trans rfl,(blk_cell cC.out 2).trans rfl,(blk_cell cC.out 3).trans rfl,(blk_cell cC.out 4).trans rfl,(blk_cell cC.out 5).trans rfl,(blk_cell cC.out 6).trans rfl,(blk_cell cC.out 7).trans rfl,(blk_cell cC.out 8).trans rfl,(blk_cell cC.out 9).trans rfl,(blk_cell cC.out 10).trans rfl,(blk_cell cC.out 11).trans rfl,(blk_cell cC.out 12).trans rfl,(blk_cell cC.out 13).trans rfl⟩ (fun hHeld=>?_);clear hK K;refine no_ (some 5) ?_;refine pu_ 6 (some 9) #[true,true,true,true,true,false,true,false,false,false] HT_.out ?_;refine on_ 5 (some 8) #[true,true,true,true,true,true,true,false,false,false] HT_.out (fun K hK=>?_);refine gs_ Tryz.func66 #[.slice dF bM.length dG] ?_
 with_reducible refine (impl_newNames.calls k _ _ bM jE _ ?aU ?aV A3.out).mono ?_
 (case aU=>repeat (first|exact (Kd.C_below jC.out HB.out)|(with_reducible refine Kd.C_alloc ?_ _)|(with_reducible refine Kd.C_drewN ?_ _)|(with_reducible refine Kd.C_drew ?_)))
 (case aV=>exact jD.out)
 rintro e w8 ⟨b0C,rfl,ho0,hb⟩;refine ⟨_,rfl,?_⟩;replace MZ:=am (Kd.S_below (Kd.S_mono (ok':=fun k_=>k_<w7.heap.size) (Kd.S_bound (by (with_reducible repeat (first|apply Kd.S_alloc|apply Kd.S_drewN|apply Kd.S_drew));exact MZ.out)) (fun _ hk=>hk.2.2.1)) hb);have afH:=am (Kd.S_lower (Kd.S_mono (ok':=fun k_=>w7.heap.size≤k_) (Kd.S_bound ho0) (fun _ hk=>hk.2.1)) (below_size au10));replace cC:=am (blk_below (g:=eX) au49 hb);replace qK:=am (blk_below (g:=dN) au50 hb);replace HB:=am (below_step au10 hb)
 (try clear hb)
 (try clear ho0)
 obtain ⟨fW,fL,K8⟩:=Kd.S_slice MZ.out
 (first|subst K8|(injection K8 with lH uQ lI;have uR:=lH.symm;have uS:=lI.symm;clear lH uQ lI;subst uR;subst uS))
 obtain ⟨mR,mS,a1W⟩:=Kd.S_slice afH.out
 (first|subst a1W|(injection a1W with lH uQ lI;have uR:=lH.symm;have uS:=lI.symm;clear lH uQ lI;subst uR;subst uS))
 refine hK.out _ _ ⟨(blk_cell cC.out 0).trans rfl,(blk_cell cC.out 1).trans rfl,(blk_cell cC.out 2).trans rfl,(blk_cell cC.out 3).trans rfl,(blk_cell cC.out 4).trans rfl,(blk_cell cC.out 5).trans rfl,(blk_cell cC.out 6).trans rfl,(blk_cell cC.out 7).trans rfl,(blk_cell cC.out 8).trans rfl,(blk_cell cC.out 9).trans rfl,(blk_cell cC.out 10).trans rfl,(blk_cell cC.out 11).trans rfl,(blk_cell cC.out 12).trans rfl,(blk_cell cC.out 13).trans rfl⟩ (fun hHeld=>?_);clear hK K;refine no_ (some 8) ?_;refine last_ (i:=7) (N:=none) #[true,true,true,true,true,true,true,true,false,false] rfl rfl (one_of HT_.out (by kernel_rfl)) (by decide) (fun K hK=>?_);have hs10:w8.cell? ⟨eX,2,none⟩=some (.slice dD bJ.length dE):=(blk_cell cC.out 2).trans rfl;have hfs10:=blk_frozen cC.out 2;have hns10_1:=qO.out;have hms10_1:=DK.out;refine skip_ (w1:=?_) (by rfl) rfl ?_ ?_
 rotate_left
 ·
  go_simp
  rfl
 refine hK.out _ _ ?_;clear hK K;refine pu_ 8 (some 10) #[true,true,true,true,true,true,true,true,true,false] HT_.out ?_;refine last_ (i:=9) (N:=none) #[true,true,true,true,true,true,true,true,true,true] rfl rfl (one_of HT_.out (by kernel_rfl)) (by decide) (fun K hK=>?_);have hs12:w8.cell? ⟨eX,3,none⟩=some (.slice dF bM.length dG):=(blk_cell cC.out 3).trans rfl;have hfs12:=blk_frozen cC.out 3;have hns12_1:=qO.out;have hms12_1:=DK.out;refine skip_ (w1:=?_) (by rfl) rfl ?_ ?_
 rotate_left
 ·
  go_simp
  rfl
 refine hK.out _ _ ?_;clear hK K;refine done_ (done_of HT_.out (by kernel_rfl)) ?_;have aWK:=DK.out;have aWL:=qO.out;obtain ⟨rX,rY,rZ,sB,SC,SD,SE,SF,SG,SH,NJ,NK,NL,NM,sC,sD,sF,sG,SI,SJ,SK,SL,SN,SO,NN,NO,NP,NQ⟩:=blkc14 cC.out;obtain ⟨gX,kP,kQ,kR,sH,sI,sJ,sK,sL,sM,pL,pM,pN,pO,gY,kS,kT,kU,sN,sO,sP,sQ,sR,sS,pP,pQ,pR,pS⟩:=blkc14 qK.out
 try go_wp2
 refine bodyPost_ret (results_cell_row rfl _ _ dN 42 #[.string aJ,.int .i64 aH,.slice fW iY.length fL,.slice mR jE.length mS,.string aX,.string bB,.string bE,.int .i64 bN,.int .i64 bO,.int .i64 bQ,.bool bF,.int .i64 bI,.string bD,.string bL] (0,0) _ rfl (by (with_reducible repeat (first|refine blk_drewN ?_ _|refine blk_drew ?_|refine blk_alloc ?_ _));apply put14;(with_reducible repeat (first|refine blk_drewN ?_ _|refine blk_drew ?_|refine blk_alloc ?_ _));refine blk_far ?_ qO.out _;(with_reducible repeat (first|refine blk_drewN ?_ _|refine blk_drew ?_|refine blk_alloc ?_ _));refine blk_far ?_ qO.out _;(with_reducible repeat (first|refine blk_drewN ?_ _|refine blk_drew ?_|refine blk_alloc ?_ _));exact qK.out) Tryz.underlying42 rfl (by kernel_rfl)) rfl ?_;exact ⟨_,_,w7.heap.size,by first|rfl|(simp [errW_none,errW_some] <;> rfl)|(simp [*,errW_none,errW_some] <;> rfl),by (with_reducible repeat (first|apply Kd.S_alloc|apply Kd.S_drewN|apply Kd.S_drew));exact Kd.S_mono (Kd.S_far (p:=⟨dN,13,none⟩) (Kd.S_far (p:=⟨dN,12,none⟩) (Kd.S_far (p:=⟨dN,11,none⟩) (Kd.S_far (p:=⟨dN,10,none⟩) (Kd.S_far (p:=⟨dN,9,none⟩) (Kd.S_far (p:=⟨dN,8,none⟩) (Kd.S_far (p:=⟨dN,7,none⟩) (Kd.S_far (p:=⟨dN,6,none⟩) (Kd.S_far (p:=⟨dN,5,none⟩) (Kd.S_far (p:=⟨dN,4,none⟩) (Kd.S_far (p:=⟨dN,3,none⟩) (Kd.S_far (p:=⟨dN,2,none⟩) (Kd.S_far (p:=⟨dN,1,none⟩) (Kd.S_far (p:=⟨dN,0,none⟩) (Kd.S_far (p:=⟨eX,3,none⟩) (Kd.S_far (p:=⟨eX,2,none⟩) (Kd.S_types (Kd.S_types MZ.out cC.out (by decide)) qK.out (by decide)) (fun _ hk=>hk.1.2) (.slice fW iY.length fL)) (fun _ hk=>hk.1.2) (.slice mR jE.length mS)) (fun _ hk=>hk.2) (.string aJ)) (fun _ hk=>hk.2) (.int .i64 aH)) (fun _ hk=>hk.2) (.slice fW iY.length fL)) (fun _ hk=>hk.2) (.slice mR jE.length mS)) (fun _ hk=>hk.2) (.string aX)) (fun _ hk=>hk.2) (.string bB)) (fun _ hk=>hk.2) (.string bE)) (fun _ hk=>hk.2) (.int .i64 bN)) (fun _ hk=>hk.2) (.int .i64 bO)) (fun _ hk=>hk.2) (.int .i64 bQ)) (fun _ hk=>hk.2) (.bool bF)) (fun _ hk=>hk.2) (.int .i64 bI)) (fun _ hk=>hk.2) (.string bD)) (fun _ hk=>hk.2) (.string bL)) (fun _ hk=>hk.1.1),by (with_reducible repeat (first|apply Kd.S_alloc|apply Kd.S_drewN|apply Kd.S_drew));exact Kd.S_mono (Kd.S_far (p:=⟨dN,13,none⟩) (Kd.S_far (p:=⟨dN,12,none⟩) (Kd.S_far (p:=⟨dN,11,none⟩) (Kd.S_far (p:=⟨dN,10,none⟩) (Kd.S_far (p:=⟨dN,9,none⟩) (Kd.S_far (p:=⟨dN,8,none⟩) (Kd.S_far (p:=⟨dN,7,none⟩) (Kd.S_far (p:=⟨dN,6,none⟩) (Kd.S_far (p:=⟨dN,5,none⟩) (Kd.S_far (p:=⟨dN,4,none⟩) (Kd.S_far (p:=⟨dN,3,none⟩) (Kd.S_far (p:=⟨dN,2,none⟩) (Kd.S_far (p:=⟨dN,1,none⟩) (Kd.S_far (p:=⟨dN,0,none⟩) (Kd.S_far (p:=⟨eX,3,none⟩) (Kd.S_far (p:=⟨eX,2,none⟩) (Kd.S_types (Kd.S_types afH.out cC.out (by decide)) qK.out (by decide)) (fun _ hk=>hk.1.2) (.slice fW iY.length fL)) (fun _ hk=>hk.1.2) (.slice mR jE.length mS)) (fun _ hk=>hk.2) (.string aJ)) (fun _ hk=>hk.2) (.int .i64 aH)) (fun _ hk=>hk.2) (.slice fW iY.length fL)) (fun _ hk=>hk.2) (.slice mR jE.length mS)) (fun _ hk=>hk.2) (.string aX)) (fun _ hk=>hk.2) (.string bB)) (fun _ hk=>hk.2) (.string bE)) (fun _ hk=>hk.2) (.int .i64 bN)) (fun _ hk=>hk.2) (.int .i64 bO)) (fun _ hk=>hk.2) (.int .i64 bQ)) (fun _ hk=>hk.2) (.bool bF)) (fun _ hk=>hk.2) (.int .i64 bI)) (fun _ hk=>hk.2) (.string bD)) (fun _ hk=>hk.2) (.string bL)) (fun _ hk=>hk.1.1),by repeat (first|(with_reducible first|exact HB.out|apply below_alloc|apply pw_below_drewN|apply below_drew1|refine below_set ?_ a1M.out|refine below_set ?_ aeJ.out)|exact HB.out)⟩
def impl_newLibrary.l0:Nat→List (S42)→Int→Int→List (S42)→Option ((List (S42)))
 | 0,_,_,_,_=>none
 | k+1,x9,x10,iK,KY=>if iK<x10 then (if 0≤iK then (if iK<(x9.length:Int) then ((impl_newEntry.f k ((rd_T42 x9 iK).f0) ((rd_T42 x9 iK).f1) ((rd_T42 x9 iK).f2) ((rd_T42 x9 iK).f3) ((rd_T42 x9 iK).f4) ((rd_T42 x9 iK).f5) ((rd_T42 x9 iK).f6) ((rd_T42 x9 iK).f7.f0) ((rd_T42 x9 iK).f7.f1) ((rd_T42 x9 iK).f7.f2) ((rd_T42 x9 iK).f7.f3) ((rd_T42 x9 iK).f8) ((rd_T42 x9 iK).f9) ((rd_T42 x9 iK).f10)).bind fun kY=>(if KY.length<733007751850 then (impl_newLibrary.l0 k x9 x10 (wrap64 (iK+1)) (KY++[(⟨kY.1,kY.2.1,kY.2.2.1,kY.2.2.2.1,kY.2.2.2.2.1,kY.2.2.2.2.2.1,kY.2.2.2.2.2.2.1,(⟨kY.2.2.2.2.2.2.2.1,kY.2.2.2.2.2.2.2.2.1,kY.2.2.2.2.2.2.2.2.2.1,kY.2.2.2.2.2.2.2.2.2.2.1⟩:S40),kY.2.2.2.2.2.2.2.2.2.2.2.1,kY.2.2.2.2.2.2.2.2.2.2.2.2.1,kY.2.2.2.2.2.2.2.2.2.2.2.2.2⟩:S42)])) else (none))) else (none)) else (none)) else (some KY)
def impl_newLibrary.f (k:Nat) (aA:List (S42)):Option ((List (S42))):=impl_newLibrary.l0 k aA (aA.length:Int) 0 (([]:List (S42)))
theorem impl_newLibrary.mono_l:∀ k,(∀ y0 y1 y2 y3,LeO (impl_newLibrary.l0 k y0 y1 y2 y3) (impl_newLibrary.l0 (k+1) y0 y1 y2 y3))
 | 0=>fun _ _ _ _ r h=>by simp [impl_newLibrary.l0] at h
 | k+1=>by
  have ih0:=impl_newLibrary.mono_l k
  ·
   intro y0 y1 y2 y3;unfold impl_newLibrary.l0
   repeat' first
   | (with_reducible exact ih0 _ _ _ _)
   | (with_reducible exact impl_newEntry.mono _ _ _ _ _ _ _ _ _ _ _ _ _ _ _)
   | (with_reducible exact LeO.refl _)
   | (with_reducible exact LeO.none _)
   | (with_reducible refine LeO.ite ?_ ?_)
   | (with_reducible refine LeO.bind ?_ (fun _=>?_))
   | exact ih0 _ _ _ _
   | exact impl_newEntry.mono _ _ _ _ _ _ _ _ _ _ _ _ _ _ _
   | exact LeO.none _
   | refine LeO.ite ?_ ?_
   | refine LeO.bind ?_ (fun _=>?_)
theorem impl_newLibrary.mono:∀ a0 k,LeO (impl_newLibrary.f k a0) (impl_newLibrary.f (k+1) a0):=by
 intro a0 k;have ih0:=impl_newLibrary.mono_l k;unfold impl_newLibrary.f
 repeat' first
   | (with_reducible exact ih0 _ _ _ _)
   | (with_reducible exact impl_newEntry.mono _ _ _ _ _ _ _ _ _ _ _ _ _ _ _)
   | (with_reducible exact LeO.refl _)
   | (with_reducible exact LeO.none _)
   | (with_reducible refine LeO.ite ?_ ?_)
   | (with_reducible refine LeO.bind ?_ (fun _=>?_))
   | exact ih0 _ _ _ _
   | exact impl_newEntry.mono _ _ _ _ _ _ _ _ _ _ _ _ _ _ _
   | exact LeO.none _
   | refine LeO.ite ?_ ?_
   | refine LeO.bind ?_ (fun _=>?_)
def impl_newLibrary.T5:Bool × List (List Nat × List Nat):=(true,[([],[]),([0],[0]),([],[]),([2],[2]),([3],[3]),([1,4,3],[1,4]),([0,1,2,3,4,5],[]),([6,5,5,0,1,2,3,4,5],[5,6])])
def impl_newLibrary.B5:List Nat:=[0,1,0,4,12,31,63,127]
theorem impl_newLibrary.tab5:rtab .any (opsOf Tryz.f29 5)=impl_newLibrary.T5:=by kernel_rfl
theorem impl_newLibrary.bits5:waitsOk impl_newLibrary.T5.2 impl_newLibrary.B5=true:=by kernel_rfl
set_option maxHeartbeats 8000000 in
set_option maxRecDepth 100000 in
theorem impl_newLibrary.calls (k:Nat) (bH:Option Addr) (bA:Nat) (aA:List (S42)) (r:List (S42)) (w:World) (cE:Kd.C k42 w bH aA.length aA) (cA:aA.length≤bA) (h:impl_newLibrary.f k aA=some r) :
  Calls Tryz.prog 29 #[.agg #[.slice bH aA.length bA]] w fun e w'=>∃ dS:Value,e=.returned (.agg #[dS])∧Kd.S kES 42 w' w.heap.size (fun _=>True) dS r∧Below w.heap.size w w':=by
 have hu28:=Tryz.underlying28;have hu42:=Tryz.underlying42;have cM:=am cE;have eO:=am cA;clear cE cA;have HB:=am (Below.refl w.heap.size w);have H:(impl_newLibrary.l0 k aA (aA.length:Int) 0 (([]:List (S42))))=some r:=h;clear h
 obtain ⟨a3F,K9⟩:∃ y_:List (S42),y_=(([]:List (S42))):=⟨_,rfl⟩
 replace H:(impl_newLibrary.l0 k aA (aA.length:Int) 0 a3F)=some r:=by first|(rw [K9];with_reducible exact H)|(have H2_:=(Option.bind_some _ _).symm.trans H;rw [K9];with_reducible exact H2_)|(have H2_:=(Option.bind_some _ _).symm.trans H;with_reducible exact H2_)|with_reducible exact H|(rw [K9];exact H)|exact H
 have afJ:=am K9;clear K9;have H':=am H;clear H;go_enter Tryz.func29,Tryz.ntmps29;go_wp2_with (first|((with_reducible refine gate_dst (N:=1) rfl ?_);refine box_event ?hg (N:=1) ?hd (cs:=#[.slice bH aA.length bA]) (t:=28) ?hr ?_;(case hd=>rfl);(case hg=>rfl);(case hr=>first|(go_simp;done)|(go_simp;rfl));intro kD hg w2 hbox hb;have fO:=am (hbox);have aWM:=am (bsz hg au46);have wK:=am (bsz hg au46);replace HB:=am (below_step au46 hb);clear hb hbox hg)|((with_reducible refine gate_dst (N:=2) rfl ?_);refine box_event ?hg (N:=2) ?hd (cs:=#[.slice none 0 0]) (t:=28) ?hr ?_;(case hd=>rfl);(case hg=>rfl);(case hr=>first|(go_simp;done)|(go_simp;rfl));intro kZ hg w3 hbox hb;have fI:=am (hbox);have aWN:=am (bsz hg au23);have Bs:=am (bsz hg au23);replace HB:=am (below_step au23 hb);have MA:=am (bne (g:=kD) hg au51);have MB:=am (ben (g:=kD) hg au51);replace fO:=am (blk_below (g:=kD) au51 hb);clear hb hbox hg)|((with_reducible refine gate_dst (N:=6) rfl ?_);refine Kd.S_lit kES _ 42 ?hg (N:=6) ?hd (xs:=([]:List (S42))) (inner:=[]) (ok:=fun _=>True) (okp:=fun _=>True) ?hr ?hp (fun _ hk=>hk) trivial (Below.refl _ _) (Nat.le_refl _) (by simp) ?_;(case hd=>rfl);(case hg=>rfl);(case hr=>first|(go_simp;done)|(go_simp;rfl));(case hp=>exact (Reps.none _ _));intro b0D w4 ho5 hb hg_ hnew_;clear hg_ hnew_;(first|rw [← afJ.out] at ho5|(simp only [Int.reduceToNat] at ho5;rw [← afJ.out] at ho5));have N0:=am (Kd.S_lower ho5 (below_size au11));replace fO:=am (blk_below (g:=kD) au51 hb);replace fI:=am (blk_below (g:=kZ) au52 hb);replace HB:=am (below_step au11 hb);clear hb ho5;obtain ⟨Ao6,co6,eo6⟩:=Kd.S_slice N0.out;subst eo6)|((with_reducible refine gate_dst (N:=3) rfl ?_);refine box_event ?hg (N:=3) ?hd (cs:=#[.slice none 0 0]) (t:=28) ?hr ?_;(case hd=>rfl);(case hg=>rfl);(case hr=>first|(go_simp;done)|(go_simp;rfl));intro lX hg w7 hbox hb;replace N0:=am (Kd.S_below (by (with_reducible repeat (first|apply Kd.S_alloc|apply Kd.S_drewN|apply Kd.S_drew));exact N0.out) hb);have eD:=am (hbox);have aWO:=am (bsz hg au11);have En:=am (bsz hg au11);replace HB:=am (below_step au11 hb);have qP:=am (bne (g:=kD) hg au51);have DL:=am (ben (g:=kD) hg au51);replace fO:=am (blk_below (g:=kD) au51 hb);have qQ:=am (bne (g:=kZ) hg au52);have DN:=am (ben (g:=kZ) hg au52);replace fI:=am (blk_below (g:=kZ) au52 hb);clear hb hbox hg;have avC:=DL.out;have avD:=qP.out;have avE:=DN.out;have avF:=qQ.out;have nM:w7.cell? ⟨lX,0,none⟩=some (.slice none 0 0):=(blk_cell eD.out 0).trans rfl;have nN:=blk_frozen eD.out 0;have a3G:=MA.out;have a3H:=MB.out;have gZ:w7.cell? ⟨kD,0,none⟩=some (.slice bH aA.length bA):=(blk_cell fO.out 0).trans rfl;have hD:=blk_frozen fO.out 0))
 go_loopg [11] k (fun kq v11 w'=>∃ (aG:Int) (fS:List (S42)) (iQ:Value),v11=.int .i64 aG∧Aside0 (impl_newLibrary.l0 kq aA (aA.length:Int) aG fS=some r)∧Aside0 (kq≤k)∧Aside0 (Kd.S kES 42 w' w.heap.size (fun _=>True) iQ fS)∧Aside0 (w'.heap[kD]?=some (.cells #[(.slice bH aA.length bA)] 28 (0,0)))∧Aside0 (w'.heap[kZ]?=some (.cells #[(.slice none 0 0)] 28 (0,0)))∧Aside0 (w'.heap[lX]?=some (.cells #[iQ] 28 (0,0)))∧Aside0 (Below w.heap.size w w'))
 case atStart=>exact ⟨(0),(a3F),(.slice Ao6 a3F.length co6),au88,H',⟨Nat.le_refl _⟩,⟨by (with_reducible repeat (first|apply Kd.S_alloc|apply Kd.S_drewN|apply Kd.S_drew));exact Kd.S_mono (Kd.S_far (p:=⟨lX,0,none⟩) (Kd.S_types N0.out eD.out (by decide)) (fun _ hk=>hk.2) (.slice Ao6 a3F.length co6)) (fun _ hk=>trivial)⟩,⟨by (with_reducible repeat (first|refine blk_drewN ?_ _|refine blk_drew ?_|refine blk_alloc ?_ _));refine blk_far ?_ qP.out _;(with_reducible repeat (first|refine blk_drewN ?_ _|refine blk_drew ?_|refine blk_alloc ?_ _));exact fO.out⟩,⟨by (with_reducible repeat (first|refine blk_drewN ?_ _|refine blk_drew ?_|refine blk_alloc ?_ _));refine blk_far ?_ qQ.out _;(with_reducible repeat (first|refine blk_drewN ?_ _|refine blk_drew ?_|refine blk_alloc ?_ _));exact fI.out⟩,⟨by (with_reducible repeat (first|refine blk_drewN ?_ _|refine blk_drew ?_|refine blk_alloc ?_ _));refine blk_put (cs:=#[.slice none 0 0]) ?_ 0 _ rfl;(with_reducible repeat (first|refine blk_drewN ?_ _|refine blk_drew ?_|refine blk_alloc ?_ _));exact eD.out⟩,⟨by repeat (first|(with_reducible first|exact HB.out|apply below_alloc|apply pw_below_drewN|apply below_drew1|refine below_set ?_ wK.out|refine below_set ?_ Bs.out|refine below_set ?_ En.out)|exact HB.out)⟩⟩
 case round =>
  clear H'
  try clear c1
  try clear c2
  try clear p2
  try clear c8
  try clear c9
  try clear cI
  try clear nM nN
  try clear gZ hD
  obtain ⟨aG,fS,iQ,rfl,HA,HK1,dA,fO,fI,eD,HB⟩:=hrel
  cases gk with
  | zero=>exact absurd HA.out (by simp [impl_newLibrary.l0])
  | succ k1 =>
   have H:=HA.out;clear HA;simp only [impl_newLibrary.l0] at H;by_cases cV:aG<(aA.length:Int)
   ·
    rw [if_pos cV] at H;have c13b0:=dt cV;clear cV;by_cases dB:0≤aG
    ·
     rw [if_pos dB] at H;have c14b0:=dt dB;clear dB;by_cases cX:aG<(aA.length:Int)
     ·
      rw [if_pos cX] at H;have c15b0:=dt cX;clear cX;replace H:=ob H;obtain ⟨⟨NR,NS,NT,NU,NV,NW,NX,NY,NZ,O0,O1,O2,O3,O4⟩,avG,H⟩:=H;replace H:(if fS.length<733007751850 then (impl_newLibrary.l0 k1 aA (aA.length:Int) (wrap64 (aG+1)) (fS++[(⟨NR,NS,NT,NU,NV,NW,NX,(⟨NY,NZ,O0,O1⟩:S40),O2,O3,O4⟩:S42)])) else (none))=some r:=H;have A16:=am avG;clear avG;by_cases mO:fS.length<733007751850
      ·
       rw [if_pos mO] at H;have aDD:=am mO;clear mO
       obtain ⟨a3I,Ka⟩:∃ y_:List (S42),y_=(fS++[(⟨NR,NS,NT,NU,NV,NW,NX,(⟨NY,NZ,O0,O1⟩:S40),O2,O3,O4⟩:S42)]):=⟨_,rfl⟩
       replace H:(impl_newLibrary.l0 k1 aA (aA.length:Int) (wrap64 (aG+1)) a3I)=some r:=by first|(rw [Ka];with_reducible exact H)|(have H2_:=(Option.bind_some _ _).symm.trans H;rw [Ka];with_reducible exact H2_)|(have H2_:=(Option.bind_some _ _).symm.trans H;with_reducible exact H2_)|with_reducible exact H|(rw [Ka];exact H)|exact H
       have aDE:=am Ka;clear Ka;have H':=am H;clear H;have a8A:0≤(aG:Int):=od au87;have a8B:aG<(aA.length:Int):=od au87;obtain ⟨afK,dW,dX,eH,eI,aFI,SP,SQ,SR,SS,SU,SV,SX,SY,SZ,T0,O5,O6,O7,O8,T2,T3,T9,Ta⟩:=at_T42 cM.out aG a8A a8B
       cases aFI
       replace SP:=bcl HB.out SP;replace SQ:=bcl HB.out SQ;replace SR:=bcl HB.out SR;replace SS:=bcl HB.out SS;replace SU:=bcl HB.out SU;replace SV:=bcl HB.out SV;replace SX:=bcl HB.out SX;replace SY:=bcl HB.out SY;replace SZ:=bcl HB.out SZ;replace T0:=bcl HB.out T0;replace O5:=bcl HB.out O5;replace O6:=bcl HB.out O6;replace O7:=bcl HB.out O7;replace O8:=bcl HB.out O8;have ahR:=am T3;have ahS:=am T2;clear T3 T2;have ahT:=am Ta;have ahU:=am T9;clear Ta T9;replace a8A:=eq_true a8A;replace a8B:=eq_true a8B
       try go_wp2_with (first|((with_reducible refine gate_dst (N:=5) rfl ?_);refine box_event ?hg (N:=5) ?hd (cs:=#[.string (⟨#[]⟩:ByteArray),.int .i64 0,.slice none 0 0,.slice none 0 0,.string (⟨#[]⟩:ByteArray),.string (⟨#[]⟩:ByteArray),.string (⟨#[]⟩:ByteArray),.int .i64 0,.int .i64 0,.int .i64 0,.bool false,.int .i64 0,.string (⟨#[]⟩:ByteArray),.string (⟨#[]⟩:ByteArray)]) (t:=42) ?hr ?_;(case hd=>rfl);(case hg=>rfl);(case hr=>first|(go_simp;done)|(go_simp;rfl));intro aQ hg nW hbox hb;replace dA:=am (Kd.S_below (Kd.S_elderB au82 aQ (Nat.le_of_eq hg.symm)) hb);have bV:=am (hbox);have aWP:=am (bsz hg au5);have a1I:=am (bsz hg au5);replace HB:=am (below_step au5 hb);have eJ:=am (bne (g:=kD) hg au51);have a5F:=am (ben (g:=kD) hg au51);replace fO:=am (blk_below (g:=kD) au51 hb);have eK:=am (bne (g:=kZ) hg au52);have a5G:=am (ben (g:=kZ) hg au52);replace fI:=am (blk_below (g:=kZ) au52 hb);have dV:=am (bne (g:=lX) hg au53);have MC:=am (ben (g:=lX) hg au53);replace eD:=am (blk_below (g:=lX) au53 hb);clear hb hbox hg;have aDF:=a5F.out;have aDG:=eJ.out;have aWQ:=a5G.out;have aWR:=eK.out;have aDH:=MC.out;have aDI:=dV.out;obtain ⟨sT,sU,sV,sW,EE,EF,EG,EH,EI,EJ,BE,BF,BG,BH,sX,sY,sZ,tA,EK,EL,EM,EN,EO,EP,BI,BJ,BK,BL⟩:=blkc14 bV.out))
       have dT:Aside0 (Kd.S kES 42 ((((((((((((((nW.setCell ⟨aQ,0,none⟩ (.string ((rd_T42 aA aG).f0))).setCell ⟨aQ,1,none⟩ (.int .i64 ((rd_T42 aA aG).f1))).setCell ⟨aQ,2,none⟩ (.slice dW ((rd_T42 aA aG).f2).length dX)).setCell ⟨aQ,3,none⟩ (.slice eH ((rd_T42 aA aG).f3).length eI)).setCell ⟨aQ,4,none⟩ (.string ((rd_T42 aA aG).f4))).setCell ⟨aQ,5,none⟩ (.string ((rd_T42 aA aG).f5))).setCell ⟨aQ,6,none⟩ (.string ((rd_T42 aA aG).f6))).setCell ⟨aQ,7,none⟩ (.int .i64 ((rd_T42 aA aG).f7.f0))).setCell ⟨aQ,8,none⟩ (.int .i64 ((rd_T42 aA aG).f7.f1))).setCell ⟨aQ,9,none⟩ (.int .i64 ((rd_T42 aA aG).f7.f2))).setCell ⟨aQ,10,none⟩ (.bool ((rd_T42 aA aG).f7.f3))).setCell ⟨aQ,11,none⟩ (.int .i64 ((rd_T42 aA aG).f8))).setCell ⟨aQ,12,none⟩ (.string ((rd_T42 aA aG).f9))).setCell ⟨aQ,13,none⟩ (.string ((rd_T42 aA aG).f10))) w.heap.size (fun k_=>k_≠aQ) iQ fS):=⟨by (with_reducible repeat (first|apply Kd.S_alloc|apply Kd.S_drewN|apply Kd.S_drew));exact Kd.S_mono (Kd.S_far (p:=⟨aQ,13,none⟩) (Kd.S_far (p:=⟨aQ,12,none⟩) (Kd.S_far (p:=⟨aQ,11,none⟩) (Kd.S_far (p:=⟨aQ,10,none⟩) (Kd.S_far (p:=⟨aQ,9,none⟩) (Kd.S_far (p:=⟨aQ,8,none⟩) (Kd.S_far (p:=⟨aQ,7,none⟩) (Kd.S_far (p:=⟨aQ,6,none⟩) (Kd.S_far (p:=⟨aQ,5,none⟩) (Kd.S_far (p:=⟨aQ,4,none⟩) (Kd.S_far (p:=⟨aQ,3,none⟩) (Kd.S_far (p:=⟨aQ,2,none⟩) (Kd.S_far (p:=⟨aQ,1,none⟩) (Kd.S_far (p:=⟨aQ,0,none⟩) (Kd.S_mono dA.out (fun k_ hk=>(⟨hk,hk.2⟩:_∧k_≠aQ))) (fun _ hk=>hk.2) (.string ((rd_T42 aA aG).f0))) (fun _ hk=>hk.2) (.int .i64 ((rd_T42 aA aG).f1))) (fun _ hk=>hk.2) (.slice dW ((rd_T42 aA aG).f2).length dX)) (fun _ hk=>hk.2) (.slice eH ((rd_T42 aA aG).f3).length eI)) (fun _ hk=>hk.2) (.string ((rd_T42 aA aG).f4))) (fun _ hk=>hk.2) (.string ((rd_T42 aA aG).f5))) (fun _ hk=>hk.2) (.string ((rd_T42 aA aG).f6))) (fun _ hk=>hk.2) (.int .i64 ((rd_T42 aA aG).f7.f0))) (fun _ hk=>hk.2) (.int .i64 ((rd_T42 aA aG).f7.f1))) (fun _ hk=>hk.2) (.int .i64 ((rd_T42 aA aG).f7.f2))) (fun _ hk=>hk.2) (.bool ((rd_T42 aA aG).f7.f3))) (fun _ hk=>hk.2) (.int .i64 ((rd_T42 aA aG).f8))) (fun _ hk=>hk.2) (.string ((rd_T42 aA aG).f9))) (fun _ hk=>hk.2) (.string ((rd_T42 aA aG).f10))) (fun _ hk=>hk.1.2)⟩
       have dU:Aside0 (((((((((((((((nW.setCell ⟨aQ,0,none⟩ (.string ((rd_T42 aA aG).f0))).setCell ⟨aQ,1,none⟩ (.int .i64 ((rd_T42 aA aG).f1))).setCell ⟨aQ,2,none⟩ (.slice dW ((rd_T42 aA aG).f2).length dX)).setCell ⟨aQ,3,none⟩ (.slice eH ((rd_T42 aA aG).f3).length eI)).setCell ⟨aQ,4,none⟩ (.string ((rd_T42 aA aG).f4))).setCell ⟨aQ,5,none⟩ (.string ((rd_T42 aA aG).f5))).setCell ⟨aQ,6,none⟩ (.string ((rd_T42 aA aG).f6))).setCell ⟨aQ,7,none⟩ (.int .i64 ((rd_T42 aA aG).f7.f0))).setCell ⟨aQ,8,none⟩ (.int .i64 ((rd_T42 aA aG).f7.f1))).setCell ⟨aQ,9,none⟩ (.int .i64 ((rd_T42 aA aG).f7.f2))).setCell ⟨aQ,10,none⟩ (.bool ((rd_T42 aA aG).f7.f3))).setCell ⟨aQ,11,none⟩ (.int .i64 ((rd_T42 aA aG).f8))).setCell ⟨aQ,12,none⟩ (.string ((rd_T42 aA aG).f9))).setCell ⟨aQ,13,none⟩ (.string ((rd_T42 aA aG).f10))).heap[kD]?=some (.cells #[.slice (some afK) aA.length bA] 28 (0,0))):=⟨by (with_reducible repeat (first|refine blk_drewN ?_ _|refine blk_drew ?_|refine blk_alloc ?_ _));refine blk_far ?_ eJ.out _;(with_reducible repeat (first|refine blk_drewN ?_ _|refine blk_drew ?_|refine blk_alloc ?_ _));refine blk_far ?_ eJ.out _;(with_reducible repeat (first|refine blk_drewN ?_ _|refine blk_drew ?_|refine blk_alloc ?_ _));refine blk_far ?_ eJ.out _;(with_reducible repeat (first|refine blk_drewN ?_ _|refine blk_drew ?_|refine blk_alloc ?_ _));refine blk_far ?_ eJ.out _;(with_reducible repeat (first|refine blk_drewN ?_ _|refine blk_drew ?_|refine blk_alloc ?_ _));refine blk_far ?_ eJ.out _;(with_reducible repeat (first|refine blk_drewN ?_ _|refine blk_drew ?_|refine blk_alloc ?_ _));refine blk_far ?_ eJ.out _;(with_reducible repeat (first|refine blk_drewN ?_ _|refine blk_drew ?_|refine blk_alloc ?_ _));refine blk_far ?_ eJ.out _;(with_reducible repeat (first|refine blk_drewN ?_ _|refine blk_drew ?_|refine blk_alloc ?_ _));refine blk_far ?_ eJ.out _;(with_reducible repeat (first|refine blk_drewN ?_ _|refine blk_drew ?_|refine blk_alloc ?_ _));refine blk_far ?_ eJ.out _;(with_reducible repeat (first|refine blk_drewN ?_ _|refine blk_drew ?_|refine blk_alloc ?_ _));refine blk_far ?_ eJ.out _;(with_reducible repeat (first|refine blk_drewN ?_ _|refine blk_drew ?_|refine blk_alloc ?_ _));refine blk_far ?_ eJ.out _;(with_reducible repeat (first|refine blk_drewN ?_ _|refine blk_drew ?_|refine blk_alloc ?_ _));refine blk_far ?_ eJ.out _;(with_reducible repeat (first|refine blk_drewN ?_ _|refine blk_drew ?_|refine blk_alloc ?_ _));refine blk_far ?_ eJ.out _;(with_reducible repeat (first|refine blk_drewN ?_ _|refine blk_drew ?_|refine blk_alloc ?_ _));refine blk_far ?_ eJ.out _;(with_reducible repeat (first|refine blk_drewN ?_ _|refine blk_drew ?_|refine blk_alloc ?_ _));exact fO.out⟩
       have fH:Aside0 (((((((((((((((nW.setCell ⟨aQ,0,none⟩ (.string ((rd_T42 aA aG).f0))).setCell ⟨aQ,1,none⟩ (.int .i64 ((rd_T42 aA aG).f1))).setCell ⟨aQ,2,none⟩ (.slice dW ((rd_T42 aA aG).f2).length dX)).setCell ⟨aQ,3,none⟩ (.slice eH ((rd_T42 aA aG).f3).length eI)).setCell ⟨aQ,4,none⟩ (.string ((rd_T42 aA aG).f4))).setCell ⟨aQ,5,none⟩ (.string ((rd_T42 aA aG).f5))).setCell ⟨aQ,6,none⟩ (.string ((rd_T42 aA aG).f6))).setCell ⟨aQ,7,none⟩ (.int .i64 ((rd_T42 aA aG).f7.f0))).setCell ⟨aQ,8,none⟩ (.int .i64 ((rd_T42 aA aG).f7.f1))).setCell ⟨aQ,9,none⟩ (.int .i64 ((rd_T42 aA aG).f7.f2))).setCell ⟨aQ,10,none⟩ (.bool ((rd_T42 aA aG).f7.f3))).setCell ⟨aQ,11,none⟩ (.int .i64 ((rd_T42 aA aG).f8))).setCell ⟨aQ,12,none⟩ (.string ((rd_T42 aA aG).f9))).setCell ⟨aQ,13,none⟩ (.string ((rd_T42 aA aG).f10))).heap[kZ]?=some (.cells #[.slice none 0 0] 28 (0,0))):=⟨by (with_reducible repeat (first|refine blk_drewN ?_ _|refine blk_drew ?_|refine blk_alloc ?_ _));refine blk_far ?_ eK.out _;(with_reducible repeat (first|refine blk_drewN ?_ _|refine blk_drew ?_|refine blk_alloc ?_ _));refine blk_far ?_ eK.out _;(with_reducible repeat (first|refine blk_drewN ?_ _|refine blk_drew ?_|refine blk_alloc ?_ _));refine blk_far ?_ eK.out _;(with_reducible repeat (first|refine blk_drewN ?_ _|refine blk_drew ?_|refine blk_alloc ?_ _));refine blk_far ?_ eK.out _;(with_reducible repeat (first|refine blk_drewN ?_ _|refine blk_drew ?_|refine blk_alloc ?_ _));refine blk_far ?_ eK.out _;(with_reducible repeat (first|refine blk_drewN ?_ _|refine blk_drew ?_|refine blk_alloc ?_ _));refine blk_far ?_ eK.out _;(with_reducible repeat (first|refine blk_drewN ?_ _|refine blk_drew ?_|refine blk_alloc ?_ _));refine blk_far ?_ eK.out _;(with_reducible repeat (first|refine blk_drewN ?_ _|refine blk_drew ?_|refine blk_alloc ?_ _));refine blk_far ?_ eK.out _;(with_reducible repeat (first|refine blk_drewN ?_ _|refine blk_drew ?_|refine blk_alloc ?_ _));refine blk_far ?_ eK.out _;(with_reducible repeat (first|refine blk_drewN ?_ _|refine blk_drew ?_|refine blk_alloc ?_ _));refine blk_far ?_ eK.out _;(with_reducible repeat (first|refine blk_drewN ?_ _|refine blk_drew ?_|refine blk_alloc ?_ _));refine blk_far ?_ eK.out _;(with_reducible repeat (first|refine blk_drewN ?_ _|refine blk_drew ?_|refine blk_alloc ?_ _));refine blk_far ?_ eK.out _;(with_reducible repeat (first|refine blk_drewN ?_ _|refine blk_drew ?_|refine blk_alloc ?_ _));refine blk_far ?_ eK.out _;(with_reducible repeat (first|refine blk_drewN ?_ _|refine blk_drew ?_|refine blk_alloc ?_ _));refine blk_far ?_ eK.out _;(with_reducible repeat (first|refine blk_drewN ?_ _|refine blk_drew ?_|refine blk_alloc ?_ _));exact fI.out⟩
       have kX:Aside0 (((((((((((((((nW.setCell ⟨aQ,0,none⟩ (.string ((rd_T42 aA aG).f0))).setCell ⟨aQ,1,none⟩ (.int .i64 ((rd_T42 aA aG).f1))).setCell ⟨aQ,2,none⟩ (.slice dW ((rd_T42 aA aG).f2).length dX)).setCell ⟨aQ,3,none⟩ (.slice eH ((rd_T42 aA aG).f3).length eI)).setCell ⟨aQ,4,none⟩ (.string ((rd_T42 aA aG).f4))).setCell ⟨aQ,5,none⟩ (.string ((rd_T42 aA aG).f5))).setCell ⟨aQ,6,none⟩ (.string ((rd_T42 aA aG).f6))).setCell ⟨aQ,7,none⟩ (.int .i64 ((rd_T42 aA aG).f7.f0))).setCell ⟨aQ,8,none⟩ (.int .i64 ((rd_T42 aA aG).f7.f1))).setCell ⟨aQ,9,none⟩ (.int .i64 ((rd_T42 aA aG).f7.f2))).setCell ⟨aQ,10,none⟩ (.bool ((rd_T42 aA aG).f7.f3))).setCell ⟨aQ,11,none⟩ (.int .i64 ((rd_T42 aA aG).f8))).setCell ⟨aQ,12,none⟩ (.string ((rd_T42 aA aG).f9))).setCell ⟨aQ,13,none⟩ (.string ((rd_T42 aA aG).f10))).heap[lX]?=some (.cells #[iQ] 28 (0,0))):=⟨by (with_reducible repeat (first|refine blk_drewN ?_ _|refine blk_drew ?_|refine blk_alloc ?_ _));refine blk_far ?_ dV.out _;(with_reducible repeat (first|refine blk_drewN ?_ _|refine blk_drew ?_|refine blk_alloc ?_ _));refine blk_far ?_ dV.out _;(with_reducible repeat (first|refine blk_drewN ?_ _|refine blk_drew ?_|refine blk_alloc ?_ _));refine blk_far ?_ dV.out _;(with_reducible repeat (first|refine blk_drewN ?_ _|refine blk_drew ?_|refine blk_alloc ?_ _));refine blk_far ?_ dV.out _;(with_reducible repeat (first|refine blk_drewN ?_ _|refine blk_drew ?_|refine blk_alloc ?_ _));refine blk_far ?_ dV.out _;(with_reducible repeat (first|refine blk_drewN ?_ _|refine blk_drew ?_|refine blk_alloc ?_ _));refine blk_far ?_ dV.out _;(with_reducible repeat (first|refine blk_drewN ?_ _|refine blk_drew ?_|refine blk_alloc ?_ _));refine blk_far ?_ dV.out _;(with_reducible repeat (first|refine blk_drewN ?_ _|refine blk_drew ?_|refine blk_alloc ?_ _));refine blk_far ?_ dV.out _;(with_reducible repeat (first|refine blk_drewN ?_ _|refine blk_drew ?_|refine blk_alloc ?_ _));refine blk_far ?_ dV.out _;(with_reducible repeat (first|refine blk_drewN ?_ _|refine blk_drew ?_|refine blk_alloc ?_ _));refine blk_far ?_ dV.out _;(with_reducible repeat (first|refine blk_drewN ?_ _|refine blk_drew ?_|refine blk_alloc ?_ _));refine blk_far ?_ dV.out _;(with_reducible repeat (first|refine blk_drewN ?_ _|refine blk_drew ?_|refine blk_alloc ?_ _));refine blk_far ?_ dV.out _;(with_reducible repeat (first|refine blk_drewN ?_ _|refine blk_drew ?_|refine blk_alloc ?_ _));refine blk_far ?_ dV.out _;(with_reducible repeat (first|refine blk_drewN ?_ _|refine blk_drew ?_|refine blk_alloc ?_ _));refine blk_far ?_ dV.out _;(with_reducible repeat (first|refine blk_drewN ?_ _|refine blk_drew ?_|refine blk_alloc ?_ _));exact eD.out⟩
       have Dm:Aside0 (((((((((((((((nW.setCell ⟨aQ,0,none⟩ (.string ((rd_T42 aA aG).f0))).setCell ⟨aQ,1,none⟩ (.int .i64 ((rd_T42 aA aG).f1))).setCell ⟨aQ,2,none⟩ (.slice dW ((rd_T42 aA aG).f2).length dX)).setCell ⟨aQ,3,none⟩ (.slice eH ((rd_T42 aA aG).f3).length eI)).setCell ⟨aQ,4,none⟩ (.string ((rd_T42 aA aG).f4))).setCell ⟨aQ,5,none⟩ (.string ((rd_T42 aA aG).f5))).setCell ⟨aQ,6,none⟩ (.string ((rd_T42 aA aG).f6))).setCell ⟨aQ,7,none⟩ (.int .i64 ((rd_T42 aA aG).f7.f0))).setCell ⟨aQ,8,none⟩ (.int .i64 ((rd_T42 aA aG).f7.f1))).setCell ⟨aQ,9,none⟩ (.int .i64 ((rd_T42 aA aG).f7.f2))).setCell ⟨aQ,10,none⟩ (.bool ((rd_T42 aA aG).f7.f3))).setCell ⟨aQ,11,none⟩ (.int .i64 ((rd_T42 aA aG).f8))).setCell ⟨aQ,12,none⟩ (.string ((rd_T42 aA aG).f9))).setCell ⟨aQ,13,none⟩ (.string ((rd_T42 aA aG).f10))).heap[aQ]?=some (.cells #[.string ((rd_T42 aA aG).f0),.int .i64 ((rd_T42 aA aG).f1),.slice dW ((rd_T42 aA aG).f2).length dX,.slice eH ((rd_T42 aA aG).f3).length eI,.string ((rd_T42 aA aG).f4),.string ((rd_T42 aA aG).f5),.string ((rd_T42 aA aG).f6),.int .i64 ((rd_T42 aA aG).f7.f0),.int .i64 ((rd_T42 aA aG).f7.f1),.int .i64 ((rd_T42 aA aG).f7.f2),.bool ((rd_T42 aA aG).f7.f3),.int .i64 ((rd_T42 aA aG).f8),.string ((rd_T42 aA aG).f9),.string ((rd_T42 aA aG).f10)] 42 (0,0))):=⟨by (with_reducible repeat (first|refine blk_drewN ?_ _|refine blk_drew ?_|refine blk_alloc ?_ _));apply put14;(with_reducible repeat (first|refine blk_drewN ?_ _|refine blk_drew ?_|refine blk_alloc ?_ _));exact bV.out⟩
       have Kb:Aside0 (Below w.heap.size w ((((((((((((((nW.setCell ⟨aQ,0,none⟩ (.string ((rd_T42 aA aG).f0))).setCell ⟨aQ,1,none⟩ (.int .i64 ((rd_T42 aA aG).f1))).setCell ⟨aQ,2,none⟩ (.slice dW ((rd_T42 aA aG).f2).length dX)).setCell ⟨aQ,3,none⟩ (.slice eH ((rd_T42 aA aG).f3).length eI)).setCell ⟨aQ,4,none⟩ (.string ((rd_T42 aA aG).f4))).setCell ⟨aQ,5,none⟩ (.string ((rd_T42 aA aG).f5))).setCell ⟨aQ,6,none⟩ (.string ((rd_T42 aA aG).f6))).setCell ⟨aQ,7,none⟩ (.int .i64 ((rd_T42 aA aG).f7.f0))).setCell ⟨aQ,8,none⟩ (.int .i64 ((rd_T42 aA aG).f7.f1))).setCell ⟨aQ,9,none⟩ (.int .i64 ((rd_T42 aA aG).f7.f2))).setCell ⟨aQ,10,none⟩ (.bool ((rd_T42 aA aG).f7.f3))).setCell ⟨aQ,11,none⟩ (.int .i64 ((rd_T42 aA aG).f8))).setCell ⟨aQ,12,none⟩ (.string ((rd_T42 aA aG).f9))).setCell ⟨aQ,13,none⟩ (.string ((rd_T42 aA aG).f10)))):=⟨by repeat (first|(with_reducible first|exact HB.out|apply below_alloc|apply pw_below_drewN|apply below_drew1|refine below_set ?_ wK.out|refine below_set ?_ Bs.out|refine below_set ?_ En.out|refine below_set ?_ a1I.out)|exact HB.out)⟩
       (try clear dA)
       (try clear fO)
       (try clear fI)
       (try clear eD)
       (try clear bV)
       (try clear HB)
       generalize ((((((((((((((nW.setCell ⟨aQ,0,none⟩ (.string ((rd_T42 aA aG).f0))).setCell ⟨aQ,1,none⟩ (.int .i64 ((rd_T42 aA aG).f1))).setCell ⟨aQ,2,none⟩ (.slice dW ((rd_T42 aA aG).f2).length dX)).setCell ⟨aQ,3,none⟩ (.slice eH ((rd_T42 aA aG).f3).length eI)).setCell ⟨aQ,4,none⟩ (.string ((rd_T42 aA aG).f4))).setCell ⟨aQ,5,none⟩ (.string ((rd_T42 aA aG).f5))).setCell ⟨aQ,6,none⟩ (.string ((rd_T42 aA aG).f6))).setCell ⟨aQ,7,none⟩ (.int .i64 ((rd_T42 aA aG).f7.f0))).setCell ⟨aQ,8,none⟩ (.int .i64 ((rd_T42 aA aG).f7.f1))).setCell ⟨aQ,9,none⟩ (.int .i64 ((rd_T42 aA aG).f7.f2))).setCell ⟨aQ,10,none⟩ (.bool ((rd_T42 aA aG).f7.f3))).setCell ⟨aQ,11,none⟩ (.int .i64 ((rd_T42 aA aG).f8))).setCell ⟨aQ,12,none⟩ (.string ((rd_T42 aA aG).f9))).setCell ⟨aQ,13,none⟩ (.string ((rd_T42 aA aG).f10)))=w23 at dT dU fH kX Dm Kb ⊢;have dA:=dT;have fO:=dU;have fI:=fH;have eD:=kX;have bV:=Dm;have HB:=Kb;clear dT dU fH kX Dm Kb;replace dA:=am (Kd.S_drew dA.out);replace fO:=am (blk_drew fO.out);replace fI:=am (blk_drew fI.out);replace eD:=am (blk_drew eD.out);replace bV:=am (blk_drew bV.out);replace HB:=am (below_drew1 HB.out);refine start_ (n:=8) (S:=fun w'=>w'.cell? ⟨lX,0,none⟩=some (iQ)∧w'.cell? ⟨aQ,0,none⟩=some (.string ((rd_T42 aA aG).f0))∧w'.cell? ⟨aQ,1,none⟩=some (.int .i64 ((rd_T42 aA aG).f1))∧w'.cell? ⟨aQ,2,none⟩=some (.slice dW ((rd_T42 aA aG).f2).length dX)∧w'.cell? ⟨aQ,3,none⟩=some (.slice eH ((rd_T42 aA aG).f3).length eI)∧w'.cell? ⟨aQ,4,none⟩=some (.string ((rd_T42 aA aG).f4))∧w'.cell? ⟨aQ,5,none⟩=some (.string ((rd_T42 aA aG).f5))∧w'.cell? ⟨aQ,6,none⟩=some (.string ((rd_T42 aA aG).f6))∧w'.cell? ⟨aQ,7,none⟩=some (.int .i64 ((rd_T42 aA aG).f7.f0))∧w'.cell? ⟨aQ,8,none⟩=some (.int .i64 ((rd_T42 aA aG).f7.f1))∧w'.cell? ⟨aQ,9,none⟩=some (.int .i64 ((rd_T42 aA aG).f7.f2))∧w'.cell? ⟨aQ,10,none⟩=some (.bool ((rd_T42 aA aG).f7.f3))∧w'.cell? ⟨aQ,11,none⟩=some (.int .i64 ((rd_T42 aA aG).f8))∧w'.cell? ⟨aQ,12,none⟩=some (.string ((rd_T42 aA aG).f9))∧w'.cell? ⟨aQ,13,none⟩=some (.string ((rd_T42 aA aG).f10))) (ds:=[7]) #[false,false,false,false,false,false,false,false] (by kernel_rfl) rfl rfl ⟨(blk_cell eD.out 0).trans rfl,(blk_cell bV.out 0).trans rfl,(blk_cell bV.out 1).trans rfl,(blk_cell bV.out 2).trans rfl,(blk_cell bV.out 3).trans rfl,(blk_cell bV.out 4).trans rfl,(blk_cell bV.out 5).trans rfl,(blk_cell bV.out 6).trans rfl,(blk_cell bV.out 7).trans rfl,(blk_cell bV.out 8).trans rfl,(blk_cell bV.out 9).trans rfl,(blk_cell bV.out 10).trans rfl,(blk_cell bV.out 11).trans rfl,(blk_cell bV.out 12).trans rfl,(blk_cell bV.out 13).trans rfl⟩ (fun hHeld=>?_);refine with_tabW impl_newLibrary.tab5 impl_newLibrary.bits5 (fun HT_ HW_=>?_);generalize w23.drew=w24 at dA fO fI eD bV HB hHeld ⊢;refine pu_ 0 (some 15) #[true,false,false,false,false,false,false,false] HT_.out ?_;refine ta1_ 1 (some 16) #[true,true,false,false,false,false,false,false] HT_.out HW_.out hHeld ?_;refine ta1_ 2 (some 17) #[true,true,true,false,false,false,false,false] HT_.out HW_.out hHeld ?_;refine on_ 3 (some 18) #[true,true,true,true,false,false,false,false] HT_.out (fun K hK=>?_);refine gs_ Tryz.func49 #[.agg #[.string ((rd_T42 aA aG).f0),.int .i64 ((rd_T42 aA aG).f1),.slice dW ((rd_T42 aA aG).f2).length dX,.slice eH ((rd_T42 aA aG).f3).length eI,.string ((rd_T42 aA aG).f4),.string ((rd_T42 aA aG).f5),.string ((rd_T42 aA aG).f6),.int .i64 ((rd_T42 aA aG).f7.f0),.int .i64 ((rd_T42 aA aG).f7.f1),.int .i64 ((rd_T42 aA aG).f7.f2),.bool ((rd_T42 aA aG).f7.f3),.int .i64 ((rd_T42 aA aG).f8),.string ((rd_T42 aA aG).f9),.string ((rd_T42 aA aG).f10)]] ?_
       with_reducible refine (impl_newEntry.calls k1 ((rd_T42 aA aG).f0) ((rd_T42 aA aG).f1) _ _ ((rd_T42 aA aG).f2) _ _ ((rd_T42 aA aG).f3) ((rd_T42 aA aG).f4) ((rd_T42 aA aG).f5) ((rd_T42 aA aG).f6) ((rd_T42 aA aG).f7.f0) ((rd_T42 aA aG).f7.f1) ((rd_T42 aA aG).f7.f2) ((rd_T42 aA aG).f7.f3) ((rd_T42 aA aG).f8) ((rd_T42 aA aG).f9) ((rd_T42 aA aG).f10) NR NS NT NU NV NW NX NY NZ O0 O1 O2 O3 O4 _ ?aU ?aV ?dY ?dZ A16.out).mono ?_
       (case aU=>repeat (first|exact (Kd.C_below ahR.out HB.out)|(with_reducible refine Kd.C_alloc ?_ _)|(with_reducible refine Kd.C_drewN ?_ _)|(with_reducible refine Kd.C_drew ?_)))
       (case aV=>exact ahS.out)
       (case dY=>repeat (first|exact (Kd.C_below ahT.out HB.out)|(with_reducible refine Kd.C_alloc ?_ _)|(with_reducible refine Kd.C_drewN ?_ _)|(with_reducible refine Kd.C_drew ?_)))
       (case dZ=>exact ahU.out)
       rintro e w25 ⟨b0E,b0F,M0_,rfl,ho0,ho1,hb⟩;refine ⟨_,rfl,?_⟩;obtain ⟨N0_,avJ,avK,avL⟩:=cut3 au82 ho0 ho1 hb (below_size au2);have dT:=am avJ;have dU:=am avK;have fH:=am avL;clear avJ avK avL;have kX:=am (blk_below (g:=kD) au51 hb);have Dm:=am (blk_below (g:=kZ) au52 hb);have Kb:=am (blk_below (g:=lX) au53 hb);have n6_:=am (blk_below (g:=aQ) au54 hb);have n7_:=am (below_step au2 hb);clear dA;clear fO;clear fI;clear eD;clear bV;clear HB;have dA:=dT;have a3J:=dU;have a3K:=fH;have fO:=kX;have fI:=Dm;have eD:=Kb;have bV:=n6_;have HB:=n7_;clear dT dU fH kX Dm Kb n6_ n7_
       (try clear hb)
       (try clear ho0)
       (try clear ho1)
       obtain ⟨aFJ,aFK,avM⟩:=Kd.S_slice a3J.out
       (first|subst avM|(injection avM with lH uQ lI;have uR:=lH.symm;have uS:=lI.symm;clear lH uQ lI;subst uR;subst uS))
       obtain ⟨aFL,aFM,avN⟩:=Kd.S_slice a3K.out
       (first|subst avN|(injection avN with lH uQ lI;have uR:=lH.symm;have uS:=lI.symm;clear lH uQ lI;subst uR;subst uS))
       refine hK.out _ _ ⟨(blk_cell eD.out 0).trans rfl,(blk_cell bV.out 0).trans rfl,(blk_cell bV.out 1).trans rfl,(blk_cell bV.out 2).trans rfl,(blk_cell bV.out 3).trans rfl,(blk_cell bV.out 4).trans rfl,(blk_cell bV.out 5).trans rfl,(blk_cell bV.out 6).trans rfl,(blk_cell bV.out 7).trans rfl,(blk_cell bV.out 8).trans rfl,(blk_cell bV.out 9).trans rfl,(blk_cell bV.out 10).trans rfl,(blk_cell bV.out 11).trans rfl,(blk_cell bV.out 12).trans rfl,(blk_cell bV.out 13).trans rfl⟩ (fun hHeld=>?_);clear hK K;refine no_ (some 18) ?_;refine on_ 4 (some 19) #[true,true,true,true,true,false,false,false] HT_.out (fun K hK=>?_);refine value_ (w1:=?_) (v:=?_) (by rfl) rfl ?_ ?_
       rotate_left 2
       ·
        go_simp
        constructor
        · rfl
        · rfl
       refine hK.out _ _ ⟨(blk_cell (blk_alloc eD.out _) 0).trans rfl,(blk_cell (blk_alloc bV.out _) 0).trans rfl,(blk_cell (blk_alloc bV.out _) 1).trans rfl,(blk_cell (blk_alloc bV.out _) 2).trans rfl,(blk_cell (blk_alloc bV.out _) 3).trans rfl,(blk_cell (blk_alloc bV.out _) 4).trans rfl,(blk_cell (blk_alloc bV.out _) 5).trans rfl,(blk_cell (blk_alloc bV.out _) 6).trans rfl,(blk_cell (blk_alloc bV.out _) 7).trans rfl,(blk_cell (blk_alloc bV.out _) 8).trans rfl,(blk_cell (blk_alloc bV.out _) 9).trans rfl,(blk_cell (blk_alloc bV.out _) 10).trans rfl,(blk_cell (blk_alloc bV.out _) 11).trans rfl,(blk_cell (blk_alloc bV.out _) 12).trans rfl,(blk_cell (blk_alloc bV.out _) 13).trans rfl⟩ (fun hHeld=>?_);clear hK K;refine no_ (some 19) ?_;refine on_ 5 (some 20) #[true,true,true,true,true,true,false,false] HT_.out (fun K hK=>?_);refine Kd.S_append_step kES (w0:=w) w.heap.size (by rfl) (.tmp 16) (.tmp 19) 26 42 (.agg #[(.string ⟨#[]⟩),(.int .i64 0),(.slice none 0 0),(.slice none 0 0),(.string ⟨#[]⟩),(.string ⟨#[]⟩),(.string ⟨#[]⟩),(.int .i64 0),(.int .i64 0),(.int .i64 0),(.bool false),(.int .i64 0),(.string ⟨#[]⟩),(.string ⟨#[]⟩)]) 192 rfl Tryz.underlying26 info42 rfl (by decide) (by omega) iQ fS (⟨NR,NS,NT,NU,NV,NW,NX,(⟨NY,NZ,O0,O1⟩:S40),O2,O3,O4⟩:S42) [.string NR,.int .i64 NS,.slice aFJ NT.length aFK,.slice aFL NU.length aFM,.string NV,.string NW,.string NX,.int .i64 NY,.int .i64 NZ,.int .i64 O0,.bool O1,.int .i64 O2,.string O3,.string O4] (fun k_=>k_≠aQ) (fun k_=>(k_≠aQ∧some k_≠(iQ:Value).ownBlock)∧N0_≤k_) rfl rfl ?aP (fun _ hk=>hk.1) ?aF ?aO ?aB ?aS ?aL ?_
       (case aP=>exact ⟨fun k_=>decide (k_<M0_),_,_,rfl,Kd.S_mono (Kd.S_types (Kd.S_apart' a3J.out (Kd.S_typed dA.out) (by decide)) bV.out (by decide)) (fun k_ hk=>⟨⟨⟨hk.2,hk.1.2⟩,hk.1.1.2⟩,dt hk.1.1.1⟩),Kd.S_mono (Kd.S_types (Kd.S_apart' a3K.out (Kd.S_typed dA.out) (by decide)) bV.out (by decide)) (fun k_ hk=>⟨⟨⟨hk.2,hk.1.2⟩,hk.1.1.2⟩,df (Nat.not_lt.2 hk.1.1.1)⟩)⟩)
       (case aB=>exact au2)
       (case aF=>exact (fun k_ hk=>Kd.freshB (g:=aQ) (o:=.cells #[.string ((rd_T42 aA aG).f0),.int .i64 ((rd_T42 aA aG).f1),.slice dW ((rd_T42 aA aG).f2).length dX,.slice eH ((rd_T42 aA aG).f3).length eI,.string ((rd_T42 aA aG).f4),.string ((rd_T42 aA aG).f5),.string ((rd_T42 aA aG).f6),.int .i64 ((rd_T42 aA aG).f7.f0),.int .i64 ((rd_T42 aA aG).f7.f1),.int .i64 ((rd_T42 aA aG).f7.f2),.bool ((rd_T42 aA aG).f7.f3),.int .i64 ((rd_T42 aA aG).f8),.string ((rd_T42 aA aG).f9),.string ((rd_T42 aA aG).f10)] 42 (0,0)) au54 k_ hk))
       (case aO=>exact (by (with_reducible repeat (first|apply Kd.S_alloc|apply Kd.S_drewN|apply Kd.S_drew));exact Kd.S_mono dA.out (fun _ hk=>⟨hk.1,fun h_=>absurd h_.2 (Nat.not_le.2 hk.2)⟩)))
       (case aS=>exact (below_size au2))
       (case aL=>have:=aDD.out;omega)
       intro b0G w26 ho hb hg hat;rw [← aDE.out] at ho;have dT:=am (blk_grown (g:=kD) (o:=.cells #[.slice (some afK) aA.length bA] 28 (0,0)) au51 hg (Kd.S_ne dA.out fO.out (by decide)));have dU:=am (blk_grown (g:=kZ) (o:=.cells #[.slice none 0 0] 28 (0,0)) au52 hg (Kd.S_ne dA.out fI.out (by decide)));have fH:=am (blk_grown (g:=lX) (o:=.cells #[iQ] 28 (0,0)) au53 hg (Kd.S_ne dA.out eD.out (by decide)));have kX:=am (blk_grown (g:=aQ) (o:=.cells #[.string ((rd_T42 aA aG).f0),.int .i64 ((rd_T42 aA aG).f1),.slice dW ((rd_T42 aA aG).f2).length dX,.slice eH ((rd_T42 aA aG).f3).length eI,.string ((rd_T42 aA aG).f4),.string ((rd_T42 aA aG).f5),.string ((rd_T42 aA aG).f6),.int .i64 ((rd_T42 aA aG).f7.f0),.int .i64 ((rd_T42 aA aG).f7.f1),.int .i64 ((rd_T42 aA aG).f7.f2),.bool ((rd_T42 aA aG).f7.f3),.int .i64 ((rd_T42 aA aG).f8),.string ((rd_T42 aA aG).f9),.string ((rd_T42 aA aG).f10)] 42 (0,0)) au54 hg (Kd.S_away dA.out (fun _ hk=>hk.1)));have Dm:=am (hb);have Kb:=am (ho);clear fO;clear fI;clear eD;clear bV;clear HB;clear dA;clear a3J;clear a3K;have fO:=dT;have fI:=dU;have eD:=fH;have bV:=kX;have HB:=Dm;have afL:=Kb;clear dT dU fH kX Dm Kb;clear ho hb hg hat;obtain ⟨avO,avP,avQ⟩:=Kd.S_slice afL.out
       (first|subst avQ|(injection avQ with lH uQ lI;have uR:=lH.symm;have uS:=lI.symm;clear lH uQ lI;subst uR;subst uS))
       refine hK.out _ _ ⟨(blk_cell eD.out 0).trans rfl,(blk_cell bV.out 0).trans rfl,(blk_cell bV.out 1).trans rfl,(blk_cell bV.out 2).trans rfl,(blk_cell bV.out 3).trans rfl,(blk_cell bV.out 4).trans rfl,(blk_cell bV.out 5).trans rfl,(blk_cell bV.out 6).trans rfl,(blk_cell bV.out 7).trans rfl,(blk_cell bV.out 8).trans rfl,(blk_cell bV.out 9).trans rfl,(blk_cell bV.out 10).trans rfl,(blk_cell bV.out 11).trans rfl,(blk_cell bV.out 12).trans rfl,(blk_cell bV.out 13).trans rfl⟩ (fun hHeld=>?_);clear hK K;refine no_ (some 20) ?_;refine pu_ 6 (some 21) #[true,true,true,true,true,true,true,false] HT_.out ?_;refine last_ (i:=7) (N:=none) #[true,true,true,true,true,true,true,true] rfl rfl (one_of HT_.out (by kernel_rfl)) (by decide) (fun K hK=>?_);have hs30:w26.cell? ⟨lX,0,none⟩=some (iQ):=(blk_cell eD.out 0).trans rfl;have hfs30:=blk_frozen eD.out 0;have hns30_0:=qP.out;have hns30_1:=qQ.out;have hns30_3:=MC.out;have hms30_0:=DL.out;have hms30_1:=DN.out;have hms30_3:=dV.out;refine skip_ (w1:=?_) (by rfl) rfl ?_ ?_
       rotate_left
       ·
        go_simp
        rfl
       refine hK.out _ _ ?_;clear hK K;refine done_ (done_of HT_.out (by kernel_rfl)) ?_
       try go_wp2
       go_roundg k1
       case measure=>have:=HK1.out;omega
       case rel=>exact ⟨(wrap64 (aG+1)),(a3I),(.slice avO a3I.length avP),au88,H',⟨by have:=HK1.out;omega⟩,⟨by (with_reducible repeat (first|apply Kd.S_alloc|apply Kd.S_drewN|apply Kd.S_drew));exact Kd.S_mono (Kd.S_far (p:=⟨lX,0,none⟩) (Kd.S_types afL.out eD.out (by decide)) (fun _ hk=>hk.2) (.slice avO a3I.length avP)) (fun _ hk=>trivial)⟩,⟨by (with_reducible repeat (first|refine blk_drewN ?_ _|refine blk_drew ?_|refine blk_alloc ?_ _));refine blk_far ?_ qP.out _;(with_reducible repeat (first|refine blk_drewN ?_ _|refine blk_drew ?_|refine blk_alloc ?_ _));exact fO.out⟩,⟨by (with_reducible repeat (first|refine blk_drewN ?_ _|refine blk_drew ?_|refine blk_alloc ?_ _));refine blk_far ?_ qQ.out _;(with_reducible repeat (first|refine blk_drewN ?_ _|refine blk_drew ?_|refine blk_alloc ?_ _));exact fI.out⟩,⟨by (with_reducible repeat (first|refine blk_drewN ?_ _|refine blk_drew ?_|refine blk_alloc ?_ _));refine blk_put (cs:=#[iQ]) ?_ 0 _ rfl;(with_reducible repeat (first|refine blk_drewN ?_ _|refine blk_drew ?_|refine blk_alloc ?_ _));exact eD.out⟩,⟨by repeat (first|(with_reducible first|exact HB.out|apply below_alloc|apply pw_below_drewN|apply below_drew1|refine below_set ?_ wK.out|refine below_set ?_ Bs.out|refine below_set ?_ En.out|refine below_set ?_ a1I.out)|exact HB.out)⟩⟩
      · rw [if_neg mO] at H;exact absurd H (by simp)
     · rw [if_neg cX] at H;exact absurd H (by simp)
    · rw [if_neg dB] at H;exact absurd H (by simp)
   · rw [if_neg cV] at H;have c13b0:=df cV;clear cV;obtain rfl:=ojz H;have aWS:=DL.out;have aWT:=qP.out;have aDJ:=DN.out;have aDK:=qQ.out;have aJL:wr.cell? ⟨lX,0,none⟩=some (iQ):=(blk_cell eD.out 0).trans rfl;have aJM:=blk_frozen eD.out 0;obtain ⟨avR,avS,aFN⟩:=Kd.S_slice dA.out;subst aFN;have aWU:=MB.out;have aWV:=MA.out;have ahV:wr.cell? ⟨kZ,0,none⟩=some (.slice none 0 0):=(blk_cell fI.out 0).trans rfl;have ahW:=blk_frozen fI.out 0;go_wp2;refine bodyPost_ret (results_cell_row rfl _ _ kZ 28 #[.slice avR fS.length avS] (0,0) _ rfl (by (with_reducible repeat (first|refine blk_drewN ?_ _|refine blk_drew ?_|refine blk_alloc ?_ _));refine blk_put (cs:=#[.slice none 0 0]) ?_ 0 _ rfl;(with_reducible repeat (first|refine blk_drewN ?_ _|refine blk_drew ?_|refine blk_alloc ?_ _));exact fI.out) Tryz.underlying28 rfl (by kernel_rfl)) rfl ?_;exact ⟨_,by first|rfl|(simp [errW_none,errW_some] <;> rfl)|(simp [*,errW_none,errW_some] <;> rfl),by (with_reducible repeat (first|apply Kd.S_alloc|apply Kd.S_drewN|apply Kd.S_drew));exact Kd.S_mono (Kd.S_far (p:=⟨kZ,0,none⟩) (Kd.S_types dA.out fI.out (by decide)) (fun _ hk=>hk.2) (.slice avR fS.length avS)) (fun _ hk=>trivial),by repeat (first|(with_reducible first|exact HB.out|apply below_alloc|apply pw_below_drewN|apply below_drew1|refine below_set ?_ wK.out|refine below_set ?_ Bs.out|refine below_set ?_ En.out)|exact HB.out)⟩
end Go.Proofs.YteagahcbffgjpaaGreatDoor.G

namespace Go.Proofs.YteagahcbffgjpaaGreatDoor.G
open Go.RowKit Go.Proofs.YteagahcbffgjpaaGreatDoorW.PrintWords Go.Proofs.YteagahcbffgjpaaGreatDoorW.PrintLast Go.Proofs.YteagahcbffgjpaaGreatDoorW.PrintMore Go.Proofs.YteagahcbffgjpaaGreatDoor.B
set_option linter.unusedVariables false
set_option linter.unusedSimpArgs false
theorem alloc_at (w:World) (o:Obj):(w.alloc o).heap[w.heap.size]?=some o:=by
  show (w.heap.push o)[w.heap.size]?=_
  rw [Array.getElem?_push,if_pos rfl]
theorem alloc_lt {w:World} (o:Obj) {k:Nat} (h:k<w.heap.size):(w.alloc o).heap[k]?=w.heap[k]?:=by
  show (w.heap.push o)[k]?=_
  rw [Array.getElem?_push,if_neg (by omega)]
theorem alloc_size (w:World) (o:Obj):(w.alloc o).heap.size=w.heap.size+1:=by
  show (w.heap.push o).size=_
  rw [Array.size_push]
set_option maxHeartbeats 4000000 in
set_option maxRecDepth 100000 in
theorem drop_s (k:Nat) (A:Option Addr) (c:Nat) (l r:List S42) (i:Nat) (w:World) (hr:Kd.C k42 w A l.length l) (hc:l.length≤c) (h:impl_newLibrary.f k l=some r) (hi:i<r.length) (O9:i≤4611686018427387904) :
    Calls Tryz.prog 18 #[.agg #[.slice A l.length c],.int .i64 (i:Int)] w fun e w'=>∃ dS:Value,e=.returned (.agg #[dS])∧Kd.S kES 42 w' w.heap.size (fun _=>True) dS (r.eraseIdx i)∧Below w.heap.size w w':=by
  have HR:=am hr;have HC:=am hc;have HH:=am h;have HI:=am hi;have HW:=am (mk_i i O9);have HB:=am (Below.refl w.heap.size w);have hu:=Tryz.underlying28;clear hr hc h hi O9;go_enter Tryz.func18,Tryz.ntmps18
  go_wp2_with (first
    | (go_at_call 29;(refine (impl_newLibrary.calls k A c l r _ ?s1 HC.out HH.out).mono ?_);(case s1=>repeat (first|exact HR.out|(with_reducible refine Kd.C_alloc ?_ _)|(with_reducible refine Kd.C_drewN ?_ _)|(with_reducible refine Kd.C_drew ?_)));rintro e w1 ⟨v1,rfl,hS,hb⟩;have HS:=am (Kd.S_lower hS (below_size (show Below w.heap.size w _ from by repeat (first|exact HB.out|apply below_alloc|apply pw_below_drewN|apply below_drew1))));have HB1:=am (below_step (show Below w.heap.size w _ from by repeat (first|exact HB.out|apply below_alloc|apply pw_below_drewN|apply below_drew1)) hb);have HX:=am (show w1.heap[w.heap.size+1]?=some (.cells #[.slice none 0 0] 28 (0,0)) from (hb.block _ (by rw [alloc_size,alloc_size];omega)).trans (by rw [← alloc_size w (.cells #[.slice A l.length c] 28)];exact alloc_at _ _));obtain ⟨g,c1,e1,hg1,hg2,_⟩:=Kd.S_form hS (by have:=HI.out;omega);subst e1;have HG:=am (show w.heap.size+2≤g∧g<w1.heap.size from ⟨by rw [alloc_size,alloc_size] at hg1;omega,hg2⟩);clear hS hb hg1 hg2)
    | (go_at_call 30;rw [HW.out];(refine (del_s _ g c1 i w.heap.size (fun _=>True) r ?s2 HI.out ?s3).mono ?_);(case s2=>(with_reducible repeat (first|apply Kd.S_alloc|apply Kd.S_drewN|apply Kd.S_drew));exact HS.out);(case s3=>exact below_size (show Below w.heap.size w _ from by repeat (first|exact HB1.out|apply below_alloc|apply pw_below_drewN|apply below_drew1)));rintro e w3 ⟨rfl,hS3,hB3,hz3,hk3⟩;have HS3:=am hS3;have HB3:=am ((show Below w.heap.size w _ from by repeat (first|exact HB1.out|apply below_alloc|apply pw_below_drewN|apply below_drew1)).trans hB3);have hg_:=HG.out;have wU:=am ((hk3 w1.heap.size (Nat.lt_of_lt_of_eq (Nat.lt_succ_self _) (alloc_size _ _).symm) (by omega)).trans (alloc_at w1 _));have hl_:=blk_ltH HX.out;have kM:=am ((hk3 (w.heap.size+1) (by rw [alloc_size];omega) (by omega)).trans ((alloc_lt _ hl_).trans HX.out));have xL:w3.cell? ⟨w1.heap.size,0,none⟩=some (.slice (some ⟨g,0,none⟩) r.length c1):=(blk_cell wU.out 0).trans rfl;have eG:=blk_frozen wU.out 0;have DD:w3.cell? ⟨w.heap.size+1,0,none⟩=some (.slice none 0 0):=(blk_cell kM.out 0).trans rfl;have hne1:w1.heap.size≠w.heap.size+1:=(by omega);have hne2:w.heap.size+1≠w1.heap.size:=(by omega);have NF:=blk_frozen kM.out 0;clear hS3 hB3 hz3 hk3 hg_ hl_))
  have hlt_:=blk_ltH HX.out
  have hne2_:w.heap.size+1≠w1.heap.size:=by omega
  refine bodyPost_ret (results_cell_row rfl _ _ (w.heap.size+1) 28 #[.slice (some ⟨g,0,none⟩) (r.length-1) c1] (0,0) _ rfl (by refine blk_put (cs:=#[.slice none 0 0]) ?_ 0 _ rfl;refine blk_far ?_ hne2_ _;exact kM.out) Tryz.underlying28 rfl (by kernel_rfl)) rfl ?_;exact ⟨_,rfl,Kd.S_mono (Kd.S_far (p:=⟨w.heap.size+1,0,none⟩) (Kd.S_far (p:=⟨w1.heap.size,0,none⟩) (Kd.S_types (Kd.S_types HS3.out wU.out (by decide)) kM.out (by decide)) (fun _ hk=>hk.1.2) _) (fun _ hk=>hk.2) _) (fun _ _=>trivial),(HB3.out.setCell (by show w.heap.size≤w1.heap.size;omega) _).setCell (by show w.heap.size≤w.heap.size+1;omega) _⟩
end Go.Proofs.YteagahcbffgjpaaGreatDoor.G

namespace Go.Proofs.YteagahcbffgjpaaGreatDoor.Ext
set_option linter.unusedVariables false
set_option linter.unusedSimpArgs false
theorem str_tri (a:List UInt8):∀ b,(!(Op.bytesLess a b || a == b))=Op.bytesLess b a:=by
  induction a with
  | nil=>intro b;cases b <;> simp [Op.bytesLess]
  | cons x a ih =>
    intro b
    cases b with
    | nil=>simp [Op.bytesLess]
    | cons y b =>
      have h:=ih b;unfold Op.bytesLess;by_cases h1:x<y
      · have h2:¬ y<x:=fun h=>by have a1:x.toNat<y.toNat:=h1;have a2:y.toNat<x.toNat:=h;omega
        have h3:¬ x=y:=fun e=>by subst e;exact h2 h1
        have h4:¬ y=x:=fun e=>h3 e.symm
        simp [h1,h2,h3,h4]
      · by_cases h2:y<x
        · have h3:¬ x=y:=fun e=>by subst e;exact h1 h2
          simp [h1,h2,h3]
        · have h3:x=y:=by
            apply UInt8.toNat_inj.1;have a1:¬ x.toNat<y.toNat:=h1;have a2:¬ y.toNat<x.toNat:=h2;omega
          subst h3
          simpa [h1] using h
theorem gtr_s (t:TypeId) (a b:ByteArray):binOp .gtr t (.string a) (.string b)=pure (.bool (Op.bytesLess b.toList a.toList)):=by
  rw [← str_tri];simp [binOp,Op.stringOp]
theorem geq_s (t:TypeId) (a b:ByteArray):binOp .geq t (.string a) (.string b)=pure (.bool (!(Op.bytesLess a.toList b.toList))):=by simp [binOp,Op.stringOp]
theorem leq_s (t:TypeId) (a b:ByteArray):binOp .leq t (.string a) (.string b)=pure (.bool (!(Op.bytesLess b.toList a.toList))):=by
  have h:=str_tri a.toList b.toList;rw [← h];simp [binOp,Op.stringOp]
end Go.Proofs.YteagahcbffgjpaaGreatDoor.Ext

namespace Go.Proofs.YteagahcbffgjpaaGreatDoor.G
open Go.RowKit Go.Proofs.YteagahcbffgjpaaGreatDoorW.PrintWords Go.Proofs.YteagahcbffgjpaaGreatDoorW.PrintLast Go.Proofs.YteagahcbffgjpaaGreatDoorW.PrintMore
open Go.Proofs.YteagahcbffgjpaaGreatDoor.Gl Go.Proofs.YteagahcbffgjpaaGreatDoor.Ext
attribute [local go_sem] max2_int min2_int max_two min_two max_three min_three max_four min_four   -- for this text's walks alone
set_option linter.unusedVariables false
set_option linter.unusedSimpArgs false
def impl_inside.f (a0:Int) (a1:Int) (a2:Int):Option (Bool):=if a0 ≥ a1 then (some (decide (a0≤a2))) else (some false)
set_option maxHeartbeats 8000000 in
set_option maxRecDepth 100000 in
theorem impl_inside.calls (a0:Int) (a1:Int) (a2:Int) (r:Bool) (w:World) (h:impl_inside.f a0 a1 a2=some r) :
  Calls Tryz.prog 47 #[.int .i64 a0,.int .i64 a1,.int .i64 a2] w fun e w'=>e=.returned (.bool r)∧Drawn0 w w':=by
 have H:(if a0 ≥ a1 then (some (decide (a0≤a2))) else (some false))=some r:=h;clear h;by_cases c4:a0 ≥ a1
 · rw [if_pos c4] at H;have c4b0:=dt c4;clear c4;obtain rfl:=ojz H;go_enter Tryz.func47,Tryz.ntmps47;go_wp2;go_ret;exact ax0
 · rw [if_neg c4] at H;have c4b0:=df c4;clear c4;obtain rfl:=ojz H;go_enter Tryz.func47,Tryz.ntmps47;go_wp2;go_ret;exact ax0
def impl_isLower.f (a0:Int):Option (Bool):=if a0 ≥ 97 then (some (decide (a0≤122))) else (some false)
set_option maxHeartbeats 8000000 in
set_option maxRecDepth 100000 in
theorem impl_isLower.calls (a0:Int) (r:Bool) (w:World) (h:impl_isLower.f a0=some r) :
  Calls Tryz.prog 59 #[.int .u8 a0] w fun e w'=>e=.returned (.bool r)∧Drawn0 w w':=by
 have H:(if a0 ≥ 97 then (some (decide (a0≤122))) else (some false))=some r:=h;clear h;by_cases c2:a0 ≥ 97
 · rw [if_pos c2] at H;have c2b0:=dt c2;clear c2;obtain rfl:=ojz H;go_enter Tryz.func59,Tryz.ntmps59;go_wp2;go_ret;exact ax0
 · rw [if_neg c2] at H;have c2b0:=df c2;clear c2;obtain rfl:=ojz H;go_enter Tryz.func59,Tryz.ntmps59;go_wp2;go_ret;exact ax0
def impl_isDigit.f (a0:Int):Option (Bool):=if a0 ≥ 48 then (some (decide (a0≤57))) else (some false)
set_option maxHeartbeats 8000000 in
set_option maxRecDepth 100000 in
theorem impl_isDigit.calls (a0:Int) (r:Bool) (w:World) (h:impl_isDigit.f a0=some r) :
  Calls Tryz.prog 60 #[.int .u8 a0] w fun e w'=>e=.returned (.bool r)∧Drawn0 w w':=by
 have H:(if a0 ≥ 48 then (some (decide (a0≤57))) else (some false))=some r:=h;clear h;by_cases c2:a0 ≥ 48
 · rw [if_pos c2] at H;have c2b0:=dt c2;clear c2;obtain rfl:=ojz H;go_enter Tryz.func60,Tryz.ntmps60;go_wp2;go_ret;exact ax0
 · rw [if_neg c2] at H;have c2b0:=df c2;clear c2;obtain rfl:=ojz H;go_enter Tryz.func60,Tryz.ntmps60;go_wp2;go_ret;exact ax0
mutual
def impl_isKey.j0:Nat→ByteArray→Bool→Option (Bool)
 | 0,_,_=>none
 | k+1,x0,xN=>if xN=true then (some false) else (impl_isKey.l0 k x0 0)
def impl_isKey.l0:Nat→ByteArray→Int→Option (Bool)
 | 0,_,_=>none
 | k+1,x0,x3=>if x3<(x0.size:Int) then (if 0≤x3 then ((impl_isLower.f (bt x0 x3)).bind fun a8C=>(if a8C=true then (impl_isKey.l0 k x0 (wrap64 (x3+1))) else ((impl_isDigit.f (bt x0 x3)).bind fun a8D=>(if a8D=true then (impl_isKey.l0 k x0 (wrap64 (x3+1))) else (some false))))) else (none)) else (some true)
end
def impl_isKey.f (k:Nat) (a0:ByteArray):Option (Bool):=(impl_inside.f (a0.size:Int) 1 10).bind fun Oa=>(if Oa=true then (if 0<(a0.size:Int) then ((impl_isLower.f (bt a0 0)).bind fun KZ=>(impl_isKey.j0 k a0 (!KZ))) else (none)) else (impl_isKey.j0 k a0 true))
theorem impl_isKey.mono_l:∀ k,(∀ y0 y1,LeO (impl_isKey.j0 k y0 y1) (impl_isKey.j0 (k+1) y0 y1))∧(∀ y0 y1,LeO (impl_isKey.l0 k y0 y1) (impl_isKey.l0 (k+1) y0 y1))
 | 0=>⟨fun _ _ r h=>by simp [impl_isKey.j0] at h,fun _ _ r h=>by simp [impl_isKey.l0] at h⟩
 | k+1=>by
  obtain ⟨ih0,ih1⟩:=impl_isKey.mono_l k;refine ⟨?_,?_⟩
  ·
   intro y0 y1;unfold impl_isKey.j0
   repeat' first
   | (with_reducible exact ih0 _ _)
   | (with_reducible exact ih1 _ _)
   | (with_reducible exact LeO.refl _)
   | (with_reducible exact LeO.none _)
   | (with_reducible refine LeO.ite ?_ ?_)
   | (with_reducible refine LeO.bind ?_ (fun _=>?_))
   | exact ih0 _ _
   | exact ih1 _ _
   | exact LeO.none _
   | refine LeO.ite ?_ ?_
   | refine LeO.bind ?_ (fun _=>?_)
  ·
   intro y0 y1;unfold impl_isKey.l0
   repeat' first
   | (with_reducible exact ih0 _ _)
   | (with_reducible exact ih1 _ _)
   | (with_reducible exact LeO.refl _)
   | (with_reducible exact LeO.none _)
   | (with_reducible refine LeO.ite ?_ ?_)
   | (with_reducible refine LeO.bind ?_ (fun _=>?_))
   | exact ih0 _ _
   | exact ih1 _ _
   | exact LeO.none _
   | refine LeO.ite ?_ ?_
   | refine LeO.bind ?_ (fun _=>?_)
theorem impl_isKey.mono:∀ a0 k,LeO (impl_isKey.f k a0) (impl_isKey.f (k+1) a0):=by
 intro a0 k;obtain ⟨ih0,ih1⟩:=impl_isKey.mono_l k;unfold impl_isKey.f
 repeat' first
   | (with_reducible exact ih0 _ _)
   | (with_reducible exact ih1 _ _)
   | (with_reducible exact LeO.refl _)
   | (with_reducible exact LeO.none _)
   | (with_reducible refine LeO.ite ?_ ?_)
   | (with_reducible refine LeO.bind ?_ (fun _=>?_))
   | exact ih0 _ _
   | exact ih1 _ _
   | exact LeO.none _
   | refine LeO.ite ?_ ?_
   | refine LeO.bind ?_ (fun _=>?_)
set_option maxRecDepth 100000 in
theorem impl_isKey.L0 {P:Prop} (h:P:=by
  go_wp2_with (first|((with_reducible refine gate_callee (f:=59) rfl ?_);refine goesL_ (some 23) rfl rfl Tryz.func59 (by kernel_rfl) rfl #[.int .u8 (bt a0 aM)] rfl au45 ?_;(with_reducible refine (impl_isLower.calls (bt a0 aM) _ _ uT.out).mono ?_);rintro e w' ⟨rfl,⟨nd,rfl⟩⟩;refine ⟨_,rfl,?_⟩;have jX:0≤(aM:Int):=od au87;have iU:aM<(a0.size:Int):=od au87;have BM:=bt_at a0 aM;replace jX:=eq_true jX;replace iU:=eq_true iU)|(go_at_call 60;(with_reducible refine (impl_isDigit.calls (bt a0 aM) _ _ xO.out).mono ?_);rintro e w' ⟨rfl,⟨nd,rfl⟩⟩));go_ret
  exact ax0):P:=h
set_option maxHeartbeats 8000000 in
set_option maxRecDepth 100000 in
theorem impl_isKey.calls (k:Nat) (a0:ByteArray) (r:Bool) (w:World) (h:impl_isKey.f k a0=some r) :
  Calls Tryz.prog 43 #[.string a0] w fun e w'=>e=.returned (.bool r)∧Drawn0 w w':=by
 have H:((impl_inside.f (a0.size:Int) 1 10).bind fun Oa=>(if Oa=true then (if 0<(a0.size:Int) then ((impl_isLower.f (bt a0 0)).bind fun KZ=>(impl_isKey.j0 k a0 (!KZ))) else (none)) else (impl_isKey.j0 k a0 true)))=some r:=h;clear h;have hJ:=am H;clear H;go_enter Tryz.func43,Tryz.ntmps43
 go_upto_region 1 with (fail)
 go_cut [13] (fun v13 wc=>∃ (kq:Nat) (cY:Bool),v13=.bool cY∧Aside0 (impl_isKey.j0 kq a0 cY=some r)∧Aside0 (kq≤k)∧Drawn0 w wc)
 case first =>
  have H:=hJ.out;clear hJ;replace H:=ob H;obtain ⟨Oa,dL,H⟩:=H
  try dsimp only at H
  have A3:=am dL;clear dL;by_cases c4:Oa=true
  ·
   subst c4;replace H:=(if_pos rfl).symm.trans H;by_cases c5:0<(a0.size:Int)
   ·
    rw [if_pos c5] at H;have c5b0:=dt c5;have c5b1:decide (0<a0.size)=true:=dt (by omega);clear c5
    (first|rw [c5b0]|(simp only [i64_w,i32_w];rw [c5b0])|skip)
    replace H:=ob H;obtain ⟨KZ,jY,H⟩:=H
    try dsimp only at H
    have A7:=am jY;clear jY;have H':=am H;clear H;go_wp2_with (first|((with_reducible refine gate_callee (f:=47) rfl ?_);refine goesL_ (some 6) rfl rfl Tryz.func47 (by kernel_rfl) rfl #[.int .i64 (a0.size:Int),.int .i64 1,.int .i64 10] rfl au45 ?_;(with_reducible refine (impl_inside.calls (a0.size:Int) 1 10 _ _ A3.out).mono ?_);rintro e w' ⟨rfl,⟨nd,rfl⟩⟩;refine ⟨_,rfl,?_⟩;have p6:0≤(0:Int):=(by omega);have q6:0<a0.size:=(by have:(0:Int)<(a0.size:Int):=od au87;omega);have qN:∀ h:0<a0.size,((a0[0]'h).toNat:Int)=bt a0 0:=bt_at a0 0;clear p6;have Ke:(0<(a0.size:Int))=True:=eq_true (od au87);replace q6:=eq_true q6)|(go_at_call 59;(with_reducible refine (impl_isLower.calls (bt a0 0) KZ _ A7.out).mono ?_);rintro e w' ⟨rfl,⟨nd,rfl⟩⟩));go_meet
    case rel=>exact ⟨_,(!KZ),au88,H',⟨by first|omega|exact Nat.le_refl _⟩,by repeat (first|exact Drawn0.refl _|apply Drawn0.step)⟩
   · rw [if_neg c5] at H;exact absurd H (by simp)
  ·
   replace c4:=Bool.eq_false_iff.mpr c4;subst c4;replace H:=(if_neg (show ¬ (false=true) by decide)).symm.trans H;have H':=am H;clear H;go_wp2_with (first|((with_reducible refine gate_callee (f:=47) rfl ?_);refine goesL_ (some 6) rfl rfl Tryz.func47 (by kernel_rfl) rfl #[.int .i64 (a0.size:Int),.int .i64 1,.int .i64 10] rfl au45 ?_;(with_reducible refine (impl_inside.calls (a0.size:Int) 1 10 _ _ A3.out).mono ?_);rintro e w' ⟨rfl,⟨nd,rfl⟩⟩;refine ⟨_,rfl,?_⟩));go_meet
   case rel=>exact ⟨_,(true),au88,H',⟨by first|omega|exact Nat.le_refl _⟩,by repeat (first|exact Drawn0.refl _|apply Drawn0.step)⟩
 case rest =>
  clear hJ
  try clear p2
  try clear c4
  try clear c5
  try clear c5b0
  try clear c5b1
  try clear p6
  try clear q6
  try clear qN
  try clear Ke
  try clear p6
  try clear q6
  obtain ⟨kq,cY,rfl,HA,hO,⟨mc1,rfl⟩⟩:=hcut
  cases kq with
  | zero=>exact absurd HA.out (by simp [impl_isKey.j0])
  | succ eY =>
   have H:=HA.out;clear HA;simp only [impl_isKey.j0] at H;by_cases c8:cY=true
   · subst c8;replace H:=(if_pos rfl).symm.trans H;obtain rfl:=ojz H;exact impl_isKey.L0
   ·
    replace c8:=Bool.eq_false_iff.mpr c8;subst c8;replace H:=(if_neg (show ¬ (false=true) by decide)).symm.trans H;have H':=am H;clear H;go_wp2
    go_loopg [3] eY (fun kq v3 w'=>∃ (aM:Int),v3=.int .i64 aM∧Aside0 (impl_isKey.l0 kq a0 aM=some r)∧Aside0 (kq≤eY)∧Drawn0 w w')
    case atStart=>exact ⟨(0),au88,H',⟨Nat.le_refl _⟩,by repeat (first|exact Drawn0.refl _|apply Drawn0.step)⟩
    case round =>
     clear H'
     try clear c1
     try clear p2
     try clear c4
     try clear c5
     try clear c5b0
     try clear c5b1
     try clear p6
     try clear q6
     try clear qN
     try clear Ke
     try clear c8
     try clear p2
     try clear p6
     try clear q6
     obtain ⟨aM,rfl,HA,HK2,⟨m2,rfl⟩⟩:=hrel
     cases gk with
     | zero=>exact absurd HA.out (by simp [impl_isKey.l0])
     | succ k2 =>
      have H:=HA.out;clear HA;simp only [impl_isKey.l0] at H;by_cases c9:aM<(a0.size:Int)
      ·
       rw [if_pos c9] at H;have c9b0:=dt c9;clear c9;by_cases c10:0≤aM
       ·
        rw [if_pos c10] at H;have c10b0:=dt c10;clear c10;replace H:=ob H;obtain ⟨a8C,oQ,H⟩:=H
        try dsimp only at H
        have uT:=am oQ;clear oQ;by_cases cV:a8C=true
        ·
         subst cV;replace H:=(if_pos rfl).symm.trans H;have H':=am H;clear H;have lB:0≤(aM:Int):=od au87;have jZ:aM<(a0.size:Int):=od au87;have oO:=bt_at a0 aM;replace lB:=eq_true lB;replace jZ:=eq_true jZ;go_wp2_with (first|((with_reducible refine gate_callee (f:=59) rfl ?_);refine goesL_ (some 23) rfl rfl Tryz.func59 (by kernel_rfl) rfl #[.int .u8 (bt a0 aM)] rfl au45 ?_;(with_reducible refine (impl_isLower.calls (bt a0 aM) _ _ uT.out).mono ?_);rintro e w' ⟨rfl,⟨nd,rfl⟩⟩;refine ⟨_,rfl,?_⟩))
         go_roundg k2
         case measure=>have:=hO.out;have:=HK2.out;omega
         case rel=>exact ⟨(wrap64 (aM+1)),au88,H',⟨by have:=hO.out;have:=HK2.out;omega⟩,by repeat (first|exact Drawn0.refl _|apply Drawn0.step)⟩
        ·
         replace cV:=Bool.eq_false_iff.mpr cV;subst cV;replace H:=(if_neg (show ¬ (false=true) by decide)).symm.trans H;replace H:=ob H;obtain ⟨a8D,uU,H⟩:=H
         try dsimp only at H
         have xO:=am uU;clear uU;by_cases fM:a8D=true
         ·
          subst fM;replace H:=(if_pos rfl).symm.trans H;have H':=am H;clear H;have lB:0≤(aM:Int):=od au87;have jZ:aM<(a0.size:Int):=od au87;have oO:=bt_at a0 aM;replace lB:=eq_true lB;replace jZ:=eq_true jZ;go_wp2_with (first|((with_reducible refine gate_callee (f:=59) rfl ?_);refine goesL_ (some 23) rfl rfl Tryz.func59 (by kernel_rfl) rfl #[.int .u8 (bt a0 aM)] rfl au45 ?_;(with_reducible refine (impl_isLower.calls (bt a0 aM) _ _ uT.out).mono ?_);rintro e w' ⟨rfl,⟨nd,rfl⟩⟩;refine ⟨_,rfl,?_⟩;have jX:0≤(aM:Int):=od au87;have iU:aM<(a0.size:Int):=od au87;have BM:=bt_at a0 aM;replace jX:=eq_true jX;replace iU:=eq_true iU)|(go_at_call 60;(with_reducible refine (impl_isDigit.calls (bt a0 aM) _ _ xO.out).mono ?_);rintro e w' ⟨rfl,⟨nd,rfl⟩⟩))
          go_roundg k2
          case measure=>have:=hO.out;have:=HK2.out;omega
          case rel=>exact ⟨(wrap64 (aM+1)),au88,H',⟨by have:=hO.out;have:=HK2.out;omega⟩,by repeat (first|exact Drawn0.refl _|apply Drawn0.step)⟩
         · replace fM:=Bool.eq_false_iff.mpr fM;subst fM;replace H:=(if_neg (show ¬ (false=true) by decide)).symm.trans H;obtain rfl:=ojz H;have lB:0≤(aM:Int):=od au87;have jZ:aM<(a0.size:Int):=od au87;have oO:=bt_at a0 aM;replace lB:=eq_true lB;replace jZ:=eq_true jZ;exact impl_isKey.L0
       · rw [if_neg c10] at H;exact absurd H (by simp)
      · rw [if_neg c9] at H;have c9b0:=df c9;clear c9;obtain rfl:=ojz H;exact impl_isKey.L0
def impl_isKind.f (a0:Int):Option (Bool):=(impl_inside.f a0 1 4).bind fun Ob=>(some Ob)
set_option maxHeartbeats 8000000 in
set_option maxRecDepth 100000 in
theorem impl_isKind.calls (a0:Int) (r:Bool) (w:World) (h:impl_isKind.f a0=some r) :
  Calls Tryz.prog 44 #[.int .i64 a0] w fun e w'=>e=.returned (.bool r)∧Drawn0 w w':=by
 have H:((impl_inside.f a0 1 4).bind fun Ob=>(some Ob))=some r:=h;clear h;replace H:=ob H;obtain ⟨Ob,fC,H⟩:=H
 try dsimp only at H
 have A2:=am fC;clear fC;obtain rfl:=ojz H;go_enter Tryz.func44,Tryz.ntmps44;go_wp2_with (first|((with_reducible refine gate_callee (f:=47) rfl ?_);refine goesL_ (some 4) rfl rfl Tryz.func47 (by kernel_rfl) rfl #[.int .i64 a0,.int .i64 1,.int .i64 4] rfl au45 ?_;(with_reducible refine (impl_inside.calls a0 1 4 Ob _ A2.out).mono ?_);rintro e w' ⟨rfl,⟨nd,rfl⟩⟩;refine ⟨_,rfl,?_⟩));go_ret;exact ax0
def impl_isUpper.f (a0:Int):Option (Bool):=if a0 ≥ 65 then (some (decide (a0≤90))) else (some false)
set_option maxHeartbeats 8000000 in
set_option maxRecDepth 100000 in
theorem impl_isUpper.calls (a0:Int) (r:Bool) (w:World) (h:impl_isUpper.f a0=some r) :
  Calls Tryz.prog 84 #[.int .u8 a0] w fun e w'=>e=.returned (.bool r)∧Drawn0 w w':=by
 have H:(if a0 ≥ 65 then (some (decide (a0≤90))) else (some false))=some r:=h;clear h;by_cases c2:a0 ≥ 65
 · rw [if_pos c2] at H;have c2b0:=dt c2;clear c2;obtain rfl:=ojz H;go_enter Tryz.func84,Tryz.ntmps84;go_wp2;go_ret;exact ax0
 · rw [if_neg c2] at H;have c2b0:=df c2;clear c2;obtain rfl:=ojz H;go_enter Tryz.func84,Tryz.ntmps84;go_wp2;go_ret;exact ax0
def impl_isLetter.f (a0:Int):Option (Bool):=(impl_isUpper.f a0).bind fun cZ=>(if cZ=true then (some true) else ((impl_isLower.f a0).bind fun pT=>(some pT)))
set_option maxHeartbeats 8000000 in
set_option maxRecDepth 100000 in
theorem impl_isLetter.calls (a0:Int) (r:Bool) (w:World) (h:impl_isLetter.f a0=some r) :
  Calls Tryz.prog 86 #[.int .u8 a0] w fun e w'=>e=.returned (.bool r)∧Drawn0 w w':=by
 have H:((impl_isUpper.f a0).bind fun cZ=>(if cZ=true then (some true) else ((impl_isLower.f a0).bind fun pT=>(some pT))))=some r:=h;clear h;replace H:=ob H;obtain ⟨cZ,fC,H⟩:=H
 try dsimp only at H
 have A2:=am fC;clear fC;by_cases c3:cZ=true
 · subst c3;replace H:=(if_pos rfl).symm.trans H;obtain rfl:=ojz H;go_enter Tryz.func86,Tryz.ntmps86;go_wp2_with (first|((with_reducible refine gate_callee (f:=84) rfl ?_);refine goesL_ (some 4) rfl rfl Tryz.func84 (by kernel_rfl) rfl #[.int .u8 a0] rfl au45 ?_;(with_reducible refine (impl_isUpper.calls a0 true _ A2.out).mono ?_);rintro e w' ⟨rfl,⟨nd,rfl⟩⟩;refine ⟨_,rfl,?_⟩));go_ret;exact ax0
 ·
  replace c3:=Bool.eq_false_iff.mpr c3;subst c3;replace H:=(if_neg (show ¬ (false=true) by decide)).symm.trans H;replace H:=ob H;obtain ⟨pT,oL,H⟩:=H
  try dsimp only at H
  have A4:=am oL;clear oL;obtain rfl:=ojz H;go_enter Tryz.func86,Tryz.ntmps86;go_wp2_with (first|((with_reducible refine gate_callee (f:=84) rfl ?_);refine goesL_ (some 4) rfl rfl Tryz.func84 (by kernel_rfl) rfl #[.int .u8 a0] rfl au45 ?_;(with_reducible refine (impl_isUpper.calls a0 false _ A2.out).mono ?_);rintro e w' ⟨rfl,⟨nd,rfl⟩⟩;refine ⟨_,rfl,?_⟩)|(go_at_call 59;(with_reducible refine (impl_isLower.calls a0 pT _ A4.out).mono ?_);rintro e w' ⟨rfl,⟨nd,rfl⟩⟩));go_ret;exact ax0
mutual
def impl_isNameWord.j0:Nat→ByteArray→Bool→Option (Bool)
 | 0,_,_=>none
 | k+1,x0,x22=>if x22=true then (some false) else (impl_isNameWord.l0 k x0 0)
def impl_isNameWord.l0:Nat→ByteArray→Int→Option (Bool)
 | 0,_,_=>none
 | k+1,x0,x3=>if x3<(x0.size:Int) then (if 0≤x3 then ((impl_isLetter.f (bt x0 x3)).bind fun pU=>(if pU=true then (impl_isNameWord.l0 k x0 (wrap64 (x3+1))) else (if (bt x0 x3)=45 then (if 0≤(wrap64 (x3-1)) then (if (wrap64 (x3-1))<(x0.size:Int) then ((impl_isLetter.f (bt x0 (wrap64 (x3-1)))).bind fun uV=>(if uV=true then (impl_isNameWord.l0 k x0 (wrap64 (x3+1))) else (some false))) else (none)) else (none)) else (if (bt x0 x3)=39 then (if 0≤(wrap64 (x3-1)) then (if (wrap64 (x3-1))<(x0.size:Int) then ((impl_isLetter.f (bt x0 (wrap64 (x3-1)))).bind fun iZ=>(if iZ=true then (impl_isNameWord.l0 k x0 (wrap64 (x3+1))) else (some false))) else (none)) else (none)) else (some false))))) else (none)) else (some true)
end
def impl_isNameWord.f (k:Nat) (a0:ByteArray):Option (Bool):=(impl_inside.f (a0.size:Int) 1 12).bind fun lJ=>(if lJ=true then (if 0≤(wrap64 ((a0.size:Int)-1)) then (if (wrap64 ((a0.size:Int)-1))<(a0.size:Int) then ((impl_isLetter.f (bt a0 (wrap64 ((a0.size:Int)-1)))).bind fun pV=>(if pV=true then (if 0<(a0.size:Int) then ((impl_isLetter.f (bt a0 0)).bind fun rJ=>(impl_isNameWord.j0 k a0 (!rJ))) else (none)) else (impl_isNameWord.j0 k a0 true))) else (none)) else (none)) else (impl_isNameWord.j0 k a0 true))
theorem impl_isNameWord.mono_l:∀ k,(∀ y0 y1,LeO (impl_isNameWord.j0 k y0 y1) (impl_isNameWord.j0 (k+1) y0 y1))∧(∀ y0 y1,LeO (impl_isNameWord.l0 k y0 y1) (impl_isNameWord.l0 (k+1) y0 y1))
 | 0=>⟨fun _ _ r h=>by simp [impl_isNameWord.j0] at h,fun _ _ r h=>by simp [impl_isNameWord.l0] at h⟩
 | k+1=>by
  obtain ⟨ih0,ih1⟩:=impl_isNameWord.mono_l k;refine ⟨?_,?_⟩
  ·
   intro y0 y1;unfold impl_isNameWord.j0
   repeat' first
   | (with_reducible exact ih0 _ _)
   | (with_reducible exact ih1 _ _)
   | (with_reducible exact LeO.refl _)
   | (with_reducible exact LeO.none _)
   | (with_reducible refine LeO.ite ?_ ?_)
   | (with_reducible refine LeO.bind ?_ (fun _=>?_))
   | exact ih0 _ _
   | exact ih1 _ _
   | exact LeO.none _
   | refine LeO.ite ?_ ?_
   | refine LeO.bind ?_ (fun _=>?_)
  ·
   intro y0 y1;unfold impl_isNameWord.l0
   repeat' first
   | (with_reducible exact ih0 _ _)
   | (with_reducible exact ih1 _ _)
   | (with_reducible exact LeO.refl _)
   | (with_reducible exact LeO.none _)
   | (with_reducible refine LeO.ite ?_ ?_)
   | (with_reducible refine LeO.bind ?_ (fun _=>?_))
   | exact ih0 _ _
   | exact ih1 _ _
   | exact LeO.none _
   | refine LeO.ite ?_ ?_
   | refine LeO.bind ?_ (fun _=>?_)
theorem impl_isNameWord.mono:∀ a0 k,LeO (impl_isNameWord.f k a0) (impl_isNameWord.f (k+1) a0):=by
 intro a0 k;obtain ⟨ih0,ih1⟩:=impl_isNameWord.mono_l k;unfold impl_isNameWord.f
 repeat' first
   | (with_reducible exact ih0 _ _)
   | (with_reducible exact ih1 _ _)
   | (with_reducible exact LeO.refl _)
   | (with_reducible exact LeO.none _)
   | (with_reducible refine LeO.ite ?_ ?_)
   | (with_reducible refine LeO.bind ?_ (fun _=>?_))
   | exact ih0 _ _
   | exact ih1 _ _
   | exact LeO.none _
   | refine LeO.ite ?_ ?_
   | refine LeO.bind ?_ (fun _=>?_)
set_option maxRecDepth 100000 in
theorem impl_isNameWord.L0 {P:Prop} (h:P:=by
  go_wp2_with (first|((with_reducible refine gate_callee (f:=86) rfl ?_);refine goesL_ (some 32) rfl rfl Tryz.func86 (by kernel_rfl) rfl #[.int .u8 (bt a0 aM)] rfl au45 ?_;(with_reducible refine (impl_isLetter.calls (bt a0 aM) _ _ qR.out).mono ?_);rintro e w' ⟨rfl,⟨nd,rfl⟩⟩;refine ⟨_,rfl,?_⟩;have hU:0≤(aM:Int):=od au87;have gW:aM<(a0.size:Int):=od au87;have xH:=bt_at a0 aM;replace hU:=eq_true hU;replace gW:=eq_true gW;have p28:0≤(aM:Int):=od au87;have qS:aM<(a0.size:Int):=od au87;have Oc:=bt_at a0 aM;replace p28:=eq_true p28;replace qS:=eq_true qS;have p33:0≤((fF):Int):=od au87;have DR:(fF)<(a0.size:Int):=od au87;have a8E:=bt_at a0 (fF);replace p33:=eq_true p33;replace DR:=eq_true DR)|(go_at_call 86;(with_reducible refine (impl_isLetter.calls (bt a0 (fF)) _ _ A34.out).mono ?_);rintro e w' ⟨rfl,⟨nd,rfl⟩⟩));go_ret
  first|(exact ⟨by first|rfl|(simp;done)|(simp only [← oS] <;> (first|rfl|simp))|(simp [*];done),by repeat (first|exact Drawn0.refl _|apply Drawn0.step)⟩)|(exact ax0)):P:=h
set_option maxHeartbeats 8000000 in
set_option maxRecDepth 100000 in
theorem impl_isNameWord.calls (k:Nat) (a0:ByteArray) (r:Bool) (w:World) (h:impl_isNameWord.f k a0=some r) :
  Calls Tryz.prog 78 #[.string a0] w fun e w'=>e=.returned (.bool r)∧Drawn0 w w':=by
 have H:((impl_inside.f (a0.size:Int) 1 12).bind fun lJ=>(if lJ=true then (if 0≤(wrap64 ((a0.size:Int)-1)) then (if (wrap64 ((a0.size:Int)-1))<(a0.size:Int) then ((impl_isLetter.f (bt a0 (wrap64 ((a0.size:Int)-1)))).bind fun pV=>(if pV=true then (if 0<(a0.size:Int) then ((impl_isLetter.f (bt a0 0)).bind fun rJ=>(impl_isNameWord.j0 k a0 (!rJ))) else (none)) else (impl_isNameWord.j0 k a0 true))) else (none)) else (none)) else (impl_isNameWord.j0 k a0 true)))=some r:=h;clear h;have hJ:=am H;clear H;go_enter Tryz.func78,Tryz.ntmps78
 go_upto_region 1 with (fail)
 go_cut [22] (fun v22 wc=>∃ (kq:Nat) (rS:Bool),v22=.bool rS∧Aside0 (impl_isNameWord.j0 kq a0 rS=some r)∧Aside0 (kq≤k)∧Drawn0 w wc)
 case first =>
  have H:=hJ.out;clear hJ;replace H:=ob H;obtain ⟨lJ,dL,H⟩:=H
  try dsimp only at H
  have A3:=am dL;clear dL;by_cases c4:lJ=true
  ·
   subst c4;replace H:=(if_pos rfl).symm.trans H
   obtain ⟨wV,a3L⟩:∃ j_:Int,(wrap64 ((a0.size:Int)-1))=j_:=⟨_,rfl⟩
   replace H:(if 0≤(wV) then (if (wV)<(a0.size:Int) then ((impl_isLetter.f (bt a0 (wV))).bind fun pV=>(if pV=true then (if 0<(a0.size:Int) then ((impl_isLetter.f (bt a0 0)).bind fun rJ=>(impl_isNameWord.j0 k a0 (!rJ))) else (none)) else (impl_isNameWord.j0 k a0 true))) else (none)) else (none))=some r:=by first|(rw [a3L] at H;exact H)|(simp only [a3L] at H ⊢;exact H)
   (try rw [a3L] at A3)
   have hji5w:(IntKind.i64.wrap ((a0.size:Int)-1))=wV:=(i64_w _).trans a3L;by_cases c6:0≤(wV)
   ·
    rw [if_pos c6] at H;have c6b0:=dt c6;clear c6
    (first|rw [c6b0]|(simp only [i64_w,i32_w];rw [c6b0])|skip)
    by_cases c7:(wV)<(a0.size:Int)
    ·
     rw [if_pos c7] at H;have c7b0:=dt c7;clear c7;replace H:=ob H;obtain ⟨pV,wW,H⟩:=H
     try dsimp only at H
     have A9:=am wW;clear wW;by_cases c10:pV=true
     ·
      subst c10;replace H:=(if_pos rfl).symm.trans H;by_cases cI:0<(a0.size:Int)
      ·
       rw [if_pos cI] at H;have c11b0:=dt cI;have c11b1:decide (0<a0.size)=true:=dt (by omega);clear cI;replace H:=ob H;obtain ⟨rJ,uW,H⟩:=H
       try dsimp only at H
       have Kf:=am uW;clear uW;have H':=am H;clear H;go_wp2_with (first|((with_reducible refine gate_callee (f:=47) rfl ?_);refine goesL_ (some 6) rfl rfl Tryz.func47 (by kernel_rfl) rfl #[.int .i64 (a0.size:Int),.int .i64 1,.int .i64 12] rfl au45 ?_;(with_reducible refine (impl_inside.calls (a0.size:Int) 1 12 _ _ A3.out).mono ?_);rintro e w' ⟨rfl,⟨nd,rfl⟩⟩;refine ⟨_,rfl,?_⟩;have p8:0≤((wV):Int):=od au87;have q8:(wV)<(a0.size:Int):=od au87;have DI:=bt_at a0 (wV);replace p8:=eq_true p8;replace q8:=eq_true q8)|(go_at_call 86;(with_reducible refine (impl_isLetter.calls (bt a0 (wV)) _ _ A9.out).mono ?_);rintro e w' ⟨rfl,⟨nd,rfl⟩⟩;have wX:0≤(0:Int):=(by omega);have rM:0<a0.size:=(by have:(0:Int)<(a0.size:Int):=od au87;omega);have rI:∀ h:0<a0.size,((a0[0]'h).toNat:Int)=bt a0 0:=bt_at a0 0;clear wX;have a8F:(0<(a0.size:Int))=True:=eq_true (od au87);replace rM:=eq_true rM)|(go_at_call 86;(with_reducible refine (impl_isLetter.calls (bt a0 0) rJ _ Kf.out).mono ?_);rintro e w' ⟨rfl,⟨nd,rfl⟩⟩));go_meet
       case rel=>exact ⟨_,(!rJ),au88,H',⟨by first|omega|exact Nat.le_refl _⟩,by repeat (first|exact Drawn0.refl _|apply Drawn0.step)⟩
      · rw [if_neg cI] at H;exact absurd H (by simp)
     ·
      replace c10:=Bool.eq_false_iff.mpr c10;subst c10;replace H:=(if_neg (show ¬ (false=true) by decide)).symm.trans H;have H':=am H;clear H;go_wp2_with (first|((with_reducible refine gate_callee (f:=47) rfl ?_);refine goesL_ (some 6) rfl rfl Tryz.func47 (by kernel_rfl) rfl #[.int .i64 (a0.size:Int),.int .i64 1,.int .i64 12] rfl au45 ?_;(with_reducible refine (impl_inside.calls (a0.size:Int) 1 12 _ _ A3.out).mono ?_);rintro e w' ⟨rfl,⟨nd,rfl⟩⟩;refine ⟨_,rfl,?_⟩;have p8:0≤((wV):Int):=od au87;have q8:(wV)<(a0.size:Int):=od au87;have DI:=bt_at a0 (wV);replace p8:=eq_true p8;replace q8:=eq_true q8)|(go_at_call 86;(with_reducible refine (impl_isLetter.calls (bt a0 (wV)) _ _ A9.out).mono ?_);rintro e w' ⟨rfl,⟨nd,rfl⟩⟩));go_meet
      case rel=>exact ⟨_,(true),au88,H',⟨by first|omega|exact Nat.le_refl _⟩,by repeat (first|exact Drawn0.refl _|apply Drawn0.step)⟩
    · rw [if_neg c7] at H;exact absurd H (by simp)
   · rw [if_neg c6] at H;exact absurd H (by simp)
  ·
   replace c4:=Bool.eq_false_iff.mpr c4;subst c4;replace H:=(if_neg (show ¬ (false=true) by decide)).symm.trans H;have H':=am H;clear H;go_wp2_with (first|((with_reducible refine gate_callee (f:=47) rfl ?_);refine goesL_ (some 6) rfl rfl Tryz.func47 (by kernel_rfl) rfl #[.int .i64 (a0.size:Int),.int .i64 1,.int .i64 12] rfl au45 ?_;(with_reducible refine (impl_inside.calls (a0.size:Int) 1 12 _ _ A3.out).mono ?_);rintro e w' ⟨rfl,⟨nd,rfl⟩⟩;refine ⟨_,rfl,?_⟩));go_meet
   case rel=>exact ⟨_,(true),au88,H',⟨by first|omega|exact Nat.le_refl _⟩,by repeat (first|exact Drawn0.refl _|apply Drawn0.step)⟩
 case rest =>
  clear hJ
  try clear c1
  try clear p1
  try clear q1
  try clear xL
  try clear qi1
  try clear p2
  try clear c4
  try clear c6
  try clear c6b0
  try clear p6
  try clear c7
  try clear c7b0
  try clear p8
  try clear q8
  try clear DI
  try clear c10
  try clear cI
  try clear c11b0
  try clear c11b1
  try clear wX
  try clear rM
  try clear rI
  try clear a8F
  try clear wX
  try clear p8
  try clear rM
  try clear q8
  obtain ⟨kq,rS,rfl,HA,hO,⟨mc1,rfl⟩⟩:=hcut
  cases kq with
  | zero=>exact absurd HA.out (by simp [impl_isNameWord.j0])
  | succ eY =>
   have H:=HA.out;clear HA;simp only [impl_isNameWord.j0] at H;by_cases dB:rS=true
   · subst dB;replace H:=(if_pos rfl).symm.trans H;obtain rfl:=ojz H;exact impl_isNameWord.L0
   ·
    replace dB:=Bool.eq_false_iff.mpr dB;subst dB;replace H:=(if_neg (show ¬ (false=true) by decide)).symm.trans H;have H':=am H;clear H;go_wp2
    go_loopg [3] eY (fun kq v3 w'=>∃ (aM:Int),v3=.int .i64 aM∧Aside0 (impl_isNameWord.l0 kq a0 aM=some r)∧Aside0 (kq≤eY)∧Drawn0 w w')
    case atStart=>exact ⟨(0),au88,H',⟨Nat.le_refl _⟩,by repeat (first|exact Drawn0.refl _|apply Drawn0.step)⟩
    case round =>
     clear H'
     try clear c1
     try clear p1
     try clear q1
     try clear xL
     try clear qi1
     try clear p2
     try clear c4
     try clear c6
     try clear c6b0
     try clear p6
     try clear c7
     try clear c7b0
     try clear p8
     try clear q8
     try clear DI
     try clear c10
     try clear cI
     try clear c11b0
     try clear c11b1
     try clear wX
     try clear rM
     try clear rI
     try clear a8F
     try clear dB
     try clear p1
     try clear wX
     try clear p2
     try clear p6
     try clear p8
     try clear q1
     try clear rM
     try clear q8
     obtain ⟨aM,rfl,HA,HK2,⟨m2,rfl⟩⟩:=hrel
     cases gk with
     | zero=>exact absurd HA.out (by simp [impl_isNameWord.l0])
     | succ k2 =>
      have H:=HA.out;clear HA;simp only [impl_isNameWord.l0] at H;by_cases cX:aM<(a0.size:Int)
      ·
       rw [if_pos cX] at H;have c15b0:=dt cX;clear cX;by_cases fM:0≤aM
       ·
        rw [if_pos fM] at H;have c16b0:=dt fM;clear fM;replace H:=ob H;obtain ⟨pU,Od,H⟩:=H
        try dsimp only at H
        have qR:=am Od;clear Od;by_cases nX:pU=true
        ·
         subst nX;replace H:=(if_pos rfl).symm.trans H;have H':=am H;clear H;have fT:0≤(aM:Int):=od au87;have fU:aM<(a0.size:Int):=od au87;have uX:=bt_at a0 aM;replace fT:=eq_true fT;replace fU:=eq_true fU;go_wp2_with (first|((with_reducible refine gate_callee (f:=86) rfl ?_);refine goesL_ (some 32) rfl rfl Tryz.func86 (by kernel_rfl) rfl #[.int .u8 (bt a0 aM)] rfl au45 ?_;(with_reducible refine (impl_isLetter.calls (bt a0 aM) _ _ qR.out).mono ?_);rintro e w' ⟨rfl,⟨nd,rfl⟩⟩;refine ⟨_,rfl,?_⟩))
         go_roundg k2
         case measure=>have:=hO.out;have:=HK2.out;omega
         case rel=>exact ⟨(wrap64 (aM+1)),au88,H',⟨by have:=hO.out;have:=HK2.out;omega⟩,by repeat (first|exact Drawn0.refl _|apply Drawn0.step)⟩
        ·
         replace nX:=Bool.eq_false_iff.mpr nX;subst nX;replace H:=(if_neg (show ¬ (false=true) by decide)).symm.trans H;by_cases rN:(bt a0 aM)=45
         ·
          rw [if_pos rN] at H;have c21b0:=qt rN;have c21b1:=bf rN;clear rN
          obtain ⟨fG,qL⟩:∃ j_:Int,(wrap64 (aM-1))=j_:=⟨_,rfl⟩
          replace H:(if 0≤(fG) then (if (fG)<(a0.size:Int) then ((impl_isLetter.f (bt a0 (fG))).bind fun uV=>(if uV=true then (impl_isNameWord.l0 k2 a0 (wrap64 (aM+1))) else (some false))) else (none)) else (none))=some r:=by first|(rw [qL] at H;exact H)|(simp only [qL] at H ⊢;exact H)
          (try rw [qL] at qR)
          have hji22w:(IntKind.i64.wrap (aM-1))=fG:=(i64_w _).trans qL;by_cases pA:0≤(fG)
          ·
           rw [if_pos pA] at H;have c23b0:=dt pA;clear pA;by_cases iL:(fG)<(a0.size:Int)
           ·
            rw [if_pos iL] at H;have c24b0:=dt iL;clear iL;replace H:=ob H;obtain ⟨uV,Oe,H⟩:=H
            try dsimp only at H
            have A26:=am Oe;clear Oe;by_cases qT:uV=true
            ·
             subst qT;replace H:=(if_pos rfl).symm.trans H;have H':=am H;clear H;have fT:0≤(aM:Int):=od au87;have fU:aM<(a0.size:Int):=od au87;have uX:=bt_at a0 aM;replace fT:=eq_true fT;replace fU:=eq_true fU;go_wp2_with (first|((with_reducible refine gate_callee (f:=86) rfl ?_);refine goesL_ (some 32) rfl rfl Tryz.func86 (by kernel_rfl) rfl #[.int .u8 (bt a0 aM)] rfl au45 ?_;(with_reducible refine (impl_isLetter.calls (bt a0 aM) _ _ qR.out).mono ?_);rintro e w' ⟨rfl,⟨nd,rfl⟩⟩;refine ⟨_,rfl,?_⟩;have hU:0≤(aM:Int):=od au87;have gW:aM<(a0.size:Int):=od au87;have xH:=bt_at a0 aM;replace hU:=eq_true hU;replace gW:=eq_true gW;have p25:0≤((fG):Int):=od au87;have DT:(fG)<(a0.size:Int):=od au87;have a8G:=bt_at a0 (fG);replace p25:=eq_true p25;replace DT:=eq_true DT)|(go_at_call 86;(with_reducible refine (impl_isLetter.calls (bt a0 (fG)) _ _ A26.out).mono ?_);rintro e w' ⟨rfl,⟨nd,rfl⟩⟩))
             go_roundg k2
             case measure=>have:=hO.out;have:=HK2.out;omega
             case rel=>exact ⟨(wrap64 (aM+1)),au88,H',⟨by have:=hO.out;have:=HK2.out;omega⟩,by repeat (first|exact Drawn0.refl _|apply Drawn0.step)⟩
            · replace qT:=Bool.eq_false_iff.mpr qT;subst qT;replace H:=(if_neg (show ¬ (false=true) by decide)).symm.trans H;obtain rfl:=ojz H;have fT:0≤(aM:Int):=od au87;have fU:aM<(a0.size:Int):=od au87;have uX:=bt_at a0 aM;replace fT:=eq_true fT;replace fU:=eq_true fU;go_wp2_with (first|((with_reducible refine gate_callee (f:=86) rfl ?_);refine goesL_ (some 32) rfl rfl Tryz.func86 (by kernel_rfl) rfl #[.int .u8 (bt a0 aM)] rfl au45 ?_;(with_reducible refine (impl_isLetter.calls (bt a0 aM) _ _ qR.out).mono ?_);rintro e w' ⟨rfl,⟨nd,rfl⟩⟩;refine ⟨_,rfl,?_⟩;have hU:0≤(aM:Int):=od au87;have gW:aM<(a0.size:Int):=od au87;have xH:=bt_at a0 aM;replace hU:=eq_true hU;replace gW:=eq_true gW;have p25:0≤((fG):Int):=od au87;have DT:(fG)<(a0.size:Int):=od au87;have a8G:=bt_at a0 (fG);replace p25:=eq_true p25;replace DT:=eq_true DT)|(go_at_call 86;(with_reducible refine (impl_isLetter.calls (bt a0 (fG)) _ _ A26.out).mono ?_);rintro e w' ⟨rfl,⟨nd,rfl⟩⟩));go_ret;exact ax2
           · rw [if_neg iL] at H;exact absurd H (by simp)
          · rw [if_neg pA] at H;exact absurd H (by simp)
         ·
          rw [if_neg rN] at H;have c21b0:=qf rN;have c21b1:=bu rN;by_cases uY:(bt a0 aM)=39
          ·
           rw [if_pos uY] at H;have c29b0:=qt uY;have c29b1:=bf uY;clear uY
           obtain ⟨fF,oS⟩:∃ j_:Int,(wrap64 (aM-1))=j_:=⟨_,rfl⟩
           replace H:(if 0≤(fF) then (if (fF)<(a0.size:Int) then ((impl_isLetter.f (bt a0 (fF))).bind fun iZ=>(if iZ=true then (impl_isNameWord.l0 k2 a0 (wrap64 (aM+1))) else (some false))) else (none)) else (none))=some r:=by first|(rw [oS] at H;exact H)|(simp only [oS] at H ⊢;exact H)
           (try rw [oS] at qR)
           have hji30w:(IntKind.i64.wrap (aM-1))=fF:=(i64_w _).trans oS;by_cases wY:0≤(fF)
           ·
            rw [if_pos wY] at H;have c31b0:=dt wY;clear wY;by_cases mW:(fF)<(a0.size:Int)
            ·
             rw [if_pos mW] at H;have c32b0:=dt mW;clear mW;replace H:=ob H;obtain ⟨iZ,Of,H⟩:=H
             try dsimp only at H
             have A34:=am Of;clear Of;by_cases Kg:iZ=true
             ·
              subst Kg;replace H:=(if_pos rfl).symm.trans H;have H':=am H;clear H;have fT:0≤(aM:Int):=od au87;have fU:aM<(a0.size:Int):=od au87;have uX:=bt_at a0 aM;replace fT:=eq_true fT;replace fU:=eq_true fU;go_wp2_with (first|((with_reducible refine gate_callee (f:=86) rfl ?_);refine goesL_ (some 32) rfl rfl Tryz.func86 (by kernel_rfl) rfl #[.int .u8 (bt a0 aM)] rfl au45 ?_;(with_reducible refine (impl_isLetter.calls (bt a0 aM) _ _ qR.out).mono ?_);rintro e w' ⟨rfl,⟨nd,rfl⟩⟩;refine ⟨_,rfl,?_⟩;have hU:0≤(aM:Int):=od au87;have gW:aM<(a0.size:Int):=od au87;have xH:=bt_at a0 aM;replace hU:=eq_true hU;replace gW:=eq_true gW;have p28:0≤(aM:Int):=od au87;have qS:aM<(a0.size:Int):=od au87;have Oc:=bt_at a0 aM;replace p28:=eq_true p28;replace qS:=eq_true qS;have p33:0≤((fF):Int):=od au87;have DR:(fF)<(a0.size:Int):=od au87;have a8E:=bt_at a0 (fF);replace p33:=eq_true p33;replace DR:=eq_true DR)|(go_at_call 86;(with_reducible refine (impl_isLetter.calls (bt a0 (fF)) _ _ A34.out).mono ?_);rintro e w' ⟨rfl,⟨nd,rfl⟩⟩))
              go_roundg k2
              case measure=>have:=hO.out;have:=HK2.out;omega
              case rel=>exact ⟨(wrap64 (aM+1)),au88,H',⟨by have:=hO.out;have:=HK2.out;omega⟩,by repeat (first|exact Drawn0.refl _|apply Drawn0.step)⟩
             · replace Kg:=Bool.eq_false_iff.mpr Kg;subst Kg;replace H:=(if_neg (show ¬ (false=true) by decide)).symm.trans H;obtain rfl:=ojz H;have fT:0≤(aM:Int):=od au87;have fU:aM<(a0.size:Int):=od au87;have uX:=bt_at a0 aM;replace fT:=eq_true fT;replace fU:=eq_true fU;exact impl_isNameWord.L0
            · rw [if_neg mW] at H;exact absurd H (by simp)
           · rw [if_neg wY] at H;exact absurd H (by simp)
          · rw [if_neg uY] at H;have c29b0:=qf uY;have c29b1:=bu uY;obtain rfl:=ojz H;have fT:0≤(aM:Int):=od au87;have fU:aM<(a0.size:Int):=od au87;have uX:=bt_at a0 aM;replace fT:=eq_true fT;replace fU:=eq_true fU;go_wp2_with (first|((with_reducible refine gate_callee (f:=86) rfl ?_);refine goesL_ (some 32) rfl rfl Tryz.func86 (by kernel_rfl) rfl #[.int .u8 (bt a0 aM)] rfl au45 ?_;(with_reducible refine (impl_isLetter.calls (bt a0 aM) _ _ qR.out).mono ?_);rintro e w' ⟨rfl,⟨nd,rfl⟩⟩;refine ⟨_,rfl,?_⟩;have hU:0≤(aM:Int):=od au87;have gW:aM<(a0.size:Int):=od au87;have xH:=bt_at a0 aM;replace hU:=eq_true hU;replace gW:=eq_true gW;have p28:0≤(aM:Int):=od au87;have qS:aM<(a0.size:Int):=od au87;have Oc:=bt_at a0 aM;replace p28:=eq_true p28;replace qS:=eq_true qS));go_ret;exact ax0
       · rw [if_neg fM] at H;exact absurd H (by simp)
      · rw [if_neg cX] at H;have c15b0:=df cX;clear cX;obtain rfl:=ojz H;exact impl_isNameWord.L0
def impl_isGreatWord.f (k:Nat) (a0:ByteArray):Option (Bool):=(impl_isNameWord.f k a0).bind fun nC=>(if nC=true then (if 0<(a0.size:Int) then ((impl_isUpper.f (bt a0 0)).bind fun BN=>(some BN)) else (none)) else (some false))
theorem impl_isGreatWord.mono:∀ a0 k,LeO (impl_isGreatWord.f k a0) (impl_isGreatWord.f (k+1) a0):=by
 intro a0 k;unfold impl_isGreatWord.f
 repeat' first
   | (with_reducible exact impl_isNameWord.mono _ _)
   | (with_reducible exact LeO.refl _)
   | (with_reducible exact LeO.none _)
   | (with_reducible refine LeO.ite ?_ ?_)
   | (with_reducible refine LeO.bind ?_ (fun _=>?_))
   | exact impl_isNameWord.mono _ _
   | exact LeO.none _
   | refine LeO.ite ?_ ?_
   | refine LeO.bind ?_ (fun _=>?_)
set_option maxHeartbeats 8000000 in
set_option maxRecDepth 100000 in
theorem impl_isGreatWord.calls (k:Nat) (a0:ByteArray) (r:Bool) (w:World) (h:impl_isGreatWord.f k a0=some r) :
  Calls Tryz.prog 76 #[.string a0] w fun e w'=>e=.returned (.bool r)∧Drawn0 w w':=by
 have H:((impl_isNameWord.f k a0).bind fun nC=>(if nC=true then (if 0<(a0.size:Int) then ((impl_isUpper.f (bt a0 0)).bind fun BN=>(some BN)) else (none)) else (some false)))=some r:=h;clear h;replace H:=ob H;obtain ⟨nC,fC,H⟩:=H
 try dsimp only at H
 have A2:=am fC;clear fC;by_cases c3:nC=true
 ·
  subst c3;replace H:=(if_pos rfl).symm.trans H;by_cases c4:0<(a0.size:Int)
  ·
   rw [if_pos c4] at H;have c4b0:=dt c4;have c4b1:decide (0<a0.size)=true:=dt (by omega);clear c4;replace H:=ob H;obtain ⟨BN,iV,H⟩:=H
   try dsimp only at H
   have A6:=am iV;clear iV;obtain rfl:=ojz H;go_enter Tryz.func76,Tryz.ntmps76;go_wp2_with (first|((with_reducible refine gate_callee (f:=78) rfl ?_);refine goesL_ (some 4) rfl rfl Tryz.func78 (by kernel_rfl) rfl #[.string a0] rfl au45 ?_;(with_reducible refine (impl_isNameWord.calls k a0 true _ A2.out).mono ?_);rintro e w' ⟨rfl,⟨nd,rfl⟩⟩;refine ⟨_,rfl,?_⟩;have p5:0≤(0:Int):=(by omega);have q5:0<a0.size:=(by have:(0:Int)<(a0.size:Int):=od au87;omega);have DF:∀ h:0<a0.size,((a0[0]'h).toNat:Int)=bt a0 0:=bt_at a0 0;clear p5;have qi5:(0<(a0.size:Int))=True:=eq_true (od au87);replace q5:=eq_true q5)|(go_at_call 84;(with_reducible refine (impl_isUpper.calls (bt a0 0) BN _ A6.out).mono ?_);rintro e w' ⟨rfl,⟨nd,rfl⟩⟩));go_ret;exact ax0
  · rw [if_neg c4] at H;exact absurd H (by simp)
 · replace c3:=Bool.eq_false_iff.mpr c3;subst c3;replace H:=(if_neg (show ¬ (false=true) by decide)).symm.trans H;obtain rfl:=ojz H;go_enter Tryz.func76,Tryz.ntmps76;go_wp2_with (first|((with_reducible refine gate_callee (f:=78) rfl ?_);refine goesL_ (some 4) rfl rfl Tryz.func78 (by kernel_rfl) rfl #[.string a0] rfl au45 ?_;(with_reducible refine (impl_isNameWord.calls k a0 false _ A2.out).mono ?_);rintro e w' ⟨rfl,⟨nd,rfl⟩⟩;refine ⟨_,rfl,?_⟩));go_ret;exact ax0
end Go.Proofs.YteagahcbffgjpaaGreatDoor.G

namespace Go.Proofs
open Go.Shelf
def Tryz.lays146_ren:Go.Shelf.Ren:=⟨fun|146=>85|221=>94|268=>99|138=>100|143=>101|195=>105|197=>96|218=>106|219=>107|260=>102|217=>112|225=>111|224=>110|267=>113|266=>114|314=>115|n=>n,fun|9=>9|31=>67|3=>3|4=>4|0=>0|105=>101|21=>21|5=>5|46=>110|119=>109|139=>113|138=>112|146=>117|51=>116|n=>n,fun|1=>2|3=>0|4=>1|n=>n⟩
theorem Tryz.lays146:Go.Proofs.Lays.n146 Tryz.prog Tryz.lays146_ren:={
  mixed:=by kernel_rfl
  f138:=Tryz.func100.trans (congrArg some (by kernel_rfl))
  f143:=Tryz.func101.trans (congrArg some (by kernel_rfl))
  f146:=Tryz.func85.trans (congrArg some (by kernel_rfl))
  f195:=Tryz.func105.trans (congrArg some (by kernel_rfl))
  f197:=Tryz.func96.trans (congrArg some (by kernel_rfl))
  f217:=Tryz.func112.trans (congrArg some (by kernel_rfl))
  f218:=Tryz.func106.trans (congrArg some (by kernel_rfl))
  f219:=Tryz.func107.trans (congrArg some (by kernel_rfl))
  f221:=Tryz.func94.trans (congrArg some (by kernel_rfl))
  f224:=Tryz.func110.trans (congrArg some (by kernel_rfl))
  f225:=Tryz.func111.trans (congrArg some (by kernel_rfl))
  f260:=Tryz.func102.trans (congrArg some (by kernel_rfl))
  f266:=Tryz.func114.trans (congrArg some (by kernel_rfl))
  f267:=Tryz.func113.trans (congrArg some (by kernel_rfl))
  f268:=Tryz.func99.trans (congrArg some (by kernel_rfl))
  f314:=Tryz.func115.trans (congrArg some (by kernel_rfl))
  t0:=Tryz.underlying0
  a0:=Tryz.isAgg0
  z0:=Tryz.sizeOf0
  v0:=Tryz.zeroValue0
  t3:=Tryz.underlying3
  a3:=Tryz.isAgg3
  z3:=Tryz.sizeOf3
  v3:=Tryz.zeroValue3
  t4:=Tryz.underlying4
  a4:=Tryz.isAgg4
  z4:=Tryz.sizeOf4
  v4:=Tryz.zeroValue4
  t5:=Tryz.underlying5
  a5:=Tryz.isAgg5
  z5:=Tryz.sizeOf5
  v5:=Tryz.zeroValue5
  t9:=Tryz.underlying9
  a9:=Tryz.isAgg9
  z9:=Tryz.sizeOf9
  v9:=Tryz.zeroValue9
  t21:=Tryz.underlying21
  a21:=Tryz.isAgg21
  z21:=Tryz.sizeOf21
  v21:=Tryz.zeroValue21
  t31:=Tryz.underlying67
  a31:=Tryz.isAgg67
  z31:=Tryz.sizeOf67
  v31:=Tryz.zeroValue67
  t46:=Tryz.underlying110
  a46:=Tryz.isAgg110
  z46:=Tryz.sizeOf110
  v46:=Tryz.zeroValue110
  t51:=Tryz.underlying116
  a51:=Tryz.isAgg116
  z51:=Tryz.sizeOf116
  v51:=Tryz.zeroValue116
  t105:=Tryz.underlying101
  a105:=Tryz.isAgg101
  z105:=Tryz.sizeOf101
  v105:=Tryz.zeroValue101
  t119:=Tryz.underlying109
  a119:=Tryz.isAgg109
  z119:=Tryz.sizeOf109
  t138:=Tryz.underlying112
  a138:=Tryz.isAgg112
  z138:=Tryz.sizeOf112
  v138:=Tryz.zeroValue112
  t139:=Tryz.underlying113
  a139:=Tryz.isAgg113
  z139:=Tryz.sizeOf113
  v139:=Tryz.zeroValue113
  t146:=Tryz.underlying117
  a146:=Tryz.isAgg117
  z146:=Tryz.sizeOf117
  v146:=Tryz.zeroValue117
  g1:=by kernel_rfl
  g3:=by kernel_rfl
  g4:=by kernel_rfl }
open Go.RowKit Go.Lib in
theorem Tryz.strings_Split (s sep:ByteArray) (m:Int) (w:World) (hs:s.size<4294967281) (hm:w.cell? ⟨2,0,none⟩=some (.int .i64 m)) (h1:1≤sep.size) :
    Calls Tryz.prog 85 #[.string s,.string sep] w fun e w' =>
      e=.returned (.slice (some ⟨w.heap.size,0,none⟩) (Lib.countB s sep+1) (Lib.countB s sep+1))∧w'=w.alloc (.cells ((Lib.splitB sep 0 (Lib.countB s sep) s).map Value.string).toArray 9):=Any.strings_Split Tryz.lays146 (by kernel_rfl) s sep m w hs hm h1
end Go.Proofs

namespace Go.Proofs.YteagahcbffgjpaaGreatDoor.G
open Go.RowKit Go.Proofs.YteagahcbffgjpaaGreatDoorW.PrintWords Go.Proofs.YteagahcbffgjpaaGreatDoorW.PrintLast Go.Proofs.YteagahcbffgjpaaGreatDoorW.PrintMore
open Go.Proofs.YteagahcbffgjpaaGreatDoor.Gl Go.Proofs.YteagahcbffgjpaaGreatDoor.Ext
attribute [local go_sem] max2_int min2_int max_two min_two max_three min_three max_four min_four   -- for this text's walks alone
set_option linter.unusedVariables false
set_option linter.unusedSimpArgs false
def strings_Split.f (a0:ByteArray) (a1:ByteArray):Option (List ByteArray) :=
 if a0.size<4294967281∧1≤a1.size∧(Lib.splitB a1 0 (Lib.countB a0 a1) a0).length=Lib.countB a0 a1+1∧Lib.countB a0 a1<4294967296 then some (Lib.splitB a1 0 (Lib.countB a0 a1) a0) else none
theorem strings_Split.calls (a0:ByteArray) (a1:ByteArray) (r:List ByteArray) (w:World) {gF1 gF2 gF3:Bool} (hG:GL gF1 gF2 gF3 w) (h:strings_Split.f a0 a1=some r) :
  Calls Tryz.prog 85 #[.string a0,.string a1] w fun e w'=>∃ dS:Value,e=.returned (dS)∧Kd.R Kd.string 9 w' w.heap.size (fun _=>True) dS r∧Below w.heap.size w w':=by
 unfold strings_Split.f at h;by_cases hg:a0.size<4294967281∧1≤a1.size∧(Lib.splitB a1 0 (Lib.countB a0 a1) a0).length=Lib.countB a0 a1+1∧Lib.countB a0 a1<4294967296
 · rw [if_pos hg] at h;obtain rfl:=ojz h;obtain ⟨m,hm⟩:=hG.mx;refine (Tryz.strings_Split a0 a1 m w hg.1 hm hg.2.1).mono ?_;rintro e w' ⟨rfl,rfl⟩;rw [← hg.2.2.1];refine ⟨_,rfl,Kd.R_of_own (own_lit_of (enc:=Value.string) w w.heap.size 9 _ (Nat.le_refl _) ?_) (fun _ _=>trivial),(Below.refl _ _).alloc (Nat.le_refl _) _⟩;rw [hg.2.2.1];omega
 · rw [if_neg hg] at h;cases h
mutual
def impl_isParticle.l0:Nat→List ByteArray→List ByteArray→Int→Int→Option (Bool)
 | 0,_,_,_,_=>none
 | k+1,x3,iK,Og,xN=>if xN<Og then (if 0≤xN then (if xN<(iK.length:Int) then ((impl_inside.f ((rdOf ByteArray.empty iK xN).size:Int) 1 12).bind fun rJ=>(if rJ=true then (impl_isParticle.l1 k x3 (rdOf ByteArray.empty iK xN) 0 iK Og xN) else (some false))) else (none)) else (none)) else (some (decide ((x3.length:Int)≤2)))
def impl_isParticle.l1:Nat→List ByteArray→ByteArray→Int→List ByteArray→Int→Int→Option (Bool)
 | 0,_,_,_,_,_,_=>none
 | k+1,x3,x5,x6,iK,Og,xN=>if x6<(x5.size:Int) then (if 0≤x6 then ((impl_isLower.f (bt x5 x6)).bind fun pU=>(if pU=true then (impl_isParticle.l1 k x3 x5 (wrap64 (x6+1)) iK Og xN) else (some false))) else (none)) else (impl_isParticle.l0 k x3 iK Og (wrap64 (xN+1)))
end
def impl_isParticle.f (k:Nat) (a0:ByteArray):Option (Bool):=if a0.toList=([]:List UInt8) then (some true) else ((strings_Split.f a0 (⟨#[32]⟩:ByteArray)).bind fun cZ=>(impl_isParticle.l0 k cZ cZ (cZ.length:Int) 0))
theorem impl_isParticle.mono_l:∀ k,(∀ y0 y1 y2 y3,LeO (impl_isParticle.l0 k y0 y1 y2 y3) (impl_isParticle.l0 (k+1) y0 y1 y2 y3))∧(∀ y0 y1 y2 y3 y4 y5,LeO (impl_isParticle.l1 k y0 y1 y2 y3 y4 y5) (impl_isParticle.l1 (k+1) y0 y1 y2 y3 y4 y5))
 | 0=>⟨fun _ _ _ _ r h=>by simp [impl_isParticle.l0] at h,fun _ _ _ _ _ _ r h=>by simp [impl_isParticle.l1] at h⟩
 | k+1=>by
  obtain ⟨ih0,ih1⟩:=impl_isParticle.mono_l k;refine ⟨?_,?_⟩
  ·
   intro y0 y1 y2 y3;unfold impl_isParticle.l0
   repeat' first
   | (with_reducible exact ih0 _ _ _ _)
   | (with_reducible exact ih1 _ _ _ _ _ _)
   | (with_reducible exact LeO.refl _)
   | (with_reducible exact LeO.none _)
   | (with_reducible refine LeO.ite ?_ ?_)
   | (with_reducible refine LeO.bind ?_ (fun _=>?_))
   | exact ih0 _ _ _ _
   | exact ih1 _ _ _ _ _ _
   | exact LeO.none _
   | refine LeO.ite ?_ ?_
   | refine LeO.bind ?_ (fun _=>?_)
  ·
   intro y0 y1 y2 y3 y4 y5;unfold impl_isParticle.l1
   repeat' first
   | (with_reducible exact ih0 _ _ _ _)
   | (with_reducible exact ih1 _ _ _ _ _ _)
   | (with_reducible exact LeO.refl _)
   | (with_reducible exact LeO.none _)
   | (with_reducible refine LeO.ite ?_ ?_)
   | (with_reducible refine LeO.bind ?_ (fun _=>?_))
   | exact ih0 _ _ _ _
   | exact ih1 _ _ _ _ _ _
   | exact LeO.none _
   | refine LeO.ite ?_ ?_
   | refine LeO.bind ?_ (fun _=>?_)
theorem impl_isParticle.mono:∀ a0 k,LeO (impl_isParticle.f k a0) (impl_isParticle.f (k+1) a0):=by
 intro a0 k;obtain ⟨ih0,ih1⟩:=impl_isParticle.mono_l k;unfold impl_isParticle.f
 repeat' first
   | (with_reducible exact ih0 _ _ _ _)
   | (with_reducible exact ih1 _ _ _ _ _ _)
   | (with_reducible exact LeO.refl _)
   | (with_reducible exact LeO.none _)
   | (with_reducible refine LeO.ite ?_ ?_)
   | (with_reducible refine LeO.bind ?_ (fun _=>?_))
   | exact ih0 _ _ _ _
   | exact ih1 _ _ _ _ _ _
   | exact LeO.none _
   | refine LeO.ite ?_ ?_
   | refine LeO.bind ?_ (fun _=>?_)
set_option maxHeartbeats 8000000 in
set_option maxRecDepth 100000 in
theorem impl_isParticle.calls (k:Nat) (a0:ByteArray) (r:Bool) (w:World) {gF1 gF2 gF3:Bool} (hG:GL gF1 gF2 gF3 w) (h:impl_isParticle.f k a0=some r) :
  Calls Tryz.prog 77 #[.string a0] w fun e w'=>e=.returned (.bool r)∧Below w.heap.size w w':=by
 have HG:=am hG;clear hG;have HB:=am (Below.refl w.heap.size w);have H:(if a0.toList=([]:List UInt8) then (some true) else ((strings_Split.f a0 (⟨#[32]⟩:ByteArray)).bind fun cZ=>(impl_isParticle.l0 k cZ cZ (cZ.length:Int) 0)))=some r:=h;clear h;by_cases c2:a0.toList=([]:List UInt8)
 · rw [if_pos c2] at H;have c2b0:=qt c2;have c2b1:=bf c2;clear c2;obtain rfl:=ojz H;go_enter Tryz.func77,Tryz.ntmps77;go_wp2;go_ret;exact ax1
 ·
  rw [if_neg c2] at H;have c2b0:=qf c2;have c2b1:=bu c2;replace H:=ob H;obtain ⟨cZ,dL,H⟩:=H
  try dsimp only at H
  have A3:=am dL;clear dL;have H':=am H;clear H;go_enter Tryz.func77,Tryz.ntmps77;go_wp2_with (first|((with_reducible refine gate_callee (f:=85) rfl ?_);refine goesL_ (some 10) rfl rfl Tryz.func85 (by kernel_rfl) rfl #[.string a0,.string (⟨#[32]⟩:ByteArray)] rfl au45 ?_;(with_reducible refine (strings_Split.calls (hG:=au0) a0 (⟨#[32]⟩:ByteArray) cZ _ A3.out).mono ?_);rintro e w4 ⟨b0H,rfl,ho0,hb⟩;refine ⟨_,rfl,?_⟩;have a3M:=am (Kd.R_lower ho0 (below_size au46));replace HB:=am (below_step au46 hb);(try clear hb);(try clear ho0);obtain ⟨Ao5,co5,eo5⟩:=Kd.R_slice a3M.out;subst eo5))
  go_loopg [13] k (fun kq v13 w'=>∃ (cY:Int),v13=.int .i64 cY∧Aside0 (impl_isParticle.l0 kq cZ cZ (cZ.length:Int) cY=some r)∧Aside0 (kq≤k)∧Aside0 (Kd.R Kd.string 9 w' w.heap.size (fun _=>True) (.slice Ao5 cZ.length co5) cZ)∧Aside0 (Kd.R Kd.string 9 w' w.heap.size (fun _=>True) (.slice Ao5 cZ.length co5) cZ)∧Aside0 (Below w.heap.size w w'))
  case atStart=>exact ⟨(0),au88,H',⟨Nat.le_refl _⟩,⟨by (with_reducible repeat (first|apply Kd.R_alloc|apply Kd.R_drewN|apply Kd.R_drew));exact a3M.out⟩,⟨by (with_reducible repeat (first|apply Kd.R_alloc|apply Kd.R_drewN|apply Kd.R_drew));exact a3M.out⟩,⟨by repeat (first|(with_reducible first|exact HB.out|apply below_alloc|apply pw_below_drewN|apply below_drew1)|exact HB.out)⟩⟩
  case round =>
   clear H'
   try clear c2
   try clear c2b0
   try clear c2b1
   try clear p2
   obtain ⟨cY,rfl,HA,HK1,bS,EQ,HB⟩:=hrel
   cases gk with
   | zero=>exact absurd HA.out (by simp [impl_isParticle.l0])
   | succ k1 =>
    have H:=HA.out;clear HA;simp only [impl_isParticle.l0] at H;by_cases c6:cY<(cZ.length:Int)
    ·
     rw [if_pos c6] at H;have c6b0:=dt c6;clear c6;by_cases c7:0≤cY
     ·
      rw [if_pos c7] at H;have c7b0:=dt c7;clear c7;by_cases c8:cY<(cZ.length:Int)
      ·
       rw [if_pos c8] at H;have c8b0:=dt c8;clear c8;replace H:=ob H;obtain ⟨rJ,wW,H⟩:=H
       try dsimp only at H
       have A9:=am wW;clear wW;by_cases c10:rJ=true
       ·
        subst c10;replace H:=(if_pos rfl).symm.trans H;have H':=am H;clear H;have DU:0≤(cY:Int):=od au87;have DV:cY<(cZ.length:Int):=od au87;obtain ⟨a3N,a8H,Tb⟩:=Kd.at_string (Kd.R_reads' EQ.out).2.2 cY DU DV
        cases a8H
        replace DU:=eq_true DU;replace DV:=eq_true DV;go_wp2_with (first|((with_reducible refine gate_callee (f:=47) rfl ?_);refine goesL_ (some 19) rfl rfl Tryz.func47 (by kernel_rfl) rfl #[.int .i64 ((rdOf ByteArray.empty cZ cY).size:Int),.int .i64 1,.int .i64 12] rfl au45 ?_;(with_reducible refine (impl_inside.calls ((rdOf ByteArray.empty cZ cY).size:Int) 1 12 true _ A9.out).mono ?_);rintro e w' ⟨rfl,⟨nd,rfl⟩⟩;refine ⟨_,rfl,?_⟩))
        go_loopg [6] k1 (fun kq v6 w'=>∃ (mT:Int),v6=.int .i64 mT∧Aside0 (impl_isParticle.l1 kq cZ (rdOf ByteArray.empty cZ cY) mT cZ (cZ.length:Int) cY=some r)∧Aside0 (kq≤k1)∧Aside0 (Kd.R Kd.string 9 w' w.heap.size (fun _=>True) (.slice (some a3N) cZ.length co5) cZ)∧Aside0 (Kd.R Kd.string 9 w' w.heap.size (fun _=>True) (.slice (some a3N) cZ.length co5) cZ)∧Aside0 (Below w.heap.size w w'))
        case atStart=>exact ⟨(0),au88,H',⟨Nat.le_refl _⟩,⟨by (with_reducible repeat (first|apply Kd.R_alloc|apply Kd.R_drewN|apply Kd.R_drew));exact bS.out⟩,⟨by (with_reducible repeat (first|apply Kd.R_alloc|apply Kd.R_drewN|apply Kd.R_drew));exact EQ.out⟩,⟨by repeat (first|(with_reducible first|exact HB.out|apply below_alloc|apply pw_below_drewN|apply below_drew1)|exact HB.out)⟩⟩
        case round =>
         clear H'
         try clear c1
         try clear c2
         try clear c2b0
         try clear c2b1
         try clear p2
         try clear p3
         try clear q3
         try clear K3
         try clear c4
         try clear c6
         try clear c6b0
         try clear c7
         try clear c7b0
         try clear c8
         try clear c8b0
         try clear c10
         try clear Tb
         try clear p2
         try clear DU
         try clear DV
         obtain ⟨mT,rfl,HA,HK2,bS,EQ,HB⟩:=hrel
         cases gk with
         | zero=>exact absurd HA.out (by simp [impl_isParticle.l1])
         | succ k2 =>
          have H:=HA.out;clear HA;simp only [impl_isParticle.l1] at H;by_cases cI:mT<((rdOf ByteArray.empty cZ cY).size:Int)
          ·
           rw [if_pos cI] at H;have c11b0:=dt cI;clear cI;by_cases eA:0≤mT
           ·
            rw [if_pos eA] at H;have c12b0:=dt eA;clear eA;replace H:=ob H;obtain ⟨pU,Oh,H⟩:=H
            try dsimp only at H
            have A14:=am Oh;clear Oh;by_cases cX:pU=true
            ·
             subst cX;replace H:=(if_pos rfl).symm.trans H;have H':=am H;clear H;have p13:0≤(mT:Int):=od au87;have q13:mT<((rdOf ByteArray.empty cZ cY).size:Int):=od au87;have IY:=bt_at (rdOf ByteArray.empty cZ cY) mT;replace p13:=eq_true p13;replace q13:=eq_true q13;go_wp2_with (first|((with_reducible refine gate_callee (f:=59) rfl ?_);refine goesL_ (some 30) rfl rfl Tryz.func59 (by kernel_rfl) rfl #[.int .u8 (bt (rdOf ByteArray.empty cZ cY) mT)] rfl au45 ?_;(with_reducible refine (impl_isLower.calls (bt (rdOf ByteArray.empty cZ cY) mT) true _ A14.out).mono ?_);rintro e w' ⟨rfl,⟨nd,rfl⟩⟩;refine ⟨_,rfl,?_⟩))
             go_roundg k2
             case measure=>have:=HK1.out;have:=HK2.out;omega
             case rel=>exact ⟨(wrap64 (mT+1)),au88,H',⟨by have:=HK1.out;have:=HK2.out;omega⟩,⟨by (with_reducible repeat (first|apply Kd.R_alloc|apply Kd.R_drewN|apply Kd.R_drew));exact bS.out⟩,⟨by (with_reducible repeat (first|apply Kd.R_alloc|apply Kd.R_drewN|apply Kd.R_drew));exact EQ.out⟩,⟨by repeat (first|(with_reducible first|exact HB.out|apply below_alloc|apply pw_below_drewN|apply below_drew1)|exact HB.out)⟩⟩
            · replace cX:=Bool.eq_false_iff.mpr cX;subst cX;replace H:=(if_neg (show ¬ (false=true) by decide)).symm.trans H;obtain rfl:=ojz H;have p13:0≤(mT:Int):=od au87;have q13:mT<((rdOf ByteArray.empty cZ cY).size:Int):=od au87;have IY:=bt_at (rdOf ByteArray.empty cZ cY) mT;replace p13:=eq_true p13;replace q13:=eq_true q13;go_wp2_with (first|((with_reducible refine gate_callee (f:=59) rfl ?_);refine goesL_ (some 30) rfl rfl Tryz.func59 (by kernel_rfl) rfl #[.int .u8 (bt (rdOf ByteArray.empty cZ cY) mT)] rfl au45 ?_;(with_reducible refine (impl_isLower.calls (bt (rdOf ByteArray.empty cZ cY) mT) false _ A14.out).mono ?_);rintro e w' ⟨rfl,⟨nd,rfl⟩⟩;refine ⟨_,rfl,?_⟩));go_ret;exact ax1
           · rw [if_neg eA] at H;exact absurd H (by simp)
          ·
           rw [if_neg cI] at H;have c11b0:=df cI;clear cI;have H':=am H;clear H;go_wp2
           go_roundg k2
           case measure=>have:=HK1.out;have:=HK2.out;omega
           case rel=>exact ⟨(wrap64 (cY+1)),au88,H',⟨by have:=HK1.out;have:=HK2.out;omega⟩,⟨by (with_reducible repeat (first|apply Kd.R_alloc|apply Kd.R_drewN|apply Kd.R_drew));exact bS.out⟩,⟨by (with_reducible repeat (first|apply Kd.R_alloc|apply Kd.R_drewN|apply Kd.R_drew));exact EQ.out⟩,⟨by repeat (first|(with_reducible first|exact HB.out|apply below_alloc|apply pw_below_drewN|apply below_drew1)|exact HB.out)⟩⟩
       ·
        replace c10:=Bool.eq_false_iff.mpr c10;subst c10;replace H:=(if_neg (show ¬ (false=true) by decide)).symm.trans H;obtain rfl:=ojz H;have DU:0≤(cY:Int):=od au87;have DV:cY<(cZ.length:Int):=od au87;obtain ⟨a3N,a8H,Tb⟩:=Kd.at_string (Kd.R_reads' EQ.out).2.2 cY DU DV
        cases a8H
        replace DU:=eq_true DU;replace DV:=eq_true DV;go_wp2_with (first|((with_reducible refine gate_callee (f:=47) rfl ?_);refine goesL_ (some 19) rfl rfl Tryz.func47 (by kernel_rfl) rfl #[.int .i64 ((rdOf ByteArray.empty cZ cY).size:Int),.int .i64 1,.int .i64 12] rfl au45 ?_;(with_reducible refine (impl_inside.calls ((rdOf ByteArray.empty cZ cY).size:Int) 1 12 false _ A9.out).mono ?_);rintro e w' ⟨rfl,⟨nd,rfl⟩⟩;refine ⟨_,rfl,?_⟩));go_ret;exact ax1
      · rw [if_neg c8] at H;exact absurd H (by simp)
     · rw [if_neg c7] at H;exact absurd H (by simp)
    · rw [if_neg c6] at H;have c6b0:=df c6;clear c6;obtain rfl:=ojz H;go_wp2;go_ret;exact ax1
def impl_IsValidName_1.f (k:Nat) (a0:ByteArray):Option (Bool):=(impl_isGreatWord.f k a0).bind fun pW=>(some (!pW))
theorem impl_IsValidName_1.mono:∀ a0 k,LeO (impl_IsValidName_1.f k a0) (impl_IsValidName_1.f (k+1) a0):=by
 intro a0 k;unfold impl_IsValidName_1.f
 repeat' first
   | (with_reducible exact impl_isGreatWord.mono _ _)
   | (with_reducible exact LeO.refl _)
   | (with_reducible exact LeO.none _)
   | (with_reducible refine LeO.ite ?_ ?_)
   | (with_reducible refine LeO.bind ?_ (fun _=>?_))
   | exact impl_isGreatWord.mono _ _
   | exact LeO.none _
   | refine LeO.ite ?_ ?_
   | refine LeO.bind ?_ (fun _=>?_)
set_option maxHeartbeats 8000000 in
set_option maxRecDepth 100000 in
theorem impl_IsValidName_1.calls (k:Nat) (a0:ByteArray) (r:Bool) (w:World) (h:impl_IsValidName_1.f k a0=some r) :
  Calls Tryz.prog 75 #[.string a0] w fun e w'=>e=.returned (.bool r)∧Drawn0 w w':=by
 have H:((impl_isGreatWord.f k a0).bind fun pW=>(some (!pW)))=some r:=h;clear h;replace H:=ob H;obtain ⟨pW,fC,H⟩:=H
 try dsimp only at H
 have A2:=am fC;clear fC;obtain rfl:=ojz H;go_enter Tryz.func75,Tryz.ntmps75;go_wp2_with (first|((with_reducible refine gate_callee (f:=76) rfl ?_);refine goesL_ (some 4) rfl rfl Tryz.func76 (by kernel_rfl) rfl #[.string a0] rfl au45 ?_;(with_reducible refine (impl_isGreatWord.calls k a0 pW _ A2.out).mono ?_);rintro e w' ⟨rfl,⟨nd,rfl⟩⟩;refine ⟨_,rfl,?_⟩));go_ret;exact ax0
def slices_IndexFunc_string_string_at_75.l0:Nat→List ByteArray→Int→Int→Option (Int)
 | 0,_,_,_=>none
 | k+1,x0,x7,x8=>if x8<x7 then (if 0≤x8 then (if x8<(x0.length:Int) then ((impl_IsValidName_1.f k (rdOf ByteArray.empty x0 x8)).bind fun pT=>(if pT=true then (some x8) else (slices_IndexFunc_string_string_at_75.l0 k x0 x7 (wrap64 (x8+1))))) else (none)) else (none)) else (some (-1))
def slices_IndexFunc_string_string_at_75.f (k:Nat) (l0:List ByteArray) :Option (Int):=slices_IndexFunc_string_string_at_75.l0 k l0 (l0.length:Int) 0
theorem slices_IndexFunc_string_string_at_75.mono_l:∀ k,(∀ y0 y1 y2,LeO (slices_IndexFunc_string_string_at_75.l0 k y0 y1 y2) (slices_IndexFunc_string_string_at_75.l0 (k+1) y0 y1 y2))
 | 0=>fun _ _ _ r h=>by simp [slices_IndexFunc_string_string_at_75.l0] at h
 | k+1=>by
  have ih0:=slices_IndexFunc_string_string_at_75.mono_l k
  ·
   intro y0 y1 y2;unfold slices_IndexFunc_string_string_at_75.l0
   repeat' first
   | (with_reducible exact ih0 _ _ _)
   | (with_reducible exact impl_IsValidName_1.mono _ _)
   | (with_reducible exact LeO.refl _)
   | (with_reducible exact LeO.none _)
   | (with_reducible refine LeO.ite ?_ ?_)
   | (with_reducible refine LeO.bind ?_ (fun _=>?_))
   | exact ih0 _ _ _
   | exact impl_IsValidName_1.mono _ _
   | exact LeO.none _
   | refine LeO.ite ?_ ?_
   | refine LeO.bind ?_ (fun _=>?_)
theorem slices_IndexFunc_string_string_at_75.mono:∀ a0 k,LeO (slices_IndexFunc_string_string_at_75.f k a0) (slices_IndexFunc_string_string_at_75.f (k+1) a0):=by
 intro a0 k;have ih0:=slices_IndexFunc_string_string_at_75.mono_l k;unfold slices_IndexFunc_string_string_at_75.f
 repeat' first
   | (with_reducible exact ih0 _ _ _)
   | (with_reducible exact impl_IsValidName_1.mono _ _)
   | (with_reducible exact LeO.refl _)
   | (with_reducible exact LeO.none _)
   | (with_reducible refine LeO.ite ?_ ?_)
   | (with_reducible refine LeO.bind ?_ (fun _=>?_))
   | exact ih0 _ _ _
   | exact impl_IsValidName_1.mono _ _
   | exact LeO.none _
   | refine LeO.ite ?_ ?_
   | refine LeO.bind ?_ (fun _=>?_)
set_option maxHeartbeats 8000000 in
set_option maxRecDepth 100000 in
theorem slices_IndexFunc_string_string_at_75.calls (k:Nat) (A0:Option Addr) (c0:Nat) (l0:List ByteArray)  (r:Int) (w:World) (dH:Kd.C Kd.string w A0 l0.length l0) (cP:l0.length≤c0) (h:slices_IndexFunc_string_string_at_75.f k l0=some r) :
  Calls Tryz.prog 83 #[.slice A0 l0.length c0,.func (.func 75) #[] #[]] w fun e w'=>e=.returned (.int .i64 r)∧Drawn0 w w':=by
 have cW:=am dH;have mM:=am cP;clear dH cP;have H:(slices_IndexFunc_string_string_at_75.l0 k l0 (l0.length:Int) 0)=some r:=h;clear h;have H':=am H;clear H;go_enter Tryz.func83,Tryz.ntmps83;go_wp2
 go_loopg [8] k (fun kq v8 w'=>∃ (aD:Int),v8=.int .i64 aD∧Aside0 (slices_IndexFunc_string_string_at_75.l0 kq l0 (l0.length:Int) aD=some r)∧Aside0 (kq≤k)∧Drawn0 w w')
 case atStart=>exact ⟨(0),au88,H',⟨Nat.le_refl _⟩,by repeat (first|exact Drawn0.refl _|apply Drawn0.step)⟩
 case round =>
  clear H'
  try clear p2
  obtain ⟨aD,rfl,HA,HK1,⟨m1,rfl⟩⟩:=hrel
  cases gk with
  | zero=>exact absurd HA.out (by simp [slices_IndexFunc_string_string_at_75.l0])
  | succ k1 =>
   have H:=HA.out;clear HA;simp only [slices_IndexFunc_string_string_at_75.l0] at H;by_cases c3:aD<(l0.length:Int)
   ·
    rw [if_pos c3] at H;have c3b0:=dt c3;clear c3;by_cases c4:0≤aD
    ·
     rw [if_pos c4] at H;have c4b0:=dt c4;clear c4;by_cases c5:aD<(l0.length:Int)
     ·
      rw [if_pos c5] at H;have c5b0:=dt c5;clear c5;replace H:=ob H;obtain ⟨pT,iV,H⟩:=H
      try dsimp only at H
      have A6:=am iV;clear iV;by_cases c7:pT=true
      ·
       subst c7;replace H:=(if_pos rfl).symm.trans H;obtain rfl:=ojz H;have nD:0≤(aD:Int):=od au87;have nE:aD<(l0.length:Int):=od au87;obtain ⟨a3O,IZ,pX⟩:=Kd.at_string cW.out aD nD nE
       cases IZ
       replace nD:=eq_true nD;replace nE:=eq_true nE;go_wp2_with (first|((with_reducible refine gate_tmp (t:=11) rfl ?_);refine goesLt_ (t:=11) (show _=Value.func (.func 75) #[] #[] from rfl) (some 16) rfl rfl Tryz.func75 (by kernel_rfl) rfl #[.string (rdOf ByteArray.empty l0 aD)] rfl au45 ?_;(with_reducible refine (impl_IsValidName_1.calls k1 (rdOf ByteArray.empty l0 aD) true _ A6.out).mono ?_);rintro e w' ⟨rfl,⟨nd,rfl⟩⟩;refine ⟨_,rfl,?_⟩));go_ret;exact ax0
      ·
       replace c7:=Bool.eq_false_iff.mpr c7;subst c7;replace H:=(if_neg (show ¬ (false=true) by decide)).symm.trans H;have H':=am H;clear H;have nD:0≤(aD:Int):=od au87;have nE:aD<(l0.length:Int):=od au87;obtain ⟨a3O,IZ,pX⟩:=Kd.at_string cW.out aD nD nE
       cases IZ
       replace nD:=eq_true nD;replace nE:=eq_true nE;go_wp2_with (first|((with_reducible refine gate_tmp (t:=11) rfl ?_);refine goesLt_ (t:=11) (show _=Value.func (.func 75) #[] #[] from rfl) (some 16) rfl rfl Tryz.func75 (by kernel_rfl) rfl #[.string (rdOf ByteArray.empty l0 aD)] rfl au45 ?_;(with_reducible refine (impl_IsValidName_1.calls k1 (rdOf ByteArray.empty l0 aD) false _ A6.out).mono ?_);rintro e w' ⟨rfl,⟨nd,rfl⟩⟩;refine ⟨_,rfl,?_⟩))
       go_roundg k1
       case measure=>have:=HK1.out;omega
       case rel=>exact ⟨(wrap64 (aD+1)),au88,H',⟨by have:=HK1.out;omega⟩,by repeat (first|exact Drawn0.refl _|apply Drawn0.step)⟩
     · rw [if_neg c5] at H;exact absurd H (by simp)
    · rw [if_neg c4] at H;exact absurd H (by simp)
   · rw [if_neg c3] at H;have c3b0:=df c3;clear c3;obtain rfl:=ojz H;go_wp2;go_ret;exact ax0
def slices_ContainsFunc_string_string_at_75.f (k:Nat) (l0:List ByteArray) :Option (Bool):=(slices_IndexFunc_string_string_at_75.f k l0).bind fun lJ=>(some (decide (lJ ≥ 0)))
theorem slices_ContainsFunc_string_string_at_75.mono:∀ a0 k,LeO (slices_ContainsFunc_string_string_at_75.f k a0) (slices_ContainsFunc_string_string_at_75.f (k+1) a0):=by
 intro a0 k;unfold slices_ContainsFunc_string_string_at_75.f
 repeat' first
   | (with_reducible exact slices_IndexFunc_string_string_at_75.mono _ _)
   | (with_reducible exact LeO.refl _)
   | (with_reducible exact LeO.none _)
   | (with_reducible refine LeO.ite ?_ ?_)
   | (with_reducible refine LeO.bind ?_ (fun _=>?_))
   | exact slices_IndexFunc_string_string_at_75.mono _ _
   | exact LeO.none _
   | refine LeO.ite ?_ ?_
   | refine LeO.bind ?_ (fun _=>?_)
set_option maxHeartbeats 8000000 in
set_option maxRecDepth 100000 in
theorem slices_ContainsFunc_string_string_at_75.calls (k:Nat) (A0:Option Addr) (c0:Nat) (l0:List ByteArray)  (r:Bool) (w:World) (dH:Kd.C Kd.string w A0 l0.length l0) (cP:l0.length≤c0) (h:slices_ContainsFunc_string_string_at_75.f k l0=some r) :
  Calls Tryz.prog 74 #[.slice A0 l0.length c0,.func (.func 75) #[] #[]] w fun e w'=>e=.returned (.bool r)∧Drawn0 w w':=by
 have cW:=am dH;have mM:=am cP;clear dH cP;have H:((slices_IndexFunc_string_string_at_75.f k l0).bind fun lJ=>(some (decide (lJ ≥ 0))))=some r:=h;clear h;replace H:=ob H;obtain ⟨lJ,dL,H⟩:=H
 try dsimp only at H
 have A3:=am dL;clear dL;obtain rfl:=ojz H;go_enter Tryz.func74,Tryz.ntmps74;go_wp2_with (first|((with_reducible refine gate_callee (f:=83) rfl ?_);refine goesL_ (some 7) rfl rfl Tryz.func83 (by kernel_rfl) rfl #[.slice A0 l0.length c0,.func (.func 75) #[] #[]] rfl au45 ?_;(with_reducible refine (slices_IndexFunc_string_string_at_75.calls k _ _ l0  lJ _ ?aU ?aV A3.out).mono ?_);(case aU=>repeat (first|exact cW.out|(with_reducible refine Kd.C_alloc ?_ _)|(with_reducible refine Kd.C_drewN ?_ _)|(with_reducible refine Kd.C_drew ?_)));(case aV=>exact mM.out);rintro e w' ⟨rfl,⟨nd,rfl⟩⟩;refine ⟨_,rfl,?_⟩));go_ret;exact ax0
def impl_IsValidName.j0:Nat→Bool→List ByteArray→ByteArray→ByteArray→ByteArray→Option (Bool)
 | 0,_,_,_,_,_=>none
 | k+1,iK,aJN,ahX,ahY,Tc=>if iK=true then (some false) else ((impl_isParticle.f k ahX).bind fun nC=>(if nC=true then ((impl_isGreatWord.f k ahY).bind fun BN=>(if BN=true then (if Tc.toList=([]:List UInt8) then (some true) else ((impl_isNameWord.f k Tc).bind fun pW=>(some pW))) else (some false))) else (some false)))
def impl_IsValidName.f (k:Nat) (aA:List ByteArray) (aH:ByteArray) (aW:ByteArray) (aY:ByteArray):Option (Bool):=if (aA.length:Int)>3 then (impl_IsValidName.j0 k true aA aH aW aY) else ((slices_ContainsFunc_string_string_at_75.f k aA).bind fun iZ=>(impl_IsValidName.j0 k iZ aA aH aW aY))
theorem impl_IsValidName.mono_l:∀ k,(∀ y0 y1 y2 y3 y4,LeO (impl_IsValidName.j0 k y0 y1 y2 y3 y4) (impl_IsValidName.j0 (k+1) y0 y1 y2 y3 y4))
 | 0=>fun _ _ _ _ _ r h=>by simp [impl_IsValidName.j0] at h
 | k+1=>by
  have ih0:=impl_IsValidName.mono_l k
  ·
   intro y0 y1 y2 y3 y4;unfold impl_IsValidName.j0
   repeat' first
   | (with_reducible exact ih0 _ _ _ _ _)
   | (with_reducible exact impl_isGreatWord.mono _ _)
   | (with_reducible exact impl_isNameWord.mono _ _)
   | (with_reducible exact impl_isParticle.mono _ _)
   | (with_reducible exact slices_ContainsFunc_string_string_at_75.mono _ _)
   | (with_reducible exact LeO.refl _)
   | (with_reducible exact LeO.none _)
   | (with_reducible refine LeO.ite ?_ ?_)
   | (with_reducible refine LeO.bind ?_ (fun _=>?_))
   | exact ih0 _ _ _ _ _
   | exact impl_isGreatWord.mono _ _
   | exact impl_isNameWord.mono _ _
   | exact impl_isParticle.mono _ _
   | exact slices_ContainsFunc_string_string_at_75.mono _ _
   | exact LeO.none _
   | refine LeO.ite ?_ ?_
   | refine LeO.bind ?_ (fun _=>?_)
theorem impl_IsValidName.mono:∀ a0 a1 a2 a3 k,LeO (impl_IsValidName.f k a0 a1 a2 a3) (impl_IsValidName.f (k+1) a0 a1 a2 a3):=by
 intro a0 a1 a2 a3 k;have ih0:=impl_IsValidName.mono_l k;unfold impl_IsValidName.f
 repeat' first
   | (with_reducible exact ih0 _ _ _ _ _)
   | (with_reducible exact impl_isGreatWord.mono _ _)
   | (with_reducible exact impl_isNameWord.mono _ _)
   | (with_reducible exact impl_isParticle.mono _ _)
   | (with_reducible exact slices_ContainsFunc_string_string_at_75.mono _ _)
   | (with_reducible exact LeO.refl _)
   | (with_reducible exact LeO.none _)
   | (with_reducible refine LeO.ite ?_ ?_)
   | (with_reducible refine LeO.bind ?_ (fun _=>?_))
   | exact ih0 _ _ _ _ _
   | exact impl_isGreatWord.mono _ _
   | exact impl_isNameWord.mono _ _
   | exact impl_isParticle.mono _ _
   | exact slices_ContainsFunc_string_string_at_75.mono _ _
   | exact LeO.none _
   | refine LeO.ite ?_ ?_
   | refine LeO.bind ?_ (fun _=>?_)
set_option maxRecDepth 100000 in
theorem impl_IsValidName.L0 {P:Prop} (h:P:=by
  go_wp2_with (first|((with_reducible refine gate_callee (f:=77) rfl ?_);refine goesL_ (some 14) rfl rfl Tryz.func77 (by kernel_rfl) rfl #[.string aH] rfl au45 ?_;(with_reducible refine (impl_isParticle.calls (hG:=au0) eY aH _ _ A9.out).mono ?_);rintro e xM ⟨rfl,hb⟩;refine ⟨_,rfl,?_⟩;replace lS:=am (blk_below (g:=a3P) au55 hb);replace HB:=am (below_step au24 hb);(try clear hb);obtain ⟨L3,L4,L5,L6,L8,L9,La,Lb⟩:=blkc4 lS.out)|(go_at_call 76;(with_reducible refine (impl_isGreatWord.calls eY aW _ _ A11.out).mono ?_);rintro e w' ⟨rfl,⟨nd,rfl⟩⟩)|(go_at_call 78;(with_reducible refine (impl_isNameWord.calls eY aY pW _ A17.out).mono ?_);rintro e w' ⟨rfl,⟨nd,rfl⟩⟩));go_ret
  exact ⟨by first|rfl|(simp [errW_none,errW_some] <;> rfl)|(simp [*,errW_none,errW_some] <;> rfl),by repeat (first|(with_reducible first|exact HB.out|apply below_alloc|apply pw_below_drewN|apply below_drew1|refine below_set ?_ JY.out)|exact HB.out)⟩):P:=h
set_option maxHeartbeats 8000000 in
set_option maxRecDepth 100000 in
theorem impl_IsValidName.calls (k:Nat) (bH:Option Addr) (bA:Nat) (aA:List ByteArray) (aH:ByteArray) (aW:ByteArray) (aY:ByteArray) (r:Bool) (w:World) {gF1 gF2 gF3:Bool} (hG:GL gF1 gF2 gF3 w) (cE:Kd.C Kd.string w bH aA.length aA) (cA:aA.length≤bA) (h:impl_IsValidName.f k aA aH aW aY=some r) :
  Calls Tryz.prog 63 #[.agg #[.slice bH aA.length bA,.string aH,.string aW,.string aY]] w fun e w'=>e=.returned (.bool r)∧Below w.heap.size w w':=by
 have HG:=am hG;clear hG;have hu69:=Tryz.underlying69;have cM:=am cE;have eO:=am cA;clear cE cA;have HB:=am (Below.refl w.heap.size w);have H:(if (aA.length:Int)>3 then (impl_IsValidName.j0 k true aA aH aW aY) else ((slices_ContainsFunc_string_string_at_75.f k aA).bind fun iZ=>(impl_IsValidName.j0 k iZ aA aH aW aY)))=some r:=h;clear h;have hJ:=am H;clear H;go_enter Tryz.func63,Tryz.ntmps63
 go_upto_region 1 with (first|((with_reducible refine gate_dst (N:=1) rfl ?_);refine box_event ?hg (N:=1) ?hd (cs:=#[.slice bH aA.length bA,.string aH,.string aW,.string aY]) (t:=69) ?hr ?_;(case hd=>rfl);(case hg=>rfl);(case hr=>first|(go_simp;done)|(go_simp;rfl));intro a3P hg w3 hbox hb;have lS:=am (hbox);have aWW:=am (bsz hg au46);have JY:=am (bsz hg au46);replace HB:=am (below_step au46 hb);clear hb hbox hg))
 (try simp only [Act.put,List.setIfInBounds_toArray,List.set_cons_zero,List.set_cons_succ])
 go_cut [11] (fun v11 wc=>∃ (kq:Nat) (aG:Bool),v11=.bool aG∧Aside0 (impl_IsValidName.j0 kq aG aA aH aW aY=some r)∧Aside0 (kq≤k)∧Aside0 (wc.heap[a3P]?=some (.cells #[(.slice bH aA.length bA),.string aH,.string aW,.string aY] 69 (0,0)))∧Aside0 (Below w.heap.size w wc))
 case first =>
  have H:=hJ.out;clear hJ;by_cases c4:(aA.length:Int)>3
  ·
   rw [if_pos c4] at H;have c4b0:=dt c4;have c4b1:decide (3<aA.length)=true:=dt (by omega);clear c4
   (first|rw [c4b0]|(simp only [i64_w,i32_w];rw [c4b0])|skip)
   have H':=am H;clear H;obtain ⟨avV,avW,avX,avY,avZ,awA,awB,awC⟩:=blkc4 lS.out;go_wp2;go_meet
   case rel=>exact ⟨_,(true),au88,H',⟨by first|omega|exact Nat.le_refl _⟩,⟨by (with_reducible repeat (first|refine blk_drewN ?_ _|refine blk_drew ?_|refine blk_alloc ?_ _));exact lS.out⟩,⟨by repeat (first|(with_reducible first|exact HB.out|apply below_alloc|apply pw_below_drewN|apply below_drew1|refine below_set ?_ JY.out)|exact HB.out)⟩⟩
  ·
   rw [if_neg c4] at H;have c4b0:=df c4;have c4b1:decide (3<aA.length)=false:=df (by omega);clear c4
   (first|rw [c4b0]|(simp only [i64_w,i32_w];rw [c4b0])|skip)
   replace H:=ob H;obtain ⟨iZ,iV,H⟩:=H
   try dsimp only at H
   have A6:=am iV;clear iV;have H':=am H;clear H;obtain ⟨kN,lK,lL,lM,kO,lN,lO,lP⟩:=blkc4 lS.out;go_wp2_with (first|(go_at_call 74;(with_reducible refine (slices_ContainsFunc_string_string_at_75.calls k _ _ aA  iZ _ ?aU ?aV A6.out).mono ?_);(case aU=>repeat (first|exact (Kd.C_below cM.out HB.out)|(with_reducible refine Kd.C_alloc ?_ _)|(with_reducible refine Kd.C_drewN ?_ _)|(with_reducible refine Kd.C_drew ?_)));(case aV=>exact eO.out);rintro e w' ⟨rfl,⟨nd,rfl⟩⟩));go_meet
   case rel=>exact ⟨_,(iZ),au88,H',⟨by first|omega|exact Nat.le_refl _⟩,⟨by (with_reducible repeat (first|refine blk_drewN ?_ _|refine blk_drew ?_|refine blk_alloc ?_ _));exact lS.out⟩,⟨by repeat (first|(with_reducible first|exact HB.out|apply below_alloc|apply pw_below_drewN|apply below_drew1|refine below_set ?_ JY.out)|exact HB.out)⟩⟩
 case rest =>
  clear hJ
  try clear p2
  try clear c4
  try clear c4b0
  try clear c4b1
  try clear c6
  try clear avV avW avX avY avZ awA awB awC
  try clear kN lK lL lM kO lN lO lP
  obtain ⟨kq,aG,rfl,HA,hO,lS,HB⟩:=hcut
  cases kq with
  | zero=>exact absurd HA.out (by simp [impl_IsValidName.j0])
  | succ eY =>
   have H:=HA.out;clear HA;simp only [impl_IsValidName.j0] at H;by_cases c8:aG=true
   · subst c8;replace H:=(if_pos rfl).symm.trans H;obtain rfl:=ojz H;exact impl_IsValidName.L0
   ·
    replace c8:=Bool.eq_false_iff.mpr c8;subst c8;replace H:=(if_neg (show ¬ (false=true) by decide)).symm.trans H;replace H:=ob H;obtain ⟨nC,wW,H⟩:=H
    try dsimp only at H
    have A9:=am wW;clear wW;by_cases c10:nC=true
    ·
     subst c10;replace H:=(if_pos rfl).symm.trans H;replace H:=ob H;obtain ⟨BN,Oi,H⟩:=H
     try dsimp only at H
     have A11:=am Oi;clear Oi;by_cases eA:BN=true
     ·
      subst eA;replace H:=(if_pos rfl).symm.trans H;by_cases cV:aY.toList=([]:List UInt8)
      · rw [if_pos cV] at H;have c13b0:=qt cV;have c13b1:=bf cV;clear cV;obtain rfl:=ojz H;obtain ⟨rX,rY,rZ,sB,sC,sD,sF,sG⟩:=blkc4 lS.out;exact impl_IsValidName.L0
      ·
       rw [if_neg cV] at H;have c13b0:=qf cV;have c13b1:=bu cV;replace H:=ob H;obtain ⟨pW,Oj,H⟩:=H
       try dsimp only at H
       have A17:=am Oj;clear Oj;obtain rfl:=ojz H;obtain ⟨Ew,Ex,Ey,Ez,EA,EB,EC,ED⟩:=blkc4 lS.out;exact impl_IsValidName.L0
     · replace eA:=Bool.eq_false_iff.mpr eA;subst eA;replace H:=(if_neg (show ¬ (false=true) by decide)).symm.trans H;obtain rfl:=ojz H;obtain ⟨Lc,Ld,Le,Lf,Lg,Lh,Li,Lj⟩:=blkc4 lS.out;exact impl_IsValidName.L0
    · replace c10:=Bool.eq_false_iff.mpr c10;subst c10;replace H:=(if_neg (show ¬ (false=true) by decide)).symm.trans H;obtain rfl:=ojz H;obtain ⟨tB,tC,tD,tE,tF,tG,tH,tI⟩:=blkc4 lS.out;go_wp2_with (first|((with_reducible refine gate_callee (f:=77) rfl ?_);refine goesL_ (some 14) rfl rfl Tryz.func77 (by kernel_rfl) rfl #[.string aH] rfl au45 ?_;(with_reducible refine (impl_isParticle.calls (hG:=au0) eY aH _ _ A9.out).mono ?_);rintro e w25 ⟨rfl,hb⟩;refine ⟨_,rfl,?_⟩;replace lS:=am (blk_below (g:=a3P) au55 hb);replace HB:=am (below_step au24 hb);(try clear hb)));go_ret;exact ⟨by first|rfl|(simp [errW_none,errW_some] <;> rfl)|(simp [*,errW_none,errW_some] <;> rfl),by repeat (first|(with_reducible first|exact HB.out|apply below_alloc|apply pw_below_drewN|apply below_drew1|refine below_set ?_ JY.out)|exact HB.out)⟩
end Go.Proofs.YteagahcbffgjpaaGreatDoor.G
