/- Texts of this session for the law FnExactDropEntry, put together by a program (merge.py): each ends with its namespace; conditions stand with each theorem. -/
import Derived.Test.YteagahcbffgjpaaGreatDoorKFnExactDropEntry7
import Derived.Test.YteagahcbffgjpaaGreatDoorKFnExactDropEntry3
import Derived.Test.YteagahcbffgjpaaGreatDoorKFnExactDropEntry5
import Derived.Test.YteagahcbffgjpaaGreatDoorKFnExactDropEntry2
import Derived.Test.YteagahcbffgjpaaGreatDoorKFnExactDropEntry6
import Derived.Test.YteagahcbffgjpaaGreatDoorKFnExactDropEntry4
namespace Go.Proofs.YteagahcbffgjpaaGreatDoor.G
open Go.RowKit Go.Proofs.YteagahcbffgjpaaGreatDoorW.PrintWords Go.Proofs.YteagahcbffgjpaaGreatDoorW.PrintLast Go.Proofs.YteagahcbffgjpaaGreatDoor.B
set_option linter.unusedVariables false
set_option linter.unusedSimpArgs false
def sufD (S:ByteArray):Bool:=decide (S.size=0) || wordD S
def restD (P F S:ByteArray):Bool:=partD P && (greatD F && sufD S)
def goodN (G:List ByteArray) (P F S:ByteArray):Bool:=G.all greatD && (decide (G.length≤3) && restD P F S)
theorem spec_tail (P F S:ByteArray) (hP:P.size≤4294967280):Ev (fun k=>(spec_l2Particle.f k P).bind fun aeB=>(if aeB=true then ((spec_l2Word.f k F).bind fun aeC=>(if aeC=true then (if 0<(F.size:Int) then ((spec_l2Upper.f (bt F 0)).bind fun aeD=>(if aeD=true then (if S.toList=([]:List UInt8) then (some true) else ((spec_l2Word.f k S).bind fun JB=>(some JB))) else (some false))) else (none)) else (some false))) else (some false))) (restD P F S):=by
  unfold restD;refine Ev.bind (spec_part P hP) ?_
  cases partD P with
  | false=>exact ev_neg (by simp) (Ev.now _)
  | true =>
    refine ev_pos rfl (Ev.bind (spec_word F) ?_);unfold greatD
    cases h:wordD F with
    | false=>exact ev_neg (by simp) (Ev.now _)
    | true =>
      have:=word_in h;refine ev_pos rfl (ev_pos (by omega) (ev_bind0 (spec_up _) ?_))
      cases upD (bt F 0) with
      | false=>exact ev_neg (by simp) (Ev.now _)
      | true =>
        refine ev_pos rfl ?_;unfold sufD;by_cases h:S.size=0
        · exact ev_pos ((nil_iff S).2 h) (ev_eq (Ev.now _) (by simp [h]))
        · exact ev_neg (fun e=>h ((nil_iff S).1 e)) (Ev.bind (spec_word S) (ev_eq (Ev.now _) (by simp [h])))
theorem spec_good_loop (G:List ByteArray) (P F S:ByteArray) (hG:G.length≤4611686018427387904) (hP:P.size≤4294967280) (d:Nat):∀ i:Nat,i≤G.length→G.length-i=d →
    Ev (fun k=>spec_l2Good.l0 k (i:Int) G P F S) ((G.drop i).all greatD && (decide (G.length≤3) && restD P F S)):=by
  induction d with
  | zero =>
    intro i h1 hd;refine Ev.step (f:=fun k=>if (G.length:Int)≤3 then ((spec_l2Particle.f k P).bind fun aeB=>(if aeB=true then ((spec_l2Word.f k F).bind fun aeC=>(if aeC=true then (if 0<(F.size:Int) then ((spec_l2Upper.f (bt F 0)).bind fun aeD=>(if aeD=true then (if S.toList=([]:List UInt8) then (some true) else ((spec_l2Word.f k S).bind fun JB=>(some JB))) else (some false))) else (none)) else (some false))) else (some false))) else some false) (fun k=>?_) ?_
    · simp only [spec_l2Good.l0];rw [if_neg (by omega)]
    · rw [List.drop_of_length_le (by omega)]
      by_cases h:G.length≤3
      · exact ev_pos (by omega) (ev_eq (spec_tail P F S hP) (by simp [h]))
      · exact ev_neg (by omega) (ev_eq (Ev.now _) (by simp [h]))
  | succ d ih =>
    intro i h1 hd
    have hi:i<G.length:=by omega
    have hw:wrap64 ((i:Int)+1)=((i+1:Nat):Int):=by rw [w64 (by omega) (by omega)];rfl
    rw [List.drop_eq_getElem_cons hi,List.all_cons,Bool.and_assoc];refine Ev.step (f:=fun k=>(spec_l2Word.f k G[i]).bind fun aJv=>(if aJv=true then (if 0<((G[i]).size:Int) then ((spec_l2Upper.f (bt G[i] 0)).bind fun eR=>(if eR=true then (spec_l2Good.l0 k ((i+1:Nat):Int) G P F S) else (some false))) else (none)) else (some false))) (fun k=>?_) ?_
    · simp only [spec_l2Good.l0,rd_get G i hi]
      rw [if_pos (by omega),if_pos (by omega),hw]
    · refine Ev.bind (spec_word _) ?_
      rw [show greatD G[i]=(wordD G[i] && upD (bt G[i] 0)) from rfl]
      cases h:wordD G[i] with
      | false=>exact ev_neg (by simp) (ev_eq (Ev.now _) (by simp))
      | true =>
        have:=word_in h;refine ev_pos rfl (ev_pos (by omega) (ev_bind0 (spec_up _) ?_))
        cases upD (bt G[i] 0) with
        | false=>exact ev_neg (by simp) (ev_eq (Ev.now _) (by simp))
        | true=>exact ev_pos rfl (ev_eq (ih (i+1) (by omega) (by omega)) (by simp))
theorem spec_name (G:List ByteArray) (P F S:ByteArray) (hG:G.length≤4611686018427387904) (hP:P.size≤4294967280):Ev (fun k=>spec_l2Good.f k G P F S) (goodN G P F S):=by
  have:=spec_good_loop G P F S hG hP _ 0 (by omega) rfl;unfold spec_l2Good.f goodN;rw [List.drop_zero] at this;exact this
theorem idx_loop (G:List ByteArray) (hG:G.length≤4611686018427387904) (d:Nat):∀ i:Nat,i≤G.length→G.length-i=d →
    ∃ v,Ev (fun k=>slices_IndexFunc_string_string_at_75.l0 k G (G.length:Int) (i:Int)) v∧decide (v ≥ 0)=!((G.drop i).all greatD):=by
  induction d with
  | zero =>
    intro i h1 hd;refine ⟨-1,Ev.step (f:=fun _=>some (-1)) (fun k=>?_) (Ev.now _),?_⟩
    · simp only [slices_IndexFunc_string_string_at_75.l0];rw [if_neg (by omega)]
    · rw [List.drop_of_length_le (by omega)];simp
  | succ d ih =>
    intro i h1 hd
    have hi:i<G.length:=by omega
    have hw:wrap64 ((i:Int)+1)=((i+1:Nat):Int):=by rw [w64 (by omega) (by omega)];rfl
    rw [List.drop_eq_getElem_cons hi,List.all_cons]
    have hst:∀ v,Ev (fun k=>(impl_IsValidName_1.f k G[i]).bind fun t=>if t=true then some (i:Int) else slices_IndexFunc_string_string_at_75.l0 k G (G.length:Int) ((i+1:Nat):Int)) v→Ev (fun k=>slices_IndexFunc_string_string_at_75.l0 k G (G.length:Int) (i:Int)) v:=by
      intro v hv;refine Ev.step (fun k=>?_) hv;simp only [slices_IndexFunc_string_string_at_75.l0,rd_get G i hi];rw [if_pos (by omega),if_pos (by omega),if_pos (by omega),hw]
    have hf:Ev (fun k=>impl_IsValidName_1.f k G[i]) (!greatD G[i]):=by
      unfold impl_IsValidName_1.f;exact Ev.bind (impl_great _) (Ev.now _)
    cases h:greatD G[i] with
    | true =>
      obtain ⟨v,hv,e⟩:=ih (i+1) (by omega) (by omega);refine ⟨v,hst v (Ev.bind hf (ev_neg (by simp [h]) hv)),?_⟩;rw [e];simp
    | false =>
      refine ⟨(i:Int),hst _ (Ev.bind hf (ev_pos (by simp [h]) (Ev.now _))),?_⟩;simp
theorem contains_ev (G:List ByteArray) (hG:G.length≤4611686018427387904):Ev (fun k=>slices_ContainsFunc_string_string_at_75.f k G) (!(G.all greatD)):=by
  obtain ⟨v,hv,e⟩:=idx_loop G hG _ 0 (by omega) rfl;unfold slices_ContainsFunc_string_string_at_75.f slices_IndexFunc_string_string_at_75.f;rw [List.drop_zero] at e;exact Ev.bind hv (ev_eq (Ev.now _) e)
theorem impl_valid (G:List ByteArray) (P F S:ByteArray) (hG:G.length≤4611686018427387904) (hP:P.size≤4294967280):Ev (fun k=>impl_IsValidName.f k G P F S) (goodN G P F S):=by
  have hj1:Ev (fun k=>impl_IsValidName.j0 k true G P F S) false:=Ev.step (f:=fun _=>some false) (fun k=>by simp [impl_IsValidName.j0]) (Ev.now _)
  have hj0:Ev (fun k=>impl_IsValidName.j0 k false G P F S) (restD P F S):=by
    refine Ev.step (f:=fun k=>(impl_isParticle.f k P).bind fun aJw=>(if aJw=true then ((impl_isGreatWord.f k F).bind fun aJx=>(if aJx=true then (if S.toList=([]:List UInt8) then (some true) else ((impl_isNameWord.f k S).bind fun aJy=>(some aJy))) else (some false))) else (some false))) (fun k=>by simp [impl_IsValidName.j0]) ?_;unfold restD;refine Ev.bind (impl_part P hP) ?_
    cases partD P with
    | false=>exact ev_neg (by simp) (Ev.now _)
    | true =>
      refine ev_pos rfl (Ev.bind (impl_great F) ?_)
      cases greatD F with
      | false=>exact ev_neg (by simp) (Ev.now _)
      | true =>
        refine ev_pos rfl ?_;unfold sufD;by_cases h:S.size=0
        · exact ev_pos ((nil_iff S).2 h) (ev_eq (Ev.now _) (by simp [h]))
        · exact ev_neg (fun e=>h ((nil_iff S).1 e)) (Ev.bind (impl_word S) (ev_eq (Ev.now _) (by simp [h])))
  unfold impl_IsValidName.f goodN;by_cases h:G.length≤3
  · refine ev_neg (by omega) (Ev.bind (contains_ev G hG) ?_)
    cases G.all greatD with
    | true=>exact ev_eq hj0 (by simp [h])
    | false=>exact ev_eq hj1 (by simp)
  · exact ev_pos (by omega) (ev_eq hj1 (by simp [h]))
def bulkN (G:List ByteArray) (P F S:ByteArray):Nat:=bulkS G+P.size+F.size+S.size
theorem szN_ev (G:List ByteArray) (P F S:ByteArray) (hb:∀ s∈G,s.size≤9223372036854775807) (hl:G.length≤9223372036854775807) (hP:P.size≤9223372036854775807) (hF:F.size≤9223372036854775807) (hS:S.size≤9223372036854775807) (left:Int) (h0:0≤left) (h1:left≤4611686018427387904) :
    Ev (fun k=>laws_szName.f k G P F S left) (lftOf left (bulkN G P F S)):=by
  unfold laws_szName.f;refine Ev.bind (szS_ev G hb hl left h0 h1) ?_;unfold bulkN;by_cases c:(bulkS G:Int)≤left
  · have e:lftOf left (bulkS G)=left-bulkS G:=by unfold lftOf;rw [if_pos c]
    rw [e];have w1:wrap64 (left-(bulkS G:Int)-(P.size:Int))=left-(bulkS G:Int)-(P.size:Int):=w64 (by omega) (by omega);rw [w1];refine ev_neg (by omega) ?_;by_cases c1:left-(bulkS G:Int)-(P.size:Int)<0
    · exact ev_pos c1 (ev_eq (Ev.now _) (by unfold lftOf;rw [if_neg (by omega)]))
    refine ev_neg c1 ?_;have w2:wrap64 (left-(bulkS G:Int)-(P.size:Int)-(F.size:Int))=left-(bulkS G:Int)-(P.size:Int)-(F.size:Int):=w64 (by omega) (by omega);rw [w2];by_cases c2:left-(bulkS G:Int)-(P.size:Int)-(F.size:Int)<0
    · exact ev_pos c2 (ev_eq (Ev.now _) (by unfold lftOf;rw [if_neg (by omega)]))
    refine ev_neg c2 ?_;have w3:wrap64 (left-(bulkS G:Int)-(P.size:Int)-(F.size:Int)-(S.size:Int))=left-(bulkS G:Int)-(P.size:Int)-(F.size:Int)-(S.size:Int):=w64 (by omega) (by omega);rw [w3];by_cases c3:left-(bulkS G:Int)-(P.size:Int)-(F.size:Int)-(S.size:Int)<0
    · exact ev_pos c3 (ev_eq (Ev.now _) (by unfold lftOf;rw [if_neg (by omega)]))
    · exact ev_neg c3 (ev_eq (Ev.now _) (by unfold lftOf;rw [if_pos (by omega)];omega))
  · have e:lftOf left (bulkS G)=-1:=by unfold lftOf;rw [if_neg c]
    rw [e];exact ev_pos (by omega) (ev_eq (Ev.now _) (by unfold lftOf;rw [if_neg (by omega)]))
theorem toN_ev (G:List ByteArray) (P F S:ByteArray) (hl:G.length≤17592186044416):Ev (fun k=>laws_toName.f k G P F S) (G,P,F,S):=by
  unfold laws_toName.f;exact Ev.bind (toS_ev G hl) (Ev.now _)
theorem eqS_same_loop (l:List ByteArray) (hl:l.length≤4611686018427387904) (d:Nat):∀ i:Nat,i≤l.length→l.length-i=d→Ev (fun k=>laws_eqStringS.l0 k l l (i:Int)) true:=by
  induction d with
  | zero =>
    intro i h1 hd;refine Ev.step (f:=fun _=>some true) (fun k=>?_) (Ev.now _);simp only [laws_eqStringS.l0];rw [if_neg (by omega)]
  | succ d ih =>
    intro i h1 hd
    have hw:wrap64 ((i:Int)+1)=((i+1:Nat):Int):=by rw [w64 (by omega) (by omega)];rfl
    refine Ev.step (f:=fun k=>laws_eqStringS.l0 k l l ((i+1:Nat):Int)) (fun k=>?_) (ih (i+1) (by omega) (by omega));simp only [laws_eqStringS.l0];rw [if_pos (by omega),if_pos (by omega),if_pos (by omega),if_pos trivial,hw]
theorem eqS_same (l:List ByteArray) (hl:l.length≤4611686018427387904):Ev (fun k=>laws_eqStringS.f k l l) true:=by
  unfold laws_eqStringS.f;exact ev_pos rfl (eqS_same_loop l hl _ 0 (by omega) rfl)
theorem eqN_same (G:List ByteArray) (P F S:ByteArray) (hl:G.length≤4611686018427387904):Ev (fun k=>laws_eqName.f k G P F S G P F S) true:=by
  unfold laws_eqName.f;exact Ev.bind (eqS_same G hl) (ev_pos rfl (ev_pos rfl (ev_pos rfl (ev_pos rfl (Ev.now _)))))
end Go.Proofs.YteagahcbffgjpaaGreatDoor.G

namespace Go.Proofs.YteagahcbffgjpaaGreatDoor.G
open Go.RowKit Go.Proofs.YteagahcbffgjpaaGreatDoorW.PrintWords Go.Proofs.YteagahcbffgjpaaGreatDoorW.PrintLast Go.Proofs.YteagahcbffgjpaaGreatDoor.B Go.Proofs.YteagahcbffgjpaaGreatDoor.Opn
set_option linter.unusedVariables false
set_option linter.unusedSimpArgs false
def conv (x:S78):S69:=⟨x.f0,x.f1,x.f2,x.f3⟩
def bulkL (l:List S78):Nat:=(l.map fun x=>bulkN x.f0 x.f1 x.f2 x.f3).sum
theorem rd24 (l:List S78) (i:Nat) (h:i<l.length):rd_T78 l (i:Int)=l[i]:=by simp [rd_T78,h]
theorem rd27 (l:List S69) (i:Nat) (h:i<l.length):rd_T69 l (i:Int)=l[i]:=by simp [rd_T69,h]
theorem bulkL_cons (a:S78) (l:List S78):bulkL (a :: l)=bulkN a.f0 a.f1 a.f2 a.f3+bulkL l:=by simp [bulkL]
theorem bulkL_mem {l:List S78} {x:S78} (h:x∈l):bulkN x.f0 x.f1 x.f2 x.f3≤bulkL l:=by
  induction l with
  | nil=>simp at h
  | cons a l ih =>
    rw [bulkL_cons]
    rcases List.mem_cons.1 h with rfl|h
    · omega
    · have:=ih h;omega
theorem szL_loop (l:List S78) (hb:∀ x∈l,ok78 x) (hl:l.length≤9223372036854775807) (d:Nat):∀ (left:Int) (i:Nat),0≤left→left≤1048576→l.length-i=d→i≤l.length →
    Ev (fun k=>laws_szNameS.l0 k l left (i:Int)) (lftOf left (bulkL (l.drop i))):=by
  induction d with
  | zero =>
    intro left i h0 h1 hd hi;refine Ev.step (f:=fun _=>some left) (fun k=>?_) (ev_eq (Ev.now _) ?_)
    · simp only [laws_szNameS.l0];rw [if_neg (by omega)]
    · rw [List.drop_of_length_le (by omega)];unfold lftOf bulkL;simp;omega
  | succ d ih =>
    intro left i h0 h1 hd hi
    have hlt:i<l.length:=by omega
    obtain ⟨b0,b1,b2,b3⟩:=hb l[i] (List.getElem_mem hlt);have hsz:=szN_ev (l[i]).f0 (l[i]).f1 (l[i]).f2 (l[i]).f3 b0.2 b0.1 b1 b2 b3 left h0 (by omega)
    have hw:wrap64 ((i:Int)+1)=((i+1:Nat):Int):=by rw [w64 (by omega) (by omega)];rfl
    rw [List.drop_eq_getElem_cons hlt,bulkL_cons];refine Ev.step (f:=fun k=>(laws_szName.f k (l[i]).f0 (l[i]).f1 (l[i]).f2 (l[i]).f3 left).bind fun qH=>(if qH<0 then (some (-1)) else (laws_szNameS.l0 k l qH ((i+1:Nat):Int)))) (fun k=>?_) (Ev.bind hsz ?_)
    · simp only [laws_szNameS.l0,rd24 l i hlt,hw]
      rw [if_pos (by omega),if_pos (by omega)]
    · by_cases c:(bulkN (l[i]).f0 (l[i]).f1 (l[i]).f2 (l[i]).f3:Int)≤left
      · have e:lftOf left (bulkN (l[i]).f0 (l[i]).f1 (l[i]).f2 (l[i]).f3)=left-bulkN (l[i]).f0 (l[i]).f1 (l[i]).f2 (l[i]).f3:=by unfold lftOf;rw [if_pos c]
        rw [e];refine ev_neg (by omega) (ev_eq (ih _ (i+1) (by omega) (by omega) (by omega) (by omega)) ?_)
        unfold lftOf;split <;> split <;> omega
      · have e:lftOf left (bulkN (l[i]).f0 (l[i]).f1 (l[i]).f2 (l[i]).f3)=-1:=by unfold lftOf;rw [if_neg c]
        rw [e];exact ev_pos (by omega) (ev_eq (Ev.now _) (by unfold lftOf;rw [if_neg (by omega)]))
theorem szL_ev (l:List S78) (hb:∀ x∈l,ok78 x) (hl:l.length≤9223372036854775807) (left:Int) (h0:0≤left) (h1:left≤1048576) :
    Ev (fun k=>laws_szNameS.f k l left) (lftOf left (l.length+bulkL l)):=by
  unfold laws_szNameS.f;have hw:wrap64 (left-(l.length:Int))=left-(l.length:Int):=w64 (by omega) (by omega);rw [hw];by_cases hn:left-(l.length:Int)<0
  · exact ev_pos hn (ev_eq (Ev.now _) (by unfold lftOf;rw [if_neg (by omega)]))
  · refine ev_neg hn (ev_eq (szL_loop l hb hl l.length (left-l.length) 0 (by omega) (by omega) rfl (by omega)) ?_)
    rw [List.drop_zero]
    unfold lftOf;split <;> split <;> omega
theorem toL_loop (l:List S78) (hl:l.length≤1048576) (hs:∀ x∈l,x.f0.length≤1048576) (d:Nat):∀ (i:Nat),l.length-i=d→i≤l.length →
    Ev (fun k=>laws_toNameS.l0 k l ((l.take i).map conv++List.replicate (l.length-i) z69) (i:Int)) (l.map conv):=by
  induction d with
  | zero =>
    intro i hd hi;refine Ev.step (f:=fun _=>some (l.map conv)) (fun k=>?_) (Ev.now _);simp only [laws_toNameS.l0];rw [if_neg (by omega),hd,List.take_of_length_le (by omega)];simp
  | succ d ih =>
    intro i hd hi
    have hlt:i<l.length:=by omega
    have hw:wrap64 ((i:Int)+1)=((i+1:Nat):Int):=by rw [w64 (by omega) (by omega)];rfl
    have hlen:((l.take i).map conv).length=i:=by simp;omega
    have hall:((l.take i).map conv++List.replicate (l.length-i) z69).length=l.length:=by simp;omega
    have e:((l.take i).map conv++List.replicate (l.length-i) z69).set i (conv l[i])=(l.take (i+1)).map conv++List.replicate (l.length-(i+1)) z69:=by
      rw [List.set_append_right _ _ (by omega),hlen,Nat.sub_self,show l.length-i=(l.length-(i+1))+1 by omega,List.replicate_succ,List.set_cons_zero,List.take_succ_eq_append_getElem hlt,List.map_append,List.append_assoc];rfl
    have ht:=toN_ev (l[i]).f0 (l[i]).f1 (l[i]).f2 (l[i]).f3 (by have:=hs _ (List.getElem_mem hlt);omega);refine Ev.step (f:=fun k=>(laws_toName.f k (l[i]).f0 (l[i]).f1 (l[i]).f2 (l[i]).f3).bind fun No=>laws_toNameS.l0 k l (((l.take i).map conv++List.replicate (l.length-i) z69).set i (⟨No.1,No.2.1,No.2.2.1,No.2.2.2⟩:S69)) ((i+1:Nat):Int)) (fun k=>?_) (Ev.bind ht ?_)
    · have a3:(i:Int)<((((l.take i).map conv++List.replicate (l.length-i) z69).length:Nat):Int):=by rw [hall];omega
      simp only [laws_toNameS.l0,rd24 l i hlt,hw,if_pos a3,Int.toNat_natCast];rw [if_pos (by omega),if_pos (by omega)]
    · have hq:=ih (i+1) (by omega) (by omega)
      rw [← e] at hq;exact hq
theorem toL_ev (l:List S78) (hl:l.length≤1048576) (hs:∀ x∈l,x.f0.length≤1048576):Ev (fun k=>laws_toNameS.f k l) (l.map conv):=by
  unfold laws_toNameS.f;refine ev_pos (by omega) (ev_pos (by omega) ?_);have:=toL_loop l hl hs l.length 0 rfl (by omega)
  simpa using this
def goodS (x:S69):Bool:=goodN x.f0 x.f1 x.f2 x.f3
def okS (x:S69):Prop:=x.f0.length≤4611686018427387904∧x.f1.size≤4294967280
def listD (l:List S69):Bool:=l.all goodS && decide (l.length≤4)
theorem spec_list_loop (l:List S69) (ho:∀ x∈l,okS x) (hl:l.length≤1048576) (d:Nat):∀ i:Nat,i≤l.length→min l.length 5-i=d→i≤5 →
    Ev (fun k=>spec_l2List.l0 k l (i:Int)) (((l.take 5).drop i).all goodS && decide (l.length≤4)):=by
  have stop:∀ i:Nat,Ev (fun k=>spec_l2List.j1 k l (i:Int) false) (decide (l.length≤4)):=fun i=>by
    refine Ev.step (f:=fun _=>some (decide ((l.length:Int)≤4))) (fun k=>by simp [spec_l2List.j1]) (ev_eq (Ev.now _) ?_);rw [decide_eq_decide];omega
  induction d with
  | zero =>
    intro i h1 hd h5;rw [List.drop_of_length_le (by rw [List.length_take];omega)];refine Ev.step (f:=fun k=>spec_l2List.j1 k l (i:Int) false) (fun k=>?_) (ev_eq (stop i) (by simp));simp only [spec_l2List.l0];by_cases c:i<l.length
    · rw [if_pos (by omega),df (by omega)]
    · rw [if_neg (by omega)]
  | succ d ih =>
    intro i h1 hd h5
    have hi:i<l.length:=by omega
    have hw:wrap64 ((i:Int)+1)=((i+1:Nat):Int):=by rw [w64 (by omega) (by omega)];rfl
    have hi':i<(l.take 5).length:=by rw [List.length_take];omega
    have hx:=ho _ (List.getElem_mem hi);rw [List.drop_eq_getElem_cons hi',List.all_cons,List.getElem_take,Bool.and_assoc];refine Ev.step (f:=fun k=>spec_l2List.j1 k l (i:Int) true) (fun k=>?_) (Ev.step (f:=fun k=>(spec_l2Good.f k (l[i]).f0 (l[i]).f1 (l[i]).f2 (l[i]).f3).bind fun CP=>(if CP=true then (spec_l2List.l0 k l ((i+1:Nat):Int)) else (some false))) (fun k=>?_) (Ev.bind (spec_name _ _ _ _ hx.1 hx.2) ?_))
    · simp only [spec_l2List.l0]
      rw [if_pos (by omega),dt (by omega)]
    · simp only [spec_l2List.j1,rd27 l i hi,hw]
      rw [if_pos trivial,if_pos (by omega),if_pos (by omega)]
    · show Ev _ (goodN (l[i]).f0 (l[i]).f1 (l[i]).f2 (l[i]).f3 && _)
      cases goodN (l[i]).f0 (l[i]).f1 (l[i]).f2 (l[i]).f3 with
      | true=>exact ev_pos rfl (ev_eq (ih (i+1) (by omega) (by omega) (by omega)) (by simp))
      | false=>exact ev_neg (by simp) (ev_eq (Ev.now _) (by simp))
theorem spec_list (l:List S69) (ho:∀ x∈l,okS x) (hl:l.length≤1048576):Ev (fun k=>spec_l2List.f k l) (listD l):=by
  have h:=spec_list_loop l ho hl _ 0 (by omega) rfl (by omega);unfold spec_l2List.f listD;refine ev_eq h ?_;rw [List.drop_zero];by_cases c:l.length≤4
  · rw [List.take_of_length_le (by omega)]
  · rw [df c];simp
theorem idxN_loop (l:List S69) (ho:∀ x∈l,okS x) (hl:l.length≤1048576) (d:Nat):∀ i:Nat,i≤l.length→l.length-i=d →
    ∃ v,Ev (fun k=>impl_Name_73_at_62.l0 k l (l.length:Int) (i:Int)) v∧decide (v ≥ 0)=!((l.drop i).all goodS):=by
  induction d with
  | zero =>
    intro i h1 hd;refine ⟨-1,Ev.step (f:=fun _=>some (-1)) (fun k=>?_) (Ev.now _),?_⟩
    · simp only [impl_Name_73_at_62.l0];rw [if_neg (by omega)]
    · rw [List.drop_of_length_le (by omega)];simp
  | succ d ih =>
    intro i h1 hd
    have hi:i<l.length:=by omega
    have hw:wrap64 ((i:Int)+1)=((i+1:Nat):Int):=by rw [w64 (by omega) (by omega)];rfl
    have hx:=ho _ (List.getElem_mem hi);rw [List.drop_eq_getElem_cons hi,List.all_cons]
    have hst:∀ v,Ev (fun k=>(impl_areNames_1.f k (l[i]).f0 (l[i]).f1 (l[i]).f2 (l[i]).f3).bind fun t=>if t=true then some (i:Int) else impl_Name_73_at_62.l0 k l (l.length:Int) ((i+1:Nat):Int)) v→Ev (fun k=>impl_Name_73_at_62.l0 k l (l.length:Int) (i:Int)) v:=by
      intro v hv;refine Ev.step (fun k=>?_) hv;simp only [impl_Name_73_at_62.l0,rd27 l i hi,hw];rw [if_pos (by omega),if_pos (by omega),if_pos (by omega)]
    have hf:Ev (fun k=>impl_areNames_1.f k (l[i]).f0 (l[i]).f1 (l[i]).f2 (l[i]).f3) (!goodS l[i]):=by
      unfold impl_areNames_1.f;exact Ev.bind (impl_valid _ _ _ _ hx.1 hx.2) (Ev.now _)
    cases h:goodS l[i] with
    | true =>
      obtain ⟨v,hv,e⟩:=ih (i+1) (by omega) (by omega);refine ⟨v,hst v (Ev.bind hf (ev_neg (by simp [h]) hv)),?_⟩;rw [e];simp
    | false =>
      refine ⟨(i:Int),hst _ (Ev.bind hf (ev_pos (by simp [h]) (Ev.now _))),?_⟩;simp
theorem impl_list (l:List S69) (ho:∀ x∈l,okS x) (hl:l.length≤1048576):Ev (fun k=>impl_areNames.f k l) (listD l):=by
  unfold impl_areNames.f listD;by_cases c:l.length≤4
  · obtain ⟨v,hv,e⟩:=idxN_loop l ho hl _ 0 (by omega) rfl
    rw [List.drop_zero] at e;refine ev_pos (by omega) (Ev.bind (g:=fun k=>impl_Name_61_at_62.f k l) (a:=decide (v ≥ 0)) ?_ (ev_eq (Ev.now _) ?_))
    · unfold impl_Name_61_at_62.f impl_Name_73_at_62.f
      exact Ev.bind hv (Ev.now _)
    · rw [e];simp [c]
  · exact ev_neg (by omega) (ev_eq (Ev.now _) (by simp [c]))
theorem eqL_loop (l:List S69) (ho:∀ x∈l,okS x) (hl:l.length≤1048576) (d:Nat):∀ i:Nat,i≤l.length→l.length-i=d→Ev (fun k=>laws_eqNameS.l0 k l l (i:Int)) true:=by
  induction d with
  | zero =>
    intro i h1 hd;refine Ev.step (f:=fun _=>some true) (fun k=>?_) (Ev.now _);simp only [laws_eqNameS.l0];rw [if_neg (by omega)]
  | succ d ih =>
    intro i h1 hd
    have hi:i<l.length:=by omega
    have hw:wrap64 ((i:Int)+1)=((i+1:Nat):Int):=by rw [w64 (by omega) (by omega)];rfl
    refine Ev.step (f:=fun k=>(laws_eqName.f k (l[i]).f0 (l[i]).f1 (l[i]).f2 (l[i]).f3 (l[i]).f0 (l[i]).f1 (l[i]).f2 (l[i]).f3).bind fun pW=>(if pW=true then (laws_eqNameS.l0 k l l ((i+1:Nat):Int)) else (some false))) (fun k=>?_) (Ev.bind (eqN_same _ _ _ _ (ho _ (List.getElem_mem hi)).1) (ev_pos rfl (ih (i+1) (by omega) (by omega))));simp only [laws_eqNameS.l0,rd27 l i hi,hw];rw [if_pos (by omega),if_pos (by omega),if_pos (by omega)]
theorem eqL_same (l:List S69) (ho:∀ x∈l,okS x) (hl:l.length≤1048576):Ev (fun k=>laws_eqNameS.f k l l) true:=by
  unfold laws_eqNameS.f;exact ev_pos rfl (eqL_loop l ho hl _ 0 (by omega) rfl)
theorem conv_ok {l:List S78} (h:bulkL l≤1048576):∀ x∈l.map conv,okS x:=by
  intro x hx;obtain ⟨y,hy,rfl⟩:=List.mem_map.1 hx;have:=bulkL_mem hy;unfold bulkN bulkS at this;exact ⟨by show y.f0.length≤_;omega,by show y.f1.size≤_;omega⟩
end Go.Proofs.YteagahcbffgjpaaGreatDoor.G

namespace Go.Proofs.YteagahcbffgjpaaGreatDoor.G
open Go.RowKit Go.Proofs.YteagahcbffgjpaaGreatDoorW.PrintWords Go.Proofs.YteagahcbffgjpaaGreatDoorW.PrintLast
set_option linter.unusedVariables false
set_option linter.unusedSimpArgs false
def daysD (y m:Int):Int :=
  if m=2 then (if Int.tmod y 4=0∧(Int.tmod y 100≠0∨Int.tmod y 400=0) then 29 else 28) else if m=4∨m=6∨m=9∨m=11 then 30 else 31
def goodD (y m d:Int) (c:Bool):Bool :=
  if y=0∧m=0∧d=0∧c=false then true
  else if ¬ (1≤y∧y≤2999∧0≤m∧m≤12) then false
  else if m=0 then decide (d=0)
  else if c then false else decide (0≤d∧d≤daysD y m)
theorem tmod_400_4 (y:Int) (h:Int.tmod y 400=0):Int.tmod y 4=0:=by
  have h1:(400:Int) ∣ y:=Int.dvd_of_tmod_eq_zero h;exact Int.tmod_eq_zero_of_dvd (Int.dvd_trans (by decide) h1)
theorem spec_days (k:Nat) (y m:Int):spec_l3Days.f (k+1) y m=some (daysD y m):=by
  unfold spec_l3Days.f daysD;by_cases h2:m=2
  · subst h2
    simp only [if_true,spec_l3Days.j0]
    by_cases a:Int.tmod y 4=0 <;> by_cases b:Int.tmod y 100=0 <;> by_cases c:Int.tmod y 400=0 <;> simp [a,b,c]
    · exact a (tmod_400_4 y c)
    · exact a (tmod_400_4 y c)
  · by_cases a:m=4 <;> by_cases b:m=6 <;> by_cases c:m=9 <;> by_cases d:m=11 <;> simp [h2,a,b,c,d]
theorem impl_days (y m:Int):impl_daysInMonth.f y m=some (daysD y m):=by
  unfold impl_daysInMonth.f daysD;by_cases h2:m=2
  · subst h2
    by_cases a:Int.tmod y 4=0 <;> by_cases b:Int.tmod y 100=0 <;> by_cases c:Int.tmod y 400=0 <;> simp [a,b,c]
  · by_cases a:m=4 <;> by_cases b:m=6 <;> by_cases c:m=9 <;> by_cases d:m=11 <;> simp [h2,a,b,c,d]
theorem spec_good (k:Nat) (y m d:Int) (c:Bool):spec_l3Good.f (k+2) y m d c=some (goodD y m d c):=by
  unfold spec_l3Good.f goodD;by_cases z:y=0∧m=0∧d=0∧c=false
  · obtain ⟨rfl,rfl,rfl,rfl⟩:=z;simp
  · rw [if_neg (by simpa using z),if_neg z]
    simp only [spec_l1In.f]
    by_cases a:1≤y <;> by_cases b:y≤2999 <;> by_cases e:0≤m <;> by_cases f:m≤12 <;> simp [a,b,e,f,spec_l3Good.j0]
    rw [spec_days]
    by_cases g:m=0 <;> by_cases h:d=0 <;> by_cases i:0≤d <;> cases c <;> simp [g,h,i,spec_l1In.f,impl_inside.f]
theorem impl_good (k:Nat) (y m d:Int) (c:Bool):impl_IsValidDate.f (k+2) y m d c=some (goodD y m d c):=by
  unfold impl_IsValidDate.f goodD;by_cases z:y=0∧m=0∧d=0∧c=false
  · obtain ⟨rfl,rfl,rfl,rfl⟩:=z;simp
  · rw [if_neg (by simpa using z),if_neg z]
    simp only [impl_inside.f]
    by_cases a:1≤y <;> by_cases b:y≤2999 <;> by_cases e:0≤m <;> by_cases f:m≤12 <;> simp [a,b,e,f,impl_IsValidDate.j0]
    rw [impl_days]
    by_cases g:m=0 <;> by_cases h:d=0 <;> by_cases i:0≤d <;> cases c <;> simp [g,h,i,spec_l1In.f,impl_inside.f]
end Go.Proofs.YteagahcbffgjpaaGreatDoor.G

namespace Go.Proofs.YteagahcbffgjpaaGreatDoor.G
open Go.RowKit Go.Proofs.YteagahcbffgjpaaGreatDoorW.PrintWords Go.Proofs.YteagahcbffgjpaaGreatDoorW.PrintLast Go.Proofs.YteagahcbffgjpaaGreatDoor.B Go.Proofs.YteagahcbffgjpaaGreatDoor.Opn
set_option linter.unusedVariables false
set_option linter.unusedSimpArgs false
def kindD (n:Int):Bool:=decide (1≤n) && decide (n≤4)
def volD (n:Int):Bool:=decide (0≤n) && decide (n≤9999)
def crossD (X K:ByteArray):Bool:=decide (X.size=0) || (keyD X && (X.toList != K.toList))
theorem in_kind (n:Int):(if n ≥ 1 then some (decide (n≤4)) else some false)=some (kindD n):=by
  unfold kindD;by_cases h:n ≥ 1
  · rw [if_pos h,dt (show 1≤n from h)];rfl
  · rw [if_neg h,df (show ¬ 1≤n from h)];rfl
theorem in_vol (n:Int):(if n ≥ 0 then some (decide (n≤9999)) else some false)=some (volD n):=by
  unfold volD;by_cases h:n ≥ 0
  · rw [if_pos h,dt (show 0≤n from h)];rfl
  · rw [if_neg h,df (show ¬ 0≤n from h)];rfl
theorem spec_date (y m d:Int) (c:Bool):Ev (fun k=>spec_l3Good.f k y m d c) (goodD y m d c):=⟨2,fun k hk=>by
  obtain ⟨k',rfl⟩:∃ k',k=k'+2:=⟨k-2,by omega⟩
  exact spec_good k' y m d c⟩
theorem impl_date (y m d:Int) (c:Bool):Ev (fun k=>impl_IsValidDate.f k y m d c) (goodD y m d c):=⟨2,fun k hk=>by
  obtain ⟨k',rfl⟩:∃ k',k=k'+2:=⟨k-2,by omega⟩
  exact impl_good k' y m d c⟩
theorem spec_cross (X K:ByteArray):Ev (fun k=>if X.toList=([]:List UInt8) then (some true) else ((spec_l4Key.f k X).bind fun Sk=>(if Sk=true then (some (X.toList != K.toList)) else (some false)))) (crossD X K):=by
  unfold crossD;by_cases h:X.size=0
  · exact ev_pos ((nil_iff X).2 h) (ev_eq (Ev.now _) (by simp [h]))
  · refine ev_neg (fun e=>h ((nil_iff X).1 e)) (Ev.bind (spec_key X) ?_)
    cases keyD X with
    | true=>exact ev_pos rfl (ev_eq (Ev.now _) (by simp [h]))
    | false=>exact ev_neg (by simp) (ev_eq (Ev.now _) (by simp [h]))
theorem impl_cross (X K:ByteArray):Ev (fun k=>if X.toList=([]:List UInt8) then (some true) else ((impl_isKey.f k X).bind fun Sk=>(if Sk=true then (some (X.toList != K.toList)) else (some false)))) (crossD X K):=by
  unfold crossD;by_cases h:X.size=0
  · exact ev_pos ((nil_iff X).2 h) (ev_eq (Ev.now _) (by simp [h]))
  · refine ev_neg (fun e=>h ((nil_iff X).1 e)) (Ev.bind (impl_key X) ?_)
    cases keyD X with
    | true=>exact ev_pos rfl (ev_eq (Ev.now _) (by simp [h]))
    | false=>exact ev_neg (by simp) (ev_eq (Ev.now _) (by simp [h]))
def headE (K:ByteArray) (kd:Int) (A E:List S69):Bool:=keyD K && (kindD kd && (listD A && listD E))
def textsE (T C Pb Pg:ByteArray):Bool:=textD T && (textD C && (textD Pb && textD Pg))
def tailE (y m d:Int) (c:Bool) (v:Int):Bool:=goodD y m d c && volD v
def entD (K:ByteArray) (kd:Int) (A E:List S69) (T C Pb:ByteArray) (y m d:Int) (c:Bool) (v:Int) (Pg X:ByteArray):Bool :=
  headE K kd A E && (textsE T C Pb Pg && (tailE y m d c v && crossD X K))
theorem ev_and {g:Nat→Option Bool} {f n:Nat→Option Bool} {b r:Bool} (h:Ev g b) (hn:Ev n false) (hf:b=true→Ev f r):Ev (fun k=>(g k).bind fun t=>if t=true then f k else n k) (b && r):=by
  refine Ev.bind h ?_
  cases b with
  | true=>exact ev_pos rfl (ev_eq (hf rfl) (by simp))
  | false=>exact ev_neg (by simp) (ev_eq hn (by simp))
theorem ev_and0 {o:Option Bool} {f n:Nat→Option Bool} {b r:Bool} (h:o=some b) (hn:Ev n false) (hf:b=true→Ev f r):Ev (fun k=>o.bind fun t=>if t=true then f k else n k) (b && r):=by
  subst h
  cases b with
  | true=>exact ev_bind0 rfl (ev_pos rfl (ev_eq (hf rfl) (by simp)))
  | false=>exact ev_bind0 rfl (ev_neg (by simp) (ev_eq hn (by simp)))
theorem ev_last {g f n:Nat→Option Bool} {J:Nat→Bool→Option Bool} {b r:Bool} (h:Ev g b) (hn:Ev (fun k=>J k true) false) (hf:Ev (fun k=>J k false) r):Ev (fun k=>(g k).bind fun t=>J k (!t)) (b && r):=by
  refine Ev.bind h ?_
  cases b with
  | true=>exact ev_eq hf (by simp)
  | false=>exact ev_eq hn (by simp)
section
variable (K:ByteArray) (kd:Int) (A E:List S69) (T C Pb:ByteArray) (y m d:Int) (c:Bool) (v:Int) (Pg X:ByteArray)
theorem spec_ent (hA:∀ x∈A,okS x) (lA:A.length≤1048576) (hE:∀ x∈E,okS x) (lE:E.length≤1048576):Ev (fun k=>spec_l4Entry.f k K kd A E T C Pb y m d c v Pg X) (entD K kd A E T C Pb y m d c v Pg X):=by
  have n1:Ev (fun k=>spec_l4Entry.j1 k true K kd A E T C Pb y m d c v Pg X) false:=Ev.step (f:=fun _=>some false) (fun k=>by simp [spec_l4Entry.j1]) (Ev.now _);have n0:Ev (fun k=>spec_l4Entry.j0 k true K kd A E T C Pb y m d c v Pg X) false:=Ev.step (f:=fun _=>some false) (fun k=>by simp [spec_l4Entry.j0]) (Ev.now _)
  have p1:Ev (fun k=>spec_l4Entry.j1 k false K kd A E T C Pb y m d c v Pg X) (goodD y m d c && (volD v && crossD X K)):=by
    refine Ev.step (f:=fun k=>(spec_l3Good.f k y m d c).bind fun aJz=>(if aJz=true then ((spec_l1In.f v 0 9999).bind fun aJA=>(if aJA=true then (if X.toList=([]:List UInt8) then (some true) else ((spec_l4Key.f k X).bind fun Sk=>(if Sk=true then (some (X.toList != K.toList)) else (some false)))) else (some false))) else (some false))) (fun k=>by simp [spec_l4Entry.j1]) ?_;exact ev_and (spec_date y m d c) (Ev.now _) (fun _=>ev_and0 (by unfold spec_l1In.f;exact in_vol v) (Ev.now _) (fun _=>spec_cross X K))
  have p0:Ev (fun k=>spec_l4Entry.j0 k false K kd A E T C Pb y m d c v Pg X) (textD T && (textD C && (textD Pb && (textD Pg && (goodD y m d c && (volD v && crossD X K)))))):=by
    refine Ev.step (f:=fun k=>(spec_l4Text.f k T).bind fun aJB=>(if aJB=true then ((spec_l4Text.f k C).bind fun aJC=>(if aJC=true then ((spec_l4Text.f k Pb).bind fun aJD=>(if aJD=true then ((spec_l4Text.f k Pg).bind fun aJE=>(spec_l4Entry.j1 k (!aJE) K kd A E T C Pb y m d c v Pg X)) else (spec_l4Entry.j1 k true K kd A E T C Pb y m d c v Pg X))) else (spec_l4Entry.j1 k true K kd A E T C Pb y m d c v Pg X))) else (spec_l4Entry.j1 k true K kd A E T C Pb y m d c v Pg X))) (fun k=>by simp [spec_l4Entry.j0]) ?_;exact ev_and (spec_text T) n1 (fun _=>ev_and (spec_text C) n1 (fun _=>ev_and (spec_text Pb) n1 (fun _=>ev_last (f:=fun _=>none) (n:=fun _=>none) (J:=fun k b=>spec_l4Entry.j1 k b K kd A E T C Pb y m d c v Pg X) (spec_text Pg) n1 p1)))
  unfold spec_l4Entry.f;refine ev_eq (ev_and (spec_key K) n0 (fun _=>ev_and0 (by unfold spec_l1In.f;exact in_kind kd) n0 (fun _=>ev_and (spec_list A hA lA) n0 (fun _=>ev_last (f:=fun _=>none) (n:=fun _=>none) (J:=fun k b=>spec_l4Entry.j0 k b K kd A E T C Pb y m d c v Pg X) (spec_list E hE lE) n0 p0)))) ?_;unfold entD headE textsE tailE;simp only [Bool.and_assoc]
theorem impl_ent (hA:∀ x∈A,okS x) (lA:A.length≤1048576) (hE:∀ x∈E,okS x) (lE:E.length≤1048576):Ev (fun k=>impl_IsValidEntry.f k K kd A E T C Pb y m d c v Pg X) (entD K kd A E T C Pb y m d c v Pg X):=by
  have n0:Ev (fun k=>impl_IsValidEntry.j0 k true K kd A E T C Pb y m d c v Pg X) false:=Ev.step (f:=fun _=>some false) (fun k=>by simp [impl_IsValidEntry.j0]) (Ev.now _)
  have p0:Ev (fun k=>impl_IsValidEntry.j0 k false K kd A E T C Pb y m d c v Pg X) (textD T && (textD C && (textD Pb && (textD Pg && crossD X K)))):=by
    refine Ev.step (f:=fun k=>(impl_isText.f k T).bind fun aJF=>(if aJF=true then ((impl_isText.f k C).bind fun aJG=>(if aJG=true then ((impl_isText.f k Pb).bind fun aJH=>(if aJH=true then ((impl_isText.f k Pg).bind fun aJI=>(if aJI=true then (if X.toList=([]:List UInt8) then (some true) else ((impl_isKey.f k X).bind fun aJJ=>(if aJJ=true then (some (X.toList != K.toList)) else (some false)))) else (some false))) else (some false))) else (some false))) else (some false))) (fun k=>by simp [impl_IsValidEntry.j0]) ?_;exact ev_and (impl_text T) (Ev.now _) (fun _=>ev_and (impl_text C) (Ev.now _) (fun _=>ev_and (impl_text Pb) (Ev.now _) (fun _=>ev_and (impl_text Pg) (Ev.now _) (fun _=>impl_cross X K))))
  have hk:impl_isKind.f kd=some (kindD kd):=by unfold impl_isKind.f impl_inside.f;rw [in_kind];rfl
  have hv:impl_inside.f v 0 9999=some (volD v):=by unfold impl_inside.f;exact in_vol v
  unfold impl_IsValidEntry.f;refine ev_eq (ev_and (impl_key K) n0 (fun _=>ev_and0 hk n0 (fun _=>ev_and (impl_list A hA lA) n0 (fun _=>ev_and (impl_list E hE lE) n0 (fun _=>ev_and (impl_date y m d c) n0 (fun _=>ev_last (f:=fun _=>none) (n:=fun _=>none) (J:=fun k b=>impl_IsValidEntry.j0 k b K kd A E T C Pb y m d c v Pg X) (Ev.congr (fun _=>hv) (Ev.now _)) n0 p0)))))) ?_;unfold entD headE textsE tailE;simp only [Bool.and_assoc]
  cases keyD K <;> cases kindD kd <;> cases listD A <;> cases listD E <;> simp only [Bool.true_and,Bool.false_and]
  cases textD T <;> cases textD C <;> cases textD Pb <;> cases textD Pg <;> cases goodD y m d c <;> cases volD v <;> simp
end
def bulkE (K:ByteArray) (A E:List S78) (T C Pb Pg X:ByteArray):Nat:=K.size+(A.length+bulkL A)+(E.length+bulkL E)+T.size+C.size+Pb.size+Pg.size+X.size
theorem szE_ev (K:ByteArray) (kd:Int) (A E:List S78) (T C Pb:ByteArray) (y m d:Int) (c:Bool) (v:Int) (Pg X:ByteArray) (hA:∀ x∈A,ok78 x) (lA:A.length≤9223372036854775807) (hE:∀ x∈E,ok78 x) (lE:E.length≤9223372036854775807)
    (bK:K.size≤9223372036854775807) (bT:T.size≤9223372036854775807) (bC:C.size≤9223372036854775807) (bP:Pb.size≤9223372036854775807) (bG:Pg.size≤9223372036854775807) (bX:X.size≤9223372036854775807) (left:Int) (h0:0≤left) (h1:left≤1048576) :
    Ev (fun k=>laws_szEntry.f k K kd A E T C Pb y m d c v Pg X left) (lftOf left (bulkE K A E T C Pb Pg X)):=by
  have neg:∀ n:Nat,¬ (n:Int)≤left→lftOf left n=-1:=fun n h=>by unfold lftOf;rw [if_neg h]
  unfold laws_szEntry.f;have w0:wrap64 (left-(K.size:Int))=left-(K.size:Int):=w64 (by omega) (by omega);rw [w0];by_cases c0:left-(K.size:Int)<0
  · exact ev_pos c0 (ev_eq (Ev.now _) (neg _ (by unfold bulkE;omega)).symm)
  refine ev_neg c0 (Ev.bind (szL_ev A hA lA _ (by omega) (by omega)) ?_);by_cases c1:((A.length+bulkL A:Nat):Int)≤left-(K.size:Int)
  · have e:lftOf (left-(K.size:Int)) (A.length+bulkL A)=left-(K.size:Int)-(A.length+bulkL A:Nat):=by unfold lftOf;rw [if_pos c1]
    rw [e];refine ev_neg (by omega) (Ev.bind (szL_ev E hE lE _ (by omega) (by omega)) ?_);by_cases c2:((E.length+bulkL E:Nat):Int)≤left-(K.size:Int)-(A.length+bulkL A:Nat)
    · have e:lftOf (left-(K.size:Int)-(A.length+bulkL A:Nat)) (E.length+bulkL E)=left-(K.size:Int)-(A.length+bulkL A:Nat)-(E.length+bulkL E:Nat):=by unfold lftOf;rw [if_pos c2]
      rw [e]
      obtain ⟨l2,Sl⟩:∃ l2,l2=left-(K.size:Int)-(A.length+bulkL A:Nat)-(E.length+bulkL E:Nat):=⟨_,rfl⟩
      rw [← Sl];refine ev_neg (by omega) ?_;have w1:wrap64 (l2-(T.size:Int))=l2-(T.size:Int):=w64 (by omega) (by omega);rw [w1];by_cases c3:l2-(T.size:Int)<0
      · exact ev_pos c3 (ev_eq (Ev.now _) (neg _ (by unfold bulkE;omega)).symm)
      refine ev_neg c3 ?_;have w2:wrap64 (l2-(T.size:Int)-(C.size:Int))=l2-(T.size:Int)-(C.size:Int):=w64 (by omega) (by omega);rw [w2];by_cases c4:l2-(T.size:Int)-(C.size:Int)<0
      · exact ev_pos c4 (ev_eq (Ev.now _) (neg _ (by unfold bulkE;omega)).symm)
      refine ev_neg c4 ?_;have w3:wrap64 (l2-(T.size:Int)-(C.size:Int)-(Pb.size:Int))=l2-(T.size:Int)-(C.size:Int)-(Pb.size:Int):=w64 (by omega) (by omega);rw [w3];by_cases c5:l2-(T.size:Int)-(C.size:Int)-(Pb.size:Int)<0
      · exact ev_pos c5 (ev_eq (Ev.now _) (neg _ (by unfold bulkE;omega)).symm)
      refine ev_neg c5 ?_;have w4:wrap64 (l2-(T.size:Int)-(C.size:Int)-(Pb.size:Int)-(Pg.size:Int))=l2-(T.size:Int)-(C.size:Int)-(Pb.size:Int)-(Pg.size:Int):=w64 (by omega) (by omega);rw [w4];by_cases c6:l2-(T.size:Int)-(C.size:Int)-(Pb.size:Int)-(Pg.size:Int)<0
      · exact ev_pos c6 (ev_eq (Ev.now _) (neg _ (by unfold bulkE;omega)).symm)
      refine ev_neg c6 ?_;have w5:wrap64 (l2-(T.size:Int)-(C.size:Int)-(Pb.size:Int)-(Pg.size:Int)-(X.size:Int))=l2-(T.size:Int)-(C.size:Int)-(Pb.size:Int)-(Pg.size:Int)-(X.size:Int):=w64 (by omega) (by omega);rw [w5];by_cases c7:l2-(T.size:Int)-(C.size:Int)-(Pb.size:Int)-(Pg.size:Int)-(X.size:Int)<0
      · exact ev_pos c7 (ev_eq (Ev.now _) (neg _ (by unfold bulkE;omega)).symm)
      · exact ev_neg c7 (ev_eq (Ev.now _) (by unfold lftOf;rw [if_pos (by unfold bulkE;omega)];unfold bulkE;omega))
    · have e:lftOf (left-(K.size:Int)-(A.length+bulkL A:Nat)) (E.length+bulkL E)=-1:=by unfold lftOf;rw [if_neg c2]
      rw [e];exact ev_pos (by omega) (ev_eq (Ev.now _) (neg _ (by unfold bulkE;omega)).symm)
  · have e:lftOf (left-(K.size:Int)) (A.length+bulkL A)=-1:=by unfold lftOf;rw [if_neg c1]
    rw [e];exact ev_pos (by omega) (ev_eq (Ev.now _) (neg _ (by unfold bulkE;omega)).symm)
theorem toE_ev (K:ByteArray) (kd:Int) (A E:List S78) (T C Pb:ByteArray) (y m d:Int) (c:Bool) (v:Int) (Pg X:ByteArray) (lA:A.length≤1048576) (sA:∀ x∈A,x.f0.length≤1048576) (lE:E.length≤1048576) (sE:∀ x∈E,x.f0.length≤1048576) :
    Ev (fun k=>laws_toEntry.f k K kd A E T C Pb y m d c v Pg X) (K,kd,A.map conv,E.map conv,T,C,Pb,y,m,d,c,v,Pg,X):=by
  unfold laws_toEntry.f;exact Ev.bind (toL_ev A lA sA) (Ev.bind (toL_ev E lE sE) (Ev.now _))
theorem eqE_same (K:ByteArray) (kd:Int) (A E:List S69) (T C Pb:ByteArray) (y m d:Int) (c:Bool) (v:Int) (Pg X:ByteArray) (hA:∀ x∈A,okS x) (lA:A.length≤1048576) (hE:∀ x∈E,okS x) (lE:E.length≤1048576) :
    Ev (fun k=>laws_eqEntry.f k K kd A E T C Pb y m d c v Pg X K kd A E T C Pb y m d c v Pg X) true:=by
  have hd:laws_eqDate.f y m d c y m d c=some true:=by unfold laws_eqDate.f;simp
  unfold laws_eqEntry.f;exact ev_pos rfl (ev_pos rfl (Ev.bind (eqL_same A hA lA) (ev_pos rfl (Ev.bind (eqL_same E hE lE) (ev_pos rfl (ev_pos rfl (ev_pos rfl (ev_pos rfl (ev_bind0 hd (ev_pos rfl (ev_pos rfl (ev_pos rfl (ev_pos rfl (Ev.now _))))))))))))))
def convE (x:S52):S42:=⟨x.f0,x.f1,x.f2.map conv,x.f3.map conv,x.f4,x.f5,x.f6,(⟨x.f7.f0,x.f7.f1,x.f7.f2,x.f7.f3⟩:S40),x.f8,x.f9,x.f10⟩
def bulk1 (x:S52):Nat:=bulkE x.f0 x.f2 x.f3 x.f4 x.f5 x.f6 x.f9 x.f10
def bulkB (l:List S52):Nat:=(l.map bulk1).sum
theorem rdLE (l:List S52) (i:Nat) (h:i<l.length):rd_T52 l (i:Int)=l[i]:=by simp [rd_T52,h]
theorem rdIE (l:List S42) (i:Nat) (h:i<l.length):rd_T42 l (i:Int)=l[i]:=by simp [rd_T42,h]
theorem bulkB_cons (a:S52) (l:List S52):bulkB (a :: l)=bulk1 a+bulkB l:=by simp [bulkB]
theorem bulkB_mem {l:List S52} {x:S52} (h:x∈l):bulk1 x≤bulkB l:=by
  induction l with
  | nil=>simp at h
  | cons a l ih =>
    rw [bulkB_cons]
    rcases List.mem_cons.1 h with rfl|h
    · omega
    · have:=ih h;omega
theorem sz1_ev (x:S52) (hx:ok52 x) (left:Int) (h0:0≤left) (h1:left≤1048576):Ev (fun k=>laws_szEntry.f k (x).f0 (x).f1 (x).f2 (x).f3 (x).f4 (x).f5 (x).f6 (x).f7.f0 (x).f7.f1 (x).f7.f2 (x).f7.f3 (x).f8 (x).f9 (x).f10 left) (lftOf left (bulk1 x)):=by
  obtain ⟨b0,_,b2,b3,b4,b5,b6,_,_,b9,b10⟩:=hx;exact szE_ev (x).f0 (x).f1 (x).f2 (x).f3 (x).f4 (x).f5 (x).f6 (x).f7.f0 (x).f7.f1 (x).f7.f2 (x).f7.f3 (x).f8 (x).f9 (x).f10 b2.2 b2.1 b3.2 b3.1 b0 b4 b5 b6 b9 b10 left h0 h1
theorem szB_loop (l:List S52) (hb:∀ x∈l,ok52 x) (hl:l.length≤9223372036854775807) (d:Nat):∀ (left:Int) (i:Nat),0≤left→left≤1048576→l.length-i=d→i≤l.length →
    Ev (fun k=>laws_szEntryS.l0 k l left (i:Int)) (lftOf left (bulkB (l.drop i))):=by
  induction d with
  | zero =>
    intro left i h0 h1 hd hi;refine Ev.step (f:=fun _=>some left) (fun k=>?_) (ev_eq (Ev.now _) ?_)
    · simp only [laws_szEntryS.l0];rw [if_neg (by omega)]
    · rw [List.drop_of_length_le (by omega)];unfold lftOf bulkB;simp;omega
  | succ d ih =>
    intro left i h0 h1 hd hi
    have hlt:i<l.length:=by omega
    have hsz:=sz1_ev l[i] (hb l[i] (List.getElem_mem hlt)) left h0 h1
    have hw:wrap64 ((i:Int)+1)=((i+1:Nat):Int):=by rw [w64 (by omega) (by omega)];rfl
    rw [List.drop_eq_getElem_cons hlt,bulkB_cons];refine Ev.step (f:=fun k=>(laws_szEntry.f k (l[i]).f0 (l[i]).f1 (l[i]).f2 (l[i]).f3 (l[i]).f4 (l[i]).f5 (l[i]).f6 (l[i]).f7.f0 (l[i]).f7.f1 (l[i]).f7.f2 (l[i]).f7.f3 (l[i]).f8 (l[i]).f9 (l[i]).f10 left).bind fun qH=>(if qH<0 then (some (-1)) else (laws_szEntryS.l0 k l qH ((i+1:Nat):Int)))) (fun k=>?_) (Ev.bind hsz ?_)
    · simp only [laws_szEntryS.l0,rdLE l i hlt,hw]
      rw [if_pos (by omega),if_pos (by omega)]
    · by_cases c:(bulk1 l[i]:Int)≤left
      · have e:lftOf left (bulk1 l[i])=left-bulk1 l[i]:=by unfold lftOf;rw [if_pos c]
        rw [e];refine ev_neg (by omega) (ev_eq (ih _ (i+1) (by omega) (by omega) (by omega) (by omega)) ?_)
        unfold lftOf;split <;> split <;> omega
      · have e:lftOf left (bulk1 l[i])=-1:=by unfold lftOf;rw [if_neg c]
        rw [e];exact ev_pos (by omega) (ev_eq (Ev.now _) (by unfold lftOf;rw [if_neg (by omega)]))
theorem szB_ev (l:List S52) (hb:∀ x∈l,ok52 x) (hl:l.length≤9223372036854775807) (left:Int) (h0:0≤left) (h1:left≤1048576) :
    Ev (fun k=>laws_szLibrary.f k l left) (lftOf left (l.length+bulkB l)):=by
  have inner:Ev (fun k=>laws_szEntryS.f k l left) (lftOf left (l.length+bulkB l)):=by
    unfold laws_szEntryS.f;have hw:wrap64 (left-(l.length:Int))=left-(l.length:Int):=w64 (by omega) (by omega);rw [hw];by_cases hn:left-(l.length:Int)<0
    · exact ev_pos hn (ev_eq (Ev.now _) (by unfold lftOf;rw [if_neg (by omega)]))
    · refine ev_neg hn (ev_eq (szB_loop l hb hl l.length (left-l.length) 0 (by omega) (by omega) rfl (by omega)) ?_)
      rw [List.drop_zero]
      unfold lftOf;split <;> split <;> omega
  unfold laws_szLibrary.f;refine Ev.bind inner ?_;by_cases c:((l.length+bulkB l:Nat):Int)≤left
  · exact ev_neg (by unfold lftOf;rw [if_pos c];omega) (Ev.now _)
  · have e:lftOf left (l.length+bulkB l)=-1:=by unfold lftOf;rw [if_neg c]
    rw [e];exact ev_pos (by omega) (Ev.now _)
theorem parts1 {x:S52} (h:bulk1 x≤1048576):(x.f2.length≤1048576∧bulkL x.f2≤1048576)∧(x.f3.length≤1048576∧bulkL x.f3≤1048576):=by
  unfold bulk1 bulkE at h;omega
theorem given1 {l:List S78} (h:bulkL l≤1048576):∀ x∈l,x.f0.length≤1048576:=fun x hx=>by have:=bulkL_mem hx;unfold bulkN bulkS at this;omega
theorem toB_loop (l:List S52) (hl:l.length≤1048576) (hs:∀ x∈l,bulk1 x≤1048576) (d:Nat):∀ (i:Nat),l.length-i=d→i≤l.length →
    Ev (fun k=>laws_toEntryS.l0 k l ((l.take i).map convE++List.replicate (l.length-i) z42) (i:Int)) (l.map convE):=by
  induction d with
  | zero =>
    intro i hd hi;refine Ev.step (f:=fun _=>some (l.map convE)) (fun k=>?_) (Ev.now _);simp only [laws_toEntryS.l0];rw [if_neg (by omega),hd,List.take_of_length_le (by omega)];simp
  | succ d ih =>
    intro i hd hi
    have hlt:i<l.length:=by omega
    have hw:wrap64 ((i:Int)+1)=((i+1:Nat):Int):=by rw [w64 (by omega) (by omega)];rfl
    have hlen:((l.take i).map convE).length=i:=by simp;omega
    have hall:((l.take i).map convE++List.replicate (l.length-i) z42).length=l.length:=by simp;omega
    have e:((l.take i).map convE++List.replicate (l.length-i) z42).set i (convE l[i])=(l.take (i+1)).map convE++List.replicate (l.length-(i+1)) z42:=by
      rw [List.set_append_right _ _ (by omega),hlen,Nat.sub_self,show l.length-i=(l.length-(i+1))+1 by omega,List.replicate_succ,List.set_cons_zero,List.take_succ_eq_append_getElem hlt,List.map_append,List.append_assoc];rfl
    obtain ⟨⟨p1,p2⟩,p3,p4⟩:=parts1 (hs _ (List.getElem_mem hlt));have ht:=toE_ev (l[i]).f0 (l[i]).f1 (l[i]).f2 (l[i]).f3 (l[i]).f4 (l[i]).f5 (l[i]).f6 (l[i]).f7.f0 (l[i]).f7.f1 (l[i]).f7.f2 (l[i]).f7.f3 (l[i]).f8 (l[i]).f9 (l[i]).f10 p1 (given1 p2) p3 (given1 p4);obtain ⟨K,hK⟩:=ht;obtain ⟨K',hK'⟩:=ih (i+1) (by omega) (by omega);refine ⟨K+K'+1,fun k hk=>?_⟩
    obtain ⟨k',rfl⟩:∃ k',k=k'+1:=⟨k-1,by omega⟩
    have e1:=hK k' (by omega);have e2:=hK' k' (by omega);simp only at e1 e2
    have a3:(i:Int)<((((l.take i).map convE++List.replicate (l.length-i) z42).length:Nat):Int):=by rw [hall];omega
    simp only [laws_toEntryS.l0,rdLE l i hlt,hw,if_pos a3,Int.toNat_natCast];rw [if_pos (by omega),if_pos (by omega),e1];simp only [Option.bind_some];rw [← e] at e2;exact e2
theorem toB_ev (l:List S52) (hl:l.length≤1048576) (hs:∀ x∈l,bulk1 x≤1048576):Ev (fun k=>laws_toLibrary.f k l) (l.map convE):=by
  unfold laws_toLibrary.f laws_toEntryS.f;refine Ev.bind (ev_pos (by omega) (ev_pos (by omega) ?_)) (Ev.now _);have:=toB_loop l hl hs l.length 0 rfl (by omega)
  simpa using this
structure EOk (x:S42):Prop where
  a:∀ y∈x.f2,okS y
  la:x.f2.length≤1048576
  e:∀ y∈x.f3,okS y
  le:x.f3.length≤1048576
theorem convE_ok {l:List S52} (h:∀ x∈l,bulk1 x≤1048576):∀ x∈l.map convE,EOk x:=by
  intro x hx;obtain ⟨y,hy,rfl⟩:=List.mem_map.1 hx;obtain ⟨⟨p1,p2⟩,p3,p4⟩:=parts1 (h y hy);exact ⟨conv_ok p2,by show (y.f2.map conv).length≤_;rw [List.length_map];exact p1,conv_ok p4,by show (y.f3.map conv).length≤_;rw [List.length_map];exact p3⟩
theorem eqB_loop (l:List S42) (ho:∀ x∈l,EOk x) (hl:l.length≤1048576) (d:Nat):∀ i:Nat,i≤l.length→l.length-i=d→Ev (fun k=>laws_eqEntryS.l0 k l l (i:Int)) true:=by
  induction d with
  | zero =>
    intro i h1 hd;refine Ev.step (f:=fun _=>some true) (fun k=>?_) (Ev.now _);simp only [laws_eqEntryS.l0];rw [if_neg (by omega)]
  | succ d ih =>
    intro i h1 hd
    have hi:i<l.length:=by omega
    have hw:wrap64 ((i:Int)+1)=((i+1:Nat):Int):=by rw [w64 (by omega) (by omega)];rfl
    have o:=ho _ (List.getElem_mem hi);refine Ev.step (f:=fun k=>(laws_eqEntry.f k (l[i]).f0 (l[i]).f1 (l[i]).f2 (l[i]).f3 (l[i]).f4 (l[i]).f5 (l[i]).f6 (l[i]).f7.f0 (l[i]).f7.f1 (l[i]).f7.f2 (l[i]).f7.f3 (l[i]).f8 (l[i]).f9 (l[i]).f10 (l[i]).f0 (l[i]).f1 (l[i]).f2 (l[i]).f3 (l[i]).f4 (l[i]).f5 (l[i]).f6 (l[i]).f7.f0 (l[i]).f7.f1 (l[i]).f7.f2 (l[i]).f7.f3 (l[i]).f8 (l[i]).f9 (l[i]).f10).bind fun pW=>(if pW=true then (laws_eqEntryS.l0 k l l ((i+1:Nat):Int)) else (some false))) (fun k=>?_) (Ev.bind (eqE_same (l[i]).f0 (l[i]).f1 (l[i]).f2 (l[i]).f3 (l[i]).f4 (l[i]).f5 (l[i]).f6 (l[i]).f7.f0 (l[i]).f7.f1 (l[i]).f7.f2 (l[i]).f7.f3 (l[i]).f8 (l[i]).f9 (l[i]).f10 o.a o.la o.e o.le) (ev_pos rfl (ih (i+1) (by omega) (by omega))));simp only [laws_eqEntryS.l0,rdIE l i hi,hw];rw [if_pos (by omega),if_pos (by omega),if_pos (by omega)]
theorem eqB_same (l:List S42) (ho:∀ x∈l,EOk x) (hl:l.length≤1048576):Ev (fun k=>laws_eqLibrary.f k l l) true:=by
  unfold laws_eqLibrary.f laws_eqEntryS.f;exact Ev.bind (ev_pos rfl (eqB_loop l ho hl _ 0 (by omega) rfl)) (ev_pos rfl (Ev.now _))
def entS (x:S42):Bool:=entD (x).f0 (x).f1 (x).f2 (x).f3 (x).f4 (x).f5 (x).f6 (x).f7.f0 (x).f7.f1 (x).f7.f2 (x).f7.f3 (x).f8 (x).f9 (x).f10
theorem spec_entS (x:S42) (o:EOk x):Ev (fun k=>spec_l4Entry.f k (x).f0 (x).f1 (x).f2 (x).f3 (x).f4 (x).f5 (x).f6 (x).f7.f0 (x).f7.f1 (x).f7.f2 (x).f7.f3 (x).f8 (x).f9 (x).f10) (entS x):=spec_ent (x).f0 (x).f1 (x).f2 (x).f3 (x).f4 (x).f5 (x).f6 (x).f7.f0 (x).f7.f1 (x).f7.f2 (x).f7.f3 (x).f8 (x).f9 (x).f10 o.a o.la o.e o.le
theorem impl_entS (x:S42) (o:EOk x):Ev (fun k=>impl_IsValidEntry.f k (x).f0 (x).f1 (x).f2 (x).f3 (x).f4 (x).f5 (x).f6 (x).f7.f0 (x).f7.f1 (x).f7.f2 (x).f7.f3 (x).f8 (x).f9 (x).f10) (entS x):=impl_ent (x).f0 (x).f1 (x).f2 (x).f3 (x).f4 (x).f5 (x).f6 (x).f7.f0 (x).f7.f1 (x).f7.f2 (x).f7.f3 (x).f8 (x).f9 (x).f10 o.a o.la o.e o.le
def stepD (l:List S42) (i:Nat):Bool:=entS (rd_T42 l (i:Int)) && (decide (i=0) || Op.bytesLess ((rd_T42 l ((i:Int)-1)).f0).toList ((rd_T42 l (i:Int)).f0).toList)
def libF (l:List S42):Nat→Nat→Bool
  | 0,_=>true
  | d+1,i=>stepD l i && libF l d (i+1)
def libD (l:List S42):Bool:=libF l l.length 0 && decide (l.length≤8)
theorem spec_lib_loop (l:List S42) (ho:∀ x∈l,EOk x) (hl:l.length≤1048576) (d:Nat):∀ i:Nat,i≤l.length→l.length-i=d→Ev (fun k=>spec_l4Good.l0 k (i:Int) l) (libF l d i):=by
  induction d with
  | zero =>
    intro i h1 hd;refine Ev.step (f:=fun _=>some true) (fun k=>?_) (Ev.now _);simp only [spec_l4Good.l0];rw [if_neg (by omega)]
  | succ d ih =>
    intro i h1 hd
    have hi:i<l.length:=by omega
    have hw:wrap64 ((i:Int)+1)=((i+1:Nat):Int):=by rw [w64 (by omega) (by omega)];rfl
    have hw':wrap64 ((i:Int)-1)=(i:Int)-1:=w64 (by omega) (by omega);have hr:=rdIE l i hi;have he:=spec_entS l[i] (ho _ (List.getElem_mem hi));have hn:=ih (i+1) (by omega) (by omega)
    show Ev _ (stepD l i && libF l d (i+1))
    unfold stepD;rw [hr];refine Ev.step (f:=fun k=>(spec_l4Entry.f k (l[i]).f0 (l[i]).f1 (l[i]).f2 (l[i]).f3 (l[i]).f4 (l[i]).f5 (l[i]).f6 (l[i]).f7.f0 (l[i]).f7.f1 (l[i]).f7.f2 (l[i]).f7.f3 (l[i]).f8 (l[i]).f9 (l[i]).f10).bind fun aeE=>(if aeE=true then (if (decide (i=0) || Op.bytesLess ((rd_T42 l ((i:Int)-1)).f0).toList (l[i].f0).toList)=true then (spec_l4Good.l0 k ((i+1:Nat):Int) l) else (some false)) else (some false))) (fun k=>?_) ?_
    · simp only [spec_l4Good.l0,hr,hw,hw']
      rw [if_pos (by omega),if_pos (by omega)];by_cases c:i=0
      · have c':¬ (i:Int)>0:=by omega
        simp only [if_neg c',dt c,Bool.true_or,if_true]
      · have c':(i:Int)>0:=by omega
        have a1:(0:Int)≤(i:Int)-1:=by omega
        have a2:(i:Int)-1<(l.length:Int):=by omega
        simp only [if_pos c',if_pos a1,if_pos a2,df c,Bool.false_or]
    · refine Ev.bind he ?_
      cases entS l[i] with
      | false=>exact ev_neg (by simp) (ev_eq (Ev.now _) (by simp))
      | true =>
        refine ev_pos rfl ?_
        cases (decide (i=0) || Op.bytesLess ((rd_T42 l ((i:Int)-1)).f0).toList (l[i].f0).toList) with
        | true=>exact ev_pos rfl (ev_eq hn (by simp))
        | false=>exact ev_neg (by simp) (ev_eq (Ev.now _) (by simp))
theorem impl_lib_loop (l:List S42) (ho:∀ x∈l,EOk x) (hl:l.length≤1048576) (d:Nat):∀ i:Nat,i≤l.length→l.length-i=d→Ev (fun k=>impl_IsValidLibrary.l0 k l (l.length:Int) (i:Int) l) (libF l d i && decide (l.length≤8)):=by
  induction d with
  | zero =>
    intro i h1 hd;refine Ev.step (f:=fun _=>some (decide ((l.length:Int)≤8))) (fun k=>?_) (ev_eq (Ev.now _) ?_)
    · simp only [impl_IsValidLibrary.l0];rw [if_neg (by omega)]
    · show _=(true && _)
      rw [Bool.true_and,decide_eq_decide];omega
  | succ d ih =>
    intro i h1 hd
    have hi:i<l.length:=by omega
    have hw:wrap64 ((i:Int)+1)=((i+1:Nat):Int):=by rw [w64 (by omega) (by omega)];rfl
    have hw':wrap64 ((i:Int)-1)=(i:Int)-1:=w64 (by omega) (by omega);have hr:=rdIE l i hi;have he:=impl_entS l[i] (ho _ (List.getElem_mem hi));have hn:=ih (i+1) (by omega) (by omega)
    show Ev _ ((stepD l i && libF l d (i+1)) && _)
    unfold stepD;rw [hr];refine Ev.step (f:=fun k=>(impl_IsValidEntry.f k (l[i]).f0 (l[i]).f1 (l[i]).f2 (l[i]).f3 (l[i]).f4 (l[i]).f5 (l[i]).f6 (l[i]).f7.f0 (l[i]).f7.f1 (l[i]).f7.f2 (l[i]).f7.f3 (l[i]).f8 (l[i]).f9 (l[i]).f10).bind fun aeE=>(if aeE=true then (if (decide (i=0) || Op.bytesLess ((rd_T42 l ((i:Int)-1)).f0).toList (l[i].f0).toList)=true then (impl_IsValidLibrary.l0 k l (l.length:Int) ((i+1:Nat):Int) l) else (some false)) else (some false))) (fun k=>?_) ?_
    · simp only [impl_IsValidLibrary.l0,hr,hw,hw']
      rw [if_pos (by omega),if_pos (by omega),if_pos (by omega)];by_cases c:i=0
      · have c':¬ (i:Int)>0:=by omega
        simp only [if_neg c',dt c,Bool.true_or,if_true]
      · have c':(i:Int)>0:=by omega
        have a1:(0:Int)≤(i:Int)-1:=by omega
        have a2:(i:Int)-1<(l.length:Int):=by omega
        simp only [if_pos c',if_pos a1,if_pos a2,df c,Bool.false_or]
    · refine Ev.bind he ?_
      cases entS l[i] with
      | false=>exact ev_neg (by simp) (ev_eq (Ev.now _) (by simp))
      | true =>
        refine ev_pos rfl ?_
        cases (decide (i=0) || Op.bytesLess ((rd_T42 l ((i:Int)-1)).f0).toList (l[i].f0).toList) with
        | true=>exact ev_pos rfl (ev_eq hn (by simp))
        | false=>exact ev_neg (by simp) (ev_eq (Ev.now _) (by simp))
theorem spec_lib (l:List S42) (ho:∀ x∈l,EOk x) (hl:l.length≤1048576):Ev (fun k=>spec_l4Good.f k l) (libD l):=by
  unfold spec_l4Good.f libD;by_cases c:l.length≤8
  · exact ev_neg (by omega) (ev_eq (spec_lib_loop l ho hl _ 0 (by omega) rfl) (by simp [c]))
  · exact ev_pos (by omega) (ev_eq (Ev.now _) (by simp [c]))
theorem impl_lib (l:List S42) (ho:∀ x∈l,EOk x) (hl:l.length≤1048576):Ev (fun k=>impl_IsValidLibrary.f k l) (libD l):=by
  unfold impl_IsValidLibrary.f libD;exact impl_lib_loop l ho hl _ 0 (by omega) rfl
end Go.Proofs.YteagahcbffgjpaaGreatDoor.G

namespace Go.Proofs.YteagahcbffgjpaaGreatDoor.Pure
open Go.RowKit Go.Proofs.YteagahcbffgjpaaGreatDoor.G Go.Proofs.YteagahcbffgjpaaGreatDoorW.PrintWords Go.Proofs.YteagahcbffgjpaaGreatDoorW.PrintLast Go.Proofs.YteagahcbffgjpaaGreatDoor.B Go.Proofs.YteagahcbffgjpaaGreatDoor.Opn
set_option linter.unusedVariables false
set_option linter.unusedSimpArgs false
theorem ev_shift {α:Type} {f:Nat→Option α} {v:α} (h:Ev (fun k=>f (k+1)) v):Ev f v:=Ev.step (f:=fun k=>f (k+1)) (fun _=>rfl) h
theorem rdN (l:List S69) (i:Nat) (h:i<l.length):rd_T69 l (i:Int)=l[i]:=by simp [rd_T69,h]
theorem own_ev (l:List S69) (hl:l.length≤1048576) (hb:∀ x∈l,x.f0.length≤1048576):Ev (fun k=>spec_l2Own.f k l) l:=by
  have own_loop:∀ (d i:Nat),i≤l.length→l.length-i=d→Ev (fun k=>spec_l2Own.l0 k l (l.take i) (i:Int)) l:=by
    intro d
    induction d with
    | zero =>
      intro i h1 hd;refine Ev.step (f:=fun _=>some l) (fun k=>?_) (Ev.now _);simp only [spec_l2Own.l0];rw [if_neg (by omega),List.take_of_length_le (by omega)]
    | succ d ih =>
      intro i h1 hd
      have hi:i<l.length:=by omega
      have hw:wrap64 ((i:Int)+1)=((i+1:Nat):Int):=by rw [w64 (by omega) (by omega)];rfl
      have hz:(l[i]).f0.length≤1048576:=hb _ (List.getElem_mem hi)
      have ht:(l.take i).length<1954687338268:=by rw [List.length_take];omega
      have e:l.take i++[(⟨([]:List ByteArray)++(l[i]).f0,(l[i]).f1,(l[i]).f2,(l[i]).f3⟩:S69)]=l.take (i+1):=by
        rw [List.take_succ_eq_append_getElem hi];rfl
      refine Ev.step (f:=fun k=>spec_l2Own.l0 k l (l.take (i+1)) ((i+1:Nat):Int)) (fun k=>?_) (ih (i+1) (by omega) (by omega));simp only [spec_l2Own.l0,rdN l i hi,hw];rw [if_pos (by omega),if_pos (by omega)];simp only [Option.bind_some];rw [if_pos (by show 0+_<_;omega),if_pos ht,e]
  unfold spec_l2Own.f;exact own_loop _ 0 (by omega) rfl
theorem new_ev (l:List S69) (hl:l.length≤1048576) (hb:∀ x∈l,x.f0.length≤1048576):Ev (fun k=>impl_newNames.f k l) l:=by
  have new_loop:∀ (d i:Nat),i≤l.length→l.length-i=d→Ev (fun k=>impl_newNames.l0 k (l.take i) l (l.length:Int) (i:Int)) l:=by
    intro d
    induction d with
    | zero =>
      intro i h1 hd;refine Ev.step (f:=fun _=>some l) (fun k=>?_) (Ev.now _);simp only [impl_newNames.l0];rw [if_neg (by omega),List.take_of_length_le (by omega)]
    | succ d ih =>
      intro i h1 hd
      have hi:i<l.length:=by omega
      have hw:wrap64 ((i:Int)+1)=((i+1:Nat):Int):=by rw [w64 (by omega) (by omega)];rfl
      have hz:(l[i]).f0.length≤1048576:=hb _ (List.getElem_mem hi)
      have ht:(l.take i).length<1954687338268:=by rw [List.length_take];omega
      have e:l.take i++[(⟨([]:List ByteArray)++(l[i]).f0,(l[i]).f1,(l[i]).f2,(l[i]).f3⟩:S69)]=l.take (i+1):=by
        rw [List.take_succ_eq_append_getElem hi];rfl
      refine Ev.step (f:=fun k=>impl_newNames.l0 k (l.take (i+1)) l (l.length:Int) ((i+1:Nat):Int)) (fun k=>?_) (ih (i+1) (by omega) (by omega));simp only [impl_newNames.l0,rdN l i hi,hw];rw [if_pos (by omega),if_pos (by omega),if_pos (by omega)];simp only [Option.bind_some];rw [if_pos (by show 0+_<_;omega),if_pos ht,e]
  unfold impl_newNames.f;exact new_loop _ 0 (by omega) rfl
theorem lib_ev (l:List S42) (hl:l.length≤1048576) (ho:∀ x∈l,EOk x) (hb:∀ x∈l,(∀ y∈x.f2,y.f0.length≤1048576)∧∀ y∈x.f3,y.f0.length≤1048576):Ev (fun k=>impl_newLibrary.f k l) l:=by
  have loop:∀ (d i:Nat),i≤l.length→l.length-i=d→Ev (fun k=>impl_newLibrary.l0 k l (l.length:Int) (i:Int) (l.take i)) l:=by
    intro d
    induction d with
    | zero =>
      intro i h1 hd;refine Ev.step (f:=fun _=>some l) (fun k=>?_) (Ev.now _);simp only [impl_newLibrary.l0];rw [if_neg (by omega),List.take_of_length_le (by omega)]
    | succ d ih =>
      intro i h1 hd
      have hi:i<l.length:=by omega
      have hw:wrap64 ((i:Int)+1)=((i+1:Nat):Int):=by rw [w64 (by omega) (by omega)];rfl
      have hm:=List.getElem_mem hi
      have ht:(l.take i).length<733007751850:=by rw [List.length_take];omega
      have e:l.take i++[l[i]]=l.take (i+1):=(List.take_succ_eq_append_getElem hi).symm;have n2:=new_ev (l[i]).f2 (ho _ hm).la (hb _ hm).1;have n3:=new_ev (l[i]).f3 (ho _ hm).le (hb _ hm).2;refine Ev.step (f:=fun k=>(impl_newEntry.f k (l[i]).f0 (l[i]).f1 (l[i]).f2 (l[i]).f3 (l[i]).f4 (l[i]).f5 (l[i]).f6 (l[i]).f7.f0 (l[i]).f7.f1 (l[i]).f7.f2 (l[i]).f7.f3 (l[i]).f8 (l[i]).f9 (l[i]).f10).bind fun b=>impl_newLibrary.l0 k l (l.length:Int) ((i+1:Nat):Int) (l.take i++[(⟨b.1,b.2.1,b.2.2.1,b.2.2.2.1,b.2.2.2.2.1,b.2.2.2.2.2.1,b.2.2.2.2.2.2.1,(⟨b.2.2.2.2.2.2.2.1,b.2.2.2.2.2.2.2.2.1,b.2.2.2.2.2.2.2.2.2.1,b.2.2.2.2.2.2.2.2.2.2.1⟩:S40),b.2.2.2.2.2.2.2.2.2.2.2.1,b.2.2.2.2.2.2.2.2.2.2.2.2.1,b.2.2.2.2.2.2.2.2.2.2.2.2.2⟩:S42)])) (fun k=>?_) (Ev.bind (Ev.bind n2 (Ev.bind n3 (Ev.now _))) ?_)
      · simp only [impl_newLibrary.l0,rdIE l i hi,hw]
        rw [if_pos (by omega),if_pos (by omega),if_pos (by omega)];simp only [if_pos ht]
      · have:=ih (i+1) (by omega) (by omega)
        rw [← e] at this;exact this
  unfold impl_newLibrary.f;have:=loop _ 0 (by omega) rfl;rw [List.take_zero] at this;exact this
def filt (a:ByteArray):List S42→List S42
  | []=>[]
  | x :: r=>if x.f0.toList=a.toList then filt a r else x :: filt a r
theorem filt_len (a:ByteArray) (l:List S42):(filt a l).length≤l.length:=by
  induction l with
  | nil=>exact Nat.le_refl _
  | cons x r ih =>
    simp only [filt]
    split
    · simp only [List.length_cons];omega
    · simp only [List.length_cons];omega
theorem filt_mem (a:ByteArray) (l:List S42):∀ x∈filt a l,x∈l:=by
  induction l with
  | nil=>intro x hx;exact hx
  | cons y r ih =>
    intro x hx;simp only [filt] at hx
    split at hx
    · exact List.mem_cons_of_mem _ (ih x hx)
    · rcases List.mem_cons.1 hx with rfl|h
      · exact List.mem_cons_self
      · exact List.mem_cons_of_mem _ (ih x h)
theorem spec_filt (l:List S42) (a:ByteArray) (hl:l.length≤1048576) (ho:∀ x∈l,EOk x) (hb:∀ x∈l,(∀ y∈x.f2,y.f0.length≤1048576)∧∀ y∈x.f3,y.f0.length≤1048576) (d:Nat):∀ (i:Nat) (out:List S42),out.length≤i→i≤l.length→l.length-i=d→Ev (fun k=>spec_DropEntry.l0 k a (i:Int) l out) (out++filt a (l.drop i),true):=by
  induction d with
  | zero =>
    intro i out hq h1 hd;refine Ev.step (f:=fun _=>some (out,true)) (fun k=>?_) (ev_eq (Ev.now _) ?_)
    · simp only [spec_DropEntry.l0];rw [if_neg (by omega)]
    · rw [List.drop_of_length_le (by omega)];simp [filt]
  | succ d ih =>
    intro i out hq h1 hd
    have hi:i<l.length:=by omega
    have hw:wrap64 ((i:Int)+1)=((i+1:Nat):Int):=by rw [w64 (by omega) (by omega)];rfl
    have hr:=rdIE l i hi;have hm:=List.getElem_mem hi
    have ht:out.length<733007751850:=by omega
    rw [List.drop_eq_getElem_cons hi];by_cases q:(l[i]).f0.toList=a.toList
    · refine Ev.step (f:=fun k=>spec_DropEntry.l0 k a ((i+1:Nat):Int) l out) (fun k=>?_) (ev_eq (ih (i+1) out (by omega) (by omega) (by omega)) ?_)
      · simp only [spec_DropEntry.l0,hr,hw];rw [if_pos (by omega),if_pos (by omega),if_pos q]
      · simp only [filt];rw [if_pos q]
    · have n2:=own_ev (l[i]).f2 (ho _ hm).la (hb _ hm).1
      have n3:=own_ev (l[i]).f3 (ho _ hm).le (hb _ hm).2;refine Ev.step (f:=fun k=>(spec_l4Copy.f k (l[i]).f0 (l[i]).f1 (l[i]).f2 (l[i]).f3 (l[i]).f4 (l[i]).f5 (l[i]).f6 (l[i]).f7.f0 (l[i]).f7.f1 (l[i]).f7.f2 (l[i]).f7.f3 (l[i]).f8 (l[i]).f9 (l[i]).f10).bind fun b=>spec_DropEntry.l0 k a ((i+1:Nat):Int) l (out++[(⟨b.1,b.2.1,b.2.2.1,b.2.2.2.1,b.2.2.2.2.1,b.2.2.2.2.2.1,b.2.2.2.2.2.2.1,(⟨b.2.2.2.2.2.2.2.1,b.2.2.2.2.2.2.2.2.1,b.2.2.2.2.2.2.2.2.2.1,b.2.2.2.2.2.2.2.2.2.2.1⟩:S40),b.2.2.2.2.2.2.2.2.2.2.2.1,b.2.2.2.2.2.2.2.2.2.2.2.2.1,b.2.2.2.2.2.2.2.2.2.2.2.2.2⟩:S42)])) (fun k=>?_) (Ev.bind (Ev.bind n2 (Ev.bind n3 (Ev.now _))) ?_)
      · simp only [spec_DropEntry.l0,hr,hw]
        rw [if_pos (by omega),if_pos (by omega),if_neg q];simp only [if_pos ht]
      · refine ev_eq (ih (i+1) (out++[l[i]]) (by rw [List.length_append,List.length_singleton];omega) (by omega) (by omega)) ?_
        simp only [filt];rw [if_neg q];simp
theorem find_loop (l:List S42) (a:ByteArray) (hl:l.length≤1048576) (d:Nat):∀ i:Nat,i≤l.length→l.length-i=d→Ev (fun k=>spec_l4Find.l0 k a (i:Int) l) (impl_entryIndex.ix a (l.drop i) (i:Int)):=by
  induction d with
  | zero =>
    intro i h1 hd;refine Ev.step (f:=fun _=>some (-1)) (fun k=>?_) (ev_eq (Ev.now _) ?_)
    · simp only [spec_l4Find.l0];rw [if_neg (by omega)]
    · rw [List.drop_of_length_le (by omega)];rfl
  | succ d ih =>
    intro i h1 hd
    have hi:i<l.length:=by omega
    have hw:wrap64 ((i:Int)+1)=((i+1:Nat):Int):=by rw [w64 (by omega) (by omega)];rfl
    have hr:=rdIE l i hi;rw [List.drop_eq_getElem_cons hi];by_cases q:(l[i]).f0.toList=a.toList
    · refine Ev.step (f:=fun _=>some (i:Int)) (fun k=>?_) (ev_eq (Ev.now _) ?_)
      · simp only [spec_l4Find.l0,hr];rw [if_pos (by omega),if_pos (by omega),if_pos q]
      · simp only [impl_entryIndex.ix];rw [if_pos q]
    · refine Ev.step (f:=fun k=>spec_l4Find.l0 k a ((i+1:Nat):Int) l) (fun k=>?_) (ev_eq (ih (i+1) (by omega) (by omega)) ?_)
      · simp only [spec_l4Find.l0,hr,hw];rw [if_pos (by omega),if_pos (by omega),if_neg q]
      · simp only [impl_entryIndex.ix];rw [if_neg q];rfl
theorem find_ev (l:List S42) (a:ByteArray) (hl:l.length≤1048576):Ev (fun k=>spec_l4Find.f k l a) (impl_entryIndex.ix a l 0):=by
  unfold spec_l4Find.f;have:=find_loop l a hl _ 0 (by omega) rfl;rw [List.drop_zero] at this;exact this
theorem cntN_le (l:List S69) (h:∀ x∈l,x.f0.length≤1048576):cntN l≤1048579*(l.length:Int):=by
  induction l with
  | nil=>simp [cntN]
  | cons x r ih =>
    have:=ih (fun y hy=>h y (List.mem_cons_of_mem _ hy));have:=h x List.mem_cons_self;simp only [cntN,elN,List.length_cons];omega
theorem cntE_le (l:List S42) (h:∀ x∈l,elE x≤2199040000000):cntE l≤2199040000000*(l.length:Int):=by
  induction l with
  | nil=>simp [cntE]
  | cons x r ih =>
    have:=ih (fun y hy=>h y (List.mem_cons_of_mem _ hy));have:=h x List.mem_cons_self;simp only [cntE,List.length_cons];omega
theorem cntN_conv (l:List S78) (h0:l.length≤1048576) (h:bulkL l≤1048576):cntN (l.map conv)≤1099515000000:=by
  have hg:=given1 h
  have:=cntN_le (l.map conv) (fun x hx=>by
    obtain ⟨y,hy,rfl⟩:=List.mem_map.1 hx
    exact hg y hy)
  rw [List.length_map] at this;omega
theorem less_trans:∀ x y z:List UInt8,Op.bytesLess x y=true→Op.bytesLess y z=true→Op.bytesLess x z=true:=by
  intro x
  induction x with
  | nil =>
    intro y z h h'
    cases z with
    | nil=>cases y <;> simp [Op.bytesLess] at h'
    | cons c z=>rfl
  | cons a x ih =>
    intro y z h h'
    cases y with
    | nil=>simp [Op.bytesLess] at h
    | cons b y =>
      cases z with
      | nil=>simp [Op.bytesLess] at h'
      | cons c z =>
        simp only [Op.bytesLess,Bool.or_eq_true,Bool.and_eq_true,decide_eq_true_eq,beq_iff_eq] at h h' ⊢
        rcases h with h|⟨rfl,h⟩
        · rcases h' with h'|⟨rfl,h'⟩
          · exact .inl (UInt8.lt_trans h h')
          · exact .inl h
        · rcases h' with h'|⟨rfl,h'⟩
          · exact .inl h'
          · exact .inr ⟨rfl,ih y z h h'⟩
theorem less_ne (x y:List UInt8) (h:Op.bytesLess x y=true):x≠y:=by
  rintro rfl
  induction x with
  | nil=>simp [Op.bytesLess] at h
  | cons a x ih =>
    simp only [Op.bytesLess,Bool.or_eq_true,Bool.and_eq_true,decide_eq_true_eq,beq_iff_eq] at h
    rcases h with h|⟨_,h⟩
    · exact UInt8.lt_irrefl _ h
    · exact ih h
theorem libF_at (l:List S42) (d:Nat):∀ i,libF l d i=true→∀ j,i≤j→j<i+d→stepD l j=true:=by
  induction d with
  | zero=>intro i _ j h1 h2;omega
  | succ d ih =>
    intro i h j h1 h2;simp only [libF,Bool.and_eq_true] at h;by_cases e:j=i
    · subst e;exact h.1
    · exact ih (i+1) h.2 j (by omega) (by omega)
theorem keys_lt (l:List S42) (h:libD l=true):∀ j i,i<j→(hj:j<l.length)→(hi:i<l.length)→Op.bytesLess (l[i]).f0.toList (l[j]).f0.toList=true:=by
  have hh:libF l l.length 0=true:=by unfold libD at h;rw [Bool.and_eq_true] at h;exact h.1
  intro j
  induction j with
  | zero=>intro i h1;omega
  | succ j ih =>
    intro i h1 hj hi;have hs:=libF_at l _ 0 hh (j+1) (by omega) (by omega);unfold stepD at hs;rw [rdIE l (j+1) hj,show (((j+1:Nat):Int)-1)=(j:Int) from by omega,rdIE l j (by omega)] at hs;simp only [Bool.and_eq_true,Bool.or_eq_true,decide_eq_true_eq] at hs
    have hq:Op.bytesLess (l[j]'(by omega)).f0.toList (l[j+1]).f0.toList=true:=by
      rcases hs.2 with h|h
      · omega
      · exact h
    by_cases e:i=j
    · subst e;exact hq
    · exact less_trans _ _ _ (ih i (by omega) (by omega) hi) hq
theorem keys_pw (l:List S42) (h:libD l=true):l.Pairwise (fun x y=>x.f0.toList≠y.f0.toList):=by
  rw [List.pairwise_iff_getElem];intro i j hi hj hij;exact less_ne _ _ (keys_lt l h j i hij hj hi)
theorem filt_none (a:ByteArray) (l:List S42) (h:∀ x∈l,x.f0.toList≠a.toList):filt a l=l:=by
  induction l with
  | nil=>rfl
  | cons x r ih =>
    simp only [filt];rw [if_neg (h x List.mem_cons_self),ih (fun y hy=>h y (List.mem_cons_of_mem _ hy))]
theorem filt_er (a:ByteArray):∀ (l:List S42) (n:Int),0≤n→l.Pairwise (fun x y=>x.f0.toList≠y.f0.toList)→0≤impl_entryIndex.ix a l n→n≤impl_entryIndex.ix a l n∧impl_entryIndex.ix a l n<n+l.length∧filt a l=l.eraseIdx (impl_entryIndex.ix a l n-n).toNat:=by
  intro l
  induction l with
  | nil=>intro n h0 hp h;simp [impl_entryIndex.ix] at h
  | cons x r ih =>
    intro n h0 hp h;rw [List.pairwise_cons] at hp;by_cases q:x.f0.toList=a.toList
    · simp only [impl_entryIndex.ix,filt,if_pos q]
      refine ⟨Int.le_refl _,by simp only [List.length_cons];omega,?_⟩;rw [show (n-n).toNat=0 from by omega,filt_none a r (fun y hy=>by rw [← q];exact (hp.1 y hy).symm)];rfl
    · simp only [impl_entryIndex.ix,filt,if_neg q] at h ⊢
      obtain ⟨h1,h2,h3⟩:=ih (n+1) (by omega) hp.2 h;refine ⟨by omega,by simp only [List.length_cons];omega,?_⟩;rw [h3,show (impl_entryIndex.ix a r (n+1)-n).toNat=(impl_entryIndex.ix a r (n+1)-(n+1)).toNat+1 from by omega,List.eraseIdx_cons_succ]
def dropR (l:List S42) (a:ByteArray):List S42 × Bool:=if libD l=true∧¬ impl_entryIndex.ix a l 0<0 then (filt a l,true) else ([],false)
theorem spec_dr (l:List S42) (a:ByteArray) (hl:l.length≤1048576) (ho:∀ x∈l,EOk x) (hb:∀ x∈l,(∀ y∈x.f2,y.f0.length≤1048576)∧∀ y∈x.f3,y.f0.length≤1048576):Ev (fun k=>spec_DropEntry.f k l a) (dropR l a):=by
  have no:Ev (fun k=>spec_DropEntry.j0 k a true l) (([]:List S42),false):=by
    apply ev_shift;simp only [spec_DropEntry.j0];exact ev_pos trivial (Ev.now _)
  unfold spec_DropEntry.f dropR;refine Ev.bind (spec_lib l ho hl) ?_;by_cases c:libD l=true
  · refine ev_pos c (Ev.bind (find_ev l a hl) ?_)
    by_cases d:impl_entryIndex.ix a l 0<0
    · rw [if_neg (fun x=>x.2 d),dt d];exact no
    · rw [if_pos ⟨c,d⟩,df d]
      apply ev_shift;simp only [spec_DropEntry.j0];have:=spec_filt l a hl ho hb l.length 0 [] (by simp) (by omega) rfl;rw [List.drop_zero,List.nil_append] at this;exact ev_neg (by simp) this
  · rw [if_neg (fun x=>c x.1)]
    exact ev_neg c no
theorem core_mono (l:List S42) (a:ByteArray) (k:Nat):LeO (impl_DropEntry.core k l a) (impl_DropEntry.core (k+1) l a):=by
  unfold impl_DropEntry.core;exact LeO.bind (LeO.refl _) (fun i=>LeO.bind (impl_IsValidLibrary.mono _ _) (fun v=>LeO.ite (LeO.ite (LeO.bind (impl_newLibrary.mono _ _) (fun t=>LeO.refl _)) (LeO.refl _)) (LeO.refl _)))
theorem impl_dr (l:List S42) (a:ByteArray) (hl:l.length≤1048576) (ho:∀ x∈l,EOk x) (hb:∀ x∈l,(∀ y∈x.f2,y.f0.length≤1048576)∧∀ y∈x.f3,y.f0.length≤1048576):impl_DropEntry.f l a=some (dropR l a):=by
  have hi:impl_entryIndex.f l a=some (impl_entryIndex.ix a l 0):=by unfold impl_entryIndex.f;rw [if_pos (by omega)]
  have hc:Ev (fun k=>impl_DropEntry.core k l a) (dropR l a):=by
    unfold impl_DropEntry.core dropR;refine ev_bind0 hi (Ev.bind (impl_lib l ho hl) ?_);by_cases c:libD l=true
    · refine ev_pos c ?_
      by_cases d:impl_entryIndex.ix a l 0<0
      · rw [if_neg (fun x=>x.2 d)];exact ev_neg (by omega) (Ev.now _)
      · rw [if_pos ⟨c,d⟩]
        obtain ⟨h1,h2,h3⟩:=filt_er a l 0 (by omega) (keys_pw l c) (by omega);refine ev_pos (by omega) (Ev.bind (lib_ev l hl ho hb) (ev_pos ⟨by omega,by omega⟩ (ev_eq (Ev.now _) ?_)));rw [h3,show impl_entryIndex.ix a l 0-0=impl_entryIndex.ix a l 0 from by omega]
    · rw [if_neg (fun x=>c x.1)]
      exact ev_neg c (Ev.now _)
  obtain ⟨k,hk⟩:=hc.rounds
  have hx:∃ p:Nat × (List S42 × Bool),impl_DropEntry.core p.1 l a=some p.2:=⟨(k,dropR l a),hk⟩
  unfold impl_DropEntry.f;rw [dif_pos hx];exact congrArg some (ev_uniq (Ev.of (core_mono l a) (Classical.choose_spec hx)) hc)
theorem cntE_filt (a:ByteArray) (l:List S42):cntE (filt a l)≤cntE l:=by
  induction l with
  | nil=>exact Int.le_refl _
  | cons x r ih =>
    have h1:=cntN_nonneg x.f2;have h2:=cntN_nonneg x.f3;have h3:=elE_eq x;simp only [filt]
    split
    · simp only [cntE];omega
    · simp only [cntE];omega
theorem names_ok (l:List S52) (hs:∀ x∈l,bulk1 x≤1048576):∀ x∈l.map convE,(∀ y∈x.f2,y.f0.length≤1048576)∧∀ y∈x.f3,y.f0.length≤1048576:=by
  intro x hx;obtain ⟨z,hz,rfl⟩:=List.mem_map.1 hx;have:=parts1 (hs z hz)
  constructor
  · intro y hy
    obtain ⟨u,hu,rfl⟩:=List.mem_map.1 hy;exact given1 this.1.2 u hu
  · intro y hy
    obtain ⟨u,hu,rfl⟩:=List.mem_map.1 hy;exact given1 this.2.2 u hu
theorem cnt_ok (l:List S52) (hl:l.length≤1048576) (hs:∀ x∈l,bulk1 x≤1048576):1+cntE (l.map convE)≤4611686018427387904:=by
  have h1:=cntE_le (l.map convE) (fun x hx=>by
    obtain ⟨y,hy,rfl⟩:=List.mem_map.1 hx;have:=parts1 (hs y hy);have a:=cntN_conv y.f2 this.1.1 this.1.2;have b:=cntN_conv y.f3 this.2.1 this.2.2
    show cntN (y.f2.map conv)+cntN (y.f3.map conv)+12≤2199040000000
    omega)
  rw [List.length_map] at h1;omega
theorem FnExactDropEntry:laws_FnExactDropEntry.Pur:=by
  intro l a hb _;apply Ev.rounds;unfold laws_FnExactDropEntry.f;by_cases q0:(a.size:Int)>1048576
  · exact ev_pos q0 (Ev.now _)
  refine ev_neg q0 (Ev.bind (szB_ev l hb.2 hb.1 1048576 (by omega) (by omega)) ?_);by_cases q:((l.length+bulkB l:Nat):Int)≤1048576
  · have hl:lftOf 1048576 (l.length+bulkB l)=1048576-(l.length+bulkB l:Nat):=by unfold lftOf;rw [if_pos q]
    rw [hl]
    have hs:∀ x∈l,bulk1 x≤1048576:=fun x hx=>by have:=bulkB_mem hx;omega
    have ho:=convE_ok hs
    have ll:(l.map convE).length≤1048576:=by rw [List.length_map];omega
    have ht:=toB_ev l (by omega) hs;have he:=eqB_same _ ho ll;have hn:=names_ok l hs;have hc:=cnt_ok l (by omega) hs;generalize hL:l.map convE=L at *;have hi:=impl_dr L a ll ho hn;have hsp:=spec_dr L a ll ho hn
    have hg:(∀ x∈(dropR L a).1,EOk x)∧(dropR L a).1.length≤1048576∧cntE (dropR L a).1≤cntE L∧0≤cntE (dropR L a).1:=by
      refine ⟨?_,?_,?_,cntE_nonneg _⟩
      · unfold dropR
        split
        · exact fun x hx=>ho x (filt_mem a L x hx)
        · intro x hx;cases hx
      · unfold dropR
        split
        · have:=filt_len a L;show (filt a L).length≤1048576;omega
        · show (0:Nat)≤1048576;omega
      · unfold dropR
        split
        · exact cntE_filt a L
        · exact cntE_nonneg L
    generalize dropR L a=R at *;obtain ⟨g,b⟩:=R;have h0:=cntE_nonneg L;have heq:=eqB_same g hg.1 hg.2.1
    have hm:laws_markLibrary.f L 1=some (1+cntE L):=by unfold laws_markLibrary.f;exact if_pos ⟨by omega,by omega⟩
    have hg3:cntE g≤cntE L:=hg.2.2.1;have hg4:0≤cntE g:=hg.2.2.2;have hh:=heldL_ev g 1 (by omega) (by omega);exact ev_neg (by omega) (Ev.bind ht (Ev.bind hsp (ev_bind0 hi (Ev.bind heq (Ev.bind he (ev_bind0 hm (Ev.bind hh (ev_pos ⟨rfl,rfl,rfl,by omega,rfl,by show 0≤1+cntE g;omega,by show 1+cntE g≤_;omega⟩ (Ev.now _)))))))))
  · have hl:lftOf 1048576 (l.length+bulkB l)=-1:=by unfold lftOf;rw [if_neg q]
    rw [hl];exact ev_pos (by omega) (Ev.now _)
end Go.Proofs.YteagahcbffgjpaaGreatDoor.Pure
