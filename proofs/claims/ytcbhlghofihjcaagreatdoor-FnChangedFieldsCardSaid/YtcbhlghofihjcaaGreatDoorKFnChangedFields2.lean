/- Texts of this session for the law FnChangedFields, put together by a program (merge.py): each ends with its namespace; conditions stand with each theorem. -/
import Derived.Handed
import Derived.SizedLaws
import Derived.Lib.LaidTab
import Derived.Test.YtcbhlghofihjcaaGreatDoorKFnChangedFields1
import Derived.Lib.Strings
import Derived.Deep.Slices
import Derived.Test.YtcbhlghofihjcaaGreatDoorProg
import Derived.Shelf.Strconv.Itoa3
import Derived.Below
import Derived.Deep.Draws
import Derived.Deep.AppendLies
import Derived.Maps.AppendAt
import Derived.OwnWalk
import Derived.Laws.BytesArg
import Derived.Laws.MakeOwn
import Derived.Laws.OwnMore
import Derived.Deep.OwnRows
import Derived.Tactics
import Derived.Lib.ConvBytes
import Derived.Laws.Slices
import Derived.WalkKit
import Derived.KernelRfl
import Derived.RowKit3
import Derived.Deep.LoopGhost
import Derived.Deep.QuietTactic
import Derived.BigQuiet
import Derived.WideLaws
import Derived.Deep.DeepCutAuto
import Derived.Deep.CutBlock
import Derived.Deep.RegionHeld3
import Derived.Laws.Rows
import Derived.Lib.AppendStr
import Derived.ArgAppend
import Derived.Laws.IdiomCopy
import Derived.OrdersHeld
import Derived.Laws.BitsLemmas
import Derived.RowKit
import Derived.Laws.Bits64b
import Derived.Lib.SplitLaws
import Derived.Lib.IndexBytes
import Derived.Lib.IndexLaws
import Derived.Shelf.Strings.Builder1
import Derived.Shelf.Strings.Builder2
import Derived.Shelf.Strings.OnBuilder
import Derived.Shelf.Small.Utf8
import Derived.Shelf.Small.Strs
import Derived.Shelf.Strconv.Itoa0
import Derived.Shelf.Strconv.Itoa1
import Derived.Shelf.LaysM
import Derived.Shelf.Strconv.Itoa2
import Derived.Shelf.Strings.Search1
import Derived.Shelf.Strings.Search2
import Derived.Shelf.Strings.Search3
import Derived.Shelf.Strings.Count
import Derived.Shelf.Strings.Shaped
import Derived.Shelf.Strings.Split
import Derived.Shelf.Strings.SplitShaped
import Derived.Shelf.Strings.Runes
import Derived.Shelf.Strings.AsciiSet
import Derived.Shelf.Unicode.DecodeSlow
import Derived.Ground.SlgfProg
import Derived.Shelf.SlicesE.IndexFunc
import Derived.Shelf.SlicesE.DeleteFunc
set_option maxHeartbeats 8000000
set_option maxRecDepth 100000
namespace Go.Proofs.YtcbhlghofihjcaaGreatDoor.Crd
open Go
variable {H:Type} {enc:TypeId × Value→H}
theorem wrap_and_shaped {a:Assume} {C:Checked} {os:Os} {f:FuncId} {fn:Func} {s:ChangeSpec} {conds:List PathCond} {apart fresh handsOn again:Bool} {X:World→Array Value→Prop}
    (hX:∀ (w w':World) (args:Array Value),w.heap=w'.heap→X w args→X w' args)
    (own:ownKnob C.prog.godebug=none) (started:os.Started) (noInit:C.prog.inits.idxOf? f=none) (hfn:C.prog.funcs[f]?=some fn)
    (witness:∃ (w:World) (tape:Tape) (i:Input),w.os=os∧(w.forCall tape i).Shaped C.prog∧i.vars=[]∧Input.okWide C.prog (w.forCall tape i) .any w.heap.size f i ∧
      ((s.pre enc C.prog fn conds apart (w.forCall tape i).memory i.args∧X (w.forCall tape i).memory i.args)∧sizedMet enc C.prog fn (OpenSpec.ofChange s) apart (w.forCall tape i).memory i.args)∧a.holds C.prog (lone (Frame.enter C.prog f i.args .normal) [] (w.forCall tape i)))
    (contract:∀ (W:World) (base:Nat) (args:Array Value) (ds gs:List (DataW H)) (before:List MemPlace),
      (∀ (j:Nat) t v,fn.params[j]?=some t→args[j]?=some v→Value.okWide C.prog W .any base t v) →
      DataW.Whole enc C.prog fn.params.toList s.vars apart W args.toList ds gs before →
      conds.all (PathCond.test C.prog ⟨fn.params.toList,ds,s.plain.varTypes C.prog,gs⟩)=true →
      (DataW.weightsEach C.prog (fn.params.toList++s.plain.varTypes C.prog) (ds++gs)).all (·≤reachBytes)=true→X W args→W.ShapedOpen C.prog →
      Calls C.prog f args W fun e W'=>∃ v,e=.returned v∧s.post enc C.prog fn apart fresh handsOn again W args v W') :
    ReturnsInHanded a C os f .any (fun w args=>(s.pre enc C.prog fn conds apart w args∧X w args)∧sizedMet enc C.prog fn (OpenSpec.ofChange s) apart w args) (s.post enc C.prog fn apart fresh handsOn again):=by
  refine returnsInHanded_of_calls own started noInit witness ?_;intro w tape i _ hsh _ hok hpre hholds;obtain ⟨_,_,_,fn',hfn',_,_,_,_,hval⟩:=hok;have e:fn'=fn:=ojz (hfn'.symm.trans hfn);subst e;obtain ⟨⟨⟨ds,gs,before,hw,hc⟩,hx⟩,hz⟩:=hpre;have hw':=DataW.Whole.of_heap (w':=w.forCall tape i) (by rfl) hw
  refine (contract (w.forCall tape i) w.heap.size i.args ds gs before hval hw' hc (hz.weights hw) (hX _ _ _ (by rfl) hx) hsh).mono fun e W' ⟨v,he,hp⟩=>?_
  subst he;exact ChangeSpec.post_blind hp
end Go.Proofs.YtcbhlghofihjcaaGreatDoor.Crd

namespace Go.Proofs.YtcbhlghofihjcaaGreatDoor.LTab
open Go Go.Lib
def textData {H:Type} (ss:List ByteArray):DataW H:=.agg (ss.map fun s=>.lit (.string s.data.toList))
theorem cells_of_text {H:Type} {enc:TypeId × Value→H} {P:Program} {w:World} {base:Nat} {sp:Nat→Bool} {held:Bool} {fuel:Nat} {t e:TypeId} {n:Nat} {cs:List Value} {ss:List ByteArray} {p:List MemPlace}
    (ht:P.underlying t=some (.array n e)) (he:P.underlying e=some .string) (hce:P.cellsOf e=1) (hct:P.cellsOf t=n)
    (h:DataW.trod enc P w base sp held fuel t cs=some (textData ss,p)):cs=ss.map Value.string:=by
  cases fuel with
  | zero=>simp [DataW.trod] at h
  | succ fuel =>
    simp only [DataW.trod,ht,hce,hct,Nat.mul_one] at h
    split at h
    · rename_i hl
      obtain ⟨xs,hm,hx⟩:=Option.map_eq_some_iff.1 h
      have hxs:xs.map (·.1)=ss.map fun s=>(DataW.lit (.string s.data.toList):DataW H):=by
        have:=congrArg Prod.fst hx
        simpa [textData] using this
      have hxl:xs.length=n:=by simpa using mapM_length hm
      have hzl:ss.length=n:=by
        have:=congrArg List.length hxs;simp at this;omega
      apply List.ext_getElem?;intro i;by_cases hi:i<n
      · obtain ⟨b,hb,hf⟩:=mapM_at hm i i (by simp [hi])
        obtain ⟨s,hc,rfl,_⟩:=DataW.trod_string he hf
        have h1:cs[i]?=some (.string s):=by
          have:=congrArg (·[0]?) hc
          simpa [List.getElem?_take,List.getElem?_drop] using this
        have h2:(xs.map (·.1))[i]?=some (DataW.lit (.string s.data.toList):DataW H):=by simp [hb]
        rw [hxs] at h2;simp only [List.getElem?_map,Option.map_eq_some_iff,DataW.lit.injEq,Lit.string.injEq] at h2;obtain ⟨s',hs',e'⟩:=h2
        have:s'=s:=by cases s;cases s';simp at e';simp [e']
        subst this;simp [h1,hs']
      · rw [List.getElem?_eq_none (by omega),List.getElem?_eq_none (by simp;omega)]
    · cases h
theorem text_of_head {P:Program} {W:World} {name:String} {ss:List ByteArray} {rest:List (String × DataW Unit)} {g:Nat} {t e:TypeId} {n:Nat}
    (hg:P.globalNamed name=some g) (hty:(P.globals[g]?).map (·.type)=some t) (ht:P.underlying t=some (.array n e)) (he:P.underlying e=some .string) (hce:P.cellsOf e=1) (hct:P.cellsOf t=n)
    (h:laidMet P ((name,textData ss) :: rest) W) (i:Nat) (s:ByteArray) (hi:ss[i]?=some s):W.cell? ⟨g,i,none⟩=some (.string s):=by
  obtain ⟨ps,⟨g',t',cs,fuel,p,q,hg',ht',hvar,hd,_,_⟩,_⟩:=h;obtain rfl:=ojz (hg.symm.trans hg');obtain rfl:=ojz (hty.symm.trans ht');have hc:=cells_of_text ht he hce hct hd;have:=World.var?_cell hg hvar i
  have e:cs[i]?=some (Value.string s):=by rw [← Array.getElem?_toList,hc,List.getElem?_map,hi];rfl
  rw [e] at this;exact this
end Go.Proofs.YtcbhlghofihjcaaGreatDoor.LTab

namespace Go.Proofs.YtcbhlghofihjcaaGreatDoor.B
open Go.RowKit Go.Proofs.YtcbhlghofihjcaaGreatDoorW.PrintWords Go.Proofs.YtcbhlghofihjcaaGreatDoorW.PrintLast
set_option linter.unusedVariables false
set_option linter.unusedSimpArgs false
theorem w64 {x:Int} (h:-9223372036854775808≤x) (h':x≤9223372036854775807):wrap64 x=x:=by unfold wrap64;omega
theorem ev_pos {α:Type} {c:Prop} [Decidable c] {g f:Nat→Option α} {r:α} (h:c) (e:Ev g r):Ev (fun k=>if c then g k else f k) r:=Ev.congr (fun _=>if_pos h) e
theorem ev_neg {α:Type} {c:Prop} [Decidable c] {g f:Nat→Option α} {r:α} (h:¬ c) (e:Ev f r):Ev (fun k=>if c then g k else f k) r:=Ev.congr (fun _=>if_neg h) e
theorem ev_bind0 {α β:Type} {o:Option α} {f:Nat→α→Option β} {a:α} {r:β} (h:o=some a) (k:Ev (fun n=>f n a) r):Ev (fun n=>o.bind (f n)) r:=Ev.congr (fun _=>by rw [h];rfl) k
theorem ev_uniq {α:Type} {g:Nat→Option α} {a b:α} (h:Ev g a) (h':Ev g b):a=b:=by
  obtain ⟨K,h⟩:=h;obtain ⟨K',h'⟩:=h';exact ojz ((h _ (Nat.le_max_left K K')).symm.trans (h' _ (Nat.le_max_right K K')))
theorem ev_eq {α:Type} {g:Nat→Option α} {a b:α} (h:Ev g a) (e:a=b):Ev g b:=e ▸ h
abbrev L (s:ByteArray):List UInt8:=s.data.toList
def mkB (l:List UInt8):ByteArray:=⟨l.toArray⟩
theorem L_mk (l:List UInt8):L (mkB l)=l:=by simp [mkB]
theorem mk_L (s:ByteArray):mkB (L s)=s:=by cases s;simp [mkB,L]
theorem L_inj {a b:ByteArray} (h:L a=L b):a=b:=by rw [← mk_L a,h,mk_L]
theorem L_iff {a b:ByteArray}:a=b ↔ L a=L b:=⟨fun h=>by rw [h],L_inj⟩
theorem L_len (s:ByteArray):(L s).length=s.size:=(Lib.size_eq s).symm
theorem size_mk (l:List UInt8):(mkB l).size=l.length:=by rw [← L_len,L_mk]
theorem toList_L (s:ByteArray):s.toList=L s:=Lib.toList_data s
theorem L_extract (s:ByteArray) (a b:Nat):L (s.extract a b)=((L s).drop a).take (b-a):=Lib.extract_data s a b
theorem L_append (a b:ByteArray):L (a++b)=L a++L b:=by simp [L,ByteArray.data_append]
theorem size_append (a b:ByteArray):(a++b).size=a.size+b.size:=by rw [← L_len,L_append,List.length_append,L_len,L_len]
theorem mk_append (a b:List UInt8):mkB a++mkB b=mkB (a++b):=L_inj (by rw [L_append,L_mk,L_mk,L_mk])
theorem bt_get (s:ByteArray) (i:Nat) (h:i<s.size):bt s (i:Int)=(((L s)[i]'(by rw [L_len];exact h)).toNat:Int):=by
  unfold bt;simp only [Int.toNat_natCast,h,dif_pos];rfl
theorem bt_getD (s:ByteArray) (i:Nat) (h:i<s.size):bt s (i:Int)=(((L s).getD i 0).toNat:Int):=by
  rw [bt_get s i h,List.getD_eq_getElem?_getD,List.getElem?_eq_getElem (by rw [L_len];exact h)];rfl
theorem size_pos_iff (s:ByteArray):s.size=0 ↔ L s=[]:=by rw [← L_len,List.length_eq_zero_iff]
theorem u8_inj {a b:UInt8} (h:(a.toNat:Int)=(b.toNat:Int)):a=b:=UInt8.toNat_inj.1 (by omega)
theorem toList_eq_iff {a b:ByteArray}:a.toList=b.toList ↔ a=b:=by rw [toList_L,toList_L,L_iff]
end Go.Proofs.YtcbhlghofihjcaaGreatDoor.B

namespace Go.Proofs.YtcbhlghofihjcaaGreatDoor.Opn
open Go.RowKit Go.Proofs.YtcbhlghofihjcaaGreatDoorW.PrintWords
set_option linter.unusedVariables false
set_option linter.unusedSimpArgs false
variable {H:Type} {enc:TypeId × Value→H} {P:Program} {w:World} {base:Nat} {spare:Nat→Bool} {held:Bool}
def okInt (k:IntKind) (n:Int):Prop:=(Lit.int k n).wf=true
def okList {α:Type} (p:α→Prop) (xs:List α):Prop:=xs.length≤9223372036854775807∧∀ x∈xs,p x
theorem of_int {t:TypeId} {k:IntKind} {fuel:Nat} {cs:List Value} {x:DataW H × List MemPlace} (ht:P.underlying t=some (.int k)) (h:DataW.trod enc P w base spare held fuel t cs=some x) :
    ∃ n,(Kd.int k).K w n cs∧okInt k n:=by
  obtain ⟨n,rfl,rfl,hw⟩:=DataW.trod_int ht h;exact ⟨n,rfl,hw⟩
theorem add_add (a:Addr) (k i:Nat):(a.add k).add i=a.add (k+i):=by
  unfold Addr.add
  by_cases hk:k=0 <;> by_cases hi:i=0 <;> simp [hk,hi,Nat.add_assoc]
theorem of_slice {α:Type} {d:Kd α} {ok:α→Prop} {t e:TypeId} {fuel:Nat} {cs:List Value} {x:DataW H × List MemPlace} (ht:P.underlying t=some (.slice e)) (hc:P.cellsOf e=d.sz)
    (ih:∀ n cs x,DataW.trod enc P w base spare held n e cs=some x→∃ y,d.K w y cs∧ok y) (h:DataW.trod enc P w base spare held fuel t cs=some x) :
    ∃ ys,(Kd.slice e d).K w ys cs∧okList ok ys:=by
  rcases Go.Deep.open_slice ht h with ⟨rfl,_⟩|⟨a,len,cap,m,n,D,Pl,rfl,hb,hl,hm,hmm,hxe,hel⟩
  · exact ⟨[],⟨none,0,rfl,by simp,rfl,by simp,fun h=>absurd h (by simp)⟩,by simp,fun x hx=>by simp at hx⟩
  · have hlm:len≤m:=by rw [hmm];split <;> omega
    have hm':len≤9223372036854775807:=by unfold maxLen at hm;omega
    have key:∀ i,i<len→∃ cs' y,w.cells? base (a.add (i*P.cellsOf e)) (P.cellsOf e)=some cs'∧d.K w y cs'∧ok y:=by
      intro i hi;obtain ⟨cs',h1,h2⟩:=hel i (by omega);obtain ⟨y,hy,ho⟩:=ih _ _ _ h2;exact ⟨cs',y,h1,hy,ho⟩
    obtain ⟨ys,hlen,hys⟩:∃ ys:List α,ys.length=len∧∀ i (hi:i<ys.length),∃ cs',w.cells? base (a.add (i*P.cellsOf e)) (P.cellsOf e)=some cs'∧d.K w ys[i] cs'∧ok ys[i]:=by
      clear h hxe hel hmm hlm hl hm hm'
      induction len with
      | zero=>exact ⟨[],rfl,fun i hi=>by simp at hi⟩
      | succ len ihl =>
        obtain ⟨ys,h1,h2⟩:=ihl (fun i hi=>key i (by omega));obtain ⟨cs',y,h3,h4,h5⟩:=key len (by omega);refine ⟨ys++[y],by simp [h1],fun i hi=>?_⟩;by_cases hi':i<ys.length
        · rw [List.getElem_append_left hi'];exact h2 i hi'
        · have:i=len:=by simp at hi;omega
          subst this
          refine ⟨cs',h3,?_,?_⟩ <;> rw [List.getElem_append_right (by omega)] <;> simpa [h1]
    refine ⟨ys,⟨some a,cap,by rw [hlen],by omega,rfl,by omega,fun _=>⟨a,rfl,fun j p hj=>?_⟩⟩,by omega,fun y hy=>?_⟩
    · obtain ⟨hj',rfl⟩:=List.getElem?_eq_some_iff.1 hj
      obtain ⟨cs',h1,h2,_⟩:=hys j hj';rw [hc] at h1;refine ⟨cs',d.K_len h2,h2,fun i u hu=>?_⟩;obtain ⟨_,hl',hcell⟩:=World.cells?_some h1
      have hi:i<d.sz:=by have:=(List.getElem?_eq_some_iff.1 hu).1;omega
      have:=hcell i hi;rw [hu,add_add] at this;exact this
    · obtain ⟨i,hi,rfl⟩:=List.getElem_of_mem hy
      obtain ⟨_,_,_,h3⟩:=hys i hi;exact h3
end Go.Proofs.YtcbhlghofihjcaaGreatDoor.Opn

namespace Go.Proofs.YtcbhlghofihjcaaGreatDoor.Ext
open Go.RowKit Go.Proofs.YtcbhlghofihjcaaGreatDoorW.PrintWords Go.Proofs.YtcbhlghofihjcaaGreatDoorW.PrintLast
set_option linter.unusedVariables false
set_option linter.unusedSimpArgs false
theorem cell_lt {w:World} {a:Addr} {v:Value} (h:w.cell? a=some v):a.block<w.heap.size:=by
  unfold World.cell? at h;by_cases hb:a.block<w.heap.size
  · exact hb
  · rw [Array.getElem?_eq_none (by omega)] at h;cases h
theorem cell_spot {w:World} {a:Addr} {v:Value} (h:w.cell? a=some v):a.spot=none:=by
  unfold World.cell? at h
  split at h
  · by_cases hs:a.spot.isSome=true
    · rw [if_pos hs] at h;cases h
    · simpa using hs
  · cases h
theorem add_zero (a:Addr):a.add 0=a:=rfl
theorem plain_add (b o j:Nat):(⟨b,o,none⟩:Addr).add j=⟨b,o+j,none⟩:=by
  unfold Addr.add
  by_cases h:j=0 <;> simp [h]
theorem strs_read {w:World} {A:Option Addr} {xs:List ByteArray} (h:Kd.C Kd.string w A xs.length xs) (hn:0<xs.length) :
    ∃ b o,A=some ⟨b,o,none⟩∧b<w.heap.size∧∀ (j:Nat) y,xs[j]?=some y→w.cell? ⟨b,o+j,none⟩=some (.string y):=by
  obtain ⟨ad,rfl,hc⟩:=h.2.2 hn
  have hcell:∀ (j:Nat) y,xs[j]?=some y→w.cell? (ad.add j)=some (.string y):=by
    intro j y hj;obtain ⟨c,_,hk,hcc⟩:=hc j y hj;have:=hcc 0 (.string y) (by rw [hk];rfl)
    simpa [Kd.string,Kd.scalar] using this
  have h0:=hcell 0 xs[0] (List.getElem?_eq_getElem hn);rw [add_zero] at h0;obtain ⟨b,o,s⟩:=ad;have hs:s=none:=cell_spot h0;subst hs;exact ⟨b,o,rfl,cell_lt h0,fun j y hj=>by have:=hcell j y hj;rwa [plain_add] at this⟩
theorem cell_below {w w':World} {a:Addr} {v:Value} (hb:Below w.heap.size w w') (h:w.cell? a=some v):w'.cell? a=some v:=(hb.cell (cell_lt h)).trans h
theorem var_below {P:Program} {n:String} {cs:Array Value} {w w':World} (hb:Below w.heap.size w w') (h:w.var? P n=some cs):w'.var? P n=some cs:=by
  unfold World.var? at h ⊢
  cases hg:P.globalNamed n with
  | none=>simp [hg] at h
  | some g =>
    simp only [hg,Option.bind_some] at h ⊢;by_cases hlt:g<w.heap.size
    · rw [hb.block g hlt];exact h
    · rw [Array.getElem?_eq_none (by omega)] at h;simp at h
theorem drawn_below {w w':World} (h:Drawn0 w w'):Below w.heap.size w w':=h.below
theorem gate_tmp {P:Program} {ops:Array Oper} {rest:List Oper} {o:Oper} {a:Act} {Q:Exit→Act→World→Prop} {W:World} {t:Tmp} {ars:Array Operand} {ts:Array TypeId} (_ho:o.op=.call { callee:=.value (.tmp t),args:=ars,argTypes:=ts })
    (h:wpList P ops Q (o :: rest) a W):wpList P ops Q (o :: rest) a W:=h
theorem goesLt_ {P:Program} {ops:Array Oper} {Q:Exit→Act→World→Prop} {rest:List Oper} {oi:Oper} {a:Act} {w:World} {t:Tmp} {f:FuncId} (ht:a.tmps.getD t undef=Value.func (.func f) #[] #[]) (N:Option Tmp) (hd:oi.dst=N) (hg:oi.guard=none) {fn:Func} {ars:Array Operand} {ts:Array TypeId}
    (hf:P.funcs[f]?=some fn) (hname:(fn.name == "runtime.NumGoroutine")=false) (hb:fn.body.isSome=true) (args:Array Value)
    (hop:oi.op=.call { callee:=.value (.tmp t),args:=ars,argTypes:=ts }) (hargs:ars.map a.eval=args)
    (h:Calls P f args w fun e w'=>∃ v,e=.returned v∧wpList P ops Q rest (a.put N v) w'):wpList P ops Q (oi :: rest) a w:=by
  refine wpList_plain hg fun K hK=>?_
  have he:=Go.Proofs.YtcbhlghofihjcaaGreatDoorW.PrintLast.enters_ hf hname hb args w
  have hrun:(execOp a.eval oi).run P w=.ok (.enter f args) w:=by
    unfold execOp;have hv:a.eval (.tmp t)=Value.func (.func f) #[] #[]:=ht;simp [hop,resolve,Deferred.ofValue,invoke,hv,hargs,he]
  unfold Oper.wp;rw [hrun,Oper.upon_enter]
  refine h.mono fun e w'' hh=>?_
  obtain ⟨v,rfl,hk⟩:=hh;subst hd;exact hK _ _ hk
end Go.Proofs.YtcbhlghofihjcaaGreatDoor.Ext

namespace Go.Proofs.YtcbhlghofihjcaaGreatDoor.Gl
open Go.RowKit Go.Proofs.YtcbhlghofihjcaaGreatDoorW.PrintWords Go.Proofs.YtcbhlghofihjcaaGreatDoor.Ext
def fieldsL:List ByteArray:=[(⟨#[97,117,116,104,111,114,115]⟩:ByteArray),(⟨#[101,100,105,116,111,114,115]⟩:ByteArray),(⟨#[116,105,116,108,101]⟩:ByteArray),(⟨#[99,111,110,116,97,105,110,101,114]⟩:ByteArray),(⟨#[112,117,98,108,105,115,104,101,114]⟩:ByteArray),(⟨#[100,97,116,101]⟩:ByteArray),(⟨#[118,111,108,117,109,101]⟩:ByteArray),(⟨#[112,97,103,101,115]⟩:ByteArray)]
structure GL (gF1 gF2 gF3:Bool) (w:World):Prop where
  mx:∃ m,w.cell? ⟨4,0,none⟩=some (.int .i64 m)
  tab:gF1=true→Lib.TabIs Tryz.prog w "internal/strconv.uint64pow10" .u64 Lib.pow10Tab
  fields:gF3=true→∀ (i:Nat) s,fieldsL[i]?=some s→w.cell? ⟨0,i,none⟩=some (.string s)
theorem GL.below {gF1 gF2 gF3:Bool} {w w':World} (h:GL gF1 gF2 gF3 w) (hb:Below w.heap.size w w'):GL gF1 gF2 gF3 w' where
  mx:=by obtain ⟨m,hm⟩:=h.mx;exact ⟨m,cell_below hb hm⟩
  tab:=fun e=>var_below hb (h.tab e)
  fields:=fun e i s hi=>cell_below hb (h.fields e i s hi)
theorem GL.drawn {gF1 gF2 gF3:Bool} {w w':World} (h:GL gF1 gF2 gF3 w) (hd:Drawn0 w w'):GL gF1 gF2 gF3 w':=h.below hd.below
end Go.Proofs.YtcbhlghofihjcaaGreatDoor.Gl

namespace Go.Proofs.YtcbhlghofihjcaaGreatDoor.G
open Go.RowKit Go.Proofs.YtcbhlghofihjcaaGreatDoorW.PrintWords Go.Proofs.YtcbhlghofihjcaaGreatDoorW.PrintLast Go.Proofs.YtcbhlghofihjcaaGreatDoorW.PrintMore
open Go.Proofs.YtcbhlghofihjcaaGreatDoor.Gl Go.Proofs.YtcbhlghofihjcaaGreatDoor.Ext
attribute [local go_sem] max2_int min2_int max_two min_two max_three min_three max_four min_four   -- for this text's walks alone
set_option linter.unusedVariables false
set_option linter.unusedSimpArgs false
def errW:Option Int→Value
  | none=>.nilIface
  | some c=>.iface 0 (.int .i64 c)
theorem errW_none:errW none=.nilIface:=rfl
theorem errW_some (c:Int):errW (some c)=.iface 0 (.int .i64 c):=rfl
open Go.Proofs.YtcbhlghofihjcaaGreatDoor.Gl in
theorem C_fields {gF1 gF2:Bool} {w:World} (h:GL gF1 gF2 true w):Kd.C Kd.string w (some ⟨0,0,none⟩) 8 fieldsL:=by
  refine ⟨rfl,by decide,fun _=>⟨_,rfl,fun j p hp=>⟨[.string p],rfl,rfl,fun i u hu=>?_⟩⟩⟩
  match i,hu with
  | 0,hu =>
    obtain rfl:Value.string p=u:=by simpa using hu
    have:=h.fields rfl j p hp;by_cases e:j=0
    · subst e;simpa [Addr.add,Kd.string,Kd.scalar] using this
    · simpa [Addr.add,Kd.string,Kd.scalar,e] using this
  | i+1,hu=>simp at hu
theorem at_tab {w:World} {g n:Nat} {xs:List ByteArray} (h:Kd.C Kd.string w (some ⟨g,0,none⟩) n xs) (i:Int) (h0:0≤i) (h1:i<n):∃ ad,(some ⟨g,0,none⟩:Option Addr)=some ad∧w.cell? ⟨g,i.toNat,none⟩=some (.string (rdOf ByteArray.empty xs i)):=by
  obtain ⟨ad,e,hc⟩:=Kd.at_string h i h0 h1
  cases e
  refine ⟨_,rfl,?_⟩;by_cases e:i.toNat=0
  · simpa [Addr.add,e] using hc
  · simpa [Addr.add,e] using hc
section
variable {P:Program} {ops:Array Oper} {rest:List Oper} {o:Oper} {a:Act} {Q:Exit→Act→World→Prop} {W:World}
theorem tab_event (hgd:o.guard=none) {N:Tmp} (hN:o.dst=some N) {v:Value} (hrun:(execOp a.eval o).run P W=.ok (.value v) W) (h:wpList P ops Q rest (a.put (some N) v) W):wpList P ops Q (o :: rest) a W:=by
  refine wpList_plain hgd fun K hK=>?_
  unfold Oper.wp;rw [hrun]
  show K (a.put o.dst v) W
  rw [hN];exact hK _ _ h
end
def fieldsA:Array Value:=#[.string Go.Proofs.YtcbhlghofihjcaaGreatDoor.Gl.fieldsL[0],.string Go.Proofs.YtcbhlghofihjcaaGreatDoor.Gl.fieldsL[1],.string Go.Proofs.YtcbhlghofihjcaaGreatDoor.Gl.fieldsL[2],.string Go.Proofs.YtcbhlghofihjcaaGreatDoor.Gl.fieldsL[3],.string Go.Proofs.YtcbhlghofihjcaaGreatDoor.Gl.fieldsL[4],.string Go.Proofs.YtcbhlghofihjcaaGreatDoor.Gl.fieldsL[5],.string Go.Proofs.YtcbhlghofihjcaaGreatDoor.Gl.fieldsL[6],.string Go.Proofs.YtcbhlghofihjcaaGreatDoor.Gl.fieldsL[7]]
theorem tab_load0 {W:World} (h:Kd.C Kd.string W (some ⟨0,0,none⟩) 8 Go.Proofs.YtcbhlghofihjcaaGreatDoor.Gl.fieldsL) {o:Oper} (ho:o.op=.load 61 (.global 0)) {a:Act}:(execOp a.eval o).run Tryz.prog W=.ok (.value (.agg fieldsA)) W:=by
  have hc:∀ (i:Nat) (hi:i<8),W.cell? ⟨0,i,none⟩=some (.string Go.Proofs.YtcbhlghofihjcaaGreatDoor.Gl.fieldsL[i]):=fun i hi=>by
    obtain ⟨ad,_,hc⟩:=at_tab h (i:Int) (by omega) (by omega);rw [show ((i:Int)).toNat=i from rfl] at hc;rw [hc]
    congr 2
    unfold rdOf;rw [show ((i:Int)).toNat=i from rfl,List.getD_eq_getElem?_getD,List.getElem?_eq_getElem (show i<Go.Proofs.YtcbhlghofihjcaaGreatDoor.Gl.fieldsL.length from hi)];rfl
  have h0:=hc 0 (by omega);have h1:=hc 1 (by omega);have h2:=hc 2 (by omega);have h3:=hc 3 (by omega);have h4:=hc 4 (by omega);have h5:=hc 5 (by omega);have h6:=hc 6 (by omega);have h7:=hc 7 (by omega);clear h hc;unfold execOp;rw [ho];unfold fieldsA;generalize (Go.Proofs.YtcbhlghofihjcaaGreatDoor.Gl.fieldsL[0]:ByteArray)=s0 at *;generalize (Go.Proofs.YtcbhlghofihjcaaGreatDoor.Gl.fieldsL[1]:ByteArray)=s1 at *;generalize (Go.Proofs.YtcbhlghofihjcaaGreatDoor.Gl.fieldsL[2]:ByteArray)=s2 at *;generalize (Go.Proofs.YtcbhlghofihjcaaGreatDoor.Gl.fieldsL[3]:ByteArray)=s3 at *;generalize (Go.Proofs.YtcbhlghofihjcaaGreatDoor.Gl.fieldsL[4]:ByteArray)=s4 at *;generalize (Go.Proofs.YtcbhlghofihjcaaGreatDoor.Gl.fieldsL[5]:ByteArray)=s5 at *;generalize (Go.Proofs.YtcbhlghofihjcaaGreatDoor.Gl.fieldsL[6]:ByteArray)=s6 at *;generalize (Go.Proofs.YtcbhlghofihjcaaGreatDoor.Gl.fieldsL[7]:ByteArray)=s7 at *
  go_simp
theorem tab_index0 {W:World} {o:Oper} {x y:Operand} (ho:o.op=.index 61 x y) {a:Act} {i:Int} (hx:a.eval x=.agg fieldsA) (hy:a.eval y=.int .i64 i) (h0:0≤i) (h1:i<8):(execOp a.eval o).run Tryz.prog W=.ok (.value (.string (rdOf ByteArray.empty Go.Proofs.YtcbhlghofihjcaaGreatDoor.Gl.fieldsL i))) W:=by
  obtain ⟨n,rfl⟩:∃ n:Nat,i=n:=⟨i.toNat,by omega⟩
  have hn:n<8:=by omega
  unfold execOp;rw [ho];simp only [hx,hy]
  have hor:n=0∨n=1∨n=2∨n=3∨n=4∨n=5∨n=6∨n=7:=by omega
  have key:∀ n:Nat,(n=0∨n=1∨n=2∨n=3∨n=4∨n=5∨n=6∨n=7)→(Instr.index 61 (.agg fieldsA) (.int .i64 (n:Int))).run Tryz.prog W=.ok (.string (rdOf ByteArray.empty Go.Proofs.YtcbhlghofihjcaaGreatDoor.Gl.fieldsL (n:Int))) W:=by
    rintro n (rfl|rfl|rfl|rfl|rfl|rfl|rfl|rfl) <;> kernel_rfl
  have hk:=key n hor;rw [Sem.run_bind,hk];rfl
theorem info9:(Tryz.prog.info? 9).map (fun i=>(i.zero,i.size,i.bytes))=some (some (.string ⟨#[]⟩),1,16):=by kernel_rfl
theorem info68:(Tryz.prog.info? 68).map (fun i=>(i.zero,i.size,i.bytes))=some (some (.agg #[(.slice none 0 0),(.string ⟨#[]⟩),(.string ⟨#[]⟩),(.string ⟨#[]⟩)]),4,72):=by kernel_rfl
-- the values' own types
structure S68 where
  f0:(List ByteArray)
  f1:ByteArray
  f2:ByteArray
  f3:ByteArray
def z68:S68:=⟨([]:List ByteArray),(⟨#[]⟩:ByteArray),(⟨#[]⟩:ByteArray),(⟨#[]⟩:ByteArray)⟩
def k68:Kd S68:=Kd.iso (Kd.pair (Kd.slice 9 Kd.string) (Kd.pair Kd.string (Kd.pair Kd.string Kd.string))) (fun x:S68=>(x.f0,x.f1,x.f2,x.f3))
theorem k68_open {w:World} {x:S68} {cs:List Value} (h:k68.K w x cs):∃ A0 c0,cs=[.slice A0 x.f0.length c0,.string x.f1,.string x.f2,.string x.f3]∧x.f0.length≤c0∧Kd.string.C w A0 x.f0.length x.f0:=by
  obtain ⟨_,_,rfl,⟨A0,c0,rfl,l0,g0⟩,⟨_,_,rfl,rfl,⟨_,_,rfl,rfl,rfl⟩⟩⟩:=h;exact ⟨A0,c0,rfl,l0,g0⟩
theorem k68_mkM (w:World) (base:Nat) (ok:Nat→Prop) (x:S68) {v0:Value} (g0:Kd.string.R 9 w base ok v0 x.f0):k68.M w base ok x [v0,.string x.f1,.string x.f2,.string x.f3]:=⟨[v0],[.string x.f1,.string x.f2,.string x.f3],rfl,⟨v0,rfl,g0⟩,⟨[.string x.f1],[.string x.f2,.string x.f3],rfl,rfl,⟨[.string x.f2],[.string x.f3],rfl,rfl,rfl⟩⟩⟩
def rd_T68 (xs:List S68) (i:Int):S68:=xs.getD i.toNat z68
theorem at_T68 {w:World} {A:Option Addr} {n:Nat} {xs:List S68} (h:Kd.C k68 w A n xs) (i:Int) (h0:0≤i) (h1:i<n):∃ ad A0 c0,A=some ad∧w.cell? (ad.add (i.toNat*4))=some (.slice A0 (rd_T68 xs i).f0.length c0)∧w.cell? ⟨(ad.add (i.toNat*4)).block,(ad.add (i.toNat*4)).off+1,none⟩=some (.string (rd_T68 xs i).f1)∧w.cell? ⟨(ad.add (i.toNat*4)).block,(ad.add (i.toNat*4)).off+2,none⟩=some (.string (rd_T68 xs i).f2)∧w.cell? ⟨(ad.add (i.toNat*4)).block,(ad.add (i.toNat*4)).off+3,none⟩=some (.string (rd_T68 xs i).f3)∧(rd_T68 xs i).f0.length≤c0∧Kd.string.C w A0 (rd_T68 xs i).f0.length (rd_T68 xs i).f0:=by
  obtain ⟨ad,c,e,_,hK,fT⟩:=Kd.C_get h z68 i h0 h1;have hc:∀ j u,c[j]?=some u→w.cell? (ad.add (i.toNat*4+j))=some u:=fT;obtain ⟨A0,c0,rfl,l0,g0⟩:=k68_open hK;exact ⟨ad,A0,c0,e,hc 0 _ rfl,by rw [← add_field _ _ 1 (by omega)];exact hc 1 _ rfl,by rw [← add_field _ _ 2 (by omega)];exact hc 2 _ rfl,by rw [← add_field _ _ 3 (by omega)];exact hc 3 _ rfl,l0,g0⟩
theorem bcl {w w':World} {a:Addr} {v:Value} (hb:Below w.heap.size w w') (h:w.cell? a=some v):w'.cell? a=some v:=(hb.cell (World.block_lt_of_cell? w _ h)).trans h
theorem bsz {w0 w:World} {g:Nat} (hg:g=w.heap.size) (hb:Below w0.heap.size w0 w):w0.heap.size≤g:=hg ▸ hb.size
theorem bne {w:World} {g g':Nat} {o:Obj} (hg:g'=w.heap.size) (h:w.heap[g]?=some o):g≠g':=hg ▸ Nat.ne_of_lt (blk_lt h)
theorem ben {w:World} {g g':Nat} {o:Obj} (hg:g'=w.heap.size) (h:w.heap[g]?=some o):g'≠g:=hg ▸ Nat.ne_of_gt (blk_lt h)
theorem pu_ {P:Program} {ops:Array Oper} {Q:Exit→Act→World→Prop} {md:Region.Mode} {S:World→Prop} {ds:List Nat} (i:Nat) (N:Option Tmp) {oi:Oper} {v:Value} {fuel:Nat} {l:Array Bool} {a:Act} {w:World} (l':Array Bool) {T:Bool × List (List Nat × List Nat)} (hT:rtab md ops=T) {a':Act}
    (h:wpAnyLast P md ops Q S ds fuel l' a' w) (hi:ops[i]?=some oi:=by rfl) (hN:oi.dst=N:=by rfl) (hc:anyT T l.toList l'.toList i=true:=by kernel_rfl)
    (hQ:∀ c a w,Q (.panic c) (a.put oi.dst v) w→Q (.panic c) a w:=by exact fun _ _ _ h=>h) (hy:Yields P ops oi v a:=by exact Or.inl ⟨by rfl,by intro w';go_simp;with_reducible rfl⟩) (ha:a.put N v=a':=by simp only [Act.put,List.setIfInBounds_toArray,List.set_cons_zero,List.set_cons_succ,i64_w,i32_w];rfl) :
    wpAnyLast P md ops Q S ds (fuel+1) l a w:=pure_ l' hi hN (any_of hT hc) hQ hy ha h
theorem no_ {P:Program} {ops:Array Oper} {Q:Exit→Act→World→Prop} {md:Region.Mode} {S:World→Prop} {ds:List Nat} (N:Option Tmp) {v:Value} {fuel:Nat} {l:Array Bool} {a a':Act} {w:World} (h:wpAnyLast P md ops Q S ds fuel l a' w) (ha:a.put N v=a':=by simp only [Act.put,List.setIfInBounds_toArray,List.set_cons_zero,List.set_cons_succ,i64_w,i32_w];rfl) :
    wpAnyLast P md ops Q S ds fuel l (a.put N v) w:=norm_ ha h
theorem on_ {P:Program} {ops:Array Oper} {Q:Exit→Act→World→Prop} {md:Region.Mode} {S:World→Prop} {ds:List Nat} (i:Nat) (N:Option Tmp) {oi:Oper} {fuel:Nat} {l:Array Bool} {a:Act} {w:World} (l':Array Bool) {T:Bool × List (List Nat × List Nat)} (hT:rtab md ops=T)
    (h:∀ K:Act→World→Prop,Shut (∀ a' w',S w'→(S w'→wpAnyLast P md ops Q S ds fuel l' a' w')→K a' w')→if Region.wanted oi (yielded ops a.tmps)=true then Oper.wp P oi a w K Q else K (a.put N undef) w)
    (hi:ops[i]?=some oi:=by rfl) (hN:oi.dst=N:=by rfl) (hc:(readyT T.2 l.toList == [i] && l.toList.set i true == l'.toList)=true:=by kernel_rfl) (hd:i ∉ ds:=by decide) :
    wpAnyLast P md ops Q S ds (fuel+1) l a w:=one_ l' hi hN (one_of hT hc) hd h
theorem gs_ {P:Program} {ops:Array Oper} {Q:Exit→Act→World→Prop} {oi:Oper} {N:Option Tmp} {a:Act} {w:World} {K:Act→World→Prop} {f:FuncId} {fn:Func} {as_:Array Operand} {ts:Array TypeId} (hf:P.funcs[f]?=some fn) (args:Array Value)
    (h:Calls P f args w fun e w'=>∃ v,e=.returned v∧K (a.put N v) w') (hname:(fn.name == "runtime.NumGoroutine")=false:=by kernel_rfl) (hb:fn.body.isSome=true:=by rfl)
    (hw:Region.wanted oi (yielded ops a.tmps)=true:=by rfl) (hN:oi.dst=N:=by rfl) (hop:oi.op=.call { callee:=.value (.func f),args:=as_,argTypes:=ts }:=by rfl)
    (hargs:as_.map a.eval=args:=by (try simp only [List.map_toArray,List.map_cons,List.map_nil]);first|done|rfl|(simp only [List.length_drop,List.length_take];rfl)):if Region.wanted oi (yielded ops a.tmps)=true then Oper.wp P oi a w K Q else K (a.put N undef) w :=
  goes_ hf hname hb args hw hN hop hargs h
theorem blkc4 {w:World} {g:Nat} {t:TypeId} {a0 a1 a2 a3:Value} (h:w.heap[g]?=some (.cells #[a0,a1,a2,a3] t (0,0))):w.cell? ⟨g,0,none⟩=some a0∧w.cell? ⟨g,1,none⟩=some a1∧w.cell? ⟨g,2,none⟩=some a2∧w.cell? ⟨g,3,none⟩=some a3∧w.frozen? ⟨g,0,none⟩=false∧w.frozen? ⟨g,1,none⟩=false∧w.frozen? ⟨g,2,none⟩=false∧w.frozen? ⟨g,3,none⟩=false:=⟨blk_cell h 0,blk_cell h 1,blk_cell h 2,blk_cell h 3,blk_frozen h 0,blk_frozen h 1,blk_frozen h 2,blk_frozen h 3⟩
theorem blkc14 {w:World} {g:Nat} {t:TypeId} {a0 a1 a2 a3 a4 a5 a6 a7 a8 a9 hJ hU hV hY:Value} (h:w.heap[g]?=some (.cells #[a0,a1,a2,a3,a4,a5,a6,a7,a8,a9,hJ,hU,hV,hY] t (0,0))):w.cell? ⟨g,0,none⟩=some a0∧w.cell? ⟨g,1,none⟩=some a1∧w.cell? ⟨g,2,none⟩=some a2∧w.cell? ⟨g,3,none⟩=some a3∧w.cell? ⟨g,4,none⟩=some a4∧w.cell? ⟨g,5,none⟩=some a5∧w.cell? ⟨g,6,none⟩=some a6∧w.cell? ⟨g,7,none⟩=some a7∧w.cell? ⟨g,8,none⟩=some a8∧w.cell? ⟨g,9,none⟩=some a9∧w.cell? ⟨g,10,none⟩=some hJ∧w.cell? ⟨g,11,none⟩=some hU∧w.cell? ⟨g,12,none⟩=some hV∧w.cell? ⟨g,13,none⟩=some hY∧w.frozen? ⟨g,0,none⟩=false∧w.frozen? ⟨g,1,none⟩=false∧w.frozen? ⟨g,2,none⟩=false∧w.frozen? ⟨g,3,none⟩=false∧w.frozen? ⟨g,4,none⟩=false∧w.frozen? ⟨g,5,none⟩=false∧w.frozen? ⟨g,6,none⟩=false∧w.frozen? ⟨g,7,none⟩=false∧w.frozen? ⟨g,8,none⟩=false∧w.frozen? ⟨g,9,none⟩=false∧w.frozen? ⟨g,10,none⟩=false∧w.frozen? ⟨g,11,none⟩=false∧w.frozen? ⟨g,12,none⟩=false∧w.frozen? ⟨g,13,none⟩=false:=⟨blk_cell h 0,blk_cell h 1,blk_cell h 2,blk_cell h 3,blk_cell h 4,blk_cell h 5,blk_cell h 6,blk_cell h 7,blk_cell h 8,blk_cell h 9,blk_cell h 10,blk_cell h 11,blk_cell h 12,blk_cell h 13,blk_frozen h 0,blk_frozen h 1,blk_frozen h 2,blk_frozen h 3,blk_frozen h 4,blk_frozen h 5,blk_frozen h 6,blk_frozen h 7,blk_frozen h 8,blk_frozen h 9,blk_frozen h 10,blk_frozen h 11,blk_frozen h 12,blk_frozen h 13⟩
theorem ta0_ {P:Program} {ops:Array Oper} {Q:Exit→Act→World→Prop} {md:Region.Mode} {S:World→Prop} {ds:List Nat} (i:Nat) (N:Option Tmp) {oi:Oper} {v:Value} {fuel:Nat} {l:Array Bool} {a:Act} {w:World} (l':Array Bool) {T:Bool × List (List Nat × List Nat)} {B:List Nat} (hT:rtab md ops=T) (hB:waitsOk T.2 B=true) (hS:S w) {a':Act}
    (h:wpAnyLast P md ops Q S ds fuel l' a' w) (hi:ops[i]?=some oi:=by rfl) (hN:oi.dst=N:=by rfl) (hc:takeW T B ds l.toList l'.toList i=true:=by kernel_rfl)
    (hQ:∀ c a w,Q (.panic c) (a.put oi.dst v) w→Q (.panic c) a w:=by exact fun _ _ _ h=>h) (hy:YieldsIf P ops S oi v a:=by exact Or.inl ⟨by rfl,by rintro w' ⟨s0,s1,s2,s3⟩;go_simp;with_reducible rfl⟩) (ha:a.put N v=a':=by simp only [Act.put,List.setIfInBounds_toArray,List.set_cons_zero,List.set_cons_succ,i64_w,i32_w];rfl) :
    wpAnyLast P md ops Q S ds (fuel+1) l a w:=take_ l' hi hN (take_ofW hT hB hc) hQ hy hS ha h
theorem ta1_ {P:Program} {ops:Array Oper} {Q:Exit→Act→World→Prop} {md:Region.Mode} {S:World→Prop} {ds:List Nat} (i:Nat) (N:Option Tmp) {oi:Oper} {v:Value} {fuel:Nat} {l:Array Bool} {a:Act} {w:World} (l':Array Bool) {T:Bool × List (List Nat × List Nat)} {B:List Nat} (hT:rtab md ops=T) (hB:waitsOk T.2 B=true) (hS:S w) {a':Act}
    (h:wpAnyLast P md ops Q S ds fuel l' a' w) (hi:ops[i]?=some oi:=by rfl) (hN:oi.dst=N:=by rfl) (hc:takeW T B ds l.toList l'.toList i=true:=by kernel_rfl)
    (hQ:∀ c a w,Q (.panic c) (a.put oi.dst v) w→Q (.panic c) a w:=by exact fun _ _ _ h=>h) (hy:YieldsIf P ops S oi v a:=by exact Or.inl ⟨by rfl,by rintro w' ⟨s0,s1,s2,s3,s4,s5,s6,s7,s8,s9,wR,wT,wU,wV,X8⟩;go_simp;with_reducible rfl⟩) (ha:a.put N v=a':=by simp only [Act.put,List.setIfInBounds_toArray,List.set_cons_zero,List.set_cons_succ,i64_w,i32_w];rfl) :
    wpAnyLast P md ops Q S ds (fuel+1) l a w:=take_ l' hi hN (take_ofW hT hB hc) hQ hy hS ha h
theorem ta2_ {P:Program} {ops:Array Oper} {Q:Exit→Act→World→Prop} {md:Region.Mode} {S:World→Prop} {ds:List Nat} (i:Nat) (N:Option Tmp) {oi:Oper} {v:Value} {fuel:Nat} {l:Array Bool} {a:Act} {w:World} (l':Array Bool) {T:Bool × List (List Nat × List Nat)} {B:List Nat} (hT:rtab md ops=T) (hB:waitsOk T.2 B=true) (hS:S w) {a':Act}
    (h:wpAnyLast P md ops Q S ds fuel l' a' w) (hi:ops[i]?=some oi:=by rfl) (hN:oi.dst=N:=by rfl) (hc:takeW T B ds l.toList l'.toList i=true:=by kernel_rfl)
    (hQ:∀ c a w,Q (.panic c) (a.put oi.dst v) w→Q (.panic c) a w:=by exact fun _ _ _ h=>h) (hy:YieldsIf P ops S oi v a:=by exact Or.inl ⟨by rfl,by rintro w' ⟨s0,s1,s2,s3,s4,s5,s6,s7⟩;go_simp;with_reducible rfl⟩) (ha:a.put N v=a':=by simp only [Act.put,List.setIfInBounds_toArray,List.set_cons_zero,List.set_cons_succ,i64_w,i32_w];rfl) :
    wpAnyLast P md ops Q S ds (fuel+1) l a w:=take_ l' hi hN (take_ofW hT hB hc) hQ hy hS ha h
theorem au0 {P:Prop} (h:P:=by (with_reducible repeat (first|refine blk_drewN ?_ _|refine blk_drew ?_|refine blk_alloc ?_ _));apply put4;(with_reducible repeat (first|refine blk_drewN ?_ _|refine blk_drew ?_|refine blk_alloc ?_ _));exact gW.out):P:=h
theorem au1 {P:Prop} (h:P:=by (with_reducible repeat (first|refine blk_drewN ?_ _|refine blk_drew ?_|refine blk_alloc ?_ _));apply put4;(with_reducible repeat (first|refine blk_drewN ?_ _|refine blk_drew ?_|refine blk_alloc ?_ _));exact gX.out):P:=h
theorem au2 {P:Prop} (h:P:=by (with_reducible repeat (first|refine blk_drewN ?_ _|refine blk_drew ?_|refine blk_alloc ?_ _));refine blk_far ?_ eP.out _;(with_reducible repeat (first|refine blk_drewN ?_ _|refine blk_drew ?_|refine blk_alloc ?_ _));refine blk_far ?_ eP.out _;(with_reducible repeat (first|refine blk_drewN ?_ _|refine blk_drew ?_|refine blk_alloc ?_ _));refine blk_far ?_ eP.out _;(with_reducible repeat (first|refine blk_drewN ?_ _|refine blk_drew ?_|refine blk_alloc ?_ _));refine blk_far ?_ eP.out _;(with_reducible repeat (first|refine blk_drewN ?_ _|refine blk_drew ?_|refine blk_alloc ?_ _));exact dA.out):P:=h
theorem au3 {P:Prop} (h:P:=by (with_reducible repeat (first|refine blk_drewN ?_ _|refine blk_drew ?_|refine blk_alloc ?_ _));refine blk_far ?_ fV.out _;(with_reducible repeat (first|refine blk_drewN ?_ _|refine blk_drew ?_|refine blk_alloc ?_ _));refine blk_far ?_ fV.out _;(with_reducible repeat (first|refine blk_drewN ?_ _|refine blk_drew ?_|refine blk_alloc ?_ _));refine blk_far ?_ fV.out _;(with_reducible repeat (first|refine blk_drewN ?_ _|refine blk_drew ?_|refine blk_alloc ?_ _));refine blk_far ?_ fV.out _;(with_reducible repeat (first|refine blk_drewN ?_ _|refine blk_drew ?_|refine blk_alloc ?_ _));exact eN.out):P:=h
theorem au4 {P:Prop} (h:P:=by (with_reducible repeat (first|refine blk_drewN ?_ _|refine blk_drew ?_|refine blk_alloc ?_ _));refine blk_far ?_ fW.out _;(with_reducible repeat (first|refine blk_drewN ?_ _|refine blk_drew ?_|refine blk_alloc ?_ _));refine blk_far ?_ fW.out _;(with_reducible repeat (first|refine blk_drewN ?_ _|refine blk_drew ?_|refine blk_alloc ?_ _));refine blk_far ?_ fW.out _;(with_reducible repeat (first|refine blk_drewN ?_ _|refine blk_drew ?_|refine blk_alloc ?_ _));refine blk_far ?_ fW.out _;(with_reducible repeat (first|refine blk_drewN ?_ _|refine blk_drew ?_|refine blk_alloc ?_ _));exact fC.out):P:=h
theorem au5 {P:Prop} (h:P:=by (with_reducible repeat (first|apply Kd.R_alloc|apply Kd.R_drewN|apply Kd.R_drew));exact (Kd.R_mono (Kd.R_far (p:=⟨eM,3,none⟩) (Kd.R_far (p:=⟨eM,2,none⟩) (Kd.R_far (p:=⟨eM,1,none⟩) (Kd.R_far (p:=⟨eM,0,none⟩) (Kd.R_types eE.out gX.out (by decide)) (fun _ hk=>hk.2) (.int .i64 t119)) (fun _ hk=>hk.2) (.int .i64 0)) (fun _ hk=>hk.2) (.int .i64 0)) (fun _ hk=>hk.2) (.bool false)) (fun _ h_=>h_.1))):P:=h
theorem au6 {P:Prop} (h:P:=by first|exact HG.out|(refine HG.out.drawn ?_;(repeat (first|exact Drawn0.refl _|apply Drawn0.step));done)|(refine HG.out.below ?_;(repeat (first|(with_reducible first|exact HB.out|apply below_alloc|apply pw_below_drewN|apply below_drew1|refine below_set ?_ (by first|assumption|exact Aside0.out (by assumption)))|exact HB.out));done)):P:=h
theorem au7 {P:Prop} (h:P:=by (with_reducible repeat (first|apply Kd.S_alloc|apply Kd.S_drewN|apply Kd.S_drew));exact (Kd.S_mono (Kd.S_far (p:=⟨AZ,2,none⟩) (Kd.S_types MU.out rZ.out (by decide)) (fun _ hk=>hk.2) (.slice jB kT.length iG)) (fun _ h_=>h_.1))):P:=h
theorem au8 {P:Prop} (h:P:=by repeat (first|(with_reducible first|exact HI0.out|apply IsS39.alloc|apply IsS39.drewN|apply IsS39.drew|apply IsS39.set_1|apply IsS39.set_2|refine IsS39.far ?_ dP.out _|refine IsS39.far ?_ dX.out _)|exact HI0.out)):P:=h
theorem au9 {P:Prop} (h:P:=by repeat (first|(with_reducible first|exact HI0.out|apply IsS39.alloc|apply IsS39.drewN|apply IsS39.drew|apply IsS39.set_1|apply IsS39.set_2|refine IsS39.far ?_ cB.out _|refine IsS39.far ?_ cZ.out _)|exact HI0.out)):P:=h
theorem au10 {P:Prop} (h:P:=by repeat (first|(with_reducible first|exact HI0.out|apply IsS39.alloc|apply IsS39.drewN|apply IsS39.drew|apply IsS39.set_1|apply IsS39.set_2|refine IsS39.far ?_ dK.out _|refine IsS39.far ?_ fX.out _)|exact HI0.out)):P:=h
theorem au11 {P:Prop} (h:P:=by repeat (first|(with_reducible first|exact HB.out|apply below_alloc|apply pw_below_drewN|apply below_drew1|refine below_set ?_ (IsS39.ge HI0.out)|refine below_set ?_ kZ.out|refine below_set ?_ mY.out)|exact HB.out)):P:=h
theorem au12 {P:Prop} (h:P:=by repeat (first|(with_reducible first|exact HB.out|apply below_alloc|apply pw_below_drewN|apply below_drew1|refine below_set ?_ (IsS39.ge HI0.out)|refine below_set ?_ gR.out|refine below_set ?_ jC.out)|exact HB.out)):P:=h
theorem au13 {P:Prop} (h:P:=by repeat (first|(with_reducible first|exact HB.out|apply below_alloc|apply pw_below_drewN|apply below_drew1|refine below_set ?_ (IsS39.ge HI0.out)|refine below_set ?_ kK.out|refine below_set ?_ pS.out)|exact HB.out)):P:=h
theorem au14 {P:Prop} (h:P:=by repeat (first|(with_reducible first|exact HK.out|apply KeepBut.set_|apply keep_drewN|apply keep_drew|apply keep_alloc|refine keep_far ?_ B0.out _|refine keep_far ?_ Dx.out _)|exact HK.out)):P:=h
theorem au15 {P:Prop} (h:P:=by repeat (first|(with_reducible first|exact HK.out|apply KeepBut.set_|apply keep_drewN|apply keep_drew|apply keep_alloc|refine keep_far ?_ sC.out _|refine keep_far ?_ vW.out _)|exact HK.out)):P:=h
theorem au16 {P:Prop} (h:P:=by repeat (first|(with_reducible first|exact HK.out|apply KeepBut.set_|apply keep_drewN|apply keep_drew|apply keep_alloc|refine keep_far ?_ Fx.out _|refine keep_far ?_ Jf.out _)|exact HK.out)):P:=h
theorem au17 {P:Prop} (h:P:=by repeat (first|(with_reducible first|exact HK.out|apply KeepBut.set_|apply keep_drewN|apply keep_drew|apply keep_alloc|refine keep_far ?_ Fy.out _|refine keep_far ?_ Jg.out _)|exact HK.out)):P:=h
theorem au18 {P:Prop} (h:P:=by repeat (first|(with_reducible first|exact HI0.out|apply IsS39.alloc|apply IsS39.drewN|apply IsS39.drew|apply IsS39.set_1|apply IsS39.set_2|refine IsS39.far ?_ dP.out _)|exact HI0.out)):P:=h
theorem au19 {P:Prop} (h:P:=by repeat (first|(with_reducible first|exact HI0.out|apply IsS39.alloc|apply IsS39.drewN|apply IsS39.drew|apply IsS39.set_1|apply IsS39.set_2|refine IsS39.far ?_ cB.out _)|exact HI0.out)):P:=h
theorem au20 {P:Prop} (h:P:=by repeat (first|(with_reducible first|exact HI0.out|apply IsS39.alloc|apply IsS39.drewN|apply IsS39.drew|apply IsS39.set_1|apply IsS39.set_2|refine IsS39.far ?_ cP.out _)|exact HI0.out)):P:=h
theorem au21 {P:Prop} (h:P:=by repeat (first|(with_reducible first|exact HI0.out|apply IsS39.alloc|apply IsS39.drewN|apply IsS39.drew|apply IsS39.set_1|apply IsS39.set_2|refine IsS39.far ?_ dK.out _)|exact HI0.out)):P:=h
theorem au22 {P:Prop} (h:P:=by repeat (first|(with_reducible first|exact HB.out|apply below_alloc|apply pw_below_drewN|apply below_drew1|refine below_set ?_ (IsS39.ge HI0.out)|refine below_set ?_ kZ.out)|exact HB.out)):P:=h
theorem au23 {P:Prop} (h:P:=by repeat (first|(with_reducible first|exact HB.out|apply below_alloc|apply pw_below_drewN|apply below_drew1|refine below_set ?_ (IsS39.ge HI0.out)|refine below_set ?_ gR.out)|exact HB.out)):P:=h
theorem au24 {P:Prop} (h:P:=by repeat (first|(with_reducible first|exact HB.out|apply below_alloc|apply pw_below_drewN|apply below_drew1|refine below_set ?_ (IsS39.ge HI0.out)|refine below_set ?_ lB.out)|exact HB.out)):P:=h
theorem au25 {P:Prop} (h:P:=by repeat (first|(with_reducible first|exact HB.out|apply below_alloc|apply pw_below_drewN|apply below_drew1|refine below_set ?_ (IsS39.ge HI0.out)|refine below_set ?_ kK.out)|exact HB.out)):P:=h
theorem au26 {P:Prop} (h:P:=by repeat (first|(with_reducible first|exact HB.out|apply below_alloc|apply pw_below_drewN|apply below_drew1|refine below_set ?_ Tm.out|refine below_set ?_ X9.out)|exact HB.out)):P:=h
theorem au27 {P:Prop} (h:P:=by repeat (first|(with_reducible first|exact HB.out|apply below_alloc|apply pw_below_drewN|apply below_drew1|refine below_set ?_ nS.out|refine below_set ?_ pT.out)|exact HB.out)):P:=h
theorem au28 {P:Prop} (h:P:=by repeat (first|(with_reducible first|exact HB.out|apply below_alloc|apply pw_below_drewN|apply below_drew1|refine below_set ?_ sE.out|refine below_set ?_ vX.out)|exact HB.out)):P:=h
theorem au29 {P:Prop} (h:P:=by repeat (first|(with_reducible first|exact HB.out|apply below_alloc|apply pw_below_drewN|apply below_drew1|refine below_set ?_ Dy.out|refine below_set ?_ Fz.out)|exact HB.out)):P:=h
theorem au30 {P:Prop} (h:P:=by repeat (first|(with_reducible first|exact HB.out|apply below_alloc|apply pw_below_drewN|apply below_drew1|refine below_set ?_ Jh.out|refine below_set ?_ MV.out)|exact HB.out)):P:=h
theorem au31 {P:Prop} (h:P:=by repeat (first|(with_reducible first|exact HK.out|apply KeepBut.set_|apply keep_drewN|apply keep_drew|apply keep_alloc|refine keep_far ?_ B0.out _)|exact HK.out)):P:=h
theorem au32 {P:Prop} (h:P:=by repeat (first|(with_reducible first|exact HK.out|apply KeepBut.set_|apply keep_drewN|apply keep_drew|apply keep_alloc|refine keep_far ?_ sC.out _)|exact HK.out)):P:=h
theorem au33 {P:Prop} (h:P:=by repeat (first|(with_reducible first|exact HK.out|apply KeepBut.set_|apply keep_drewN|apply keep_drew|apply keep_alloc|refine keep_far ?_ Fx.out _)|exact HK.out)):P:=h
theorem au34 {P:Prop} (h:P:=by repeat (first|(with_reducible first|exact HK.out|apply KeepBut.set_|apply keep_drewN|apply keep_drew|apply keep_alloc|refine keep_far ?_ Fy.out _)|exact HK.out)):P:=h
theorem au35 {P:Prop} (h:P:=by repeat (first|(with_reducible first|exact HB.out|apply below_alloc|apply pw_below_drewN|apply below_drew1|refine below_set ?_ (IsS39.ge HI0.out))|exact HB.out)):P:=h
theorem au36 {P:Prop} (h:P:=by repeat (first|(with_reducible first|exact HI0.out|apply IsS39.alloc|apply IsS39.drewN|apply IsS39.drew|apply IsS39.set_1|apply IsS39.set_2)|exact HI0.out)):P:=h
theorem au37 {P:Prop} (h:P:=by repeat (first|(with_reducible first|exact HB.out|apply below_alloc|apply pw_below_drewN|apply below_drew1|refine below_set ?_ Ji.out)|exact HB.out)):P:=h
theorem au38 {P:Prop} (h:P:=by repeat (first|(with_reducible first|exact HB.out|apply below_alloc|apply pw_below_drewN|apply below_drew1|refine below_set ?_ MW.out)|exact HB.out)):P:=h
theorem au39 {P:Prop} (h:P:=by repeat (first|(with_reducible first|exact HB.out|apply below_alloc|apply pw_below_drewN|apply below_drew1|refine below_set ?_ Xa.out)|exact HB.out)):P:=h
theorem au40 {P:Prop} (h:P:=by repeat (first|(with_reducible first|exact HB.out|apply below_alloc|apply pw_below_drewN|apply below_drew1|refine below_set ?_ Tm.out)|exact HB.out)):P:=h
theorem au41 {P:Prop} (h:P:=by repeat (first|(with_reducible first|exact HB.out|apply below_alloc|apply pw_below_drewN|apply below_drew1|refine below_set ?_ Dz.out)|exact HB.out)):P:=h
theorem au42 {P:Prop} (h:P:=by repeat (first|(with_reducible first|exact HB.out|apply below_alloc|apply pw_below_drewN|apply below_drew1|refine below_set ?_ B1.out)|exact HB.out)):P:=h
theorem au43 {P:Prop} (h:P:=by repeat (first|(with_reducible first|exact HB.out|apply below_alloc|apply pw_below_drewN|apply below_drew1|refine below_set ?_ MX.out)|exact HB.out)):P:=h
theorem au44 {P:Prop} (h:P:=by repeat (first|(with_reducible first|exact HB.out|apply below_alloc|apply pw_below_drewN|apply below_drew1|refine below_set ?_ Jj.out)|exact HB.out)):P:=h
theorem au45 {P:Prop} (h:P:=by repeat (first|(with_reducible first|exact HB.out|apply below_alloc|apply pw_below_drewN|apply below_drew1|refine below_set ?_ Xb.out)|exact HB.out)):P:=h
theorem au46 {P:Prop} (h:P:=by repeat (first|(with_reducible first|exact HB.out|apply below_alloc|apply pw_below_drewN|apply below_drew1|refine below_set ?_ FA.out)|exact HB.out)):P:=h
theorem au47 {P:Prop} (h:P:=by repeat (first|(with_reducible first|exact HB.out|apply below_alloc|apply pw_below_drewN|apply below_drew1|refine below_set ?_ Jk.out)|exact HB.out)):P:=h
theorem au48 {P:Prop} (h:P:=by repeat (first|(with_reducible first|exact HB.out|apply below_alloc|apply pw_below_drewN|apply below_drew1|refine below_set ?_ FB.out)|exact HB.out)):P:=h
theorem au49 {P:Prop} (h:P:=by repeat (first|(with_reducible first|exact HB.out|apply below_alloc|apply pw_below_drewN|apply below_drew1|refine below_set ?_ FC.out)|exact HB.out)):P:=h
theorem au50 {P:Prop} (h:P:=by repeat (first|(with_reducible first|exact HB.out|apply below_alloc|apply pw_below_drewN|apply below_drew1|refine below_set ?_ nS.out)|exact HB.out)):P:=h
theorem au51 {P:Prop} (h:P:=by repeat (first|(with_reducible first|exact HB.out|apply below_alloc|apply pw_below_drewN|apply below_drew1|refine below_set ?_ sE.out)|exact HB.out)):P:=h
theorem au52 {P:Prop} (h:P:=by repeat (first|(with_reducible first|exact HB.out|apply below_alloc|apply pw_below_drewN|apply below_drew1|refine below_set ?_ Dy.out)|exact HB.out)):P:=h
theorem au53 {P:Prop} (h:P:=by repeat (first|(with_reducible first|exact HB.out|apply below_alloc|apply pw_below_drewN|apply below_drew1|refine below_set ?_ Xc.out)|exact HB.out)):P:=h
theorem au54 {P:Prop} (h:P:=by repeat (first|(with_reducible first|exact HB.out|apply below_alloc|apply pw_below_drewN|apply below_drew1|refine below_set ?_ Jh.out)|exact HB.out)):P:=h
theorem au55 {P:Prop} (h:P:=by (with_reducible repeat (first|apply Kd.S_alloc|apply Kd.S_drewN|apply Kd.S_drew));exact Kd.S_mono cS.out (fun k_ hk=>⟨trivial,fun e_=>hk.2 e_⟩)):P:=h
theorem au56 {P:Prop} (h:P:=by repeat (first|(with_reducible first|exact HK.out|apply KeepBut.set_|apply keep_drewN|apply keep_drew|apply keep_alloc)|exact HK.out)):P:=h
theorem au57 {P:Prop} (h:P:=by (with_reducible repeat (first|apply Kd.R_alloc|apply Kd.R_drewN|apply Kd.R_drew));exact Kd.R_mono gN.out (fun _ hk=>⟨trivial,hk⟩)):P:=h
theorem au58 {P:Prop} (h:P:=by (try simp only [List.map_toArray,List.map_cons,List.map_nil]);first|done|rfl|(simp only [List.length_drop,List.length_take];rfl)):P:=h
theorem au59 {P:Prop} (h:P:=by repeat (first|(with_reducible first|exact HB.out|apply below_alloc|apply pw_below_drewN|apply below_drew1)|exact HB.out)):P:=h
theorem au60 {P:Prop} (h:P:=by (with_reducible repeat (first|refine blk_drewN ?_ _|refine blk_drew ?_|refine blk_alloc ?_ _));exact nT.out):P:=h
theorem au61 {P:Prop} (h:P:=by (with_reducible repeat (first|refine blk_drewN ?_ _|refine blk_drew ?_|refine blk_alloc ?_ _));exact kE.out):P:=h
theorem au62 {P:Prop} (h:P:=by (with_reducible repeat (first|refine blk_drewN ?_ _|refine blk_drew ?_|refine blk_alloc ?_ _));exact eV.out):P:=h
theorem au63 {P:Prop} (h:P:=by (with_reducible repeat (first|refine blk_drewN ?_ _|refine blk_drew ?_|refine blk_alloc ?_ _));exact cT.out):P:=h
theorem au64 {P:Prop} (h:P:=by (with_reducible repeat (first|refine blk_drewN ?_ _|refine blk_drew ?_|refine blk_alloc ?_ _));exact dA.out):P:=h
theorem au65 {P:Prop} (h:P:=by (with_reducible repeat (first|refine blk_drewN ?_ _|refine blk_drew ?_|refine blk_alloc ?_ _));exact cG.out):P:=h
theorem au66 {P:Prop} (h:P:=by (with_reducible repeat (first|refine blk_drewN ?_ _|refine blk_drew ?_|refine blk_alloc ?_ _));exact eN.out):P:=h
theorem au67 {P:Prop} (h:P:=by (with_reducible repeat (first|refine blk_drewN ?_ _|refine blk_drew ?_|refine blk_alloc ?_ _));exact gX.out):P:=h
theorem au68 {P:Prop} (h:P:=by (with_reducible repeat (first|refine blk_drewN ?_ _|refine blk_drew ?_|refine blk_alloc ?_ _));exact fC.out):P:=h
theorem au69 {P:Prop} (h:P:=by (with_reducible repeat (first|refine blk_drewN ?_ _|refine blk_drew ?_|refine blk_alloc ?_ _));exact gW.out):P:=h
theorem au70 {P:Prop} (h:P:=by (with_reducible repeat (first|refine blk_drewN ?_ _|refine blk_drew ?_|refine blk_alloc ?_ _));exact kF.out):P:=h
theorem au71 {P:Prop} (h:P:=by (with_reducible repeat (first|refine blk_drewN ?_ _|refine blk_drew ?_|refine blk_alloc ?_ _));exact rZ.out):P:=h
theorem au72 {P:Prop} (h:P:=by (with_reducible repeat (first|refine blk_drewN ?_ _|refine blk_drew ?_|refine blk_alloc ?_ _));exact cM.out):P:=h
theorem au73 {P:Prop} (h:P:=by (with_reducible repeat (first|refine blk_drewN ?_ _|refine blk_drew ?_|refine blk_alloc ?_ _));exact fU.out):P:=h
theorem au74 {P:Prop} (h:P:=by (with_reducible repeat (first|refine blk_drewN ?_ _|refine blk_drew ?_|refine blk_alloc ?_ _));exact mZ.out):P:=h
theorem au75 {P:Prop} (h:P:=by (with_reducible repeat (first|refine blk_drewN ?_ _|refine blk_drew ?_|refine blk_alloc ?_ _));exact kL.out):P:=h
theorem au76 {P:Prop} (h:P:=by (with_reducible repeat (first|refine blk_drewN ?_ _|refine blk_drew ?_|refine blk_alloc ?_ _));exact kM.out):P:=h
theorem au77 {P:Prop} (h:P:=by (with_reducible repeat (first|refine blk_drewN ?_ _|refine blk_drew ?_|refine blk_alloc ?_ _));exact kN.out):P:=h
theorem au78 {P:Prop} (h:P:=by (with_reducible repeat (first|refine blk_drewN ?_ _|refine blk_drew ?_|refine blk_alloc ?_ _));exact nU.out):P:=h
theorem au79 {P:Prop} (h:P:=by (with_reducible repeat (first|refine blk_drewN ?_ _|refine blk_drew ?_|refine blk_alloc ?_ _));exact nV.out):P:=h
theorem au80 {P:Prop} (h:P:=by (with_reducible repeat (first|refine blk_drewN ?_ _|refine blk_drew ?_|refine blk_alloc ?_ _));exact bJ.out):P:=h
theorem au81 {P:Prop} (h:P:=by (with_reducible repeat (first|refine blk_drewN ?_ _|refine blk_drew ?_|refine blk_alloc ?_ _));exact bK.out):P:=h
theorem au82 {P:Prop} (h:P:=by (with_reducible repeat (first|refine blk_drewN ?_ _|refine blk_drew ?_|refine blk_alloc ?_ _));exact bE.out):P:=h
theorem au83 {P:Prop} (h:P:=by (with_reducible repeat (first|refine blk_drewN ?_ _|refine blk_drew ?_|refine blk_alloc ?_ _));exact bF.out):P:=h
theorem au84 {P:Prop} (h:P:=by (with_reducible repeat (first|refine blk_drewN ?_ _|refine blk_drew ?_|refine blk_alloc ?_ _));exact lC.out):P:=h
theorem au85 {P:Prop} (h:P:=by (with_reducible repeat (first|refine blk_drewN ?_ _|refine blk_drew ?_|refine blk_alloc ?_ _));exact pU.out):P:=h
theorem au86 {P:Prop} (h:P:=by (with_reducible repeat (first|refine blk_drewN ?_ _|refine blk_drew ?_|refine blk_alloc ?_ _));exact Tn.out):P:=h
theorem au87 {P:Prop} (h:P:=by (with_reducible repeat (first|refine blk_drewN ?_ _|refine blk_drew ?_|refine blk_alloc ?_ _));exact kO.out):P:=h
theorem au88 {P:Prop} (h:P:=by (with_reducible repeat (first|refine blk_drewN ?_ _|refine blk_drew ?_|refine blk_alloc ?_ _));exact nA.out):P:=h
theorem au89 {P:Prop} (h:P:=by (with_reducible repeat (first|apply Kd.R_alloc|apply Kd.R_drewN|apply Kd.R_drew));exact dG.out):P:=h
theorem au90 {P:Prop} (h:P:=by (with_reducible repeat (first|apply Kd.R_alloc|apply Kd.R_drewN|apply Kd.R_drew));exact wZ.out):P:=h
theorem au91 {P:Prop} (h:P:=by (with_reducible repeat (first|apply Kd.R_alloc|apply Kd.R_drewN|apply Kd.R_drew));exact B2.out):P:=h
theorem au92 {P:Prop} (h:P:=by (with_reducible repeat (first|apply Kd.R_alloc|apply Kd.R_drewN|apply Kd.R_drew));exact dH.out):P:=h
theorem au93 {P:Prop} (h:P:=by (with_reducible repeat (first|apply Kd.R_alloc|apply Kd.R_drewN|apply Kd.R_drew));exact vY.out):P:=h
theorem au94 {P:Prop} (h:P:=by (with_reducible repeat (first|apply Kd.S_alloc|apply Kd.S_drewN|apply Kd.S_drew));exact mL.out):P:=h
theorem au95 {P:Prop} (h:P:=by (with_reducible repeat (first|apply Kd.R_alloc|apply Kd.R_drewN|apply Kd.R_drew));exact eE.out):P:=h
theorem au96 {P:Prop} (h:P:=by (with_reducible repeat (first|apply Kd.R_alloc|apply Kd.R_drewN|apply Kd.R_drew));exact FD.out):P:=h
theorem au97 {P:Prop} (h:P:=by (with_reducible repeat (first|apply Kd.R_alloc|apply Kd.R_drewN|apply Kd.R_drew));exact fY.out):P:=h
theorem au98 {P:Prop} (h:P:=by (with_reducible repeat (first|apply Kd.S_alloc|apply Kd.S_drewN|apply Kd.S_drew));exact cS.out):P:=h
theorem au99 {P:Prop} (h:P:=by (with_reducible repeat (first|apply Kd.R_alloc|apply Kd.R_drewN|apply Kd.R_drew));exact cS.out):P:=h
theorem au100 {P:Prop} (h:P:=by (with_reducible repeat (first|apply Kd.R_alloc|apply Kd.R_drewN|apply Kd.R_drew));exact gN.out):P:=h
theorem au101 {P:Prop} (h:P:=by (with_reducible repeat (first|apply Kd.R_alloc|apply Kd.R_drewN|apply Kd.R_drew));exact fF.out):P:=h
theorem au103 {P:Prop} (h:P:=by first|(with_reducible assumption)|assumption):P:=h
theorem au104 {P:Prop} (h:P:=by first|rfl|(simp;done)|(simp [*];done)):P:=h
theorem ax0 {P:Prop} (h:P:=by exact ⟨by first|rfl|(simp [errW_none,errW_some] <;> rfl)|(simp [*,errW_none,errW_some] <;> rfl),by repeat (first|(with_reducible first|exact HI0.out|apply IsS39.alloc|apply IsS39.drewN|apply IsS39.drew|apply IsS39.set_1|apply IsS39.set_2)|exact HI0.out),by repeat (first|(with_reducible first|exact HB.out|apply below_alloc|apply pw_below_drewN|apply below_drew1|refine below_set ?_ (IsS39.ge HI0.out))|exact HB.out),by repeat (first|(with_reducible first|exact HK.out|apply KeepBut.set_|apply keep_drewN|apply keep_drew|apply keep_alloc)|exact HK.out)⟩):P:=h
theorem ax1 {P:Prop} (h:P:=by exact ⟨by first|rfl|(simp;done)|(simp [*];done),by repeat (first|exact Drawn0.refl _|apply Drawn0.step)⟩):P:=h
theorem ax2 {P:Prop} (h:P:=by exact ⟨by first|rfl|(simp;done)|(simp only [← vZ] <;> (first|rfl|simp))|(simp [*];done),by repeat (first|exact Drawn0.refl _|apply Drawn0.step)⟩):P:=h
theorem ax3 {P:Prop} (h:P:=by exact ⟨by first|rfl|(simp [errW_none,errW_some] <;> rfl)|(simp [*,errW_none,errW_some] <;> rfl),by repeat (first|(with_reducible first|exact HB.out|apply below_alloc|apply pw_below_drewN|apply below_drew1)|exact HB.out)⟩):P:=h
theorem ax4 {P:Prop} (h:P:=by exact ⟨by first|rfl|(simp [errW_none,errW_some] <;> rfl)|(simp [*,errW_none,errW_some] <;> rfl),by repeat (first|(with_reducible first|exact HB.out|apply below_alloc|apply pw_below_drewN|apply below_drew1|refine below_set ?_ MW.out)|exact HB.out)⟩):P:=h
theorem ax5 {P:Prop} (h:P:=by exact ⟨by first|rfl|(simp [errW_none,errW_some] <;> rfl)|(simp [*,errW_none,errW_some] <;> rfl),by repeat (first|(with_reducible first|exact HI0.out|apply IsS39.alloc|apply IsS39.drewN|apply IsS39.drew|apply IsS39.set_1|apply IsS39.set_2|refine IsS39.far ?_ cP.out _|refine IsS39.far ?_ fE.out _)|exact HI0.out),by repeat (first|(with_reducible first|exact HB.out|apply below_alloc|apply pw_below_drewN|apply below_drew1|refine below_set ?_ (IsS39.ge HI0.out)|refine below_set ?_ lB.out|refine below_set ?_ sF.out)|exact HB.out),by repeat (first|(with_reducible first|exact HK.out|apply KeepBut.set_|apply keep_drewN|apply keep_drew|apply keep_alloc|refine keep_far ?_ Fx.out _|refine keep_far ?_ Jf.out _)|exact HK.out)⟩):P:=h
theorem ax6 {P:Prop} (h:P:=by exact ⟨by first|rfl|(simp [errW_none,errW_some] <;> rfl)|(simp [*,errW_none,errW_some] <;> rfl),by repeat (first|(with_reducible first|exact HI0.out|apply IsS39.alloc|apply IsS39.drewN|apply IsS39.drew|apply IsS39.set_1|apply IsS39.set_2|refine IsS39.far ?_ dK.out _|refine IsS39.far ?_ fX.out _)|exact HI0.out),by repeat (first|(with_reducible first|exact HB.out|apply below_alloc|apply pw_below_drewN|apply below_drew1|refine below_set ?_ (IsS39.ge HI0.out)|refine below_set ?_ kK.out|refine below_set ?_ pS.out)|exact HB.out),by repeat (first|(with_reducible first|exact HK.out|apply KeepBut.set_|apply keep_drewN|apply keep_drew|apply keep_alloc|refine keep_far ?_ Fy.out _|refine keep_far ?_ Jg.out _)|exact HK.out)⟩):P:=h
theorem ax7 {P:Prop} (h:P:=by exact ⟨by first|rfl|(simp [errW_none,errW_some] <;> rfl)|(simp [*,errW_none,errW_some] <;> rfl),by repeat (first|(with_reducible first|exact HB.out|apply below_alloc|apply pw_below_drewN|apply below_drew1|refine below_set ?_ B3.out)|exact HB.out)⟩):P:=h
theorem ax8 {P:Prop} (h:P:=by exact ⟨by first|rfl|(simp [errW_none,errW_some] <;> rfl)|(simp [*,errW_none,errW_some] <;> rfl),by repeat (first|(with_reducible first|exact HB.out|apply below_alloc|apply pw_below_drewN|apply below_drew1|refine below_set ?_ wA.out)|exact HB.out)⟩):P:=h
theorem ax9 {P:Prop} (h:P:=by exact ⟨by first|rfl|(simp [errW_none,errW_some] <;> rfl)|(simp [*,errW_none,errW_some] <;> rfl),by repeat (first|(with_reducible first|exact HB.out|apply below_alloc|apply pw_below_drewN|apply below_drew1|refine below_set ?_ Dz.out)|exact HB.out)⟩):P:=h
theorem ax10 {P:Prop} (h:P:=by exact ⟨by first|rfl|(simp [errW_none,errW_some] <;> rfl)|(simp [*,errW_none,errW_some] <;> rfl),by repeat (first|(with_reducible first|exact HB.out|apply below_alloc|apply pw_below_drewN|apply below_drew1|refine below_set ?_ Jk.out)|exact HB.out)⟩):P:=h
theorem ax11 {P:Prop} (h:P:=by exact ⟨by first|rfl|(simp [errW_none,errW_some] <;> rfl)|(simp [*,errW_none,errW_some] <;> rfl),by repeat (first|(with_reducible first|exact HB.out|apply below_alloc|apply pw_below_drewN|apply below_drew1|refine below_set ?_ FB.out)|exact HB.out)⟩):P:=h
theorem ax12 {P:Prop} (h:P:=by exact ⟨by first|rfl|(simp [errW_none,errW_some] <;> rfl)|(simp [*,errW_none,errW_some] <;> rfl),by repeat (first|(with_reducible first|exact HB.out|apply below_alloc|apply pw_below_drewN|apply below_drew1|refine below_set ?_ FC.out)|exact HB.out)⟩):P:=h
theorem ax13 {P:Prop} (h:P:=by exact ⟨by first|rfl|(simp [errW_none,errW_some] <;> rfl)|(simp [*,errW_none,errW_some] <;> rfl),by repeat (first|(with_reducible first|exact HB.out|apply below_alloc|apply pw_below_drewN|apply below_drew1|refine below_set ?_ Jh.out|refine below_set ?_ MV.out)|exact HB.out)⟩):P:=h
def IsS39 (w0 W:World) (g:Nat) (f0:List Int) (f1:Int) (f2:Int):Prop:=∃ A0 c0,W.heap[g]?=some (.cells #[.slice A0 f0.length c0,.int .i64 f1,.int .u64 f2] 39 (0,0))∧w0.heap.size≤g∧Kd.C (Kd.int .u8) w0 A0 f0.length f0
theorem IsS39.grown {w0 W:World} {g:Nat} {f0:List Int} {f1:Int} {f2:Int} {W1:World} {row:Option Nat} (h:IsS39 w0 W g f0 f1 f2) (hw:W.grownBy W1 row) (hne:some g≠row):IsS39 w0 W1 g f0 f1 f2:=by
 obtain ⟨A0,c0,hb,hg,dW⟩:=h;exact ⟨A0,c0,blk_grown hb hw hne,hg,dW⟩
theorem IsS39.fresh {w0 W:World} {g:Nat} {f0:List Int} {f1:Int} {f2:Int} (h:IsS39 w0 W g f0 f1 f2):∀ k,W.heap.size≤k→k≠g:=by
 obtain ⟨A0,c0,hb,hg,dW⟩:=h;exact Kd.freshB hb
theorem IsS39.kept {w0 W:World} {g:Nat} {f0:List Int} {f1:Int} {f2:Int} {W1:World} {S:Nat→Prop} (h:IsS39 w0 W g f0 f1 f2) (hk:Kept W W1 S) (hne:¬ S g):IsS39 w0 W1 g f0 f1 f2:=by
 obtain ⟨A0,c0,hb,hg,dW⟩:=h;exact ⟨A0,c0,blk_kept hb hk hne,hg,dW⟩
theorem IsS39.below {w0 W:World} {g:Nat} {f0:List Int} {f1:Int} {f2:Int} {W1:World} (h:IsS39 w0 W g f0 f1 f2) (hw:Below W.heap.size W W1):IsS39 w0 W1 g f0 f1 f2:=h.grown (grown_of_below hw none) (by simp)
theorem IsS39.alloc {w0 W:World} {g:Nat} {f0:List Int} {f1:Int} {f2:Int} (h:IsS39 w0 W g f0 f1 f2) (o:Obj):IsS39 w0 (W.alloc o) g f0 f1 f2:=h.below (below_alloc (Below.refl _ _) o)
theorem IsS39.drewN {w0 W:World} {g:Nat} {f0:List Int} {f1:Int} {f2:Int} (h:IsS39 w0 W g f0 f1 f2) (m:Nat):IsS39 w0 (W.drewN m) g f0 f1 f2:=h
theorem IsS39.drew {w0 W:World} {g:Nat} {f0:List Int} {f1:Int} {f2:Int} (h:IsS39 w0 W g f0 f1 f2):IsS39 w0 W.drew g f0 f1 f2:=h
theorem IsS39.at_ {w0 W:World} {g:Nat} {f0:List Int} {f1:Int} {f2:Int} {w':World} {m:Nat} (hq:W.drewN m=w') (h:IsS39 w0 W g f0 f1 f2):IsS39 w0 w' g f0 f1 f2:=by subst hq;exact IsS39.drewN h m
theorem IsS39.apart {w0 W:World} {g:Nat} {f0:List Int} {f1:Int} {f2:Int} {α:Type} {d:Kd α} {e:Nat} {base:Nat} {ok:Nat→Prop} {v:Value} {xs:List α} (h:IsS39 w0 W g f0 f1 f2) (ho:d.R e W base ok v xs) (ht:∀ q,q∈e :: d.E→q≠39):d.R e W base (fun k=>ok k∧k≠g) v xs:=by
 obtain ⟨A0,c0,hb,hg,dW⟩:=h;exact Kd.R_types ho hb ht
theorem IsS39.own_ne {w0 W:World} {g:Nat} {f0:List Int} {f1:Int} {f2:Int} {α:Type} {d:Kd α} {e:Nat} {base:Nat} {ok:Nat→Prop} {v:Value} {xs:List α} (h:IsS39 w0 W g f0 f1 f2) (ho:d.R e W base ok v xs) (ht:e≠39):some g≠v.ownBlock:=by
 obtain ⟨A0,c0,hb,hg,dW⟩:=h;exact Kd.R_ne ho hb ht
theorem IsS39.apartS {w0 W:World} {g:Nat} {f0:List Int} {f1:Int} {f2:Int} {α:Type} {d:Kd α} {e:Nat} {base:Nat} {ok:Nat→Prop} {v:Value} {xs:List α} (h:IsS39 w0 W g f0 f1 f2) (ho:d.S e W base ok v xs) (ht:∀ q,q∈e :: d.E→q≠39):d.S e W base (fun k=>ok k∧k≠g) v xs:=by
 obtain ⟨A0,c0,hb,hg,dW⟩:=h;exact Kd.S_types ho hb ht
theorem IsS39.own_neS {w0 W:World} {g:Nat} {f0:List Int} {f1:Int} {f2:Int} {α:Type} {d:Kd α} {e:Nat} {base:Nat} {ok:Nat→Prop} {v:Value} {xs:List α} (h:IsS39 w0 W g f0 f1 f2) (ho:d.S e W base ok v xs) (ht:e≠39):some g≠v.ownBlock:=by
 obtain ⟨A0,c0,hb,hg,dW⟩:=h;exact Kd.S_ne ho hb ht
theorem IsS39.lt {w0 W:World} {g:Nat} {f0:List Int} {f1:Int} {f2:Int} (h:IsS39 w0 W g f0 f1 f2):g<W.heap.size:=by
 obtain ⟨A0,c0,hb,hg,dW⟩:=h;exact blk_lt hb
theorem IsS39.ge {w0 W:World} {g:Nat} {f0:List Int} {f1:Int} {f2:Int} (h:IsS39 w0 W g f0 f1 f2):w0.heap.size≤g:=by
 obtain ⟨A0,c0,hb,hg,dW⟩:=h;exact hg
theorem IsS39.ne_blk {w0 W:World} {g:Nat} {f0:List Int} {f1:Int} {f2:Int} {a:Nat} {cs:Array Value} {t:TypeId} {fr:Nat × Nat} (h:IsS39 w0 W g f0 f1 f2) (hb2:W.heap[a]?=some (.cells cs t fr)) (ht:t≠39):g≠a:=by
 obtain ⟨A0,c0,hb,hg,dW⟩:=h;rintro rfl;rw [hb] at hb2
 injection hb2 with hb2
 injection hb2 with _ ht2
 exact ht ht2.symm
theorem IsS39.far {w0 W:World} {g:Nat} {f0:List Int} {f1:Int} {f2:Int} {p:Addr} (h:IsS39 w0 W g f0 f1 f2) (hne:g≠p.block) (u:Value):IsS39 w0 (W.setCell p u) g f0 f1 f2:=by
 obtain ⟨A0,c0,hb,hg,dW⟩:=h;exact ⟨A0,c0,blk_far hb hne u,hg,dW⟩
theorem cellS39_0 {W:World} {g:Nat} {A0:Option Addr} {c0:Nat} {f0:List Int} {f1:Int} {f2:Int} (h:W.heap[g]?=some (.cells #[.slice A0 f0.length c0,.int .i64 f1,.int .u64 f2] 39 (0,0))):W.cell? ⟨g,0,none⟩=some (.slice A0 f0.length c0):=(blk_cell h 0).trans rfl
theorem cellS39_1 {W:World} {g:Nat} {A0:Option Addr} {c0:Nat} {f0:List Int} {f1:Int} {f2:Int} (h:W.heap[g]?=some (.cells #[.slice A0 f0.length c0,.int .i64 f1,.int .u64 f2] 39 (0,0))):W.cell? ⟨g,1,none⟩=some (.int .i64 f1):=(blk_cell h 1).trans rfl
theorem IsS39.set_1 {w0 W:World} {g:Nat} {f0:List Int} {f1:Int} {f2:Int} (h:IsS39 w0 W g f0 f1 f2) (x:Int):IsS39 w0 (W.setCell ⟨g,1,none⟩ (.int .i64 x)) g f0 x f2:=by
 obtain ⟨A0,c0,hb,hg,dW⟩:=h;exact ⟨A0,c0,by simpa using blk_set hb 1 (.int .i64 x),hg,dW⟩
theorem cellS39_2 {W:World} {g:Nat} {A0:Option Addr} {c0:Nat} {f0:List Int} {f1:Int} {f2:Int} (h:W.heap[g]?=some (.cells #[.slice A0 f0.length c0,.int .i64 f1,.int .u64 f2] 39 (0,0))):W.cell? ⟨g,2,none⟩=some (.int .u64 f2):=(blk_cell h 2).trans rfl
theorem IsS39.set_2 {w0 W:World} {g:Nat} {f0:List Int} {f1:Int} {f2:Int} (h:IsS39 w0 W g f0 f1 f2) (x:Int):IsS39 w0 (W.setCell ⟨g,2,none⟩ (.int .u64 x)) g f0 f1 x:=by
 obtain ⟨A0,c0,hb,hg,dW⟩:=h;exact ⟨A0,c0,by simpa using blk_set hb 2 (.int .u64 x),hg,dW⟩
theorem IsS39.new (w0 W:World) (A0:Option Addr) (c0:Nat) (f0:List Int) (f1:Int) (f2:Int) (hB:Below w0.heap.size w0 W) (dW:Kd.C (Kd.int .u8) w0 A0 f0.length f0):IsS39 w0 (W.alloc (.cells #[.slice A0 f0.length c0,.int .i64 f1,.int .u64 f2] 39)) W.heap.size f0 f1 f2:=⟨A0,c0,by simpa using heap_alloc_new W _,hB.size,dW⟩
def spec_l1Cur_next.f (aC:List Int) (bG:Int) (bL:Int):Option (Int × Int × Int):=if bG<(aC.length:Int) then (if 0≤bG then (if (wrap64 (bG+1))≤(aC.length:Int) then (some (wrap64 (rd aC bG),wrap64 (bG+1),IntKind.u64.wrap ((IntKind.u64.wrap ((IntKind.u64.wrap (bL*6364136223846793005))+(IntKind.u64.wrap (wrap64 (rd aC bG)))))+896896))) else (some (wrap64 (Go.bits .and .u64 ((IntKind.u64.wrap ((IntKind.u64.wrap ((IntKind.u64.wrap (bL*6364136223846793005))+(IntKind.u64.wrap (wrap64 (rd aC bG)))))+896896)) / 1099511627776) 255),wrap64 (bG+1),IntKind.u64.wrap ((IntKind.u64.wrap ((IntKind.u64.wrap (bL*6364136223846793005))+(IntKind.u64.wrap (wrap64 (rd aC bG)))))+896896)))) else (none)) else (if (wrap64 (bG+1))≤(aC.length:Int) then (some (0,wrap64 (bG+1),IntKind.u64.wrap ((IntKind.u64.wrap ((IntKind.u64.wrap (bL*6364136223846793005))+0))+896896))) else (some (wrap64 (Go.bits .and .u64 ((IntKind.u64.wrap ((IntKind.u64.wrap ((IntKind.u64.wrap (bL*6364136223846793005))+0))+896896)) / 1099511627776) 255),wrap64 (bG+1),IntKind.u64.wrap ((IntKind.u64.wrap ((IntKind.u64.wrap (bL*6364136223846793005))+0))+896896))))
theorem spec_l1Cur_next.L0 {P:Prop} (h:P:=by
  go_enter Tryz.func27,Tryz.ntmps27;go_wp2
  repeat (go_quiet (fail);try go_wp2)
  go_ret
  exact ⟨by first|rfl|(simp [errW_none,errW_some] <;> rfl)|(simp [*,errW_none,errW_some] <;> rfl),by (try simp only [Int.add_zero]);repeat (first|(with_reducible first|exact HI0.out|apply IsS39.alloc|apply IsS39.drewN|apply IsS39.drew|apply IsS39.set_1|apply IsS39.set_2)|exact HI0.out),by repeat (first|(with_reducible first|exact HB.out|apply below_alloc|apply pw_below_drewN|apply below_drew1|refine below_set ?_ (IsS39.ge HI0.out))|exact HB.out),by repeat (first|(with_reducible first|exact HK.out|apply KeepBut.set_|apply keep_drewN|apply keep_drew|apply keep_alloc)|exact HK.out)⟩):P:=h
theorem spec_l1Cur_next.calls (g:Nat) (aC:List Int) (bG:Int) (bL:Int) (r1:Int) (r2:Int) (r3:Int) (w0 w:World) (hI:IsS39 w0 w g aC bG bL) (hB:Below w0.heap.size w0 w) (h:spec_l1Cur_next.f aC bG bL=some (r1,r2,r3)) :
  Calls Tryz.prog 27 #[.pointer (some ⟨g,0,none⟩)] w fun e w'=>e=.returned (.int .i64 r1)∧IsS39 w0 w' g aC r2 r3∧Below w0.heap.size w0 w'∧KeepBut w w' g none:=by
 have HI0:=am hI;have HK:=am (KeepBut.refl w g none);have HL:=am hB.size;clear hI;have HW0:=am hB.size;have HB:=am hB;clear hB;have H:(if bG<(aC.length:Int) then (if 0≤bG then (if (wrap64 (bG+1))≤(aC.length:Int) then (some (wrap64 (rd aC bG),wrap64 (bG+1),IntKind.u64.wrap ((IntKind.u64.wrap ((IntKind.u64.wrap (bL*6364136223846793005))+(IntKind.u64.wrap (wrap64 (rd aC bG)))))+896896))) else (some (wrap64 (Go.bits .and .u64 ((IntKind.u64.wrap ((IntKind.u64.wrap ((IntKind.u64.wrap (bL*6364136223846793005))+(IntKind.u64.wrap (wrap64 (rd aC bG)))))+896896)) / 1099511627776) 255),wrap64 (bG+1),IntKind.u64.wrap ((IntKind.u64.wrap ((IntKind.u64.wrap (bL*6364136223846793005))+(IntKind.u64.wrap (wrap64 (rd aC bG)))))+896896)))) else (none)) else (if (wrap64 (bG+1))≤(aC.length:Int) then (some (0,wrap64 (bG+1),IntKind.u64.wrap ((IntKind.u64.wrap ((IntKind.u64.wrap (bL*6364136223846793005))+0))+896896))) else (some (wrap64 (Go.bits .and .u64 ((IntKind.u64.wrap ((IntKind.u64.wrap ((IntKind.u64.wrap (bL*6364136223846793005))+0))+896896)) / 1099511627776) 255),wrap64 (bG+1),IntKind.u64.wrap ((IntKind.u64.wrap ((IntKind.u64.wrap (bL*6364136223846793005))+0))+896896)))))=some (r1,r2,r3):=h;clear h;by_cases c2:bG<(aC.length:Int)
 ·
  rw [if_pos c2] at H;have c2b0:=dt c2;clear c2;by_cases c3:0≤bG
  ·
   rw [if_pos c3] at H;have c3b0:=dt c3;clear c3;by_cases c4:(wrap64 (bG+1))≤(aC.length:Int)
   ·
    rw [if_pos c4] at H;have c4b0:=dt c4;clear c4;simp only [Option.some.injEq,Prod.mk.injEq] at H;obtain ⟨rfl,rfl,rfl⟩:=H;obtain ⟨ASz5_0,cSz5_0,HGz5,hgz5,HSz5_0⟩:=HI0.out;have BA:=cellS39_0 HGz5;have BB:=cellS39_1 HGz5;have BC:=cellS39_2 HGz5;have BD:=blk_frozen HGz5 1;have BE:=blk_frozen HGz5 2;clear HGz5 hgz5;have Hi:0≤(bG:Int):=od au103;have Hj:bG<(aC.length:Int):=od au103;obtain ⟨a9W,Uw,BF⟩:=Kd.at_int HSz5_0 bG Hi Hj
    cases Uw
    replace BF:=pw_cell_below HB.out BF;replace Hi:=eq_true Hi;replace Hj:=eq_true Hj;exact spec_l1Cur_next.L0
   ·
    rw [if_neg c4] at H;have c4b0:=df c4;clear c4;simp only [Option.some.injEq,Prod.mk.injEq] at H;obtain ⟨rfl,rfl,rfl⟩:=H;obtain ⟨ASz6_0,cSz6_0,HGz6,hgz6,HSz6_0⟩:=HI0.out;have Ub:=cellS39_0 HGz6;have Uc:=cellS39_1 HGz6;have Ud:=cellS39_2 HGz6;have Ue:=blk_frozen HGz6 1;have Uf:=blk_frozen HGz6 2;clear HGz6 hgz6;have Hi:0≤(bG:Int):=od au103;have Hj:bG<(aC.length:Int):=od au103;obtain ⟨a9W,Uw,BF⟩:=Kd.at_int HSz6_0 bG Hi Hj
    cases Uw
    replace BF:=pw_cell_below HB.out BF;replace Hi:=eq_true Hi;replace Hj:=eq_true Hj;exact spec_l1Cur_next.L0
  · rw [if_neg c3] at H;exact absurd H (by simp)
 ·
  rw [if_neg c2] at H;have c2b0:=df c2;clear c2;by_cases c7:(wrap64 (bG+1))≤(aC.length:Int)
  · rw [if_pos c7] at H;have c7b0:=dt c7;clear c7;simp only [Option.some.injEq,Prod.mk.injEq] at H;obtain ⟨rfl,rfl,rfl⟩:=H;obtain ⟨ASz8_0,cSz8_0,HGz8,hgz8,HSz8_0⟩:=HI0.out;have Jl:=cellS39_0 HGz8;have Jm:=cellS39_1 HGz8;have Jn:=cellS39_2 HGz8;have Jo:=blk_frozen HGz8 1;have Jp:=blk_frozen HGz8 2;clear HGz8 hgz8;exact spec_l1Cur_next.L0
  · rw [if_neg c7] at H;have c7b0:=df c7;clear c7;simp only [Option.some.injEq,Prod.mk.injEq] at H;obtain ⟨rfl,rfl,rfl⟩:=H;obtain ⟨ASz9_0,cSz9_0,HGz9,hgz9,HSz9_0⟩:=HI0.out;have a4Y:=cellS39_0 HGz9;have a4Z:=cellS39_1 HGz9;have a5A:=cellS39_2 HGz9;have a5B:=blk_frozen HGz9 1;have a5C:=blk_frozen HGz9 2;clear HGz9 hgz9;exact spec_l1Cur_next.L0
def spec_l1Cur_pick.f (aC:List Int) (bG:Int) (bL:Int) (a1:Int):Option (Int × Int × Int):=if a1≤1 then (some (0,bG,bL)) else ((spec_l1Cur_next.f aC bG bL).bind fun nW=>(if a1>200 then ((spec_l1Cur_next.f aC nW.2.1 nW.2.2).bind fun sG=>(if a1=0 then (none) else (some (Int.tmod (wrap64 ((wrap64 (nW.1*256))+sG.1)) a1,sG.2.1,sG.2.2)))) else (if a1=0 then (none) else (some (Int.tmod nW.1 a1,nW.2.1,nW.2.2)))))
theorem spec_l1Cur_pick.calls (g:Nat) (aC:List Int) (bG:Int) (bL:Int) (a1:Int) (r1:Int) (r2:Int) (r3:Int) (w0 w:World) (hI:IsS39 w0 w g aC bG bL) (hB:Below w0.heap.size w0 w) (h:spec_l1Cur_pick.f aC bG bL a1=some (r1,r2,r3)) :
  Calls Tryz.prog 13 #[.pointer (some ⟨g,0,none⟩),.int .i64 a1] w fun e w'=>e=.returned (.int .i64 r1)∧IsS39 w0 w' g aC r2 r3∧Below w0.heap.size w0 w'∧KeepBut w w' g none:=by
 have HI0:=am hI;have HK:=am (KeepBut.refl w g none);have HL:=am hB.size;clear hI;have HW0:=am hB.size;have HB:=am hB;clear hB;have H:(if a1≤1 then (some (0,bG,bL)) else ((spec_l1Cur_next.f aC bG bL).bind fun nW=>(if a1>200 then ((spec_l1Cur_next.f aC nW.2.1 nW.2.2).bind fun sG=>(if a1=0 then (none) else (some (Int.tmod (wrap64 ((wrap64 (nW.1*256))+sG.1)) a1,sG.2.1,sG.2.2)))) else (if a1=0 then (none) else (some (Int.tmod nW.1 a1,nW.2.1,nW.2.2))))))=some (r1,r2,r3):=h;clear h;by_cases c3:a1≤1
 · rw [if_pos c3] at H;have c3b0:=dt c3;clear c3;simp only [Option.some.injEq,Prod.mk.injEq] at H;obtain ⟨rfl,rfl,rfl⟩:=H;go_enter Tryz.func13,Tryz.ntmps13;go_wp2;go_ret;exact ax0
 ·
  rw [if_neg c3] at H;have c3b0:=df c3;clear c3;replace H:=obz H;obtain ⟨⟨Nn,No,Np⟩,nE,H⟩:=H;replace H:(if a1>200 then ((spec_l1Cur_next.f aC No Np).bind fun sG=>(if a1=0 then (none) else (some (Int.tmod (wrap64 ((wrap64 (Nn*256))+sG.1)) a1,sG.2.1,sG.2.2)))) else (if a1=0 then (none) else (some (Int.tmod Nn a1,No,Np))))=some (r1,r2,r3):=H;have A4:=am nE;clear nE;by_cases c5:a1>200
  ·
   rw [if_pos c5] at H;have c5b0:=dt c5;clear c5;replace H:=obz H;obtain ⟨⟨t105,a5D,a5E⟩,nF,H⟩:=H;replace H:(if a1=0 then (none) else (some (Int.tmod (wrap64 ((wrap64 (Nn*256))+t105)) a1,a5D,a5E)))=some (r1,r2,r3):=H;have A6:=am nF;clear nF;by_cases c7:a1=0
   · rw [if_pos c7] at H;exact absurd H (by simp)
   · rw [if_neg c7] at H;have c7b0:=qf c7;have c7b1:=bu c7;simp only [Option.some.injEq,Prod.mk.injEq] at H;obtain ⟨rfl,rfl,rfl⟩:=H;go_enter Tryz.func13,Tryz.ntmps13;go_wp2_with (first|((with_reducible refine gate_callee (f:=27) rfl ?_);refine goesL_ (some 9) rfl rfl Tryz.func27 (by kernel_rfl) rfl #[.pointer (some ⟨g,0,none⟩)] rfl au58 ?_;(with_reducible refine (spec_l1Cur_next.calls g aC bG bL Nn No Np w0 _ ?aE ?aG A4.out).mono ?_);(case aE=>repeat (first|(with_reducible first|exact HI0.out|apply IsS39.alloc|apply IsS39.drewN|apply IsS39.drew|apply IsS39.set_1|apply IsS39.set_2)|exact HI0.out));(case aG=>repeat (first|(with_reducible first|exact HB.out|apply below_alloc|apply pw_below_drewN|apply below_drew1|refine below_set ?_ (IsS39.ge HI0.out))|exact HB.out));rintro e w8 ⟨rfl,hi,hb,hk⟩;refine ⟨_,rfl,?_⟩;replace HK:=am (KeepBut.trans au56 hk (.inl rfl));replace HB:=am (hb);replace HI0:=am (hi);(try clear hb);(try clear hk);(try clear hi))|((with_reducible refine gate_callee (f:=27) rfl ?_);refine goesL_ (some 15) rfl rfl Tryz.func27 (by kernel_rfl) rfl #[.pointer (some ⟨g,0,none⟩)] rfl au58 ?_;(with_reducible refine (spec_l1Cur_next.calls g aC No Np t105 a5D a5E w0 _ ?aE ?aG A6.out).mono ?_);(case aE=>repeat (first|(with_reducible first|exact HI0.out|apply IsS39.alloc|apply IsS39.drewN|apply IsS39.drew|apply IsS39.set_1|apply IsS39.set_2)|exact HI0.out));(case aG=>repeat (first|(with_reducible first|exact HB.out|apply below_alloc|apply pw_below_drewN|apply below_drew1|refine below_set ?_ (IsS39.ge HI0.out))|exact HB.out));rintro e w9 ⟨rfl,hi,hb,hk⟩;refine ⟨_,rfl,?_⟩;replace HK:=am (KeepBut.trans au56 hk (.inl rfl));replace HB:=am (hb);replace HI0:=am (hi);(try clear hb);(try clear hk);(try clear hi)));go_ret;exact ax0
  ·
   rw [if_neg c5] at H;have c5b0:=df c5;clear c5;by_cases c10:a1=0
   · rw [if_pos c10] at H;exact absurd H (by simp)
   · rw [if_neg c10] at H;have c10b0:=qf c10;have c10b1:=bu c10;simp only [Option.some.injEq,Prod.mk.injEq] at H;obtain ⟨rfl,rfl,rfl⟩:=H;go_enter Tryz.func13,Tryz.ntmps13;go_wp2_with (first|((with_reducible refine gate_callee (f:=27) rfl ?_);refine goesL_ (some 9) rfl rfl Tryz.func27 (by kernel_rfl) rfl #[.pointer (some ⟨g,0,none⟩)] rfl au58 ?_;(with_reducible refine (spec_l1Cur_next.calls g aC bG bL Nn No Np w0 _ ?aE ?aG A4.out).mono ?_);(case aE=>repeat (first|(with_reducible first|exact HI0.out|apply IsS39.alloc|apply IsS39.drewN|apply IsS39.drew|apply IsS39.set_1|apply IsS39.set_2)|exact HI0.out));(case aG=>repeat (first|(with_reducible first|exact HB.out|apply below_alloc|apply pw_below_drewN|apply below_drew1|refine below_set ?_ (IsS39.ge HI0.out))|exact HB.out));rintro e Q9 ⟨rfl,hi,hb,hk⟩;refine ⟨_,rfl,?_⟩;replace HK:=am (KeepBut.trans au56 hk (.inl rfl));replace HB:=am (hb);replace HI0:=am (hi);(try clear hb);(try clear hk);(try clear hi)));go_ret;exact ax0
def spec_l1Cur_of.f (aC:List Int) (bG:Int) (bL:Int) (l1:List ByteArray):Option (ByteArray × Int × Int):=(spec_l1Cur_pick.f aC bG bL (l1.length:Int)).bind fun sH=>(if 0≤sH.1 then (if sH.1<(l1.length:Int) then (some (rdOf ByteArray.empty l1 sH.1,sH.2.1,sH.2.2)) else (none)) else (none))
theorem spec_l1Cur_of.calls (g:Nat) (aC:List Int) (bG:Int) (bL:Int) (A1:Option Addr) (c1:Nat) (l1:List ByteArray) (r1:ByteArray) (r2:Int) (r3:Int) (w0 w:World) (hI:IsS39 w0 w g aC bG bL) (hB:Below w0.heap.size w0 w) (zQ:Kd.C Kd.string w A1 l1.length l1) (EC:l1.length≤c1) (Nq:∀ ad,A1=some ad→0<l1.length→ad.block≠g) (h:spec_l1Cur_of.f aC bG bL l1=some (r1,r2,r3)) :
  Calls Tryz.prog 22 #[.pointer (some ⟨g,0,none⟩),.slice A1 l1.length c1] w fun e w'=>e=.returned (.string r1)∧IsS39 w0 w' g aC r2 r3∧Below w0.heap.size w0 w'∧KeepBut w w' g none:=by
 have qO:=am zQ;have HC1:=am EC;clear zQ EC;have HI0:=am hI;have HK:=am (KeepBut.refl w g none);have HL:=am hB.size;clear hI;have HW0:=am hB.size;have HB:=am hB;clear hB;have H:((spec_l1Cur_pick.f aC bG bL (l1.length:Int)).bind fun sH=>(if 0≤sH.1 then (if sH.1<(l1.length:Int) then (some (rdOf ByteArray.empty l1 sH.1,sH.2.1,sH.2.2)) else (none)) else (none)))=some (r1,r2,r3):=h;clear h;replace H:=obz H;obtain ⟨⟨kI,Bi,Bj⟩,dR,H⟩:=H;replace H:(if 0≤kI then (if kI<(l1.length:Int) then (some (rdOf ByteArray.empty l1 kI,Bi,Bj)) else (none)) else (none))=some (r1,r2,r3):=H;have A3:=am dR;clear dR;by_cases c4:0≤kI
 ·
  rw [if_pos c4] at H;have c4b0:=dt c4;clear c4;by_cases c5:kI<(l1.length:Int)
  · rw [if_pos c5] at H;have c5b0:=dt c5;clear c5;simp only [Option.some.injEq,Prod.mk.injEq] at H;obtain ⟨rfl,rfl,rfl⟩:=H;go_enter Tryz.func22,Tryz.ntmps22;go_wp2_with (first|((with_reducible refine gate_callee (f:=13) rfl ?_);refine goesL_ (some 9) rfl rfl Tryz.func13 (by kernel_rfl) rfl #[.pointer (some ⟨g,0,none⟩),.int .i64 (l1.length:Int)] rfl au58 ?_;(with_reducible refine (spec_l1Cur_pick.calls g aC bG bL (l1.length:Int) kI Bi Bj w0 _ ?aE ?aG A3.out).mono ?_);(case aE=>repeat (first|(with_reducible first|exact HI0.out|apply IsS39.alloc|apply IsS39.drewN|apply IsS39.drew|apply IsS39.set_1|apply IsS39.set_2)|exact HI0.out));(case aG=>repeat (first|(with_reducible first|exact HB.out|apply below_alloc|apply pw_below_drewN|apply below_drew1|refine below_set ?_ (IsS39.ge HI0.out))|exact HB.out));rintro e w6 ⟨rfl,hi,hb,hk⟩;refine ⟨_,rfl,?_⟩;replace HK:=am (KeepBut.trans au56 hk (.inl rfl));replace HB:=am (hb);replace HI0:=am (hi);(try clear hb);(try clear hk);(try clear hi);have Ux:0≤(kI:Int):=od au103;have Uy:kI<(l1.length:Int):=od au103;obtain ⟨a9X,aeT,Qa⟩:=Kd.at_string qO.out kI Ux Uy;cases aeT;replace Qa:=keep_cell HK.out Qa (by first|(rw [add_block];exact Nq _ rfl (by omega))|exact Nq _ rfl (by omega)|exact Nq a9X rfl (by omega));replace Ux:=eq_true Ux;replace Uy:=eq_true Uy));go_ret;exact ax0
  · rw [if_neg c5] at H;exact absurd H (by simp)
 · rw [if_neg c4] at H;exact absurd H (by simp)
end Go.Proofs.YtcbhlghofihjcaaGreatDoor.G

namespace Go.Proofs.YtcbhlghofihjcaaGreatDoor.G
open Go.RowKit Go.Proofs.YtcbhlghofihjcaaGreatDoorW.PrintWords Go.Proofs.YtcbhlghofihjcaaGreatDoorW.PrintLast Go.Proofs.YtcbhlghofihjcaaGreatDoor.B Go.Proofs.YtcbhlghofihjcaaGreatDoor.Opn
set_option linter.unusedVariables false
set_option linter.unusedSimpArgs false
def BtL (l:List Int):Prop:=l.length≤65536∧∀ x∈l,0≤x∧x≤255
theorem bt_of {l:List Int} (h:okList (okInt .u8) l) (hl:l.length≤65536):BtL l:=by
  refine ⟨hl,fun x hx=>?_⟩;have:=h.2 x hx;simp only [okInt,Lit.wf,Bool.and_eq_true,decide_eq_true_eq] at this;have h1:IntKind.u8.min=0:=rfl;have h2:IntKind.u8.max=255:=rfl;omega
theorem rd_bd {l:List Int} (h:BtL l) (i:Int):0≤rd l i∧rd l i≤255:=by
  unfold rd;by_cases c:i.toNat<l.length
  · rw [List.getD_eq_getElem?_getD,List.getElem?_eq_getElem c]
    exact h.2 _ (List.getElem_mem c)
  · rw [List.getD_eq_getElem?_getD,List.getElem?_eq_none (by omega)]
    exact ⟨by decide,by decide⟩
theorem and_bd (x:Int):0≤wrap64 (Go.bits .and .u64 ((IntKind.u64.wrap x) / 1099511627776) 255)∧wrap64 (Go.bits .and .u64 ((IntKind.u64.wrap x) / 1099511627776) 255)≤255:=by
  rw [IntKind.wrap_u64]
  obtain ⟨n,hn,hl⟩:∃ n:Nat,(x % 18446744073709551616) / 1099511627776=(n:Int)∧n<18446744073709551616:=⟨((x % 18446744073709551616) / 1099511627776).toNat,by omega,by omega⟩
  rw [hn,show (255:Int)=((255:Nat):Int) from rfl,bits_and_u64_nat n 255 hl (by omega)];have:=Nat.and_le_right (n:=n) (m:=255);rw [w64 (by omega) (by omega)];omega
theorem next_ex {l:List Int} (h:BtL l) (a s:Int) (h0:0≤a) (h1:a≤2305843009213693952):∃ x s',spec_l1Cur_next.f l a s=some (x,a+1,s')∧0≤x∧x≤255:=by
  unfold spec_l1Cur_next.f;have hw:wrap64 (a+1)=a+1:=w64 (by omega) (by omega);rw [hw];have hr:=rd_bd h a;by_cases c:a<(l.length:Int)
  · rw [if_pos c,if_pos h0]
    by_cases c2:a+1≤(l.length:Int)
    · rw [if_pos c2];exact ⟨_,_,rfl,by rw [w64 (by omega) (by omega)];exact hr⟩
    · rw [if_neg c2];exact ⟨_,_,rfl,and_bd _⟩
  · rw [if_neg c]
    by_cases c2:a+1≤(l.length:Int)
    · rw [if_pos c2];exact ⟨_,_,rfl,by omega,by omega⟩
    · rw [if_neg c2];exact ⟨_,_,rfl,and_bd _⟩
theorem tmod_bd {x n:Int} (h:0≤x) (hn:1≤n):0≤Int.tmod x n∧Int.tmod x n<n:=⟨Int.tmod_nonneg n h,Int.tmod_lt_of_pos x (by omega)⟩
theorem pick_ex {l:List Int} (h:BtL l) (a s n:Int) (h0:0≤a) (h1:a≤2305843009213693000) (hn:1≤n):∃ x a' s',spec_l1Cur_pick.f l a s n=some (x,a',s')∧0≤x∧x<n∧a≤a'∧a'≤a+2:=by
  unfold spec_l1Cur_pick.f;by_cases c:n≤1
  · rw [if_pos c];exact ⟨_,_,_,rfl,by omega,by omega,by omega,by omega⟩
  · rw [if_neg c]
    obtain ⟨x,s',e,b0,b1⟩:=next_ex h a s h0 (by omega);rw [e];by_cases c2:n>200
    · obtain ⟨x2,s2,e2,b2,b3⟩:=next_ex h (a+1) s' (by omega) (by omega)
      refine ⟨Int.tmod (x*256+x2) n,a+1+1,s2,?_,(tmod_bd (x:=x*256+x2) (n:=n) (by omega) hn).1,(tmod_bd (x:=x*256+x2) (n:=n) (by omega) hn).2,?_,?_⟩
      · simp only [Option.bind_some]
        rw [if_pos c2,e2];simp only [Option.bind_some];rw [if_neg (by omega),w64 (x:=x*256) (by omega) (by omega),w64 (x:=x*256+x2) (by omega) (by omega)]
      · omega
      · omega
    · refine ⟨Int.tmod x n,a+1,s',?_,(tmod_bd (x:=x) (n:=n) b0 hn).1,(tmod_bd (x:=x) (n:=n) b0 hn).2,?_,?_⟩
      · simp only [Option.bind_some]
        rw [if_neg c2,if_neg (by omega)]
      · omega
      · omega
theorem of_ex {l:List Int} (h:BtL l) (a s:Int) (ts:List ByteArray) (h0:0≤a) (h1:a≤2305843009213693000) (hn:1≤ts.length):∃ x a' s',spec_l1Cur_of.f l a s ts=some (x,a',s')∧x∈ts∧a≤a'∧a'≤a+2:=by
  unfold spec_l1Cur_of.f;obtain ⟨x,a',s',e,b0,b1,b2,b3⟩:=pick_ex h a s (ts.length:Int) h0 h1 (by omega);rw [e];simp only [Option.bind_some];rw [if_pos b0,if_pos b1];refine ⟨_,_,_,rfl,?_,b2,b3⟩;unfold rdOf;rw [List.getD_eq_getElem?_getD,List.getElem?_eq_getElem (by omega)];exact List.getElem_mem (by omega)
end Go.Proofs.YtcbhlghofihjcaaGreatDoor.G

namespace Go.Proofs.YtcbhlghofihjcaaGreatDoor.G
open Go.RowKit Go.Proofs.YtcbhlghofihjcaaGreatDoorW.PrintWords Go.Proofs.YtcbhlghofihjcaaGreatDoorW.PrintLast Go.Proofs.YtcbhlghofihjcaaGreatDoor.B
set_option linter.unusedVariables false
set_option linter.unusedSimpArgs false
def bytesS (l:List ByteArray):Nat:=(l.map (·.size)).sum
def bulkS (l:List ByteArray):Nat:=l.length+bytesS l
theorem bytesS_cons (a:ByteArray) (l:List ByteArray):bytesS (a :: l)=a.size+bytesS l:=by simp [bytesS]
end Go.Proofs.YtcbhlghofihjcaaGreatDoor.G

namespace Go.Proofs.YtcbhlghofihjcaaGreatDoor.B
open Go.RowKit Go.Proofs.YtcbhlghofihjcaaGreatDoorW.PrintWords Go.Proofs.YtcbhlghofihjcaaGreatDoorW.PrintLast
set_option linter.unusedVariables false
set_option linter.unusedSimpArgs false
def ahd (seg:List UInt8):List (List UInt8)→List (List UInt8)
  | []=>[seg]
  | h :: t=>(seg++h) :: t
def spl (b:UInt8):List UInt8→List (List UInt8)
  | []=>[[]]
  | c :: cs=>if c=b then [] :: spl b cs else ahd [c] (spl b cs)
theorem spl_cons (b c:UInt8) (cs:List UInt8):spl b (c :: cs)=if c=b then [] :: spl b cs else ahd [c] (spl b cs):=rfl
theorem spl_ne (b:UInt8) (l:List UInt8):spl b l≠[]:=by
  cases l with
  | nil=>simp [spl]
  | cons c cs=>unfold spl;split <;> simp;unfold ahd;split <;> simp
theorem ahd_nil (p:List (List UInt8)) (h:p≠[]):ahd [] p=p:=by cases p <;> simp_all [ahd]
theorem ahd_ahd (a b:List UInt8) (p:List (List UInt8)):ahd a (ahd b p)=ahd (a++b) p:=by cases p <;> simp [ahd]
theorem spl_length (b:UInt8) (l:List UInt8):(spl b l).length≤l.length+1:=by
  induction l with
  | nil=>simp [spl]
  | cons c cs ih =>
    unfold spl
    split
    · simp;omega
    · cases h:spl b cs with
      | nil=>exact absurd h (spl_ne b cs)
      | cons p q=>rw [h] at ih;simp [ahd] at ih ⊢;omega
theorem spl_step (b:UInt8) (l:List UInt8) (from_ i:Nat) (hi:i<l.length) (hf:from_≤i) :
    ahd ((l.drop from_).take (i-from_)) (spl b (l.drop i)) =
      if l[i]=b then ((l.drop from_).take (i-from_)) :: spl b (l.drop (i+1)) else ahd ((l.drop from_).take (i+1-from_)) (spl b (l.drop (i+1))):=by
  rw [List.drop_eq_getElem_cons hi,spl_cons];by_cases h:l[i]=b
  · rw [if_pos h,if_pos h]
    simp [ahd]
  · rw [if_neg h,if_neg h]
    have e:(l.drop from_).take (i+1-from_)=(l.drop from_).take (i-from_)++[l[i]]:=by
      rw [show i+1-from_=(i-from_)+1 by omega,List.take_succ_eq_append_getElem (by rw [List.length_drop];omega)]
      congr 2
      rw [List.getElem_drop]
      congr 1
      omega
    rw [e];exact ahd_ahd _ _ _
theorem spl_none (c:UInt8):∀ l:List UInt8,(∀ k:Nat,l[k]?≠some c)→spl c l=[l]
  | [],_=>rfl
  | a :: l,h=>by
    have h0:a≠c:=fun e=>h 0 (by simp [e])
    rw [spl_cons,if_neg h0,spl_none c l (fun k=>by simpa using h (k+1))];rfl
theorem spl_first (c:UInt8):∀ (i:Nat) (l:List UInt8),l[i]?=some c→(∀ k:Nat,k<i→l[k]?≠some c)→spl c l=l.take i :: spl c (l.drop (i+1))
  | 0,[],h,_=>by simp at h
  | 0,a :: l,h,_=>by
    have h0:a=c:=by simpa using h
    rw [spl_cons,if_pos h0];rfl
  | i+1,[],h,_=>by simp at h
  | i+1,a :: l,h,hk=>by
    have h0:a≠c:=fun e=>hk 0 (by omega) (by simp [e])
    rw [spl_cons,if_neg h0,spl_first c i l (by simpa using h) (fun k hk'=>by simpa using hk (k+1) (by omega))];rfl
theorem indexB_one (s:ByteArray) (c:UInt8):Lib.indexB s (mkB [c])=Lib.indexByte (L s) c:=by
  unfold Lib.indexB;have:(mkB [c]).data.toList=[c]:=L_mk [c];rw [this];exact Lib.index_one _ _
theorem splitB_spl (c:UInt8) (n:Nat):∀ s:ByteArray,s.size≤n→(Lib.splitB (mkB [c]) 0 (Lib.countB s (mkB [c])) s).map L=spl c (L s):=by
  have h1:(mkB [c]).size=1:=by rw [size_mk];rfl
  induction n with
  | zero =>
    intro s hs
    rcases Lib.indexB_cases s (mkB [c]) with hm|⟨i,hi,hr⟩
    · rw [Lib.splitB_miss _ _ _ _ hm]
      have:=Lib.indexByte_none (by rw [← indexB_one];exact hm:Lib.indexByte (L s) c=-1);rw [spl_none c (L s) this];rfl
    · omega
  | succ n ih =>
    intro s hs
    rcases Lib.indexB_cases s (mkB [c]) with hm|⟨i,hi,hr⟩
    · rw [Lib.splitB_miss _ _ _ _ hm]
      have:=Lib.indexByte_none (by rw [← indexB_one];exact hm:Lib.indexByte (L s) c=-1);rw [spl_none c (L s) this];rfl
    · rw [h1] at hr
      have hc:=Lib.countB_hit s (mkB [c]) i (by omega) hi;rw [h1] at hc;rw [hc,Nat.add_comm 1,Lib.splitB_hit _ _ _ _ i hi,h1,List.map_cons,ih (s.extract (i+1) s.size) (by rw [ByteArray.size_extract];omega)];obtain ⟨a,b⟩:=Lib.indexByte_some (by rw [← indexB_one];exact hi:Lib.indexByte (L s) c=i);rw [spl_first c i (L s) a b,L_extract,L_extract]
      congr 1
      congr 1
      rw [List.take_of_length_le (by rw [List.length_drop,L_len];omega)]
theorem splitB_eq (c:UInt8) (s:ByteArray):Lib.splitB (mkB [c]) 0 (Lib.countB s (mkB [c])) s=(spl c (L s)).map mkB:=by
  rw [← splitB_spl c s.size s (Nat.le_refl _),List.map_map]
  have:(mkB∘L)=id:=by funext x;exact mk_L x
  rw [this,List.map_id]
end Go.Proofs.YtcbhlghofihjcaaGreatDoor.B

namespace Go.Proofs.YtcbhlghofihjcaaGreatDoor.G
open Go.RowKit Go.Proofs.YtcbhlghofihjcaaGreatDoorW.PrintWords Go.Proofs.YtcbhlghofihjcaaGreatDoorW.PrintLast Go.Proofs.YtcbhlghofihjcaaGreatDoorW.PrintMore
open Go.Proofs.YtcbhlghofihjcaaGreatDoor.Gl Go.Proofs.YtcbhlghofihjcaaGreatDoor.Ext
attribute [local go_sem] max2_int min2_int max_two min_two max_three min_three max_four min_four   -- for this text's walks alone
set_option linter.unusedVariables false
set_option linter.unusedSimpArgs false
def spec_l1Split.l0:Nat→ByteArray→Int→List ByteArray→Int→Int→Option (List ByteArray)
 | 0,_,_,_,_,_=>none
 | k+1,x0,x1,x5,x6,x7=>if x7<(x0.size:Int) then (if 0≤x7 then (if (bt x0 x7)=x1 then (if 0≤x6 then (if x6≤x7 then (if x7≤(x0.size:Int) then (if x5.length<8796093022208 then (spec_l1Split.l0 k x0 x1 (x5++[x0.extract (x6:Int).toNat (x7:Int).toNat]) (wrap64 (x7+1)) (wrap64 (x7+1))) else (none)) else (none)) else (none)) else (none)) else (spec_l1Split.l0 k x0 x1 x5 x6 (wrap64 (x7+1)))) else (none)) else (if 0≤x6 then (if x6≤(x0.size:Int) then (if x5.length<8796093022208 then (some (x5++[x0.extract (x6:Int).toNat x0.size])) else (none)) else (none)) else (none))
def spec_l1Split.f (k:Nat) (a0:ByteArray) (a1:Int):Option (List ByteArray):=spec_l1Split.l0 k a0 a1 (([]:List ByteArray)) 0 0
theorem spec_l1Split.mono_l:∀ k,(∀ y0 y1 y2 y3 y4,LeO (spec_l1Split.l0 k y0 y1 y2 y3 y4) (spec_l1Split.l0 (k+1) y0 y1 y2 y3 y4))
 | 0=>fun _ _ _ _ _ r h=>by simp [spec_l1Split.l0] at h
 | k+1=>by
  have ih0:=spec_l1Split.mono_l k
  ·
   intro y0 y1 y2 y3 y4;unfold spec_l1Split.l0
   repeat' first
   | (with_reducible exact ih0 _ _ _ _ _)
   | (with_reducible exact LeO.refl _)
   | (with_reducible exact LeO.none _)
   | (with_reducible refine LeO.ite ?_ ?_)
   | (with_reducible refine LeO.bind ?_ (fun _=>?_))
   | exact ih0 _ _ _ _ _
   | exact LeO.none _
   | refine LeO.ite ?_ ?_
   | refine LeO.bind ?_ (fun _=>?_)
theorem spec_l1Split.mono:∀ a0 a1 k,LeO (spec_l1Split.f k a0 a1) (spec_l1Split.f (k+1) a0 a1):=by
 intro a0 a1 k;have ih0:=spec_l1Split.mono_l k;unfold spec_l1Split.f
 repeat' first
   | (with_reducible exact ih0 _ _ _ _ _)
   | (with_reducible exact LeO.refl _)
   | (with_reducible exact LeO.none _)
   | (with_reducible refine LeO.ite ?_ ?_)
   | (with_reducible refine LeO.bind ?_ (fun _=>?_))
   | exact ih0 _ _ _ _ _
   | exact LeO.none _
   | refine LeO.ite ?_ ?_
   | refine LeO.bind ?_ (fun _=>?_)
theorem spec_l1Split.L0 {P:Prop} (h:P:=by
  go_wp2_with (first|((with_reducible refine gate_builtin (b:=.append) (xs:=#[.tmp 20,.tmp 25]) rfl ?_);at_builtin;refine Kd.R_append Kd.string (w0:=w) w.heap.size rfl (.tmp 20) (.tmp 25) 31 9 (.string ⟨#[]⟩) 16 rfl Tryz.underlying31 info9 rfl (by decide) (by omega) u5 bH (a0.extract (sI:Int).toNat (kJ:Int).toNat) [.string (a0.extract (sI:Int).toNat (kJ:Int).toNat)] (fun _=>True) (fun _=>False) rfl rfl ?aP (fun _ hk=>hk.elim) ?aF ?aO ?aB ?aS ?aL ?_;(case aP=>exact rfl);(case aB=>exact au59);(case aF=>exact (fun _ _=>trivial));(case aO=>exact au97);(case aS=>exact (below_size au59));(case aL=>have:=a9Y.out;omega);intro aMl Jq ho hb hg hat;rw [← a9Z.out] at ho;have dS:=am (hb);have dT:=am (ho);clear HB;clear fY;have HB:=dS;have aaA:=dT;clear dS dT;clear ho hb hg hat))
  go_roundg k1
  case measure=>have:=HK1.out;omega
  case rel=>first|(exact ⟨(a5G),(wrap64 (kJ+1)),(wrap64 (kJ+1)),au104,au104,H',⟨by have:=HK1.out;omega⟩,⟨by (with_reducible repeat (first|apply Kd.R_alloc|apply Kd.R_drewN|apply Kd.R_drew));exact aaA.out⟩,⟨by repeat (first|(with_reducible first|exact HB.out|apply below_alloc|apply pw_below_drewN|apply below_drew1)|exact HB.out)⟩⟩)|(exact ⟨(bH),(sI),(wrap64 (kJ+1)),au104,au104,H',⟨by have:=HK1.out;omega⟩,⟨by (with_reducible repeat (first|apply Kd.R_alloc|apply Kd.R_drewN|apply Kd.R_drew));exact fY.out⟩,⟨by repeat (first|(with_reducible first|exact HB.out|apply below_alloc|apply pw_below_drewN|apply below_drew1)|exact HB.out)⟩⟩)):P:=h
theorem spec_l1Split.calls (k:Nat) (a0:ByteArray) (a1:Int) (r:List ByteArray) (w:World) (h:spec_l1Split.f k a0 a1=some r) :
  Calls Tryz.prog 96 #[.string a0,.int .u8 a1] w fun e w'=>∃ gO:Value,e=.returned (gO)∧Kd.R Kd.string 9 w' w.heap.size (fun _=>True) gO r∧Below w.heap.size w w':=by
 have HB:=am (Below.refl w.heap.size w);have H:(spec_l1Split.l0 k a0 a1 (([]:List ByteArray)) 0 0)=some r:=h;clear h
 obtain ⟨a5H,Jr⟩:∃ y_:List ByteArray,y_=(([]:List ByteArray)):=⟨_,rfl⟩
 replace H:(spec_l1Split.l0 k a0 a1 a5H 0 0)=some r:=by first|(rw [Jr];with_reducible exact H)|(have H2_:=(Option.bind_some _ _).symm.trans H;rw [Jr];with_reducible exact H2_)|(have H2_:=(Option.bind_some _ _).symm.trans H;with_reducible exact H2_)|with_reducible exact H|(rw [Jr];exact H)|exact H
 have Xd:=am Jr;clear Jr;have H':=am H;clear H;go_enter Tryz.func96,Tryz.ntmps96;go_wp2_with (first|((with_reducible refine gate_dst (N:=8) rfl ?_);refine Kd.R_lit Kd.string _ 9 ?hg (N:=8) ?hd (xs:=([]:List ByteArray)) (inner:=[]) (ok:=fun _=>True) (okp:=fun _=>True) ?hr ?hp (fun _ hk=>hk) trivial (Below.refl _ _) (Nat.le_refl _) (by simp) ?_;(case hd=>rfl);(case hg=>rfl);(case hr=>first|(go_simp;done)|(go_simp;rfl));(case hp=>exact (Reps.none _ _));intro aMm w3 ho4 hb hg_ hnew_;clear hg_ hnew_;(first|rw [← Xd.out] at ho4|(simp only [Int.reduceToNat] at ho4;rw [← Xd.out] at ho4));have aaB:=am (Kd.R_lower ho4 (below_size au59));replace HB:=am (below_step au59 hb);clear hb ho4))
 go_loopg [5,6,7] k (fun kq v5 v6 v7 w'=>∃ (bH:List ByteArray) (sI:Int) (kJ:Int),v6=.int .i64 sI∧v7=.int .i64 kJ∧Aside0 (spec_l1Split.l0 kq a0 a1 bH sI kJ=some r)∧Aside0 (kq≤k)∧Aside0 (Kd.R Kd.string 9 w' w.heap.size (fun _=>True) v5 bH)∧Aside0 (Below w.heap.size w w'))
 case atStart=>exact ⟨(a5H),(0),(0),au104,au104,H',⟨Nat.le_refl _⟩,⟨by (with_reducible repeat (first|apply Kd.R_alloc|apply Kd.R_drewN|apply Kd.R_drew));exact aaB.out⟩,⟨by repeat (first|(with_reducible first|exact HB.out|apply below_alloc|apply pw_below_drewN|apply below_drew1)|exact HB.out)⟩⟩
 case round =>
  clear H'
  try clear p2
  obtain ⟨bH,sI,kJ,rfl,rfl,HA,HK1,fY,HB⟩:=hrel
  cases gk with
  | zero=>exact absurd HA.out (by simp [spec_l1Split.l0])
  | succ k1 =>
   have H:=HA.out;clear HA;simp only [spec_l1Split.l0] at H;by_cases c5:kJ<(a0.size:Int)
   ·
    rw [if_pos c5] at H;have c5b0:=dt c5;clear c5;by_cases c6:0≤kJ
    ·
     rw [if_pos c6] at H;have c6b0:=dt c6;clear c6;by_cases c8:(bt a0 kJ)=a1
     ·
      rw [if_pos c8] at H;have c8b0:=qt c8;have c8b1:=bfz c8;clear c8;by_cases c9:0≤sI
      ·
       rw [if_pos c9] at H;have c9b0:=eq_true c9;have c9b1:=dt c9;clear c9;by_cases c10:sI≤kJ
       ·
        rw [if_pos c10] at H;have c10b0:=eq_true c10;have c10b1:=dt c10;clear c10;by_cases cO:kJ≤(a0.size:Int)
        ·
         rw [if_pos cO] at H;have c11b0:=eq_true cO;have c11b1:=dt cO;clear cO;by_cases dD:bH.length<8796093022208
         ·
          rw [if_pos dD] at H;have a9Y:=am dD;clear dD
          obtain ⟨a5G,Js⟩:∃ y_:List ByteArray,y_=(bH++[a0.extract (sI:Int).toNat (kJ:Int).toNat]):=⟨_,rfl⟩
          replace H:(spec_l1Split.l0 k1 a0 a1 a5G (wrap64 (kJ+1)) (wrap64 (kJ+1)))=some r:=by first|(rw [Js];with_reducible exact H)|(have H2_:=(Option.bind_some _ _).symm.trans H;rw [Js];with_reducible exact H2_)|(have H2_:=(Option.bind_some _ _).symm.trans H;with_reducible exact H2_)|with_reducible exact H|(rw [Js];exact H)|exact H
          have a9Z:=am Js;clear Js;have H':=am H;clear H;have p7:0≤(kJ:Int):=od au103;have q7:kJ<(a0.size:Int):=od au103;have Qb:=bt_at a0 kJ;replace p7:=eq_true p7;replace q7:=eq_true q7;exact spec_l1Split.L0
         · rw [if_neg dD] at H;exact absurd H (by simp)
        · rw [if_neg cO] at H;exact absurd H (by simp)
       · rw [if_neg c10] at H;exact absurd H (by simp)
      · rw [if_neg c9] at H;exact absurd H (by simp)
     · rw [if_neg c8] at H;have c8b0:=qf c8;have c8b1:=bu c8;have H':=am H;clear H;have p7:0≤(kJ:Int):=od au103;have q7:kJ<(a0.size:Int):=od au103;have Qb:=bt_at a0 kJ;replace p7:=eq_true p7;replace q7:=eq_true q7;exact spec_l1Split.L0
    · rw [if_neg c6] at H;exact absurd H (by simp)
   ·
    rw [if_neg c5] at H;have c5b0:=df c5;clear c5;by_cases eY:0≤sI
    ·
     rw [if_pos eY] at H;have c14b0:=eq_true eY;have c14b1:=dt eY;clear eY;by_cases dJ:sI≤(a0.size:Int)
     ·
      rw [if_pos dJ] at H;have c15b0:=eq_true dJ;have c15b1:=dt dJ;clear dJ;by_cases dB:bH.length<8796093022208
      ·
       rw [if_pos dB] at H;have aaC:=am dB;clear dB
       obtain ⟨aeU,Jt⟩:∃ y_:List ByteArray,y_=(bH++[a0.extract (sI:Int).toNat a0.size]):=⟨_,rfl⟩
       replace H:(some aeU)=some r:=by first|(rw [Jt];with_reducible exact H)|(have H2_:=(Option.bind_some _ _).symm.trans H;rw [Jt];with_reducible exact H2_)|(have H2_:=(Option.bind_some _ _).symm.trans H;with_reducible exact H2_)|with_reducible exact H|(rw [Jt];exact H)|exact H
       have aaD:=am Jt;clear Jt;obtain rfl:=ojz H;go_wp2_with (first|((with_reducible refine gate_builtin (b:=.append) (xs:=#[.tmp 29,.tmp 33]) rfl ?_);at_builtin;refine Kd.R_append Kd.string (w0:=w) w.heap.size rfl (.tmp 29) (.tmp 33) 31 9 (.string ⟨#[]⟩) 16 rfl Tryz.underlying31 info9 rfl (by decide) (by omega) u5 bH (a0.extract (sI:Int).toNat a0.size) [.string (a0.extract (sI:Int).toNat a0.size)] (fun _=>True) (fun _=>False) rfl rfl ?aP (fun _ hk=>hk.elim) ?aF ?aO ?aB ?aS ?aL ?_;(case aP=>exact rfl);(case aB=>exact au59);(case aF=>exact (fun _ _=>trivial));(case aO=>exact au97);(case aS=>exact (below_size au59));(case aL=>have:=aaC.out;omega);intro aMn Ug ho hb hg hat;rw [← aaD.out] at ho;have dS:=am (hb);have dT:=am (ho);clear HB;clear fY;have HB:=dS;have aaE:=dT;clear dS dT;clear ho hb hg hat));go_ret;exact ⟨_,by first|rfl|(simp [errW_none,errW_some] <;> rfl)|(simp [*,errW_none,errW_some] <;> rfl),by (with_reducible repeat (first|apply Kd.R_alloc|apply Kd.R_drewN|apply Kd.R_drew));exact aaE.out,by repeat (first|(with_reducible first|exact HB.out|apply below_alloc|apply pw_below_drewN|apply below_drew1)|exact HB.out)⟩
      · rw [if_neg dB] at H;exact absurd H (by simp)
     · rw [if_neg dJ] at H;exact absurd H (by simp)
    · rw [if_neg eY] at H;exact absurd H (by simp)
end Go.Proofs.YtcbhlghofihjcaaGreatDoor.G

namespace Go.Proofs.YtcbhlghofihjcaaGreatDoor.G
open Go.RowKit Go.Proofs.YtcbhlghofihjcaaGreatDoorW.PrintWords Go.Proofs.YtcbhlghofihjcaaGreatDoorW.PrintLast Go.Proofs.YtcbhlghofihjcaaGreatDoor.B
set_option linter.unusedVariables false
set_option linter.unusedSimpArgs false
theorem split_loop (s:ByteArray) (b:UInt8) (hs:s.size≤8796093022000) (d:Nat):∀ (out:List ByteArray) (f i:Nat),out.length≤i→f≤i→i≤s.size→s.size-i=d →
    Ev (fun k=>spec_l1Split.l0 k s (b.toNat:Int) out f i) (out++(ahd (((L s).drop f).take (i-f)) (spl b ((L s).drop i))).map mkB):=by
  have hL:(L s).length=s.size:=L_len s
  induction d with
  | zero =>
    intro out f i h0 h1 h2 hd
    have e:i=s.size:=by omega
    refine Ev.step (f:=fun _=>some (out++[s.extract f s.size])) (fun k=>?_) (ev_eq (Ev.now _) ?_)
    · simp only [spec_l1Split.l0]
      rw [if_neg (by omega),if_pos (by omega),if_pos (by omega),if_pos (by omega)];simp
    · rw [List.drop_of_length_le (l:=L s) (i:=i) (by omega)]
      simp [spl,ahd];apply L_inj;rw [L_extract,L_mk,e]
  | succ d ih =>
    intro out f i h0 h1 h2 hd
    have hlt:i<s.size:=by omega
    have hlt':i<(L s).length:=by omega
    rw [spl_step b (L s) f i hlt' h1]
    have hw:wrap64 ((i:Int)+1)=((i+1:Nat):Int):=by rw [w64 (by omega) (by omega)];rfl
    by_cases e:(L s)[i]=b
    · rw [if_pos e]
      refine Ev.step (f:=fun k=>spec_l1Split.l0 k s (b.toNat:Int) (out++[s.extract f i]) ((i+1:Nat):Int) ((i+1:Nat):Int)) (fun k=>?_) (ev_eq (ih (out++[s.extract f i]) (i+1) (i+1) (by simp;omega) (by omega) (by omega) (by omega)) ?_)
      · simp only [spec_l1Split.l0]
        rw [if_pos (by omega),if_pos (by omega),if_pos (by rw [bt_get s i hlt,e]),if_pos (by omega),if_pos (by omega),if_pos (by omega),if_pos (by omega),hw];simp
      · rw [Nat.sub_self,List.take_zero,ahd_nil _ (spl_ne b _),List.append_assoc]
        congr 1
        simp;apply L_inj;rw [L_extract,L_mk]
    · rw [if_neg e]
      refine Ev.step (f:=fun k=>spec_l1Split.l0 k s (b.toNat:Int) out f ((i+1:Nat):Int)) (fun k=>?_) (ih out f (i+1) (by omega) (by omega) (by omega) (by omega));simp only [spec_l1Split.l0];rw [if_pos (by omega),if_pos (by omega),if_neg (by rw [bt_get s i hlt];exact fun h=>e (u8_inj h)),hw]
theorem split_ev (s:ByteArray) (b:UInt8) (hs:s.size≤8796093022000):Ev (fun k=>spec_l1Split.f k s (b.toNat:Int)) ((spl b (L s)).map mkB):=by
  have:=split_loop s b hs s.size [] 0 0 (by simp) (by omega) (by omega) (by omega);unfold spec_l1Split.f
  simpa [ahd_nil _ (spl_ne b _)] using this
end Go.Proofs.YtcbhlghofihjcaaGreatDoor.G

namespace Go.Proofs.YtcbhlghofihjcaaGreatDoor.G
open Go.RowKit Go.Proofs.YtcbhlghofihjcaaGreatDoorW.PrintWords Go.Proofs.YtcbhlghofihjcaaGreatDoorW.PrintLast Go.Proofs.YtcbhlghofihjcaaGreatDoorW.PrintMore
open Go.Proofs.YtcbhlghofihjcaaGreatDoor.Gl Go.Proofs.YtcbhlghofihjcaaGreatDoor.Ext
attribute [local go_sem] max2_int min2_int max_two min_two max_three min_three max_four min_four   -- for this text's walks alone
set_option linter.unusedVariables false
set_option linter.unusedSimpArgs false
def spec_l2Lower.f (a0:Int):Option (Bool):=if a0 ≥ 97 then (some (decide (a0≤122))) else (some false)
theorem spec_l2Lower.calls (a0:Int) (r:Bool) (w:World) (h:spec_l2Lower.f a0=some r) :
  Calls Tryz.prog 58 #[.int .u8 a0] w fun e w'=>e=.returned (.bool r)∧Drawn0 w w':=by
 have H:(if a0 ≥ 97 then (some (decide (a0≤122))) else (some false))=some r:=h;clear h;by_cases c2:a0 ≥ 97
 · rw [if_pos c2] at H;have c2b0:=dt c2;clear c2;obtain rfl:=ojz H;go_enter Tryz.func58,Tryz.ntmps58;go_wp2;go_ret;exact ax1
 · rw [if_neg c2] at H;have c2b0:=df c2;clear c2;obtain rfl:=ojz H;go_enter Tryz.func58,Tryz.ntmps58;go_wp2;go_ret;exact ax1
def spec_l1In.f (a0:Int) (a1:Int) (a2:Int):Option (Bool):=if a0 ≥ a1 then (some (decide (a0≤a2))) else (some false)
theorem spec_l1In.calls (a0:Int) (a1:Int) (a2:Int) (r:Bool) (w:World) (h:spec_l1In.f a0 a1 a2=some r) :
  Calls Tryz.prog 36 #[.int .i64 a0,.int .i64 a1,.int .i64 a2] w fun e w'=>e=.returned (.bool r)∧Drawn0 w w':=by
 have H:(if a0 ≥ a1 then (some (decide (a0≤a2))) else (some false))=some r:=h;clear h;by_cases c4:a0 ≥ a1
 · rw [if_pos c4] at H;have c4b0:=dt c4;clear c4;obtain rfl:=ojz H;go_enter Tryz.func36,Tryz.ntmps36;go_wp2;go_ret;exact ax1
 · rw [if_neg c4] at H;have c4b0:=df c4;clear c4;obtain rfl:=ojz H;go_enter Tryz.func36,Tryz.ntmps36;go_wp2;go_ret;exact ax1
def spec_l2Upper.f (a0:Int):Option (Bool):=if a0 ≥ 65 then (some (decide (a0≤90))) else (some false)
theorem spec_l2Upper.calls (a0:Int) (r:Bool) (w:World) (h:spec_l2Upper.f a0=some r) :
  Calls Tryz.prog 75 #[.int .u8 a0] w fun e w'=>e=.returned (.bool r)∧Drawn0 w w':=by
 have H:(if a0 ≥ 65 then (some (decide (a0≤90))) else (some false))=some r:=h;clear h;by_cases c2:a0 ≥ 65
 · rw [if_pos c2] at H;have c2b0:=dt c2;clear c2;obtain rfl:=ojz H;go_enter Tryz.func75,Tryz.ntmps75;go_wp2;go_ret;exact ax1
 · rw [if_neg c2] at H;have c2b0:=df c2;clear c2;obtain rfl:=ojz H;go_enter Tryz.func75,Tryz.ntmps75;go_wp2;go_ret;exact ax1
def spec_l2Letter.f (a0:Int):Option (Bool):=(spec_l2Upper.f a0).bind fun Hk=>(if Hk=true then (some true) else ((spec_l2Lower.f a0).bind fun Hl=>(some Hl)))
theorem spec_l2Letter.calls (a0:Int) (r:Bool) (w:World) (h:spec_l2Letter.f a0=some r) :
  Calls Tryz.prog 95 #[.int .u8 a0] w fun e w'=>e=.returned (.bool r)∧Drawn0 w w':=by
 have H:((spec_l2Upper.f a0).bind fun Hk=>(if Hk=true then (some true) else ((spec_l2Lower.f a0).bind fun Hl=>(some Hl))))=some r:=h;clear h;replace H:=obz H;obtain ⟨Hk,fD,H⟩:=H
 try dsimp only at H
 have A2:=am fD;clear fD;by_cases c3:Hk=true
 · subst c3;replace H:=(if_pos rfl).symm.trans H;obtain rfl:=ojz H;go_enter Tryz.func95,Tryz.ntmps95;go_wp2_with (first|((with_reducible refine gate_callee (f:=75) rfl ?_);refine goesL_ (some 4) rfl rfl Tryz.func75 (by kernel_rfl) rfl #[.int .u8 a0] rfl au58 ?_;(with_reducible refine (spec_l2Upper.calls a0 true _ A2.out).mono ?_);rintro e w' ⟨rfl,⟨nd,rfl⟩⟩;refine ⟨_,rfl,?_⟩));go_ret;exact ax1
 ·
  replace c3:=Bool.eq_false_iff.mpr c3;subst c3;replace H:=(if_neg (show ¬ (false=true) by decide)).symm.trans H;replace H:=obz H;obtain ⟨Hl,nE,H⟩:=H
  try dsimp only at H
  have A4:=am nE;clear nE;obtain rfl:=ojz H;go_enter Tryz.func95,Tryz.ntmps95;go_wp2_with (first|((with_reducible refine gate_callee (f:=75) rfl ?_);refine goesL_ (some 4) rfl rfl Tryz.func75 (by kernel_rfl) rfl #[.int .u8 a0] rfl au58 ?_;(with_reducible refine (spec_l2Upper.calls a0 false _ A2.out).mono ?_);rintro e w' ⟨rfl,⟨nd,rfl⟩⟩;refine ⟨_,rfl,?_⟩)|(go_at_call 58;(with_reducible refine (spec_l2Lower.calls a0 Hl _ A4.out).mono ?_);rintro e w' ⟨rfl,⟨nd,rfl⟩⟩));go_ret;exact ax1
mutual
def spec_l2Word.j0:Nat→ByteArray→Bool→Option (Bool)
 | 0,_,_=>none
 | k+1,x0,x22=>if x22=true then (some false) else (spec_l2Word.l0 k x0 1)
def spec_l2Word.l0:Nat→ByteArray→Int→Option (Bool)
 | 0,_,_=>none
 | k+1,x0,x3=>if x3<(x0.size:Int) then (if 0≤x3 then ((spec_l2Letter.f (bt x0 x3)).bind fun Nr=>(if Nr=true then (spec_l2Word.l0 k x0 (wrap64 (x3+1))) else (if (bt x0 x3)=45 then (if 0≤(wrap64 (x3-1)) then (if (wrap64 (x3-1))<(x0.size:Int) then ((spec_l2Letter.f (bt x0 (wrap64 (x3-1)))).bind fun zR=>(if zR=true then (spec_l2Word.l0 k x0 (wrap64 (x3+1))) else (some false))) else (none)) else (none)) else (if (bt x0 x3)=39 then (if 0≤(wrap64 (x3-1)) then (if (wrap64 (x3-1))<(x0.size:Int) then ((spec_l2Letter.f (bt x0 (wrap64 (x3-1)))).bind fun Ns=>(if Ns=true then (spec_l2Word.l0 k x0 (wrap64 (x3+1))) else (some false))) else (none)) else (none)) else (some false))))) else (none)) else (some true)
end
def spec_l2Word.f (k:Nat) (a0:ByteArray):Option (Bool):=(spec_l1In.f (a0.size:Int) 1 12).bind fun Hm=>(if Hm=true then (if 0<(a0.size:Int) then ((spec_l2Letter.f (bt a0 0)).bind fun Hn=>(if Hn=true then (if 0≤(wrap64 ((a0.size:Int)-1)) then (if (wrap64 ((a0.size:Int)-1))<(a0.size:Int) then ((spec_l2Letter.f (bt a0 (wrap64 ((a0.size:Int)-1)))).bind fun Bl=>(spec_l2Word.j0 k a0 (!Bl))) else (none)) else (none)) else (spec_l2Word.j0 k a0 true))) else (none)) else (spec_l2Word.j0 k a0 true))
theorem spec_l2Word.mono_l:∀ k,(∀ y0 y1,LeO (spec_l2Word.j0 k y0 y1) (spec_l2Word.j0 (k+1) y0 y1))∧(∀ y0 y1,LeO (spec_l2Word.l0 k y0 y1) (spec_l2Word.l0 (k+1) y0 y1))
 | 0=>⟨fun _ _ r h=>by simp [spec_l2Word.j0] at h,fun _ _ r h=>by simp [spec_l2Word.l0] at h⟩
 | k+1=>by
  obtain ⟨ih0,ih1⟩:=spec_l2Word.mono_l k;refine ⟨?_,?_⟩
  ·
   intro y0 y1;unfold spec_l2Word.j0
   repeat' first
   | (with_reducible exact ih0 _ _)
   | (with_reducible exact ih1 _ _)
   | (with_reducible exact LeO.refl _)
   | (with_reducible exact LeO.none _)
   | (with_reducible refine LeO.ite ?_ ?_)
   | (with_reducible refine LeO.bind ?_ (fun _=>?_))
   | exact ih0 _ _
   | exact ih1 _ _
   | exact LeO.none _
   | refine LeO.ite ?_ ?_
   | refine LeO.bind ?_ (fun _=>?_)
  ·
   intro y0 y1;unfold spec_l2Word.l0
   repeat' first
   | (with_reducible exact ih0 _ _)
   | (with_reducible exact ih1 _ _)
   | (with_reducible exact LeO.refl _)
   | (with_reducible exact LeO.none _)
   | (with_reducible refine LeO.ite ?_ ?_)
   | (with_reducible refine LeO.bind ?_ (fun _=>?_))
   | exact ih0 _ _
   | exact ih1 _ _
   | exact LeO.none _
   | refine LeO.ite ?_ ?_
   | refine LeO.bind ?_ (fun _=>?_)
theorem spec_l2Word.mono:∀ a0 k,LeO (spec_l2Word.f k a0) (spec_l2Word.f (k+1) a0):=by
 intro a0 k;obtain ⟨ih0,ih1⟩:=spec_l2Word.mono_l k;unfold spec_l2Word.f
 repeat' first
   | (with_reducible exact ih0 _ _)
   | (with_reducible exact ih1 _ _)
   | (with_reducible exact LeO.refl _)
   | (with_reducible exact LeO.none _)
   | (with_reducible refine LeO.ite ?_ ?_)
   | (with_reducible refine LeO.bind ?_ (fun _=>?_))
   | exact ih0 _ _
   | exact ih1 _ _
   | exact LeO.none _
   | refine LeO.ite ?_ ?_
   | refine LeO.bind ?_ (fun _=>?_)
theorem spec_l2Word.L0 {P:Prop} (h:P:=by
  go_wp2_with (first|((with_reducible refine gate_callee (f:=95) rfl ?_);refine goesL_ (some 32) rfl rfl Tryz.func95 (by kernel_rfl) rfl #[.int .u8 (bt a0 aJ)] rfl au58 ?_;(with_reducible refine (spec_l2Letter.calls (bt a0 aJ) _ _ sJ.out).mono ?_);rintro e w' ⟨rfl,⟨nd,rfl⟩⟩;refine ⟨_,rfl,?_⟩;have jY:0≤(aJ:Int):=od au103;have jO:aJ<(a0.size:Int):=od au103;have Bm:=bt_at a0 aJ;replace jY:=eq_true jY;replace jO:=eq_true jO;have p28:0≤(aJ:Int):=od au103;have wD:aJ<(a0.size:Int):=od au103;have Nt:=bt_at a0 aJ;replace p28:=eq_true p28;replace wD:=eq_true wD;have p33:0≤((gY):Int):=od au103;have ED:(gY)<(a0.size:Int):=od au103;have Uz:=bt_at a0 (gY);replace p33:=eq_true p33;replace ED:=eq_true ED)|(go_at_call 95;(with_reducible refine (spec_l2Letter.calls (bt a0 (gY)) _ _ Uh.out).mono ?_);rintro e w' ⟨rfl,⟨nd,rfl⟩⟩));go_ret
  first|(exact ⟨by first|rfl|(simp;done)|(simp only [← sK] <;> (first|rfl|simp))|(simp [*];done),by repeat (first|exact Drawn0.refl _|apply Drawn0.step)⟩)|(exact ax1)):P:=h
theorem spec_l2Word.calls (k:Nat) (a0:ByteArray) (r:Bool) (w:World) (h:spec_l2Word.f k a0=some r) :
  Calls Tryz.prog 74 #[.string a0] w fun e w'=>e=.returned (.bool r)∧Drawn0 w w':=by
 have H:((spec_l1In.f (a0.size:Int) 1 12).bind fun Hm=>(if Hm=true then (if 0<(a0.size:Int) then ((spec_l2Letter.f (bt a0 0)).bind fun Hn=>(if Hn=true then (if 0≤(wrap64 ((a0.size:Int)-1)) then (if (wrap64 ((a0.size:Int)-1))<(a0.size:Int) then ((spec_l2Letter.f (bt a0 (wrap64 ((a0.size:Int)-1)))).bind fun Bl=>(spec_l2Word.j0 k a0 (!Bl))) else (none)) else (none)) else (spec_l2Word.j0 k a0 true))) else (none)) else (spec_l2Word.j0 k a0 true)))=some r:=h;clear h;have jZ:=am H;clear H;go_enter Tryz.func74,Tryz.ntmps74
 go_upto_region 1 with (fail)
 go_cut [22] (fun v22 wc=>∃ (kq:Nat) (xA:Bool),v22=.bool xA∧Aside0 (spec_l2Word.j0 kq a0 xA=some r)∧Aside0 (kq≤k)∧Drawn0 w wc)
 case first =>
  have H:=jZ.out;clear jZ;replace H:=obz H;obtain ⟨Hm,dR,H⟩:=H
  try dsimp only at H
  have A3:=am dR;clear dR;by_cases c4:Hm=true
  ·
   subst c4;replace H:=(if_pos rfl).symm.trans H;by_cases c5:0<(a0.size:Int)
   ·
    rw [if_pos c5] at H;have c5b0:=dt c5;have c5b1:decide (0<a0.size)=true:=dt (by omega);clear c5
    (first|rw [c5b0]|(simp only [i64_w,i32_w];rw [c5b0])|skip)
    replace H:=obz H;obtain ⟨Hn,kP,H⟩:=H
    try dsimp only at H
    have A7:=am kP;clear kP;by_cases c8:Hn=true
    ·
     subst c8;replace H:=(if_pos rfl).symm.trans H
     obtain ⟨Hd,Nu⟩:∃ j_:Int,(wrap64 ((a0.size:Int)-1))=j_:=⟨_,rfl⟩
     replace H:(if 0≤(Hd) then (if (Hd)<(a0.size:Int) then ((spec_l2Letter.f (bt a0 (Hd))).bind fun Bl=>(spec_l2Word.j0 k a0 (!Bl))) else (none)) else (none))=some r:=by first|(rw [Nu] at H;exact H)|(simp only [Nu] at H ⊢;exact H)
     (try rw [Nu] at A3)
     (try rw [Nu] at A7)
     have hji9w:(IntKind.i64.wrap ((a0.size:Int)-1))=Hd:=(i64_w _).trans Nu;by_cases c10:0≤(Hd)
     ·
      rw [if_pos c10] at H;have c10b0:=dt c10;clear c10;by_cases cO:(Hd)<(a0.size:Int)
      ·
       rw [if_pos cO] at H;have c11b0:=dt cO;clear cO;replace H:=obz H;obtain ⟨Bl,sL,H⟩:=H
       try dsimp only at H
       have EE:=am sL;clear sL;have H':=am H;clear H;go_wp2_with (first|((with_reducible refine gate_callee (f:=36) rfl ?_);refine goesL_ (some 6) rfl rfl Tryz.func36 (by kernel_rfl) rfl #[.int .i64 (a0.size:Int),.int .i64 1,.int .i64 12] rfl au58 ?_;(with_reducible refine (spec_l1In.calls (a0.size:Int) 1 12 _ _ A3.out).mono ?_);rintro e w' ⟨rfl,⟨nd,rfl⟩⟩;refine ⟨_,rfl,?_⟩;have p6:0≤(0:Int):=(by omega);have q6:0<a0.size:=(by have:(0:Int)<(a0.size:Int):=od au103;omega);have Ex:∀ h:0<a0.size,((a0[0]'h).toNat:Int)=bt a0 0:=bt_at a0 0;clear p6;have Ju:(0<(a0.size:Int))=True:=eq_true (od au103);replace q6:=eq_true q6)|(go_at_call 95;(with_reducible refine (spec_l2Letter.calls (bt a0 0) _ _ A7.out).mono ?_);rintro e w' ⟨rfl,⟨nd,rfl⟩⟩;have B4:0≤((Hd):Int):=od au103;have wW:(Hd)<(a0.size:Int):=od au103;have Kx:=bt_at a0 (Hd);replace B4:=eq_true B4;replace wW:=eq_true wW)|(go_at_call 95;(with_reducible refine (spec_l2Letter.calls (bt a0 (Hd)) Bl _ EE.out).mono ?_);rintro e w' ⟨rfl,⟨nd,rfl⟩⟩));go_meet
       case rel=>exact ⟨_,(!Bl),au104,H',⟨by first|omega|exact Nat.le_refl _⟩,by repeat (first|exact Drawn0.refl _|apply Drawn0.step)⟩
      · rw [if_neg cO] at H;exact absurd H (by simp)
     · rw [if_neg c10] at H;exact absurd H (by simp)
    ·
     replace c8:=Bool.eq_false_iff.mpr c8;subst c8;replace H:=(if_neg (show ¬ (false=true) by decide)).symm.trans H;have H':=am H;clear H;go_wp2_with (first|((with_reducible refine gate_callee (f:=36) rfl ?_);refine goesL_ (some 6) rfl rfl Tryz.func36 (by kernel_rfl) rfl #[.int .i64 (a0.size:Int),.int .i64 1,.int .i64 12] rfl au58 ?_;(with_reducible refine (spec_l1In.calls (a0.size:Int) 1 12 _ _ A3.out).mono ?_);rintro e w' ⟨rfl,⟨nd,rfl⟩⟩;refine ⟨_,rfl,?_⟩;have p6:0≤(0:Int):=(by omega);have q6:0<a0.size:=(by have:(0:Int)<(a0.size:Int):=od au103;omega);have Ex:∀ h:0<a0.size,((a0[0]'h).toNat:Int)=bt a0 0:=bt_at a0 0;clear p6;have Ju:(0<(a0.size:Int))=True:=eq_true (od au103);replace q6:=eq_true q6)|(go_at_call 95;(with_reducible refine (spec_l2Letter.calls (bt a0 0) _ _ A7.out).mono ?_);rintro e w' ⟨rfl,⟨nd,rfl⟩⟩));go_meet
     case rel=>exact ⟨_,(true),au104,H',⟨by first|omega|exact Nat.le_refl _⟩,by repeat (first|exact Drawn0.refl _|apply Drawn0.step)⟩
   · rw [if_neg c5] at H;exact absurd H (by simp)
  ·
   replace c4:=Bool.eq_false_iff.mpr c4;subst c4;replace H:=(if_neg (show ¬ (false=true) by decide)).symm.trans H;have H':=am H;clear H;go_wp2_with (first|((with_reducible refine gate_callee (f:=36) rfl ?_);refine goesL_ (some 6) rfl rfl Tryz.func36 (by kernel_rfl) rfl #[.int .i64 (a0.size:Int),.int .i64 1,.int .i64 12] rfl au58 ?_;(with_reducible refine (spec_l1In.calls (a0.size:Int) 1 12 _ _ A3.out).mono ?_);rintro e w' ⟨rfl,⟨nd,rfl⟩⟩;refine ⟨_,rfl,?_⟩));go_meet
   case rel=>exact ⟨_,(true),au104,H',⟨by first|omega|exact Nat.le_refl _⟩,by repeat (first|exact Drawn0.refl _|apply Drawn0.step)⟩
 case rest =>
  clear jZ
  try clear c1
  try clear p1
  try clear q1
  try clear hx1
  try clear p2
  try clear c3
  try clear c4
  try clear c5
  try clear c5b0
  try clear c5b1
  try clear p6
  try clear q6
  try clear Ex
  try clear Ju
  try clear c7
  try clear c8
  try clear c10
  try clear c10b0
  try clear cO
  try clear c11b0
  try clear B4
  try clear wW
  try clear Kx
  try clear B4
  try clear p6
  try clear wW
  try clear q6
  obtain ⟨kq,xA,rfl,HA,kA,⟨mc1,rfl⟩⟩:=hcut
  cases kq with
  | zero=>exact absurd HA.out (by simp [spec_l2Word.j0])
  | succ gS =>
   have H:=HA.out;clear HA;simp only [spec_l2Word.j0] at H;by_cases eY:xA=true
   · subst eY;replace H:=(if_pos rfl).symm.trans H;obtain rfl:=ojz H;exact spec_l2Word.L0
   ·
    replace eY:=Bool.eq_false_iff.mpr eY;subst eY;replace H:=(if_neg (show ¬ (false=true) by decide)).symm.trans H;have H':=am H;clear H;go_wp2
    go_loopg [3] gS (fun kq v3 w'=>∃ (aJ:Int),v3=.int .i64 aJ∧Aside0 (spec_l2Word.l0 kq a0 aJ=some r)∧Aside0 (kq≤gS)∧Drawn0 w w')
    case atStart=>exact ⟨(1),au104,H',⟨Nat.le_refl _⟩,by repeat (first|exact Drawn0.refl _|apply Drawn0.step)⟩
    case round =>
     clear H'
     try clear c1
     try clear p1
     try clear q1
     try clear hx1
     try clear p2
     try clear c3
     try clear c4
     try clear c5
     try clear c5b0
     try clear c5b1
     try clear p6
     try clear q6
     try clear Ex
     try clear Ju
     try clear c7
     try clear c8
     try clear c10
     try clear c10b0
     try clear cO
     try clear c11b0
     try clear B4
     try clear wW
     try clear Kx
     try clear eY
     try clear p1
     try clear B4
     try clear p2
     try clear p6
     try clear q1
     try clear wW
     try clear q6
     obtain ⟨aJ,rfl,HA,HK2,⟨m2,rfl⟩⟩:=hrel
     cases gk with
     | zero=>exact absurd HA.out (by simp [spec_l2Word.l0])
     | succ k2 =>
      have H:=HA.out;clear HA;simp only [spec_l2Word.l0] at H;by_cases dJ:aJ<(a0.size:Int)
      ·
       rw [if_pos dJ] at H;have c15b0:=dt dJ;clear dJ;by_cases dB:0≤aJ
       ·
        rw [if_pos dB] at H;have c16b0:=dt dB;clear dB;replace H:=obz H;obtain ⟨Nr,EF,H⟩:=H
        try dsimp only at H
        have sJ:=am EF;clear EF;by_cases fO:Nr=true
        ·
         subst fO;replace H:=(if_pos rfl).symm.trans H;have H':=am H;clear H;have iH:0≤(aJ:Int):=od au103;have iI:aJ<(a0.size:Int):=od au103;have zS:=bt_at a0 aJ;replace iH:=eq_true iH;replace iI:=eq_true iI;go_wp2_with (first|((with_reducible refine gate_callee (f:=95) rfl ?_);refine goesL_ (some 32) rfl rfl Tryz.func95 (by kernel_rfl) rfl #[.int .u8 (bt a0 aJ)] rfl au58 ?_;(with_reducible refine (spec_l2Letter.calls (bt a0 aJ) _ _ sJ.out).mono ?_);rintro e w' ⟨rfl,⟨nd,rfl⟩⟩;refine ⟨_,rfl,?_⟩))
         go_roundg k2
         case measure=>have:=kA.out;have:=HK2.out;omega
         case rel=>exact ⟨(wrap64 (aJ+1)),au104,H',⟨by have:=kA.out;have:=HK2.out;omega⟩,by repeat (first|exact Drawn0.refl _|apply Drawn0.step)⟩
        ·
         replace fO:=Bool.eq_false_iff.mpr fO;subst fO;replace H:=(if_neg (show ¬ (false=true) by decide)).symm.trans H;by_cases gT:(bt a0 aJ)=45
         ·
          rw [if_pos gT] at H;have c21b0:=qt gT;have c21b1:=bfz gT;clear gT
          obtain ⟨gZ,vZ⟩:∃ j_:Int,(wrap64 (aJ-1))=j_:=⟨_,rfl⟩
          replace H:(if 0≤(gZ) then (if (gZ)<(a0.size:Int) then ((spec_l2Letter.f (bt a0 (gZ))).bind fun zR=>(if zR=true then (spec_l2Word.l0 k2 a0 (wrap64 (aJ+1))) else (some false))) else (none)) else (none))=some r:=by first|(rw [vZ] at H;exact H)|(simp only [vZ] at H ⊢;exact H)
          (try rw [vZ] at sJ)
          have hji22w:(IntKind.i64.wrap (aJ-1))=gZ:=(i64_w _).trans vZ;by_cases kG:0≤(gZ)
          ·
           rw [if_pos kG] at H;have c23b0:=dt kG;clear kG;by_cases nB:(gZ)<(a0.size:Int)
           ·
            rw [if_pos nB] at H;have c24b0:=dt nB;clear nB;replace H:=obz H;obtain ⟨zR,Nv,H⟩:=H
            try dsimp only at H
            have Ui:=am Nv;clear Nv;by_cases nG:zR=true
            ·
             subst nG;replace H:=(if_pos rfl).symm.trans H;have H':=am H;clear H;have iH:0≤(aJ:Int):=od au103;have iI:aJ<(a0.size:Int):=od au103;have zS:=bt_at a0 aJ;replace iH:=eq_true iH;replace iI:=eq_true iI;go_wp2_with (first|((with_reducible refine gate_callee (f:=95) rfl ?_);refine goesL_ (some 32) rfl rfl Tryz.func95 (by kernel_rfl) rfl #[.int .u8 (bt a0 aJ)] rfl au58 ?_;(with_reducible refine (spec_l2Letter.calls (bt a0 aJ) _ _ sJ.out).mono ?_);rintro e w' ⟨rfl,⟨nd,rfl⟩⟩;refine ⟨_,rfl,?_⟩;have jY:0≤(aJ:Int):=od au103;have jO:aJ<(a0.size:Int):=od au103;have Bm:=bt_at a0 aJ;replace jY:=eq_true jY;replace jO:=eq_true jO;have p25:0≤((gZ):Int):=od au103;have EG:(gZ)<(a0.size:Int):=od au103;have UA:=bt_at a0 (gZ);replace p25:=eq_true p25;replace EG:=eq_true EG)|(go_at_call 95;(with_reducible refine (spec_l2Letter.calls (bt a0 (gZ)) _ _ Ui.out).mono ?_);rintro e w' ⟨rfl,⟨nd,rfl⟩⟩))
             go_roundg k2
             case measure=>have:=kA.out;have:=HK2.out;omega
             case rel=>exact ⟨(wrap64 (aJ+1)),au104,H',⟨by have:=kA.out;have:=HK2.out;omega⟩,by repeat (first|exact Drawn0.refl _|apply Drawn0.step)⟩
            · replace nG:=Bool.eq_false_iff.mpr nG;subst nG;replace H:=(if_neg (show ¬ (false=true) by decide)).symm.trans H;obtain rfl:=ojz H;have iH:0≤(aJ:Int):=od au103;have iI:aJ<(a0.size:Int):=od au103;have zS:=bt_at a0 aJ;replace iH:=eq_true iH;replace iI:=eq_true iI;go_wp2_with (first|((with_reducible refine gate_callee (f:=95) rfl ?_);refine goesL_ (some 32) rfl rfl Tryz.func95 (by kernel_rfl) rfl #[.int .u8 (bt a0 aJ)] rfl au58 ?_;(with_reducible refine (spec_l2Letter.calls (bt a0 aJ) _ _ sJ.out).mono ?_);rintro e w' ⟨rfl,⟨nd,rfl⟩⟩;refine ⟨_,rfl,?_⟩;have jY:0≤(aJ:Int):=od au103;have jO:aJ<(a0.size:Int):=od au103;have Bm:=bt_at a0 aJ;replace jY:=eq_true jY;replace jO:=eq_true jO;have p25:0≤((gZ):Int):=od au103;have EG:(gZ)<(a0.size:Int):=od au103;have UA:=bt_at a0 (gZ);replace p25:=eq_true p25;replace EG:=eq_true EG)|(go_at_call 95;(with_reducible refine (spec_l2Letter.calls (bt a0 (gZ)) _ _ Ui.out).mono ?_);rintro e w' ⟨rfl,⟨nd,rfl⟩⟩));go_ret;exact ax2
           · rw [if_neg nB] at H;exact absurd H (by simp)
          · rw [if_neg kG] at H;exact absurd H (by simp)
         ·
          rw [if_neg gT] at H;have c21b0:=qf gT;have c21b1:=bu gT;by_cases lG:(bt a0 aJ)=39
          ·
           rw [if_pos lG] at H;have c29b0:=qt lG;have c29b1:=bfz lG;clear lG
           obtain ⟨gY,sK⟩:∃ j_:Int,(wrap64 (aJ-1))=j_:=⟨_,rfl⟩
           replace H:(if 0≤(gY) then (if (gY)<(a0.size:Int) then ((spec_l2Letter.f (bt a0 (gY))).bind fun Ns=>(if Ns=true then (spec_l2Word.l0 k2 a0 (wrap64 (aJ+1))) else (some false))) else (none)) else (none))=some r:=by first|(rw [sK] at H;exact H)|(simp only [sK] at H ⊢;exact H)
           (try rw [sK] at sJ)
           have hji30w:(IntKind.i64.wrap (aJ-1))=gY:=(i64_w _).trans sK;by_cases kB:0≤(gY)
           ·
            rw [if_pos kB] at H;have c31b0:=dt kB;clear kB;by_cases mP:(gY)<(a0.size:Int)
            ·
             rw [if_pos mP] at H;have c32b0:=dt mP;clear mP;replace H:=obz H;obtain ⟨Ns,Nw,H⟩:=H
             try dsimp only at H
             have Uh:=am Nw;clear Nw;by_cases Jv:Ns=true
             ·
              subst Jv;replace H:=(if_pos rfl).symm.trans H;have H':=am H;clear H;have iH:0≤(aJ:Int):=od au103;have iI:aJ<(a0.size:Int):=od au103;have zS:=bt_at a0 aJ;replace iH:=eq_true iH;replace iI:=eq_true iI;go_wp2_with (first|((with_reducible refine gate_callee (f:=95) rfl ?_);refine goesL_ (some 32) rfl rfl Tryz.func95 (by kernel_rfl) rfl #[.int .u8 (bt a0 aJ)] rfl au58 ?_;(with_reducible refine (spec_l2Letter.calls (bt a0 aJ) _ _ sJ.out).mono ?_);rintro e w' ⟨rfl,⟨nd,rfl⟩⟩;refine ⟨_,rfl,?_⟩;have jY:0≤(aJ:Int):=od au103;have jO:aJ<(a0.size:Int):=od au103;have Bm:=bt_at a0 aJ;replace jY:=eq_true jY;replace jO:=eq_true jO;have p28:0≤(aJ:Int):=od au103;have wD:aJ<(a0.size:Int):=od au103;have Nt:=bt_at a0 aJ;replace p28:=eq_true p28;replace wD:=eq_true wD;have p33:0≤((gY):Int):=od au103;have ED:(gY)<(a0.size:Int):=od au103;have Uz:=bt_at a0 (gY);replace p33:=eq_true p33;replace ED:=eq_true ED)|(go_at_call 95;(with_reducible refine (spec_l2Letter.calls (bt a0 (gY)) _ _ Uh.out).mono ?_);rintro e w' ⟨rfl,⟨nd,rfl⟩⟩))
              go_roundg k2
              case measure=>have:=kA.out;have:=HK2.out;omega
              case rel=>exact ⟨(wrap64 (aJ+1)),au104,H',⟨by have:=kA.out;have:=HK2.out;omega⟩,by repeat (first|exact Drawn0.refl _|apply Drawn0.step)⟩
             · replace Jv:=Bool.eq_false_iff.mpr Jv;subst Jv;replace H:=(if_neg (show ¬ (false=true) by decide)).symm.trans H;obtain rfl:=ojz H;have iH:0≤(aJ:Int):=od au103;have iI:aJ<(a0.size:Int):=od au103;have zS:=bt_at a0 aJ;replace iH:=eq_true iH;replace iI:=eq_true iI;exact spec_l2Word.L0
            · rw [if_neg mP] at H;exact absurd H (by simp)
           · rw [if_neg kB] at H;exact absurd H (by simp)
          · rw [if_neg lG] at H;have c29b0:=qf lG;have c29b1:=bu lG;obtain rfl:=ojz H;have iH:0≤(aJ:Int):=od au103;have iI:aJ<(a0.size:Int):=od au103;have zS:=bt_at a0 aJ;replace iH:=eq_true iH;replace iI:=eq_true iI;go_wp2_with (first|((with_reducible refine gate_callee (f:=95) rfl ?_);refine goesL_ (some 32) rfl rfl Tryz.func95 (by kernel_rfl) rfl #[.int .u8 (bt a0 aJ)] rfl au58 ?_;(with_reducible refine (spec_l2Letter.calls (bt a0 aJ) _ _ sJ.out).mono ?_);rintro e w' ⟨rfl,⟨nd,rfl⟩⟩;refine ⟨_,rfl,?_⟩;have jY:0≤(aJ:Int):=od au103;have jO:aJ<(a0.size:Int):=od au103;have Bm:=bt_at a0 aJ;replace jY:=eq_true jY;replace jO:=eq_true jO;have p28:0≤(aJ:Int):=od au103;have wD:aJ<(a0.size:Int):=od au103;have Nt:=bt_at a0 aJ;replace p28:=eq_true p28;replace wD:=eq_true wD));go_ret;exact ax1
       · rw [if_neg dB] at H;exact absurd H (by simp)
      · rw [if_neg dJ] at H;have c15b0:=df dJ;clear dJ;obtain rfl:=ojz H;exact spec_l2Word.L0
mutual
def spec_l2Particle.l0:Nat→List ByteArray→Int→Option (Bool)
 | 0,_,_=>none
 | k+1,x3,x4=>if x4<(x3.length:Int) then (if 0≤x4 then ((spec_l2Word.f k (rdOf ByteArray.empty x3 x4)).bind fun UB=>(if UB=true then (spec_l2Particle.l1 k x3 x4 0) else (some false))) else (none)) else (some (decide ((x3.length:Int)≤2)))
def spec_l2Particle.l1:Nat→List ByteArray→Int→Int→Option (Bool)
 | 0,_,_,_=>none
 | k+1,x3,x4,x5=>if 0≤x4 then (if x4<(x3.length:Int) then (if x5<((rdOf ByteArray.empty x3 x4).size:Int) then (if 0≤x5 then ((spec_l2Lower.f (bt (rdOf ByteArray.empty x3 x4) x5)).bind fun UC=>(if UC=true then (spec_l2Particle.l1 k x3 x4 (wrap64 (x5+1))) else (some false))) else (none)) else (spec_l2Particle.l0 k x3 (wrap64 (x4+1)))) else (none)) else (none)
end
def spec_l2Particle.f (k:Nat) (a0:ByteArray):Option (Bool):=if a0.toList=([]:List UInt8) then (some true) else ((spec_l1Split.f k a0 32).bind fun gP=>(spec_l2Particle.l0 k gP 0))
theorem spec_l2Particle.mono_l:∀ k,(∀ y0 y1,LeO (spec_l2Particle.l0 k y0 y1) (spec_l2Particle.l0 (k+1) y0 y1))∧(∀ y0 y1 y2,LeO (spec_l2Particle.l1 k y0 y1 y2) (spec_l2Particle.l1 (k+1) y0 y1 y2))
 | 0=>⟨fun _ _ r h=>by simp [spec_l2Particle.l0] at h,fun _ _ _ r h=>by simp [spec_l2Particle.l1] at h⟩
 | k+1=>by
  obtain ⟨ih0,ih1⟩:=spec_l2Particle.mono_l k;refine ⟨?_,?_⟩
  ·
   intro y0 y1;unfold spec_l2Particle.l0
   repeat' first
   | (with_reducible exact ih0 _ _)
   | (with_reducible exact ih1 _ _ _)
   | (with_reducible exact spec_l1Split.mono _ _ _)
   | (with_reducible exact spec_l2Word.mono _ _)
   | (with_reducible exact LeO.refl _)
   | (with_reducible exact LeO.none _)
   | (with_reducible refine LeO.ite ?_ ?_)
   | (with_reducible refine LeO.bind ?_ (fun _=>?_))
   | exact ih0 _ _
   | exact ih1 _ _ _
   | exact spec_l1Split.mono _ _ _
   | exact spec_l2Word.mono _ _
   | exact LeO.none _
   | refine LeO.ite ?_ ?_
   | refine LeO.bind ?_ (fun _=>?_)
  ·
   intro y0 y1 y2;unfold spec_l2Particle.l1
   repeat' first
   | (with_reducible exact ih0 _ _)
   | (with_reducible exact ih1 _ _ _)
   | (with_reducible exact spec_l1Split.mono _ _ _)
   | (with_reducible exact spec_l2Word.mono _ _)
   | (with_reducible exact LeO.refl _)
   | (with_reducible exact LeO.none _)
   | (with_reducible refine LeO.ite ?_ ?_)
   | (with_reducible refine LeO.bind ?_ (fun _=>?_))
   | exact ih0 _ _
   | exact ih1 _ _ _
   | exact spec_l1Split.mono _ _ _
   | exact spec_l2Word.mono _ _
   | exact LeO.none _
   | refine LeO.ite ?_ ?_
   | refine LeO.bind ?_ (fun _=>?_)
theorem spec_l2Particle.mono:∀ a0 k,LeO (spec_l2Particle.f k a0) (spec_l2Particle.f (k+1) a0):=by
 intro a0 k;obtain ⟨ih0,ih1⟩:=spec_l2Particle.mono_l k;unfold spec_l2Particle.f
 repeat' first
   | (with_reducible exact ih0 _ _)
   | (with_reducible exact ih1 _ _ _)
   | (with_reducible exact spec_l1Split.mono _ _ _)
   | (with_reducible exact spec_l2Word.mono _ _)
   | (with_reducible exact LeO.refl _)
   | (with_reducible exact LeO.none _)
   | (with_reducible refine LeO.ite ?_ ?_)
   | (with_reducible refine LeO.bind ?_ (fun _=>?_))
   | exact ih0 _ _
   | exact ih1 _ _ _
   | exact spec_l1Split.mono _ _ _
   | exact spec_l2Word.mono _ _
   | exact LeO.none _
   | refine LeO.ite ?_ ?_
   | refine LeO.bind ?_ (fun _=>?_)
theorem spec_l2Particle.calls (k:Nat) (a0:ByteArray) (r:Bool) (w:World) (h:spec_l2Particle.f k a0=some r) :
  Calls Tryz.prog 76 #[.string a0] w fun e w'=>e=.returned (.bool r)∧Below w.heap.size w w':=by
 have HB:=am (Below.refl w.heap.size w);have H:(if a0.toList=([]:List UInt8) then (some true) else ((spec_l1Split.f k a0 32).bind fun gP=>(spec_l2Particle.l0 k gP 0)))=some r:=h;clear h;by_cases c2:a0.toList=([]:List UInt8)
 · rw [if_pos c2] at H;have c2b0:=qt c2;have c2b1:=bfz c2;clear c2;obtain rfl:=ojz H;go_enter Tryz.func76,Tryz.ntmps76;go_wp2;go_ret;exact ax3
 ·
  rw [if_neg c2] at H;have c2b0:=qf c2;have c2b1:=bu c2;replace H:=obz H;obtain ⟨gP,dR,H⟩:=H
  try dsimp only at H
  have A3:=am dR;clear dR;have H':=am H;clear H;go_enter Tryz.func76,Tryz.ntmps76;go_wp2_with (first|((with_reducible refine gate_callee (f:=96) rfl ?_);refine goesL_ (some 9) rfl rfl Tryz.func96 (by kernel_rfl) rfl #[.string a0,.int .u8 32] rfl au58 ?_;(with_reducible refine (spec_l1Split.calls k a0 32 gP _ A3.out).mono ?_);rintro e w4 ⟨aeV,rfl,ho0,hb⟩;refine ⟨_,rfl,?_⟩;have aaF:=am (Kd.R_lower ho0 (below_size au59));replace HB:=am (below_step au59 hb);(try clear hb);(try clear ho0)))
  go_loopg [4] k (fun kq v4 w'=>∃ (aW:Int),v4=.int .i64 aW∧Aside0 (spec_l2Particle.l0 kq gP aW=some r)∧Aside0 (kq≤k)∧Aside0 (Kd.R Kd.string 9 w' w.heap.size (fun _=>True) aeV gP)∧Aside0 (Below w.heap.size w w'))
  case atStart=>exact ⟨(0),au104,H',⟨Nat.le_refl _⟩,⟨by (with_reducible repeat (first|apply Kd.R_alloc|apply Kd.R_drewN|apply Kd.R_drew));exact aaF.out⟩,⟨by repeat (first|(with_reducible first|exact HB.out|apply below_alloc|apply pw_below_drewN|apply below_drew1)|exact HB.out)⟩⟩
  case round =>
   clear H'
   try clear c2
   try clear c2b0
   try clear c2b1
   try clear p2
   obtain ⟨aW,rfl,HA,HK1,cS,HB⟩:=hrel
   cases gk with
   | zero=>exact absurd HA.out (by simp [spec_l2Particle.l0])
   | succ k1 =>
    have H:=HA.out;clear HA;simp only [spec_l2Particle.l0] at H;by_cases c5:aW<(gP.length:Int)
    ·
     rw [if_pos c5] at H;have c5b0:=dt c5;clear c5;by_cases c6:0≤aW
     ·
      rw [if_pos c6] at H;have c6b0:=dt c6;clear c6;replace H:=obz H;obtain ⟨UB,kP,H⟩:=H
      try dsimp only at H
      have A7:=am kP;clear kP;by_cases c8:UB=true
      ·
       subst c8;replace H:=(if_pos rfl).symm.trans H;have H':=am H;clear H;obtain ⟨jB,iG,Nx⟩:=Kd.R_slice cS.out;subst Nx;have EH:0≤(aW:Int):=od au103;have EJ:aW<(gP.length:Int):=od au103;obtain ⟨DC,UD,Qc⟩:=Kd.at_string (Kd.R_reads' cS.out).2.2 aW EH EJ
       cases UD
       replace EH:=eq_true EH;replace EJ:=eq_true EJ;go_wp2_with (first|((with_reducible refine gate_callee (f:=74) rfl ?_);refine goesL_ (some 20) rfl rfl Tryz.func74 (by kernel_rfl) rfl #[.string (rdOf ByteArray.empty gP aW)] rfl au58 ?_;(with_reducible refine (spec_l2Word.calls k1 (rdOf ByteArray.empty gP aW) true _ A7.out).mono ?_);rintro e w' ⟨rfl,⟨nd,rfl⟩⟩;refine ⟨_,rfl,?_⟩))
       go_loopg [5] k1 (fun kq v5 w'=>∃ (pG:Int),v5=.int .i64 pG∧Aside0 (spec_l2Particle.l1 kq gP aW pG=some r)∧Aside0 (kq≤k1)∧Aside0 (Kd.R Kd.string 9 w' w.heap.size (fun _=>True) (.slice (some DC) gP.length iG) gP)∧Aside0 (Below w.heap.size w w'))
       case atStart=>exact ⟨(0),au104,H',⟨Nat.le_refl _⟩,⟨by (with_reducible repeat (first|apply Kd.R_alloc|apply Kd.R_drewN|apply Kd.R_drew));exact cS.out⟩,⟨by repeat (first|(with_reducible first|exact HB.out|apply below_alloc|apply pw_below_drewN|apply below_drew1)|exact HB.out)⟩⟩
       case round =>
        clear H'
        try clear c2
        try clear c2b0
        try clear c2b1
        try clear p2
        try clear c5
        try clear c5b0
        try clear c6
        try clear c6b0
        try clear p6
        try clear q6
        try clear Ex
        try clear c7
        try clear c8
        try clear c9
        try clear Qc
        try clear p2
        try clear EH
        try clear EJ
        obtain ⟨pG,rfl,HA,HK2,cS,HB⟩:=hrel
        cases gk with
        | zero=>exact absurd HA.out (by simp [spec_l2Particle.l1])
        | succ k2 =>
         have H:=HA.out;clear HA;simp only [spec_l2Particle.l1] at H;by_cases c10:0≤aW
         ·
          rw [if_pos c10] at H;have c10b0:=dt c10;clear c10;by_cases cO:aW<(gP.length:Int)
          ·
           rw [if_pos cO] at H;have c11b0:=dt cO;clear cO;by_cases dD:pG<((rdOf ByteArray.empty gP aW).size:Int)
           ·
            rw [if_pos dD] at H;have c12b0:=dt dD;clear dD;by_cases dE:0≤pG
            ·
             rw [if_pos dE] at H;have c13b0:=dt dE;clear dE;replace H:=obz H;obtain ⟨UC,sN,H⟩:=H
             try dsimp only at H
             have wX:=am sN;clear sN;by_cases dB:UC=true
             ·
              subst dB;replace H:=(if_pos rfl).symm.trans H;have H':=am H;clear H;have zT:0≤(aW:Int):=od au103;have zU:aW<(gP.length:Int):=od au103;obtain ⟨Jw,Ny,Qd⟩:=Kd.at_string (Kd.R_reads' cS.out).2.2 aW zT zU
              obtain rfl:DC=Jw:=(by injection Ny)
              replace zT:=eq_true zT;replace zU:=eq_true zU;have Ho:0≤(aW:Int):=od au103;have Hp:aW<(gP.length:Int):=od au103;obtain ⟨Tp,UE,Y2⟩:=Kd.at_string (Kd.R_reads' cS.out).2.2 aW Ho Hp
              obtain rfl:DC=Tp:=(by injection UE)
              replace Ho:=eq_true Ho;replace Hp:=eq_true Hp;have mI:0≤(pG:Int):=od au103;have kQ:pG<((rdOf ByteArray.empty gP aW).size:Int):=od au103;have DD:=bt_at (rdOf ByteArray.empty gP aW) pG;replace mI:=eq_true mI;replace kQ:=eq_true kQ;go_wp2_with (first|((with_reducible refine gate_callee (f:=58) rfl ?_);refine goesL_ (some 37) rfl rfl Tryz.func58 (by kernel_rfl) rfl #[.int .u8 (bt (rdOf ByteArray.empty gP aW) pG)] rfl au58 ?_;(with_reducible refine (spec_l2Lower.calls (bt (rdOf ByteArray.empty gP aW) pG) true _ wX.out).mono ?_);rintro e w' ⟨rfl,⟨nd,rfl⟩⟩;refine ⟨_,rfl,?_⟩))
              go_roundg k2
              case measure=>have:=HK1.out;have:=HK2.out;omega
              case rel=>exact ⟨(wrap64 (pG+1)),au104,H',⟨by have:=HK1.out;have:=HK2.out;omega⟩,⟨by (with_reducible repeat (first|apply Kd.R_alloc|apply Kd.R_drewN|apply Kd.R_drew));exact cS.out⟩,⟨by repeat (first|(with_reducible first|exact HB.out|apply below_alloc|apply pw_below_drewN|apply below_drew1)|exact HB.out)⟩⟩
             ·
              replace dB:=Bool.eq_false_iff.mpr dB;subst dB;replace H:=(if_neg (show ¬ (false=true) by decide)).symm.trans H;obtain rfl:=ojz H;have zT:0≤(aW:Int):=od au103;have zU:aW<(gP.length:Int):=od au103;obtain ⟨Jw,Ny,Qd⟩:=Kd.at_string (Kd.R_reads' cS.out).2.2 aW zT zU
              obtain rfl:DC=Jw:=(by injection Ny)
              replace zT:=eq_true zT;replace zU:=eq_true zU;have Ho:0≤(aW:Int):=od au103;have Hp:aW<(gP.length:Int):=od au103;obtain ⟨Tp,UE,Y2⟩:=Kd.at_string (Kd.R_reads' cS.out).2.2 aW Ho Hp
              obtain rfl:DC=Tp:=(by injection UE)
              replace Ho:=eq_true Ho;replace Hp:=eq_true Hp;have mI:0≤(pG:Int):=od au103;have kQ:pG<((rdOf ByteArray.empty gP aW).size:Int):=od au103;have DD:=bt_at (rdOf ByteArray.empty gP aW) pG;replace mI:=eq_true mI;replace kQ:=eq_true kQ;go_wp2_with (first|((with_reducible refine gate_callee (f:=58) rfl ?_);refine goesL_ (some 37) rfl rfl Tryz.func58 (by kernel_rfl) rfl #[.int .u8 (bt (rdOf ByteArray.empty gP aW) pG)] rfl au58 ?_;(with_reducible refine (spec_l2Lower.calls (bt (rdOf ByteArray.empty gP aW) pG) false _ wX.out).mono ?_);rintro e w' ⟨rfl,⟨nd,rfl⟩⟩;refine ⟨_,rfl,?_⟩));go_ret;exact ax3
            · rw [if_neg dE] at H;exact absurd H (by simp)
           ·
            rw [if_neg dD] at H;have c12b0:=df dD;clear dD;have H':=am H;clear H;have zT:0≤(aW:Int):=od au103;have zU:aW<(gP.length:Int):=od au103;obtain ⟨Jw,Ny,Qd⟩:=Kd.at_string (Kd.R_reads' cS.out).2.2 aW zT zU
            obtain rfl:DC=Jw:=(by injection Ny)
            replace zT:=eq_true zT;replace zU:=eq_true zU;go_wp2
            go_roundg k2
            case measure=>have:=HK1.out;have:=HK2.out;omega
            case rel=>exact ⟨(wrap64 (aW+1)),au104,H',⟨by have:=HK1.out;have:=HK2.out;omega⟩,⟨by (with_reducible repeat (first|apply Kd.R_alloc|apply Kd.R_drewN|apply Kd.R_drew));exact cS.out⟩,⟨by repeat (first|(with_reducible first|exact HB.out|apply below_alloc|apply pw_below_drewN|apply below_drew1)|exact HB.out)⟩⟩
          · rw [if_neg cO] at H;exact absurd H (by simp)
         · rw [if_neg c10] at H;exact absurd H (by simp)
      ·
       replace c8:=Bool.eq_false_iff.mpr c8;subst c8;replace H:=(if_neg (show ¬ (false=true) by decide)).symm.trans H;obtain rfl:=ojz H;obtain ⟨aMo,aMp,aeW⟩:=Kd.R_slice cS.out;subst aeW;have EH:0≤(aW:Int):=od au103;have EJ:aW<(gP.length:Int):=od au103;obtain ⟨DC,UD,Qc⟩:=Kd.at_string (Kd.R_reads' cS.out).2.2 aW EH EJ
       cases UD
       replace EH:=eq_true EH;replace EJ:=eq_true EJ;go_wp2_with (first|((with_reducible refine gate_callee (f:=74) rfl ?_);refine goesL_ (some 20) rfl rfl Tryz.func74 (by kernel_rfl) rfl #[.string (rdOf ByteArray.empty gP aW)] rfl au58 ?_;(with_reducible refine (spec_l2Word.calls k1 (rdOf ByteArray.empty gP aW) false _ A7.out).mono ?_);rintro e w' ⟨rfl,⟨nd,rfl⟩⟩;refine ⟨_,rfl,?_⟩));go_ret;exact ax3
     · rw [if_neg c6] at H;exact absurd H (by simp)
    · rw [if_neg c5] at H;have c5b0:=df c5;clear c5;obtain rfl:=ojz H;obtain ⟨aMq,aMr,aeX⟩:=Kd.R_slice cS.out;subst aeX;go_wp2;go_ret;exact ax3
def impl_inside.f (a0:Int) (a1:Int) (a2:Int):Option (Bool):=if a0 ≥ a1 then (some (decide (a0≤a2))) else (some false)
theorem impl_inside.calls (a0:Int) (a1:Int) (a2:Int) (r:Bool) (w:World) (h:impl_inside.f a0 a1 a2=some r) :
  Calls Tryz.prog 32 #[.int .i64 a0,.int .i64 a1,.int .i64 a2] w fun e w'=>e=.returned (.bool r)∧Drawn0 w w':=by
 have H:(if a0 ≥ a1 then (some (decide (a0≤a2))) else (some false))=some r:=h;clear h;by_cases c4:a0 ≥ a1
 · rw [if_pos c4] at H;have c4b0:=dt c4;clear c4;obtain rfl:=ojz H;go_enter Tryz.func32,Tryz.ntmps32;go_wp2;go_ret;exact ax1
 · rw [if_neg c4] at H;have c4b0:=df c4;clear c4;obtain rfl:=ojz H;go_enter Tryz.func32,Tryz.ntmps32;go_wp2;go_ret;exact ax1
def impl_isLower.f (a0:Int):Option (Bool):=if a0 ≥ 97 then (some (decide (a0≤122))) else (some false)
theorem impl_isLower.calls (a0:Int) (r:Bool) (w:World) (h:impl_isLower.f a0=some r) :
  Calls Tryz.prog 48 #[.int .u8 a0] w fun e w'=>e=.returned (.bool r)∧Drawn0 w w':=by
 have H:(if a0 ≥ 97 then (some (decide (a0≤122))) else (some false))=some r:=h;clear h;by_cases c2:a0 ≥ 97
 · rw [if_pos c2] at H;have c2b0:=dt c2;clear c2;obtain rfl:=ojz H;go_enter Tryz.func48,Tryz.ntmps48;go_wp2;go_ret;exact ax1
 · rw [if_neg c2] at H;have c2b0:=df c2;clear c2;obtain rfl:=ojz H;go_enter Tryz.func48,Tryz.ntmps48;go_wp2;go_ret;exact ax1
end Go.Proofs.YtcbhlghofihjcaaGreatDoor.G

namespace Go.Proofs
open Go.Shelf
def Tryz.lays156_ren:Go.Shelf.Ren:=⟨fun|156=>71|165=>91|166=>92|169=>93|240=>104|241=>105|276=>116|277=>117|n=>n,fun|31=>31|9=>9|3=>3|4=>4|0=>0|20=>20|72=>93|76=>97|70=>91|37=>22|75=>96|127=>107|164=>116|5=>5|80=>99|n=>n,fun|n=>n⟩
theorem Tryz.lays156:Go.Proofs.Lays.n156 Tryz.prog Tryz.lays156_ren:={
  mixed:=by kernel_rfl
  f156:=Tryz.func71.trans (congrArg some (by kernel_rfl))
  f165:=Tryz.func91.trans (congrArg some (by kernel_rfl))
  f166:=Tryz.func92.trans (congrArg some (by kernel_rfl))
  f169:=Tryz.func93.trans (congrArg some (by kernel_rfl))
  f240:=Tryz.func104.trans (congrArg some (by kernel_rfl))
  f241:=Tryz.func105.trans (congrArg some (by kernel_rfl))
  f276:=Tryz.func116.trans (congrArg some (by kernel_rfl))
  f277:=Tryz.func117.trans (congrArg some (by kernel_rfl))
  t0:=Tryz.underlying0
  a0:=Tryz.isAgg0
  z0:=Tryz.sizeOf0
  v0:=Tryz.zeroValue0
  t3:=Tryz.underlying3
  a3:=Tryz.isAgg3
  z3:=Tryz.sizeOf3
  v3:=Tryz.zeroValue3
  t4:=Tryz.underlying4
  a4:=Tryz.isAgg4
  z4:=Tryz.sizeOf4
  v4:=Tryz.zeroValue4
  t9:=Tryz.underlying9
  a9:=Tryz.isAgg9
  z9:=Tryz.sizeOf9
  v9:=Tryz.zeroValue9
  t20:=Tryz.underlying20
  a20:=Tryz.isAgg20
  z20:=Tryz.sizeOf20
  v20:=Tryz.zeroValue20
  t31:=Tryz.underlying31
  a31:=Tryz.isAgg31
  z31:=Tryz.sizeOf31
  v31:=Tryz.zeroValue31
  t37:=Tryz.underlying22
  a37:=Tryz.isAgg22
  z37:=Tryz.sizeOf22
  v37:=Tryz.zeroValue22
  t70:=Tryz.underlying91
  a70:=Tryz.isAgg91
  z70:=Tryz.sizeOf91
  v70:=Tryz.zeroValue91
  t72:=Tryz.underlying93
  a72:=Tryz.isAgg93
  z72:=Tryz.sizeOf93
  v72:=Tryz.zeroValue93
  t75:=Tryz.underlying96
  a75:=Tryz.isAgg96
  z75:=Tryz.sizeOf96
  v75:=Tryz.zeroValue96
  t76:=Tryz.underlying97
  a76:=Tryz.isAgg97
  z76:=Tryz.sizeOf97
  v76:=Tryz.zeroValue97
  t127:=Tryz.underlying107
  a127:=Tryz.isAgg107
  z127:=Tryz.sizeOf107
  v127:=Tryz.zeroValue107
  t164:=Tryz.underlying116
  a164:=Tryz.isAgg116
  z164:=Tryz.sizeOf116
  v164:=Tryz.zeroValue116 }
theorem Tryz.Builder_Extra_156:Builder.Extra Tryz.prog Tryz.lays156_ren:={
  sizeBuilder:=by kernel_rfl
  liesBuilder:=by kernel_rfl
  t5:=Tryz.underlying5
  a5:=Tryz.isAgg5
  z5:=Tryz.sizeOf5
  v5:=Tryz.zeroValue5
  infoByte:=by kernel_rfl
  cellsByte:=by kernel_rfl
  sizeByte:=by kernel_rfl
  neB5:=by decide }
open Go.RowKit in
theorem Tryz.strings_Join_none (a:Option Addr) (c:Nat) (sep:ByteArray) (w:World) :
    Calls Tryz.prog 71 #[.slice a 0 c,.string sep] w fun e w'=>e=.returned (.string ⟨#[]⟩)∧w'=w:=Any.strings_Join_none Tryz.lays156 Tryz.Builder_Extra_156 a c sep w
open Go.RowKit in
theorem Tryz.strings_Join (bk o c:Nat) (xs:List ByteArray) (sep:ByteArray) (w:World) (hcells:∀ (j:Nat) x,xs[j]?=some x→w.cell? ⟨bk,o+j,none⟩=some (.string x)) (hbk:bk<w.heap.size) (hN:xs.length≤140737488355328) (hcap:xs.length≤c) (hlen:(Lib.join (xs.map (·.data.toList)) sep.data.toList).length≤140737488355328) :
    Calls Tryz.prog 71 #[.slice (some ⟨bk,o,none⟩) xs.length c,.string sep] w fun e w'=>e=.returned (.string ⟨(Lib.join (xs.map (·.data.toList)) sep.data.toList).toArray⟩)∧Below w.heap.size w w':=Any.strings_Join Tryz.lays156 Tryz.Builder_Extra_156 bk o c xs sep w hcells hbk hN hcap hlen
def Tryz.laysM171_ren:Go.Shelf.Ren:=⟨fun|171=>57|243=>73|246=>94|283=>106|284=>107|285=>108|286=>109|129=>119|317=>118|318=>120|319=>121|320=>122|337=>130|338=>131|n=>n,fun|3=>3|9=>9|2=>2|4=>4|171=>108|0=>0|53=>37|37=>22|5=>5|173=>111|212=>120|51=>121|20=>20|213=>122|46=>70|232=>132|233=>133|n=>n,fun|17=>1|18=>5|19=>6|n=>n⟩
theorem Tryz.laysM171:Go.Proofs.LaysM.n171 Tryz.prog Tryz.laysM171_ren:={
  mixed:=by kernel_rfl
  f129:=Tryz.func119.trans (congrArg some (by kernel_rfl))
  f171:=Tryz.func57.trans (congrArg some (by kernel_rfl))
  f243:=Tryz.func73.trans (congrArg some (by kernel_rfl))
  f246:=Tryz.func94.trans (congrArg some (by kernel_rfl))
  f283:=Tryz.func106.trans (congrArg some (by kernel_rfl))
  f284:=Tryz.func107.trans (congrArg some (by kernel_rfl))
  f285:=Tryz.func108.trans (congrArg some (by kernel_rfl))
  f286:=Tryz.func109.trans (congrArg some (by kernel_rfl))
  f317:=Tryz.func118.trans (congrArg some (by kernel_rfl))
  f318:=Tryz.func120.trans (congrArg some (by kernel_rfl))
  f319:=Tryz.func121.trans (congrArg some (by kernel_rfl))
  f320:=Tryz.func122.trans (congrArg some (by kernel_rfl))
  f337:=Tryz.func130.trans (congrArg some (by kernel_rfl))
  f338:=Tryz.func131.trans (congrArg some (by kernel_rfl))
  t0:=Tryz.underlying0
  a0:=Tryz.isAgg0
  z0:=Tryz.sizeOf0
  v0:=Tryz.zeroValue0
  t2:=Tryz.underlying2
  a2:=Tryz.isAgg2
  z2:=Tryz.sizeOf2
  v2:=Tryz.zeroValue2
  t3:=Tryz.underlying3
  a3:=Tryz.isAgg3
  z3:=Tryz.sizeOf3
  v3:=Tryz.zeroValue3
  t4:=Tryz.underlying4
  a4:=Tryz.isAgg4
  z4:=Tryz.sizeOf4
  v4:=Tryz.zeroValue4
  t5:=Tryz.underlying5
  a5:=Tryz.isAgg5
  z5:=Tryz.sizeOf5
  v5:=Tryz.zeroValue5
  t9:=Tryz.underlying9
  a9:=Tryz.isAgg9
  z9:=Tryz.sizeOf9
  v9:=Tryz.zeroValue9
  t20:=Tryz.underlying20
  a20:=Tryz.isAgg20
  z20:=Tryz.sizeOf20
  v20:=Tryz.zeroValue20
  t37:=Tryz.underlying22
  a37:=Tryz.isAgg22
  z37:=Tryz.sizeOf22
  v37:=Tryz.zeroValue22
  t46:=Tryz.underlying70
  a46:=Tryz.isAgg70
  z46:=Tryz.sizeOf70
  v46:=Tryz.zeroValue70
  t51:=Tryz.underlying121
  a51:=Tryz.isAgg121
  z51:=Tryz.sizeOf121
  v51:=Tryz.zeroValue121
  t53:=Tryz.underlying37
  a53:=Tryz.isAgg37
  z53:=Tryz.sizeOf37
  v53:=Tryz.zeroValue37
  t171:=Tryz.underlying108
  a171:=Tryz.isAgg108
  z171:=Tryz.sizeOf108
  v171:=Tryz.zeroValue108
  t173:=Tryz.underlying111
  a173:=Tryz.isAgg111
  z173:=Tryz.sizeOf111
  v173:=Tryz.zeroValue111
  t212:=Tryz.underlying120
  a212:=Tryz.isAgg120
  z212:=Tryz.sizeOf120
  v212:=Tryz.zeroValue120
  t213:=Tryz.underlying122
  a213:=Tryz.isAgg122
  z213:=Tryz.sizeOf122
  t232:=Tryz.underlying132
  a232:=Tryz.isAgg132
  z232:=Tryz.sizeOf132
  v232:=Tryz.zeroValue132
  t233:=Tryz.underlying133
  a233:=Tryz.isAgg133
  z233:=Tryz.sizeOf133
  v233:=Tryz.zeroValue133
  g17:=by kernel_rfl
  g18:=by kernel_rfl
  g19:=by kernel_rfl
  i0:=by kernel_rfl
  i2:=by kernel_rfl
  i3:=by kernel_rfl
  i4:=by kernel_rfl
  i5:=by kernel_rfl
  i9:=by kernel_rfl
  i20:=by kernel_rfl
  i37:=by kernel_rfl
  i46:=by kernel_rfl
  i51:=by kernel_rfl
  i53:=by kernel_rfl
  i171:=by kernel_rfl
  i173:=by kernel_rfl
  i212:=by kernel_rfl
  i232:=by kernel_rfl
  i233:=by kernel_rfl
  m17:=by kernel_rfl
  m18:=by kernel_rfl
  m19:=by kernel_rfl }
open Go.RowKit Go.Sort Go.Lib in
theorem Tryz.strconv_Itoa (n:Int) (h0:-9223372036854775808≤n) (h1:n≤9223372036854775807) (w:World) (htab:Lib.TabIs Tryz.prog w "internal/strconv.uint64pow10" .u64 Lib.pow10Tab) :
    Calls Tryz.prog 57 #[.int .i64 n] w fun e w'=>e=.returned (.string ⟨(Lib.itoa n).toArray⟩)∧∃ k os,w'=grow (w.drewN k) os:=Any.strconv_Itoa Tryz.laysM171 n h0 h1 w htab
def Tryz.lays146_ren:Go.Shelf.Ren:=⟨fun|146=>81|221=>97|268=>110|138=>111|143=>112|195=>123|197=>99|218=>124|219=>125|260=>113|217=>132|225=>129|224=>128|267=>133|266=>134|314=>135|n=>n,fun|9=>9|31=>31|3=>3|4=>4|0=>0|105=>103|21=>21|5=>5|46=>70|119=>126|139=>129|138=>128|146=>134|51=>121|n=>n,fun|1=>4|3=>2|4=>3|n=>n⟩
theorem Tryz.lays146:Go.Proofs.Lays.n146 Tryz.prog Tryz.lays146_ren:={
  mixed:=by kernel_rfl
  f138:=Tryz.func111.trans (congrArg some (by kernel_rfl))
  f143:=Tryz.func112.trans (congrArg some (by kernel_rfl))
  f146:=Tryz.func81.trans (congrArg some (by kernel_rfl))
  f195:=Tryz.func123.trans (congrArg some (by kernel_rfl))
  f197:=Tryz.func99.trans (congrArg some (by kernel_rfl))
  f217:=Tryz.func132.trans (congrArg some (by kernel_rfl))
  f218:=Tryz.func124.trans (congrArg some (by kernel_rfl))
  f219:=Tryz.func125.trans (congrArg some (by kernel_rfl))
  f221:=Tryz.func97.trans (congrArg some (by kernel_rfl))
  f224:=Tryz.func128.trans (congrArg some (by kernel_rfl))
  f225:=Tryz.func129.trans (congrArg some (by kernel_rfl))
  f260:=Tryz.func113.trans (congrArg some (by kernel_rfl))
  f266:=Tryz.func134.trans (congrArg some (by kernel_rfl))
  f267:=Tryz.func133.trans (congrArg some (by kernel_rfl))
  f268:=Tryz.func110.trans (congrArg some (by kernel_rfl))
  f314:=Tryz.func135.trans (congrArg some (by kernel_rfl))
  t0:=Tryz.underlying0
  a0:=Tryz.isAgg0
  z0:=Tryz.sizeOf0
  v0:=Tryz.zeroValue0
  t3:=Tryz.underlying3
  a3:=Tryz.isAgg3
  z3:=Tryz.sizeOf3
  v3:=Tryz.zeroValue3
  t4:=Tryz.underlying4
  a4:=Tryz.isAgg4
  z4:=Tryz.sizeOf4
  v4:=Tryz.zeroValue4
  t5:=Tryz.underlying5
  a5:=Tryz.isAgg5
  z5:=Tryz.sizeOf5
  v5:=Tryz.zeroValue5
  t9:=Tryz.underlying9
  a9:=Tryz.isAgg9
  z9:=Tryz.sizeOf9
  v9:=Tryz.zeroValue9
  t21:=Tryz.underlying21
  a21:=Tryz.isAgg21
  z21:=Tryz.sizeOf21
  v21:=Tryz.zeroValue21
  t31:=Tryz.underlying31
  a31:=Tryz.isAgg31
  z31:=Tryz.sizeOf31
  v31:=Tryz.zeroValue31
  t46:=Tryz.underlying70
  a46:=Tryz.isAgg70
  z46:=Tryz.sizeOf70
  v46:=Tryz.zeroValue70
  t51:=Tryz.underlying121
  a51:=Tryz.isAgg121
  z51:=Tryz.sizeOf121
  v51:=Tryz.zeroValue121
  t105:=Tryz.underlying103
  a105:=Tryz.isAgg103
  z105:=Tryz.sizeOf103
  v105:=Tryz.zeroValue103
  t119:=Tryz.underlying126
  a119:=Tryz.isAgg126
  z119:=Tryz.sizeOf126
  t138:=Tryz.underlying128
  a138:=Tryz.isAgg128
  z138:=Tryz.sizeOf128
  v138:=Tryz.zeroValue128
  t139:=Tryz.underlying129
  a139:=Tryz.isAgg129
  z139:=Tryz.sizeOf129
  v139:=Tryz.zeroValue129
  t146:=Tryz.underlying134
  a146:=Tryz.isAgg134
  z146:=Tryz.sizeOf134
  v146:=Tryz.zeroValue134
  g1:=by kernel_rfl
  g3:=by kernel_rfl
  g4:=by kernel_rfl }
open Go.RowKit Go.Lib in
theorem Tryz.strings_Split (s sep:ByteArray) (m:Int) (w:World) (hs:s.size<4294967281) (hm:w.cell? ⟨4,0,none⟩=some (.int .i64 m)) (h1:1≤sep.size) :
    Calls Tryz.prog 81 #[.string s,.string sep] w fun e w' =>
      e=.returned (.slice (some ⟨w.heap.size,0,none⟩) (Lib.countB s sep+1) (Lib.countB s sep+1))∧w'=w.alloc (.cells ((Lib.splitB sep 0 (Lib.countB s sep) s).map Value.string).toArray 9):=Any.strings_Split Tryz.lays146 (by kernel_rfl) s sep m w hs hm h1
def Tryz.laysSlH10_f102_ren:Go.Shelf.Ren:=⟨fun|10=>102|6=>79|n=>n,fun|22=>31|23=>9|25=>57|3=>3|4=>4|0=>0|n=>n,fun|n=>n⟩
theorem Tryz.laysSlH10_f102:Go.Proofs.SlLaysH.n10 Tryz.prog Tryz.laysSlH10_f102_ren:={
  mixed:=by kernel_rfl
  f6:=⟨Tryz.f79.name,by decide,Tryz.func79.trans (congrArg some (by kernel_rfl))⟩
  f10:=⟨Tryz.f102.name,by decide,Tryz.func102.trans (congrArg some (by kernel_rfl))⟩
  t0:=Tryz.underlying0
  a0:=Tryz.isAgg0
  z0:=Tryz.sizeOf0
  v0:=Tryz.zeroValue0
  t3:=Tryz.underlying3
  a3:=Tryz.isAgg3
  z3:=Tryz.sizeOf3
  v3:=Tryz.zeroValue3
  t4:=Tryz.underlying4
  a4:=Tryz.isAgg4
  z4:=Tryz.sizeOf4
  v4:=Tryz.zeroValue4
  t22:=Tryz.underlying31
  a22:=Tryz.isAgg31
  z22:=Tryz.sizeOf31
  v22:=Tryz.zeroValue31
  a23:=Tryz.isAgg9
  z23:=Tryz.sizeOf9
  t25:=Tryz.underlying57
  a25:=Tryz.isAgg57
  z25:=Tryz.sizeOf57
  v25:=Tryz.zeroValue57 }
open Go.RowKit Go.Lib Go.Sort in
theorem Tryz.slices_DeleteFunc {α:Type} [Inhabited α] (enc:α→Value) (hO:OneCell enc) (p:α→Bool) (g:Nat) (lb:Array Value) (eg:∀ args w,(callFunc g args).run Tryz.prog w=.ok (.enter g args) w) (zr:α) (v23:∀ w,(zeroValue 9).run Tryz.prog w=.ok (enc zr) w) (blk off cap:Nat) (d:Array α) (w:World) (hp:PredAt Tryz.prog g lb enc p w) (hpo:PredOver Tryz.prog g lb enc p blk off d.size w) (hH:Holds enc w blk off d) (hsz:d.size≤9223372036854775807) (hcap:d.size≤cap) :
    Calls Tryz.prog 102 #[.slice (some ⟨blk,off,none⟩) d.size cap,.func (.func g) #[] lb] w fun e w'=>e=.returned (.slice (some ⟨blk,off,none⟩) (d.toList.filter fun x=>!p x).length cap)∧∃ q,w'=putRow enc (Sort.ahead w q) blk off ((d.toList.filter fun x=>!p x)++List.replicate (d.size-(d.toList.filter fun x=>!p x).length) zr).toArray:=AnyE.slices_DeleteFunc Tryz.laysSlH10_f102 enc hO p g lb eg zr v23 blk off cap d w hp hpo hH hsz hcap
end Go.Proofs

namespace Go.Proofs.YtcbhlghofihjcaaGreatDoor.G
open Go.RowKit Go.Proofs.YtcbhlghofihjcaaGreatDoorW.PrintWords Go.Proofs.YtcbhlghofihjcaaGreatDoorW.PrintLast Go.Proofs.YtcbhlghofihjcaaGreatDoorW.PrintMore
open Go.Proofs.YtcbhlghofihjcaaGreatDoor.Gl Go.Proofs.YtcbhlghofihjcaaGreatDoor.Ext
attribute [local go_sem] max2_int min2_int max_two min_two max_three min_three max_four min_four   -- for this text's walks alone
set_option linter.unusedVariables false
set_option linter.unusedSimpArgs false
def strings_Split.f (a0:ByteArray) (a1:ByteArray):Option (List ByteArray) :=
 if a0.size<4294967281∧1≤a1.size∧(Lib.splitB a1 0 (Lib.countB a0 a1) a0).length=Lib.countB a0 a1+1∧Lib.countB a0 a1<4294967296 then some (Lib.splitB a1 0 (Lib.countB a0 a1) a0) else none
theorem strings_Split.calls (a0:ByteArray) (a1:ByteArray) (r:List ByteArray) (w:World) {gF1 gF2 gF3:Bool} (hG:GL gF1 gF2 gF3 w) (h:strings_Split.f a0 a1=some r) :
  Calls Tryz.prog 81 #[.string a0,.string a1] w fun e w'=>∃ gO:Value,e=.returned (gO)∧Kd.R Kd.string 9 w' w.heap.size (fun _=>True) gO r∧Below w.heap.size w w':=by
 unfold strings_Split.f at h;by_cases hg:a0.size<4294967281∧1≤a1.size∧(Lib.splitB a1 0 (Lib.countB a0 a1) a0).length=Lib.countB a0 a1+1∧Lib.countB a0 a1<4294967296
 · rw [if_pos hg] at h;obtain rfl:=ojz h;obtain ⟨m,hm⟩:=hG.mx;refine (Tryz.strings_Split a0 a1 m w hg.1 hm hg.2.1).mono ?_;rintro e w' ⟨rfl,rfl⟩;rw [← hg.2.2.1];refine ⟨_,rfl,Kd.R_of_own (own_lit_of (enc:=Value.string) w w.heap.size 9 _ (Nat.le_refl _) ?_) (fun _ _=>trivial),(Below.refl _ _).alloc (Nat.le_refl _) _⟩;rw [hg.2.2.1];omega
 · rw [if_neg hg] at h;cases h
mutual
def impl_isParticle.l0:Nat→List ByteArray→List ByteArray→Int→Int→Option (Bool)
 | 0,_,_,_,_=>none
 | k+1,x3,BG,Jx,zV=>if zV<Jx then (if 0≤zV then (if zV<(BG.length:Int) then ((impl_inside.f ((rdOf ByteArray.empty BG zV).size:Int) 1 12).bind fun wM=>(if wM=true then (impl_isParticle.l1 k x3 (rdOf ByteArray.empty BG zV) 0 BG Jx zV) else (some false))) else (none)) else (none)) else (some (decide ((x3.length:Int)≤2)))
def impl_isParticle.l1:Nat→List ByteArray→ByteArray→Int→List ByteArray→Int→Int→Option (Bool)
 | 0,_,_,_,_,_,_=>none
 | k+1,x3,x5,x6,BG,Jx,zV=>if x6<(x5.size:Int) then (if 0≤x6 then ((impl_isLower.f (bt x5 x6)).bind fun tU=>(if tU=true then (impl_isParticle.l1 k x3 x5 (wrap64 (x6+1)) BG Jx zV) else (some false))) else (none)) else (impl_isParticle.l0 k x3 BG Jx (wrap64 (zV+1)))
end
def impl_isParticle.f (k:Nat) (a0:ByteArray):Option (Bool):=if a0.toList=([]:List UInt8) then (some true) else ((strings_Split.f a0 (⟨#[32]⟩:ByteArray)).bind fun eC=>(impl_isParticle.l0 k eC eC (eC.length:Int) 0))
theorem impl_isParticle.mono_l:∀ k,(∀ y0 y1 y2 y3,LeO (impl_isParticle.l0 k y0 y1 y2 y3) (impl_isParticle.l0 (k+1) y0 y1 y2 y3))∧(∀ y0 y1 y2 y3 y4 y5,LeO (impl_isParticle.l1 k y0 y1 y2 y3 y4 y5) (impl_isParticle.l1 (k+1) y0 y1 y2 y3 y4 y5))
 | 0=>⟨fun _ _ _ _ r h=>by simp [impl_isParticle.l0] at h,fun _ _ _ _ _ _ r h=>by simp [impl_isParticle.l1] at h⟩
 | k+1=>by
  obtain ⟨ih0,ih1⟩:=impl_isParticle.mono_l k;refine ⟨?_,?_⟩
  ·
   intro y0 y1 y2 y3;unfold impl_isParticle.l0
   repeat' first
   | (with_reducible exact ih0 _ _ _ _)
   | (with_reducible exact ih1 _ _ _ _ _ _)
   | (with_reducible exact LeO.refl _)
   | (with_reducible exact LeO.none _)
   | (with_reducible refine LeO.ite ?_ ?_)
   | (with_reducible refine LeO.bind ?_ (fun _=>?_))
   | exact ih0 _ _ _ _
   | exact ih1 _ _ _ _ _ _
   | exact LeO.none _
   | refine LeO.ite ?_ ?_
   | refine LeO.bind ?_ (fun _=>?_)
  ·
   intro y0 y1 y2 y3 y4 y5;unfold impl_isParticle.l1
   repeat' first
   | (with_reducible exact ih0 _ _ _ _)
   | (with_reducible exact ih1 _ _ _ _ _ _)
   | (with_reducible exact LeO.refl _)
   | (with_reducible exact LeO.none _)
   | (with_reducible refine LeO.ite ?_ ?_)
   | (with_reducible refine LeO.bind ?_ (fun _=>?_))
   | exact ih0 _ _ _ _
   | exact ih1 _ _ _ _ _ _
   | exact LeO.none _
   | refine LeO.ite ?_ ?_
   | refine LeO.bind ?_ (fun _=>?_)
theorem impl_isParticle.mono:∀ a0 k,LeO (impl_isParticle.f k a0) (impl_isParticle.f (k+1) a0):=by
 intro a0 k;obtain ⟨ih0,ih1⟩:=impl_isParticle.mono_l k;unfold impl_isParticle.f
 repeat' first
   | (with_reducible exact ih0 _ _ _ _)
   | (with_reducible exact ih1 _ _ _ _ _ _)
   | (with_reducible exact LeO.refl _)
   | (with_reducible exact LeO.none _)
   | (with_reducible refine LeO.ite ?_ ?_)
   | (with_reducible refine LeO.bind ?_ (fun _=>?_))
   | exact ih0 _ _ _ _
   | exact ih1 _ _ _ _ _ _
   | exact LeO.none _
   | refine LeO.ite ?_ ?_
   | refine LeO.bind ?_ (fun _=>?_)
theorem impl_isParticle.calls (k:Nat) (a0:ByteArray) (r:Bool) (w:World) {gF1 gF2 gF3:Bool} (hG:GL gF1 gF2 gF3 w) (h:impl_isParticle.f k a0=some r) :
  Calls Tryz.prog 67 #[.string a0] w fun e w'=>e=.returned (.bool r)∧Below w.heap.size w w':=by
 have HG:=am hG;clear hG;have HB:=am (Below.refl w.heap.size w);have H:(if a0.toList=([]:List UInt8) then (some true) else ((strings_Split.f a0 (⟨#[32]⟩:ByteArray)).bind fun eC=>(impl_isParticle.l0 k eC eC (eC.length:Int) 0)))=some r:=h;clear h;by_cases c2:a0.toList=([]:List UInt8)
 · rw [if_pos c2] at H;have c2b0:=qt c2;have c2b1:=bfz c2;clear c2;obtain rfl:=ojz H;go_enter Tryz.func67,Tryz.ntmps67;go_wp2;go_ret;exact ax3
 ·
  rw [if_neg c2] at H;have c2b0:=qf c2;have c2b1:=bu c2;replace H:=obz H;obtain ⟨eC,dR,H⟩:=H
  try dsimp only at H
  have A3:=am dR;clear dR;have H':=am H;clear H;go_enter Tryz.func67,Tryz.ntmps67;go_wp2_with (first|((with_reducible refine gate_callee (f:=81) rfl ?_);refine goesL_ (some 10) rfl rfl Tryz.func81 (by kernel_rfl) rfl #[.string a0,.string (⟨#[32]⟩:ByteArray)] rfl au58 ?_;(with_reducible refine (strings_Split.calls (hG:=au6) a0 (⟨#[32]⟩:ByteArray) eC _ A3.out).mono ?_);rintro e w4 ⟨aMs,rfl,ho0,hb⟩;refine ⟨_,rfl,?_⟩;have Tq:=am (Kd.R_lower ho0 (below_size au59));replace HB:=am (below_step au59 hb);(try clear hb);(try clear ho0);obtain ⟨Ao5,Xe,eo5⟩:=Kd.R_slice Tq.out;subst eo5))
  go_loopg [13] k (fun kq Nz w'=>∃ (eB:Int),Nz=.int .i64 eB∧Aside0 (impl_isParticle.l0 kq eC eC (eC.length:Int) eB=some r)∧Aside0 (kq≤k)∧Aside0 (Kd.R Kd.string 9 w' w.heap.size (fun _=>True) (.slice Ao5 eC.length Xe) eC)∧Aside0 (Kd.R Kd.string 9 w' w.heap.size (fun _=>True) (.slice Ao5 eC.length Xe) eC)∧Aside0 (Below w.heap.size w w'))
  case atStart=>exact ⟨(0),au104,H',⟨Nat.le_refl _⟩,⟨by (with_reducible repeat (first|apply Kd.R_alloc|apply Kd.R_drewN|apply Kd.R_drew));exact Tq.out⟩,⟨by (with_reducible repeat (first|apply Kd.R_alloc|apply Kd.R_drewN|apply Kd.R_drew));exact Tq.out⟩,⟨by repeat (first|(with_reducible first|exact HB.out|apply below_alloc|apply pw_below_drewN|apply below_drew1)|exact HB.out)⟩⟩
  case round =>
   clear H'
   try clear c2
   try clear c2b0
   try clear c2b1
   try clear p2
   obtain ⟨eB,rfl,HA,HK1,cS,FE,HB⟩:=hrel
   cases gk with
   | zero=>exact absurd HA.out (by simp [impl_isParticle.l0])
   | succ k1 =>
    have H:=HA.out;clear HA;simp only [impl_isParticle.l0] at H;by_cases c6:eB<(eC.length:Int)
    ·
     rw [if_pos c6] at H;have c6b0:=dt c6;clear c6;by_cases c7:0≤eB
     ·
      rw [if_pos c7] at H;have c7b0:=dt c7;clear c7;by_cases c8:eB<(eC.length:Int)
      ·
       rw [if_pos c8] at H;have c8b0:=dt c8;clear c8;replace H:=obz H;obtain ⟨wM,qP,H⟩:=H
       try dsimp only at H
       have A9:=am qP;clear qP;by_cases c10:wM=true
       ·
        subst c10;replace H:=(if_pos rfl).symm.trans H;have H':=am H;clear H;have EK:0≤(eB:Int):=od au103;have EL:eB<(eC.length:Int):=od au103;obtain ⟨Tr,UF,Qe⟩:=Kd.at_string (Kd.R_reads' FE.out).2.2 eB EK EL
        cases UF
        replace EK:=eq_true EK;replace EL:=eq_true EL;go_wp2_with (first|((with_reducible refine gate_callee (f:=32) rfl ?_);refine goesL_ (some 19) rfl rfl Tryz.func32 (by kernel_rfl) rfl #[.int .i64 ((rdOf ByteArray.empty eC eB).size:Int),.int .i64 1,.int .i64 12] rfl au58 ?_;(with_reducible refine (impl_inside.calls ((rdOf ByteArray.empty eC eB).size:Int) 1 12 true _ A9.out).mono ?_);rintro e w' ⟨rfl,⟨nd,rfl⟩⟩;refine ⟨_,rfl,?_⟩))
        go_loopg [6] k1 (fun kq v6 w'=>∃ (fZ:Int),v6=.int .i64 fZ∧Aside0 (impl_isParticle.l1 kq eC (rdOf ByteArray.empty eC eB) fZ eC (eC.length:Int) eB=some r)∧Aside0 (kq≤k1)∧Aside0 (Kd.R Kd.string 9 w' w.heap.size (fun _=>True) (.slice (some Tr) eC.length Xe) eC)∧Aside0 (Kd.R Kd.string 9 w' w.heap.size (fun _=>True) (.slice (some Tr) eC.length Xe) eC)∧Aside0 (Below w.heap.size w w'))
        case atStart=>exact ⟨(0),au104,H',⟨Nat.le_refl _⟩,⟨by (with_reducible repeat (first|apply Kd.R_alloc|apply Kd.R_drewN|apply Kd.R_drew));exact cS.out⟩,⟨by (with_reducible repeat (first|apply Kd.R_alloc|apply Kd.R_drewN|apply Kd.R_drew));exact FE.out⟩,⟨by repeat (first|(with_reducible first|exact HB.out|apply below_alloc|apply pw_below_drewN|apply below_drew1)|exact HB.out)⟩⟩
        case round =>
         clear H'
         try clear c1
         try clear c2
         try clear c2b0
         try clear c2b1
         try clear p2
         try clear c3
         try clear p5
         try clear q5
         try clear Qf
         try clear c6
         try clear c6b0
         try clear c7
         try clear c7b0
         try clear c8
         try clear c8b0
         try clear c10
         try clear Qe
         try clear p2
         try clear EK
         try clear EL
         obtain ⟨fZ,rfl,HA,HK2,cS,FE,HB⟩:=hrel
         cases gk with
         | zero=>exact absurd HA.out (by simp [impl_isParticle.l1])
         | succ k2 =>
          have H:=HA.out;clear HA;simp only [impl_isParticle.l1] at H;by_cases cO:fZ<((rdOf ByteArray.empty eC eB).size:Int)
          ·
           rw [if_pos cO] at H;have c11b0:=dt cO;clear cO;by_cases dD:0≤fZ
           ·
            rw [if_pos dD] at H;have c12b0:=dt dD;clear dD;replace H:=obz H;obtain ⟨tU,sO,H⟩:=H
            try dsimp only at H
            have He:=am sO;clear sO;by_cases dJ:tU=true
            ·
             subst dJ;replace H:=(if_pos rfl).symm.trans H;have H':=am H;clear H;have Uj:0≤(fZ:Int):=od au103;have Uk:fZ<((rdOf ByteArray.empty eC eB).size:Int):=od au103;have aeY:=bt_at (rdOf ByteArray.empty eC eB) fZ;replace Uj:=eq_true Uj;replace Uk:=eq_true Uk;go_wp2_with (first|((with_reducible refine gate_callee (f:=48) rfl ?_);refine goesL_ (some 30) rfl rfl Tryz.func48 (by kernel_rfl) rfl #[.int .u8 (bt (rdOf ByteArray.empty eC eB) fZ)] rfl au58 ?_;(with_reducible refine (impl_isLower.calls (bt (rdOf ByteArray.empty eC eB) fZ) true _ He.out).mono ?_);rintro e w' ⟨rfl,⟨nd,rfl⟩⟩;refine ⟨_,rfl,?_⟩))
             go_roundg k2
             case measure=>have:=HK1.out;have:=HK2.out;omega
             case rel=>exact ⟨(wrap64 (fZ+1)),au104,H',⟨by have:=HK1.out;have:=HK2.out;omega⟩,⟨by (with_reducible repeat (first|apply Kd.R_alloc|apply Kd.R_drewN|apply Kd.R_drew));exact cS.out⟩,⟨by (with_reducible repeat (first|apply Kd.R_alloc|apply Kd.R_drewN|apply Kd.R_drew));exact FE.out⟩,⟨by repeat (first|(with_reducible first|exact HB.out|apply below_alloc|apply pw_below_drewN|apply below_drew1)|exact HB.out)⟩⟩
            · replace dJ:=Bool.eq_false_iff.mpr dJ;subst dJ;replace H:=(if_neg (show ¬ (false=true) by decide)).symm.trans H;obtain rfl:=ojz H;have Uj:0≤(fZ:Int):=od au103;have Uk:fZ<((rdOf ByteArray.empty eC eB).size:Int):=od au103;have aeY:=bt_at (rdOf ByteArray.empty eC eB) fZ;replace Uj:=eq_true Uj;replace Uk:=eq_true Uk;go_wp2_with (first|((with_reducible refine gate_callee (f:=48) rfl ?_);refine goesL_ (some 30) rfl rfl Tryz.func48 (by kernel_rfl) rfl #[.int .u8 (bt (rdOf ByteArray.empty eC eB) fZ)] rfl au58 ?_;(with_reducible refine (impl_isLower.calls (bt (rdOf ByteArray.empty eC eB) fZ) false _ He.out).mono ?_);rintro e w' ⟨rfl,⟨nd,rfl⟩⟩;refine ⟨_,rfl,?_⟩));go_ret;exact ax3
           · rw [if_neg dD] at H;exact absurd H (by simp)
          ·
           rw [if_neg cO] at H;have c11b0:=df cO;clear cO;have H':=am H;clear H;go_wp2
           go_roundg k2
           case measure=>have:=HK1.out;have:=HK2.out;omega
           case rel=>exact ⟨(wrap64 (eB+1)),au104,H',⟨by have:=HK1.out;have:=HK2.out;omega⟩,⟨by (with_reducible repeat (first|apply Kd.R_alloc|apply Kd.R_drewN|apply Kd.R_drew));exact cS.out⟩,⟨by (with_reducible repeat (first|apply Kd.R_alloc|apply Kd.R_drewN|apply Kd.R_drew));exact FE.out⟩,⟨by repeat (first|(with_reducible first|exact HB.out|apply below_alloc|apply pw_below_drewN|apply below_drew1)|exact HB.out)⟩⟩
       ·
        replace c10:=Bool.eq_false_iff.mpr c10;subst c10;replace H:=(if_neg (show ¬ (false=true) by decide)).symm.trans H;obtain rfl:=ojz H;have EK:0≤(eB:Int):=od au103;have EL:eB<(eC.length:Int):=od au103;obtain ⟨Tr,UF,Qe⟩:=Kd.at_string (Kd.R_reads' FE.out).2.2 eB EK EL
        cases UF
        replace EK:=eq_true EK;replace EL:=eq_true EL;go_wp2_with (first|((with_reducible refine gate_callee (f:=32) rfl ?_);refine goesL_ (some 19) rfl rfl Tryz.func32 (by kernel_rfl) rfl #[.int .i64 ((rdOf ByteArray.empty eC eB).size:Int),.int .i64 1,.int .i64 12] rfl au58 ?_;(with_reducible refine (impl_inside.calls ((rdOf ByteArray.empty eC eB).size:Int) 1 12 false _ A9.out).mono ?_);rintro e w' ⟨rfl,⟨nd,rfl⟩⟩;refine ⟨_,rfl,?_⟩));go_ret;exact ax3
      · rw [if_neg c8] at H;exact absurd H (by simp)
     · rw [if_neg c7] at H;exact absurd H (by simp)
    · rw [if_neg c6] at H;have c6b0:=df c6;clear c6;obtain rfl:=ojz H;go_wp2;go_ret;exact ax3
def impl_isUpper.f (a0:Int):Option (Bool):=if a0 ≥ 65 then (some (decide (a0≤90))) else (some false)
theorem impl_isUpper.calls (a0:Int) (r:Bool) (w:World) (h:impl_isUpper.f a0=some r) :
  Calls Tryz.prog 80 #[.int .u8 a0] w fun e w'=>e=.returned (.bool r)∧Drawn0 w w':=by
 have H:(if a0 ≥ 65 then (some (decide (a0≤90))) else (some false))=some r:=h;clear h;by_cases c2:a0 ≥ 65
 · rw [if_pos c2] at H;have c2b0:=dt c2;clear c2;obtain rfl:=ojz H;go_enter Tryz.func80,Tryz.ntmps80;go_wp2;go_ret;exact ax1
 · rw [if_neg c2] at H;have c2b0:=df c2;clear c2;obtain rfl:=ojz H;go_enter Tryz.func80,Tryz.ntmps80;go_wp2;go_ret;exact ax1
def impl_isLetter.f (a0:Int):Option (Bool):=(impl_isUpper.f a0).bind fun eC=>(if eC=true then (some true) else ((impl_isLower.f a0).bind fun tV=>(some tV)))
theorem impl_isLetter.calls (a0:Int) (r:Bool) (w:World) (h:impl_isLetter.f a0=some r) :
  Calls Tryz.prog 82 #[.int .u8 a0] w fun e w'=>e=.returned (.bool r)∧Drawn0 w w':=by
 have H:((impl_isUpper.f a0).bind fun eC=>(if eC=true then (some true) else ((impl_isLower.f a0).bind fun tV=>(some tV))))=some r:=h;clear h;replace H:=obz H;obtain ⟨eC,fD,H⟩:=H
 try dsimp only at H
 have A2:=am fD;clear fD;by_cases c3:eC=true
 · subst c3;replace H:=(if_pos rfl).symm.trans H;obtain rfl:=ojz H;go_enter Tryz.func82,Tryz.ntmps82;go_wp2_with (first|((with_reducible refine gate_callee (f:=80) rfl ?_);refine goesL_ (some 4) rfl rfl Tryz.func80 (by kernel_rfl) rfl #[.int .u8 a0] rfl au58 ?_;(with_reducible refine (impl_isUpper.calls a0 true _ A2.out).mono ?_);rintro e w' ⟨rfl,⟨nd,rfl⟩⟩;refine ⟨_,rfl,?_⟩));go_ret;exact ax1
 ·
  replace c3:=Bool.eq_false_iff.mpr c3;subst c3;replace H:=(if_neg (show ¬ (false=true) by decide)).symm.trans H;replace H:=obz H;obtain ⟨tV,nE,H⟩:=H
  try dsimp only at H
  have A4:=am nE;clear nE;obtain rfl:=ojz H;go_enter Tryz.func82,Tryz.ntmps82;go_wp2_with (first|((with_reducible refine gate_callee (f:=80) rfl ?_);refine goesL_ (some 4) rfl rfl Tryz.func80 (by kernel_rfl) rfl #[.int .u8 a0] rfl au58 ?_;(with_reducible refine (impl_isUpper.calls a0 false _ A2.out).mono ?_);rintro e w' ⟨rfl,⟨nd,rfl⟩⟩;refine ⟨_,rfl,?_⟩)|(go_at_call 48;(with_reducible refine (impl_isLower.calls a0 tV _ A4.out).mono ?_);rintro e w' ⟨rfl,⟨nd,rfl⟩⟩));go_ret;exact ax1
mutual
def impl_isNameWord.j0:Nat→ByteArray→Bool→Option (Bool)
 | 0,_,_=>none
 | k+1,x0,x22=>if x22=true then (some false) else (impl_isNameWord.l0 k x0 0)
def impl_isNameWord.l0:Nat→ByteArray→Int→Option (Bool)
 | 0,_,_=>none
 | k+1,x0,x3=>if x3<(x0.size:Int) then (if 0≤x3 then ((impl_isLetter.f (bt x0 x3)).bind fun tU=>(if tU=true then (impl_isNameWord.l0 k x0 (wrap64 (x3+1))) else (if (bt x0 x3)=45 then (if 0≤(wrap64 (x3-1)) then (if (wrap64 (x3-1))<(x0.size:Int) then ((impl_isLetter.f (bt x0 (wrap64 (x3-1)))).bind fun zW=>(if zW=true then (impl_isNameWord.l0 k x0 (wrap64 (x3+1))) else (some false))) else (none)) else (none)) else (if (bt x0 x3)=39 then (if 0≤(wrap64 (x3-1)) then (if (wrap64 (x3-1))<(x0.size:Int) then ((impl_isLetter.f (bt x0 (wrap64 (x3-1)))).bind fun kU=>(if kU=true then (impl_isNameWord.l0 k x0 (wrap64 (x3+1))) else (some false))) else (none)) else (none)) else (some false))))) else (none)) else (some true)
end
def impl_isNameWord.f (k:Nat) (a0:ByteArray):Option (Bool):=(impl_inside.f (a0.size:Int) 1 12).bind fun nH=>(if nH=true then (if 0≤(wrap64 ((a0.size:Int)-1)) then (if (wrap64 ((a0.size:Int)-1))<(a0.size:Int) then ((impl_isLetter.f (bt a0 (wrap64 ((a0.size:Int)-1)))).bind fun tW=>(if tW=true then (if 0<(a0.size:Int) then ((impl_isLetter.f (bt a0 0)).bind fun wM=>(impl_isNameWord.j0 k a0 (!wM))) else (none)) else (impl_isNameWord.j0 k a0 true))) else (none)) else (none)) else (impl_isNameWord.j0 k a0 true))
theorem impl_isNameWord.mono_l:∀ k,(∀ y0 y1,LeO (impl_isNameWord.j0 k y0 y1) (impl_isNameWord.j0 (k+1) y0 y1))∧(∀ y0 y1,LeO (impl_isNameWord.l0 k y0 y1) (impl_isNameWord.l0 (k+1) y0 y1))
 | 0=>⟨fun _ _ r h=>by simp [impl_isNameWord.j0] at h,fun _ _ r h=>by simp [impl_isNameWord.l0] at h⟩
 | k+1=>by
  obtain ⟨ih0,ih1⟩:=impl_isNameWord.mono_l k;refine ⟨?_,?_⟩
  ·
   intro y0 y1;unfold impl_isNameWord.j0
   repeat' first
   | (with_reducible exact ih0 _ _)
   | (with_reducible exact ih1 _ _)
   | (with_reducible exact LeO.refl _)
   | (with_reducible exact LeO.none _)
   | (with_reducible refine LeO.ite ?_ ?_)
   | (with_reducible refine LeO.bind ?_ (fun _=>?_))
   | exact ih0 _ _
   | exact ih1 _ _
   | exact LeO.none _
   | refine LeO.ite ?_ ?_
   | refine LeO.bind ?_ (fun _=>?_)
  ·
   intro y0 y1;unfold impl_isNameWord.l0
   repeat' first
   | (with_reducible exact ih0 _ _)
   | (with_reducible exact ih1 _ _)
   | (with_reducible exact LeO.refl _)
   | (with_reducible exact LeO.none _)
   | (with_reducible refine LeO.ite ?_ ?_)
   | (with_reducible refine LeO.bind ?_ (fun _=>?_))
   | exact ih0 _ _
   | exact ih1 _ _
   | exact LeO.none _
   | refine LeO.ite ?_ ?_
   | refine LeO.bind ?_ (fun _=>?_)
theorem impl_isNameWord.mono:∀ a0 k,LeO (impl_isNameWord.f k a0) (impl_isNameWord.f (k+1) a0):=by
 intro a0 k;obtain ⟨ih0,ih1⟩:=impl_isNameWord.mono_l k;unfold impl_isNameWord.f
 repeat' first
   | (with_reducible exact ih0 _ _)
   | (with_reducible exact ih1 _ _)
   | (with_reducible exact LeO.refl _)
   | (with_reducible exact LeO.none _)
   | (with_reducible refine LeO.ite ?_ ?_)
   | (with_reducible refine LeO.bind ?_ (fun _=>?_))
   | exact ih0 _ _
   | exact ih1 _ _
   | exact LeO.none _
   | refine LeO.ite ?_ ?_
   | refine LeO.bind ?_ (fun _=>?_)
theorem impl_isNameWord.L0 {P:Prop} (h:P:=by
  go_wp2_with (first|((with_reducible refine gate_callee (f:=82) rfl ?_);refine goesL_ (some 32) rfl rfl Tryz.func82 (by kernel_rfl) rfl #[.int .u8 (bt a0 aJ)] rfl au58 ?_;(with_reducible refine (impl_isLetter.calls (bt a0 aJ) _ _ sJ.out).mono ?_);rintro e w' ⟨rfl,⟨nd,rfl⟩⟩;refine ⟨_,rfl,?_⟩;have jY:0≤(aJ:Int):=od au103;have jO:aJ<(a0.size:Int):=od au103;have Bm:=bt_at a0 aJ;replace jY:=eq_true jY;replace jO:=eq_true jO;have p28:0≤(aJ:Int):=od au103;have wD:aJ<(a0.size:Int):=od au103;have Nt:=bt_at a0 aJ;replace p28:=eq_true p28;replace wD:=eq_true wD;have p33:0≤((gY):Int):=od au103;have ED:(gY)<(a0.size:Int):=od au103;have Uz:=bt_at a0 (gY);replace p33:=eq_true p33;replace ED:=eq_true ED)|(go_at_call 82;(with_reducible refine (impl_isLetter.calls (bt a0 (gY)) _ _ Uh.out).mono ?_);rintro e w' ⟨rfl,⟨nd,rfl⟩⟩));go_ret
  first|(exact ⟨by first|rfl|(simp;done)|(simp only [← sK] <;> (first|rfl|simp))|(simp [*];done),by repeat (first|exact Drawn0.refl _|apply Drawn0.step)⟩)|(exact ax1)):P:=h
theorem impl_isNameWord.calls (k:Nat) (a0:ByteArray) (r:Bool) (w:World) (h:impl_isNameWord.f k a0=some r) :
  Calls Tryz.prog 68 #[.string a0] w fun e w'=>e=.returned (.bool r)∧Drawn0 w w':=by
 have H:((impl_inside.f (a0.size:Int) 1 12).bind fun nH=>(if nH=true then (if 0≤(wrap64 ((a0.size:Int)-1)) then (if (wrap64 ((a0.size:Int)-1))<(a0.size:Int) then ((impl_isLetter.f (bt a0 (wrap64 ((a0.size:Int)-1)))).bind fun tW=>(if tW=true then (if 0<(a0.size:Int) then ((impl_isLetter.f (bt a0 0)).bind fun wM=>(impl_isNameWord.j0 k a0 (!wM))) else (none)) else (impl_isNameWord.j0 k a0 true))) else (none)) else (none)) else (impl_isNameWord.j0 k a0 true)))=some r:=h;clear h;have jZ:=am H;clear H;go_enter Tryz.func68,Tryz.ntmps68
 go_upto_region 1 with (fail)
 go_cut [22] (fun v22 wc=>∃ (kq:Nat) (xA:Bool),v22=.bool xA∧Aside0 (impl_isNameWord.j0 kq a0 xA=some r)∧Aside0 (kq≤k)∧Drawn0 w wc)
 case first =>
  have H:=jZ.out;clear jZ;replace H:=obz H;obtain ⟨nH,dR,H⟩:=H
  try dsimp only at H
  have A3:=am dR;clear dR;by_cases c4:nH=true
  ·
   subst c4;replace H:=(if_pos rfl).symm.trans H
   obtain ⟨B7,Ts⟩:∃ j_:Int,(wrap64 ((a0.size:Int)-1))=j_:=⟨_,rfl⟩
   replace H:(if 0≤(B7) then (if (B7)<(a0.size:Int) then ((impl_isLetter.f (bt a0 (B7))).bind fun tW=>(if tW=true then (if 0<(a0.size:Int) then ((impl_isLetter.f (bt a0 0)).bind fun wM=>(impl_isNameWord.j0 k a0 (!wM))) else (none)) else (impl_isNameWord.j0 k a0 true))) else (none)) else (none))=some r:=by first|(rw [Ts] at H;exact H)|(simp only [Ts] at H ⊢;exact H)
   (try rw [Ts] at A3)
   have hji5w:(IntKind.i64.wrap ((a0.size:Int)-1))=B7:=(i64_w _).trans Ts;by_cases c6:0≤(B7)
   ·
    rw [if_pos c6] at H;have c6b0:=dt c6;clear c6
    (first|rw [c6b0]|(simp only [i64_w,i32_w];rw [c6b0])|skip)
    by_cases c7:(B7)<(a0.size:Int)
    ·
     rw [if_pos c7] at H;have c7b0:=dt c7;clear c7;replace H:=obz H;obtain ⟨tW,qP,H⟩:=H
     try dsimp only at H
     have A9:=am qP;clear qP;by_cases c10:tW=true
     ·
      subst c10;replace H:=(if_pos rfl).symm.trans H;by_cases cO:0<(a0.size:Int)
      ·
       rw [if_pos cO] at H;have c11b0:=dt cO;have c11b1:decide (0<a0.size)=true:=dt (by omega);clear cO;replace H:=obz H;obtain ⟨wM,sL,H⟩:=H
       try dsimp only at H
       have EE:=am sL;clear sL;have H':=am H;clear H;go_wp2_with (first|((with_reducible refine gate_callee (f:=32) rfl ?_);refine goesL_ (some 6) rfl rfl Tryz.func32 (by kernel_rfl) rfl #[.int .i64 (a0.size:Int),.int .i64 1,.int .i64 12] rfl au58 ?_;(with_reducible refine (impl_inside.calls (a0.size:Int) 1 12 _ _ A3.out).mono ?_);rintro e w' ⟨rfl,⟨nd,rfl⟩⟩;refine ⟨_,rfl,?_⟩;have p8:0≤((B7):Int):=od au103;have q8:(B7)<(a0.size:Int):=od au103;have Ul:=bt_at a0 (B7);replace p8:=eq_true p8;replace q8:=eq_true q8)|(go_at_call 82;(with_reducible refine (impl_isLetter.calls (bt a0 (B7)) _ _ A9.out).mono ?_);rintro e w' ⟨rfl,⟨nd,rfl⟩⟩;have B4:0≤(0:Int):=(by omega);have wW:0<a0.size:=(by have:(0:Int)<(a0.size:Int):=od au103;omega);have Kx:∀ h:0<a0.size,((a0[0]'h).toNat:Int)=bt a0 0:=bt_at a0 0;clear B4;have UG:(0<(a0.size:Int))=True:=eq_true (od au103);replace wW:=eq_true wW)|(go_at_call 82;(with_reducible refine (impl_isLetter.calls (bt a0 0) wM _ EE.out).mono ?_);rintro e w' ⟨rfl,⟨nd,rfl⟩⟩));go_meet
       case rel=>exact ⟨_,(!wM),au104,H',⟨by first|omega|exact Nat.le_refl _⟩,by repeat (first|exact Drawn0.refl _|apply Drawn0.step)⟩
      · rw [if_neg cO] at H;exact absurd H (by simp)
     ·
      replace c10:=Bool.eq_false_iff.mpr c10;subst c10;replace H:=(if_neg (show ¬ (false=true) by decide)).symm.trans H;have H':=am H;clear H;go_wp2_with (first|((with_reducible refine gate_callee (f:=32) rfl ?_);refine goesL_ (some 6) rfl rfl Tryz.func32 (by kernel_rfl) rfl #[.int .i64 (a0.size:Int),.int .i64 1,.int .i64 12] rfl au58 ?_;(with_reducible refine (impl_inside.calls (a0.size:Int) 1 12 _ _ A3.out).mono ?_);rintro e w' ⟨rfl,⟨nd,rfl⟩⟩;refine ⟨_,rfl,?_⟩;have p8:0≤((B7):Int):=od au103;have q8:(B7)<(a0.size:Int):=od au103;have Ul:=bt_at a0 (B7);replace p8:=eq_true p8;replace q8:=eq_true q8)|(go_at_call 82;(with_reducible refine (impl_isLetter.calls (bt a0 (B7)) _ _ A9.out).mono ?_);rintro e w' ⟨rfl,⟨nd,rfl⟩⟩));go_meet
      case rel=>exact ⟨_,(true),au104,H',⟨by first|omega|exact Nat.le_refl _⟩,by repeat (first|exact Drawn0.refl _|apply Drawn0.step)⟩
    · rw [if_neg c7] at H;exact absurd H (by simp)
   · rw [if_neg c6] at H;exact absurd H (by simp)
  ·
   replace c4:=Bool.eq_false_iff.mpr c4;subst c4;replace H:=(if_neg (show ¬ (false=true) by decide)).symm.trans H;have H':=am H;clear H;go_wp2_with (first|((with_reducible refine gate_callee (f:=32) rfl ?_);refine goesL_ (some 6) rfl rfl Tryz.func32 (by kernel_rfl) rfl #[.int .i64 (a0.size:Int),.int .i64 1,.int .i64 12] rfl au58 ?_;(with_reducible refine (impl_inside.calls (a0.size:Int) 1 12 _ _ A3.out).mono ?_);rintro e w' ⟨rfl,⟨nd,rfl⟩⟩;refine ⟨_,rfl,?_⟩));go_meet
   case rel=>exact ⟨_,(true),au104,H',⟨by first|omega|exact Nat.le_refl _⟩,by repeat (first|exact Drawn0.refl _|apply Drawn0.step)⟩
 case rest =>
  clear jZ
  try clear c1
  try clear p1
  try clear q1
  try clear hx1
  try clear qi1
  try clear p2
  try clear c3
  try clear c4
  try clear c6
  try clear c6b0
  try clear p6
  try clear c7
  try clear c7b0
  try clear p8
  try clear q8
  try clear Ul
  try clear c10
  try clear cO
  try clear c11b0
  try clear c11b1
  try clear B4
  try clear wW
  try clear Kx
  try clear UG
  try clear B4
  try clear p8
  try clear wW
  try clear q8
  obtain ⟨kq,xA,rfl,HA,kA,⟨mc1,rfl⟩⟩:=hcut
  cases kq with
  | zero=>exact absurd HA.out (by simp [impl_isNameWord.j0])
  | succ gS =>
   have H:=HA.out;clear HA;simp only [impl_isNameWord.j0] at H;by_cases eY:xA=true
   · subst eY;replace H:=(if_pos rfl).symm.trans H;obtain rfl:=ojz H;exact impl_isNameWord.L0
   ·
    replace eY:=Bool.eq_false_iff.mpr eY;subst eY;replace H:=(if_neg (show ¬ (false=true) by decide)).symm.trans H;have H':=am H;clear H;go_wp2
    go_loopg [3] gS (fun kq v3 w'=>∃ (aJ:Int),v3=.int .i64 aJ∧Aside0 (impl_isNameWord.l0 kq a0 aJ=some r)∧Aside0 (kq≤gS)∧Drawn0 w w')
    case atStart=>exact ⟨(0),au104,H',⟨Nat.le_refl _⟩,by repeat (first|exact Drawn0.refl _|apply Drawn0.step)⟩
    case round =>
     clear H'
     try clear c1
     try clear p1
     try clear q1
     try clear hx1
     try clear qi1
     try clear p2
     try clear c3
     try clear c4
     try clear c6
     try clear c6b0
     try clear p6
     try clear c7
     try clear c7b0
     try clear p8
     try clear q8
     try clear Ul
     try clear c10
     try clear cO
     try clear c11b0
     try clear c11b1
     try clear B4
     try clear wW
     try clear Kx
     try clear UG
     try clear eY
     try clear p1
     try clear B4
     try clear p2
     try clear p6
     try clear p8
     try clear q1
     try clear wW
     try clear q8
     obtain ⟨aJ,rfl,HA,HK2,⟨m2,rfl⟩⟩:=hrel
     cases gk with
     | zero=>exact absurd HA.out (by simp [impl_isNameWord.l0])
     | succ k2 =>
      have H:=HA.out;clear HA;simp only [impl_isNameWord.l0] at H;by_cases dJ:aJ<(a0.size:Int)
      ·
       rw [if_pos dJ] at H;have c15b0:=dt dJ;clear dJ;by_cases dB:0≤aJ
       ·
        rw [if_pos dB] at H;have c16b0:=dt dB;clear dB;replace H:=obz H;obtain ⟨tU,EF,H⟩:=H
        try dsimp only at H
        have sJ:=am EF;clear EF;by_cases fO:tU=true
        ·
         subst fO;replace H:=(if_pos rfl).symm.trans H;have H':=am H;clear H;have iH:0≤(aJ:Int):=od au103;have iI:aJ<(a0.size:Int):=od au103;have zS:=bt_at a0 aJ;replace iH:=eq_true iH;replace iI:=eq_true iI;go_wp2_with (first|((with_reducible refine gate_callee (f:=82) rfl ?_);refine goesL_ (some 32) rfl rfl Tryz.func82 (by kernel_rfl) rfl #[.int .u8 (bt a0 aJ)] rfl au58 ?_;(with_reducible refine (impl_isLetter.calls (bt a0 aJ) _ _ sJ.out).mono ?_);rintro e w' ⟨rfl,⟨nd,rfl⟩⟩;refine ⟨_,rfl,?_⟩))
         go_roundg k2
         case measure=>have:=kA.out;have:=HK2.out;omega
         case rel=>exact ⟨(wrap64 (aJ+1)),au104,H',⟨by have:=kA.out;have:=HK2.out;omega⟩,by repeat (first|exact Drawn0.refl _|apply Drawn0.step)⟩
        ·
         replace fO:=Bool.eq_false_iff.mpr fO;subst fO;replace H:=(if_neg (show ¬ (false=true) by decide)).symm.trans H;by_cases gT:(bt a0 aJ)=45
         ·
          rw [if_pos gT] at H;have c21b0:=qt gT;have c21b1:=bfz gT;clear gT
          obtain ⟨gZ,vZ⟩:∃ j_:Int,(wrap64 (aJ-1))=j_:=⟨_,rfl⟩
          replace H:(if 0≤(gZ) then (if (gZ)<(a0.size:Int) then ((impl_isLetter.f (bt a0 (gZ))).bind fun zW=>(if zW=true then (impl_isNameWord.l0 k2 a0 (wrap64 (aJ+1))) else (some false))) else (none)) else (none))=some r:=by first|(rw [vZ] at H;exact H)|(simp only [vZ] at H ⊢;exact H)
          (try rw [vZ] at sJ)
          have hji22w:(IntKind.i64.wrap (aJ-1))=gZ:=(i64_w _).trans vZ;by_cases kG:0≤(gZ)
          ·
           rw [if_pos kG] at H;have c23b0:=dt kG;clear kG;by_cases nB:(gZ)<(a0.size:Int)
           ·
            rw [if_pos nB] at H;have c24b0:=dt nB;clear nB;replace H:=obz H;obtain ⟨zW,Nv,H⟩:=H
            try dsimp only at H
            have Ui:=am Nv;clear Nv;by_cases nG:zW=true
            ·
             subst nG;replace H:=(if_pos rfl).symm.trans H;have H':=am H;clear H;have iH:0≤(aJ:Int):=od au103;have iI:aJ<(a0.size:Int):=od au103;have zS:=bt_at a0 aJ;replace iH:=eq_true iH;replace iI:=eq_true iI;go_wp2_with (first|((with_reducible refine gate_callee (f:=82) rfl ?_);refine goesL_ (some 32) rfl rfl Tryz.func82 (by kernel_rfl) rfl #[.int .u8 (bt a0 aJ)] rfl au58 ?_;(with_reducible refine (impl_isLetter.calls (bt a0 aJ) _ _ sJ.out).mono ?_);rintro e w' ⟨rfl,⟨nd,rfl⟩⟩;refine ⟨_,rfl,?_⟩;have jY:0≤(aJ:Int):=od au103;have jO:aJ<(a0.size:Int):=od au103;have Bm:=bt_at a0 aJ;replace jY:=eq_true jY;replace jO:=eq_true jO;have p25:0≤((gZ):Int):=od au103;have EG:(gZ)<(a0.size:Int):=od au103;have UA:=bt_at a0 (gZ);replace p25:=eq_true p25;replace EG:=eq_true EG)|(go_at_call 82;(with_reducible refine (impl_isLetter.calls (bt a0 (gZ)) _ _ Ui.out).mono ?_);rintro e w' ⟨rfl,⟨nd,rfl⟩⟩))
             go_roundg k2
             case measure=>have:=kA.out;have:=HK2.out;omega
             case rel=>exact ⟨(wrap64 (aJ+1)),au104,H',⟨by have:=kA.out;have:=HK2.out;omega⟩,by repeat (first|exact Drawn0.refl _|apply Drawn0.step)⟩
            · replace nG:=Bool.eq_false_iff.mpr nG;subst nG;replace H:=(if_neg (show ¬ (false=true) by decide)).symm.trans H;obtain rfl:=ojz H;have iH:0≤(aJ:Int):=od au103;have iI:aJ<(a0.size:Int):=od au103;have zS:=bt_at a0 aJ;replace iH:=eq_true iH;replace iI:=eq_true iI;go_wp2_with (first|((with_reducible refine gate_callee (f:=82) rfl ?_);refine goesL_ (some 32) rfl rfl Tryz.func82 (by kernel_rfl) rfl #[.int .u8 (bt a0 aJ)] rfl au58 ?_;(with_reducible refine (impl_isLetter.calls (bt a0 aJ) _ _ sJ.out).mono ?_);rintro e w' ⟨rfl,⟨nd,rfl⟩⟩;refine ⟨_,rfl,?_⟩;have jY:0≤(aJ:Int):=od au103;have jO:aJ<(a0.size:Int):=od au103;have Bm:=bt_at a0 aJ;replace jY:=eq_true jY;replace jO:=eq_true jO;have p25:0≤((gZ):Int):=od au103;have EG:(gZ)<(a0.size:Int):=od au103;have UA:=bt_at a0 (gZ);replace p25:=eq_true p25;replace EG:=eq_true EG)|(go_at_call 82;(with_reducible refine (impl_isLetter.calls (bt a0 (gZ)) _ _ Ui.out).mono ?_);rintro e w' ⟨rfl,⟨nd,rfl⟩⟩));go_ret;exact ax2
           · rw [if_neg nB] at H;exact absurd H (by simp)
          · rw [if_neg kG] at H;exact absurd H (by simp)
         ·
          rw [if_neg gT] at H;have c21b0:=qf gT;have c21b1:=bu gT;by_cases lG:(bt a0 aJ)=39
          ·
           rw [if_pos lG] at H;have c29b0:=qt lG;have c29b1:=bfz lG;clear lG
           obtain ⟨gY,sK⟩:∃ j_:Int,(wrap64 (aJ-1))=j_:=⟨_,rfl⟩
           replace H:(if 0≤(gY) then (if (gY)<(a0.size:Int) then ((impl_isLetter.f (bt a0 (gY))).bind fun kU=>(if kU=true then (impl_isNameWord.l0 k2 a0 (wrap64 (aJ+1))) else (some false))) else (none)) else (none))=some r:=by first|(rw [sK] at H;exact H)|(simp only [sK] at H ⊢;exact H)
           (try rw [sK] at sJ)
           have hji30w:(IntKind.i64.wrap (aJ-1))=gY:=(i64_w _).trans sK;by_cases kB:0≤(gY)
           ·
            rw [if_pos kB] at H;have c31b0:=dt kB;clear kB;by_cases mP:(gY)<(a0.size:Int)
            ·
             rw [if_pos mP] at H;have c32b0:=dt mP;clear mP;replace H:=obz H;obtain ⟨kU,Nw,H⟩:=H
             try dsimp only at H
             have Uh:=am Nw;clear Nw;by_cases Jv:kU=true
             ·
              subst Jv;replace H:=(if_pos rfl).symm.trans H;have H':=am H;clear H;have iH:0≤(aJ:Int):=od au103;have iI:aJ<(a0.size:Int):=od au103;have zS:=bt_at a0 aJ;replace iH:=eq_true iH;replace iI:=eq_true iI;go_wp2_with (first|((with_reducible refine gate_callee (f:=82) rfl ?_);refine goesL_ (some 32) rfl rfl Tryz.func82 (by kernel_rfl) rfl #[.int .u8 (bt a0 aJ)] rfl au58 ?_;(with_reducible refine (impl_isLetter.calls (bt a0 aJ) _ _ sJ.out).mono ?_);rintro e w' ⟨rfl,⟨nd,rfl⟩⟩;refine ⟨_,rfl,?_⟩;have jY:0≤(aJ:Int):=od au103;have jO:aJ<(a0.size:Int):=od au103;have Bm:=bt_at a0 aJ;replace jY:=eq_true jY;replace jO:=eq_true jO;have p28:0≤(aJ:Int):=od au103;have wD:aJ<(a0.size:Int):=od au103;have Nt:=bt_at a0 aJ;replace p28:=eq_true p28;replace wD:=eq_true wD;have p33:0≤((gY):Int):=od au103;have ED:(gY)<(a0.size:Int):=od au103;have Uz:=bt_at a0 (gY);replace p33:=eq_true p33;replace ED:=eq_true ED)|(go_at_call 82;(with_reducible refine (impl_isLetter.calls (bt a0 (gY)) _ _ Uh.out).mono ?_);rintro e w' ⟨rfl,⟨nd,rfl⟩⟩))
              go_roundg k2
              case measure=>have:=kA.out;have:=HK2.out;omega
              case rel=>exact ⟨(wrap64 (aJ+1)),au104,H',⟨by have:=kA.out;have:=HK2.out;omega⟩,by repeat (first|exact Drawn0.refl _|apply Drawn0.step)⟩
             · replace Jv:=Bool.eq_false_iff.mpr Jv;subst Jv;replace H:=(if_neg (show ¬ (false=true) by decide)).symm.trans H;obtain rfl:=ojz H;have iH:0≤(aJ:Int):=od au103;have iI:aJ<(a0.size:Int):=od au103;have zS:=bt_at a0 aJ;replace iH:=eq_true iH;replace iI:=eq_true iI;exact impl_isNameWord.L0
            · rw [if_neg mP] at H;exact absurd H (by simp)
           · rw [if_neg kB] at H;exact absurd H (by simp)
          · rw [if_neg lG] at H;have c29b0:=qf lG;have c29b1:=bu lG;obtain rfl:=ojz H;have iH:0≤(aJ:Int):=od au103;have iI:aJ<(a0.size:Int):=od au103;have zS:=bt_at a0 aJ;replace iH:=eq_true iH;replace iI:=eq_true iI;go_wp2_with (first|((with_reducible refine gate_callee (f:=82) rfl ?_);refine goesL_ (some 32) rfl rfl Tryz.func82 (by kernel_rfl) rfl #[.int .u8 (bt a0 aJ)] rfl au58 ?_;(with_reducible refine (impl_isLetter.calls (bt a0 aJ) _ _ sJ.out).mono ?_);rintro e w' ⟨rfl,⟨nd,rfl⟩⟩;refine ⟨_,rfl,?_⟩;have jY:0≤(aJ:Int):=od au103;have jO:aJ<(a0.size:Int):=od au103;have Bm:=bt_at a0 aJ;replace jY:=eq_true jY;replace jO:=eq_true jO;have p28:0≤(aJ:Int):=od au103;have wD:aJ<(a0.size:Int):=od au103;have Nt:=bt_at a0 aJ;replace p28:=eq_true p28;replace wD:=eq_true wD));go_ret;exact ax1
       · rw [if_neg dB] at H;exact absurd H (by simp)
      · rw [if_neg dJ] at H;have c15b0:=df dJ;clear dJ;obtain rfl:=ojz H;exact impl_isNameWord.L0
def impl_isGreatWord.f (k:Nat) (a0:ByteArray):Option (Bool):=(impl_isNameWord.f k a0).bind fun pW=>(if pW=true then (if 0<(a0.size:Int) then ((impl_isUpper.f (bt a0 0)).bind fun DF=>(some DF)) else (none)) else (some false))
theorem impl_isGreatWord.mono:∀ a0 k,LeO (impl_isGreatWord.f k a0) (impl_isGreatWord.f (k+1) a0):=by
 intro a0 k;unfold impl_isGreatWord.f
 repeat' first
   | (with_reducible exact impl_isNameWord.mono _ _)
   | (with_reducible exact LeO.refl _)
   | (with_reducible exact LeO.none _)
   | (with_reducible refine LeO.ite ?_ ?_)
   | (with_reducible refine LeO.bind ?_ (fun _=>?_))
   | exact impl_isNameWord.mono _ _
   | exact LeO.none _
   | refine LeO.ite ?_ ?_
   | refine LeO.bind ?_ (fun _=>?_)
theorem impl_isGreatWord.calls (k:Nat) (a0:ByteArray) (r:Bool) (w:World) (h:impl_isGreatWord.f k a0=some r) :
  Calls Tryz.prog 66 #[.string a0] w fun e w'=>e=.returned (.bool r)∧Drawn0 w w':=by
 have H:((impl_isNameWord.f k a0).bind fun pW=>(if pW=true then (if 0<(a0.size:Int) then ((impl_isUpper.f (bt a0 0)).bind fun DF=>(some DF)) else (none)) else (some false)))=some r:=h;clear h;replace H:=obz H;obtain ⟨pW,fD,H⟩:=H
 try dsimp only at H
 have A2:=am fD;clear fD;by_cases c3:pW=true
 ·
  subst c3;replace H:=(if_pos rfl).symm.trans H;by_cases c4:0<(a0.size:Int)
  ·
   rw [if_pos c4] at H;have c4b0:=dt c4;have c4b1:decide (0<a0.size)=true:=dt (by omega);clear c4;replace H:=obz H;obtain ⟨DF,nF,H⟩:=H
   try dsimp only at H
   have A6:=am nF;clear nF;obtain rfl:=ojz H;go_enter Tryz.func66,Tryz.ntmps66;go_wp2_with (first|((with_reducible refine gate_callee (f:=68) rfl ?_);refine goesL_ (some 4) rfl rfl Tryz.func68 (by kernel_rfl) rfl #[.string a0] rfl au58 ?_;(with_reducible refine (impl_isNameWord.calls k a0 true _ A2.out).mono ?_);rintro e w' ⟨rfl,⟨nd,rfl⟩⟩;refine ⟨_,rfl,?_⟩;have p5:0≤(0:Int):=(by omega);have q5:0<a0.size:=(by have:(0:Int)<(a0.size:Int):=od au103;omega);have Qf:∀ h:0<a0.size,((a0[0]'h).toNat:Int)=bt a0 0:=bt_at a0 0;clear p5;have qi5:(0<(a0.size:Int))=True:=eq_true (od au103);replace q5:=eq_true q5)|(go_at_call 80;(with_reducible refine (impl_isUpper.calls (bt a0 0) DF _ A6.out).mono ?_);rintro e w' ⟨rfl,⟨nd,rfl⟩⟩));go_ret;exact ax1
  · rw [if_neg c4] at H;exact absurd H (by simp)
 · replace c3:=Bool.eq_false_iff.mpr c3;subst c3;replace H:=(if_neg (show ¬ (false=true) by decide)).symm.trans H;obtain rfl:=ojz H;go_enter Tryz.func66,Tryz.ntmps66;go_wp2_with (first|((with_reducible refine gate_callee (f:=68) rfl ?_);refine goesL_ (some 4) rfl rfl Tryz.func68 (by kernel_rfl) rfl #[.string a0] rfl au58 ?_;(with_reducible refine (impl_isNameWord.calls k a0 false _ A2.out).mono ?_);rintro e w' ⟨rfl,⟨nd,rfl⟩⟩;refine ⟨_,rfl,?_⟩));go_ret;exact ax1
end Go.Proofs.YtcbhlghofihjcaaGreatDoor.G

namespace Go.Proofs.YtcbhlghofihjcaaGreatDoor.G
open Go.RowKit Go.Proofs.YtcbhlghofihjcaaGreatDoorW.PrintWords Go.Proofs.YtcbhlghofihjcaaGreatDoorW.PrintLast Go.Proofs.YtcbhlghofihjcaaGreatDoor.B
set_option linter.unusedVariables false
set_option linter.unusedSimpArgs false
def upD (c:Int):Bool:=decide (65≤c) && decide (c≤90)
def loD (c:Int):Bool:=decide (97≤c) && decide (c≤122)
def leD (c:Int):Bool:=upD c || loD c
def inD (n:Nat):Bool:=decide (1≤n) && decide (n≤12)
theorem spec_up (c:Int):spec_l2Upper.f c=some (upD c):=by unfold spec_l2Upper.f upD;by_cases h:65≤c <;> simp [h]
theorem spec_lo (c:Int):spec_l2Lower.f c=some (loD c):=by unfold spec_l2Lower.f loD;by_cases h:97≤c <;> simp [h]
theorem impl_up (c:Int):impl_isUpper.f c=some (upD c):=by unfold impl_isUpper.f upD;by_cases h:65≤c <;> simp [h]
theorem impl_lo (c:Int):impl_isLower.f c=some (loD c):=by unfold impl_isLower.f loD;by_cases h:97≤c <;> simp [h]
theorem spec_le (c:Int):spec_l2Letter.f c=some (leD c):=by unfold spec_l2Letter.f leD;rw [spec_up,spec_lo];cases upD c <;> simp
theorem impl_le (c:Int):impl_isLetter.f c=some (leD c):=by unfold impl_isLetter.f leD;rw [impl_up,impl_lo];cases upD c <;> simp
theorem in12 (n:Nat):(if (n:Int) ≥ 1 then some (decide ((n:Int)≤12)) else some false)=some (inD n):=by
  unfold inD;by_cases h:1≤n
  · rw [if_pos (by omega)]
    congr 1
    rw [dt h,Bool.true_and,decide_eq_decide];omega
  · rw [if_neg (by omega)];simp [h]
theorem spec_in (s:ByteArray):spec_l1In.f (s.size:Int) 1 12=some (inD s.size):=in12 s.size
theorem impl_in (s:ByteArray):impl_inside.f (s.size:Int) 1 12=some (inD s.size):=in12 s.size
theorem inD_iff {n:Nat}:inD n=true ↔ 1≤n∧n≤12:=by simp [inD]
def okD (s:ByteArray) (i:Nat):Bool:=leD (bt s i) || ((decide (bt s i=45) || decide (bt s i=39)) && leD (bt s ((i:Int)-1)))
def wlD (s:ByteArray):Nat→Nat→Bool
  | 0,_=>true
  | d+1,i=>okD s i && wlD s d (i+1)
def wordD (s:ByteArray):Bool:=inD s.size && ((leD (bt s 0) && leD (bt s ((s.size:Int)-1))) && wlD s (s.size-1) 1)
def greatD (s:ByteArray):Bool:=wordD s && upD (bt s 0)
theorem word_step (s:ByteArray) (i k:Nat) (h1:1≤i) (h2:i<s.size) (h3:s.size≤12):spec_l2Word.l0 (k+1) s (i:Int)=if okD s i=true then spec_l2Word.l0 k s ((i+1:Nat):Int) else some false:=by
  have hw:wrap64 ((i:Int)+1)=((i+1:Nat):Int):=by rw [w64 (by omega) (by omega)];rfl
  have hw':wrap64 ((i:Int)-1)=(i:Int)-1:=w64 (by omega) (by omega)
  have a1:(0:Int)≤(i:Int)-1:=by omega
  have a2:(i:Int)-1<(s.size:Int):=by omega
  simp only [spec_l2Word.l0];rw [if_pos (show (i:Int)<(s.size:Int) by omega),if_pos (show (0:Int)≤(i:Int) by omega),spec_le,hw,hw'];simp only [Option.bind_some,if_pos a1,if_pos a2,spec_le];unfold okD;generalize ((i+1:Nat):Int)=j
  cases leD (bt s i) <;> cases leD (bt s ((i:Int)-1)) <;> by_cases c:bt s i=45 <;> by_cases d:bt s i=39 <;> simp [c,d]
theorem word_loop (s:ByteArray) (hs:s.size≤12) (d:Nat):∀ i:Nat,1≤i→i≤s.size→s.size-i=d→Ev (fun k=>spec_l2Word.l0 k s (i:Int)) (wlD s d i):=by
  induction d with
  | zero =>
    intro i h1 h2 hd;refine Ev.step (f:=fun _=>some true) (fun k=>?_) (Ev.now _);simp only [spec_l2Word.l0];rw [if_neg (by omega)]
  | succ d ih =>
    intro i h1 h2 hd;refine Ev.step (f:=fun k=>if okD s i=true then spec_l2Word.l0 k s ((i+1:Nat):Int) else some false) (fun k=>word_step s i k h1 (by omega) hs) ?_;unfold wlD
    cases h:okD s i with
    | true=>exact ev_pos rfl (ev_eq (ih (i+1) (by omega) (by omega) (by omega)) (by simp))
    | false=>exact ev_neg (by simp) (ev_eq (Ev.now _) (by simp))
theorem loops_eq (s:ByteArray) (k:Nat):∀ i:Int,impl_isNameWord.l0 k s i=spec_l2Word.l0 k s i:=by
  induction k with
  | zero=>intro i;simp [impl_isNameWord.l0,spec_l2Word.l0]
  | succ k ih=>intro i;simp only [impl_isNameWord.l0,spec_l2Word.l0,impl_le,spec_le,ih]
theorem spec_word (s:ByteArray):Ev (fun k=>spec_l2Word.f k s) (wordD s):=by
  unfold spec_l2Word.f wordD
  cases h:inD s.size with
  | false =>
    refine Ev.step (f:=fun _=>some false) (fun k=>?_) (ev_eq (Ev.now _) (by simp));simp only [spec_in,h,Option.bind_some,spec_l2Word.j0];simp
  | true =>
    obtain ⟨h1,h2⟩:=inD_iff.1 h;have hw:wrap64 ((s.size:Int)-1)=(s.size:Int)-1:=w64 (by omega) (by omega);refine Ev.step (f:=fun k=>if (leD (bt s 0) && leD (bt s ((s.size:Int)-1)))=true then spec_l2Word.l0 k s ((1:Nat):Int) else some false) (fun k=>?_) ?_
    · have a1:(0:Int)<(s.size:Int):=by omega
      have a2:(0:Int)≤(s.size:Int)-1:=by omega
      have a3:(s.size:Int)-1<(s.size:Int):=by omega
      simp only [spec_in,h,Option.bind_some,if_pos a1,if_pos a2,if_pos a3,hw,spec_le,spec_l2Word.j0]
      cases leD (bt s 0) <;> cases leD (bt s ((s.size:Int)-1)) <;> simp
    · cases h3:(leD (bt s 0) && leD (bt s ((s.size:Int)-1))) with
      | true=>exact ev_pos rfl (ev_eq (word_loop s h2 (s.size-1) 1 (by omega) (by omega) rfl) (by simp))
      | false=>exact ev_neg (by simp) (ev_eq (Ev.now _) (by simp))
theorem impl_word (s:ByteArray):Ev (fun k=>impl_isNameWord.f k s) (wordD s):=by
  unfold impl_isNameWord.f wordD
  cases h:inD s.size with
  | false =>
    refine Ev.step (f:=fun _=>some false) (fun k=>?_) (ev_eq (Ev.now _) (by simp));simp only [impl_in,h,Option.bind_some,impl_isNameWord.j0];simp
  | true =>
    obtain ⟨h1,h2⟩:=inD_iff.1 h;have hw:wrap64 ((s.size:Int)-1)=(s.size:Int)-1:=w64 (by omega) (by omega);refine Ev.step (f:=fun k=>if (leD (bt s 0) && leD (bt s ((s.size:Int)-1)))=true then spec_l2Word.l0 k s ((0:Nat):Int) else some false) (fun k=>?_) ?_
    · have a1:(0:Int)<(s.size:Int):=by omega
      have a2:(0:Int)≤(s.size:Int)-1:=by omega
      have a3:(s.size:Int)-1<(s.size:Int):=by omega
      simp only [impl_in,h,Option.bind_some,if_pos a1,if_pos a2,if_pos a3,hw,impl_le,impl_isNameWord.j0,loops_eq]
      cases leD (bt s 0) <;> cases leD (bt s ((s.size:Int)-1)) <;> simp
    · cases h3:(leD (bt s 0) && leD (bt s ((s.size:Int)-1))) with
      | true =>
        refine ev_pos rfl (Ev.step (f:=fun k=>spec_l2Word.l0 k s ((1:Nat):Int)) (fun k=>?_) (ev_eq (word_loop s h2 (s.size-1) 1 (by omega) (by omega) rfl) (by simp)))
        have h0:leD (bt s 0)=true:=by simp at h3;exact h3.1
        simp only [spec_l2Word.l0];rw [if_pos (by omega),if_pos (by omega),spec_le,show ((0:Nat):Int)=0 from rfl,h0,w64 (by omega) (by omega)];simp
      | false=>exact ev_neg (by simp) (ev_eq (Ev.now _) (by simp))
theorem word_in {s:ByteArray} (h:wordD s=true):1≤s.size∧s.size≤12:=by
  unfold wordD at h
  cases hi:inD s.size with
  | true=>exact inD_iff.1 hi
  | false=>rw [hi] at h;simp at h
theorem impl_great (s:ByteArray):Ev (fun k=>impl_isGreatWord.f k s) (greatD s):=by
  unfold impl_isGreatWord.f greatD;refine Ev.bind (impl_word s) ?_
  cases h:wordD s with
  | true =>
    have:=word_in h;refine ev_pos rfl (ev_pos (by omega) (ev_eq (Ev.congr (f:=fun _=>some (upD (bt s 0))) (fun k=>by rw [impl_up];rfl) (Ev.now _)) (by simp)))
  | false=>exact ev_neg (by simp) (ev_eq (Ev.now _) (by simp))
def lowF (s:ByteArray) (j:Nat):Bool:=((L s).drop j).all fun b=>loD (b.toNat:Int)
def lowD (s:ByteArray):Bool:=lowF s 0
def wsD (l:List ByteArray):Bool:=l.all fun w=>inD w.size && lowD w
theorem lowF_step (s:ByteArray) (j:Nat) (h:j<s.size):lowF s j=(loD (bt s j) && lowF s (j+1)):=by
  unfold lowF
  have hl:j<(L s).length:=by rw [L_len];exact h
  rw [List.drop_eq_getElem_cons hl,List.all_cons,bt_get s j h]
theorem lowF_end (s:ByteArray) (j:Nat) (h:s.size≤j):lowF s j=true:=by
  unfold lowF;rw [List.drop_of_length_le (by rw [L_len];exact h)];rfl
theorem low_all (s:ByteArray) (h:lowD s=true) (j:Nat) (hj:j<s.size):leD (bt s j)=true:=by
  have hl:j<(L s).length:=by rw [L_len];exact hj
  have:=List.all_eq_true.1 h _ (by rw [List.drop_zero];exact List.getElem_mem hl);rw [bt_get s j hj];unfold leD;rw [this];simp
theorem wl_low (s:ByteArray) (h:lowD s=true) (d:Nat):∀ i,i+d≤s.size→wlD s d i=true:=by
  induction d with
  | zero=>intro i _;rfl
  | succ d ih =>
    intro i hi;unfold wlD okD;rw [low_all s h i (by omega),ih (i+1) (by omega)];rfl
theorem word_low (s:ByteArray):(wordD s && lowD s)=(inD s.size && lowD s):=by
  cases h:lowD s with
  | false=>simp
  | true =>
    unfold wordD
    cases hi:inD s.size with
    | false=>simp
    | true =>
      obtain ⟨h1,h2⟩:=inD_iff.1 hi;have e1:=low_all s h 0 (by omega);have e2:=low_all s h (s.size-1) (by omega);rw [show ((s.size-1:Nat):Int)=(s.size:Int)-1 by omega] at e2;rw [show ((0:Nat):Int)=0 from rfl] at e1;rw [e1,e2,wl_low s h (s.size-1) 1 (by omega)];rfl
theorem rd_get (l:List ByteArray) (i:Nat) (h:i<l.length):rdOf ByteArray.empty l (i:Int)=l[i]:=by simp [rdOf,h]
theorem spec_inner (ws:List ByteArray) (i:Nat) (hi:i<ws.length) (hs:(ws[i]).size≤12) (hl:ws.length≤4611686018427387904) (T:Bool) (hT:Ev (fun k=>spec_l2Particle.l0 k ws ((i+1:Nat):Int)) T) (d:Nat):∀ j:Nat,j≤(ws[i]).size→(ws[i]).size-j=d →
    Ev (fun k=>spec_l2Particle.l1 k ws (i:Int) (j:Int)) (lowF ws[i] j && T):=by
  have hw:wrap64 ((i:Int)+1)=((i+1:Nat):Int):=by rw [w64 (by omega) (by omega)];rfl
  induction d with
  | zero =>
    intro j h1 hd;refine Ev.step (f:=fun k=>spec_l2Particle.l0 k ws ((i+1:Nat):Int)) (fun k=>?_) (ev_eq hT (by rw [lowF_end _ _ (by omega)];simp));simp only [spec_l2Particle.l1,rd_get ws i hi];rw [if_pos (by omega),if_pos (by omega),if_neg (by omega),hw]
  | succ d ih =>
    intro j h1 hd;rw [lowF_step _ j (by omega)]
    have hw':wrap64 ((j:Int)+1)=((j+1:Nat):Int):=by rw [w64 (by omega) (by omega)];rfl
    refine Ev.step (f:=fun k=>if loD (bt ws[i] (j:Int))=true then spec_l2Particle.l1 k ws (i:Int) ((j+1:Nat):Int) else some false) (fun k=>?_) ?_
    · simp only [spec_l2Particle.l1,rd_get ws i hi]
      rw [if_pos (by omega),if_pos (by omega),if_pos (by omega),if_pos (by omega),hw',spec_lo];rfl
    · cases h:loD (bt ws[i] (j:Int)) with
      | true=>exact ev_pos rfl (ev_eq (ih (j+1) (by omega) (by omega)) (by simp))
      | false=>exact ev_neg (by simp) (ev_eq (Ev.now _) (by simp))
theorem spec_outer (ws:List ByteArray) (hl:ws.length≤4611686018427387904) (d:Nat):∀ i:Nat,i≤ws.length→ws.length-i=d →
    Ev (fun k=>spec_l2Particle.l0 k ws (i:Int)) (wsD (ws.drop i) && decide (ws.length≤2)):=by
  induction d with
  | zero =>
    intro i h1 hd;refine Ev.step (f:=fun k=>some (decide ((ws.length:Int)≤2))) (fun k=>?_) (ev_eq (Ev.now _) ?_)
    · simp only [spec_l2Particle.l0];rw [if_neg (by omega)]
    · rw [List.drop_of_length_le (by omega)]
      show decide _=(true && decide _)
      rw [Bool.true_and,decide_eq_decide];omega
  | succ d ih =>
    intro i h1 hd
    have hi:i<ws.length:=by omega
    refine Ev.step (f:=fun k=>(spec_l2Word.f k ws[i]).bind fun t=>if t=true then spec_l2Particle.l1 k ws (i:Int) ((0:Nat):Int) else some false) (fun k=>?_) ?_
    · simp only [spec_l2Particle.l0,rd_get ws i hi]
      rw [if_pos (by omega),if_pos (by omega)];rfl
    · refine Ev.bind (spec_word _) ?_
      have e:(wsD (ws.drop i) && decide (ws.length≤2))=((wordD ws[i] && lowD ws[i]) && (wsD (ws.drop (i+1)) && decide (ws.length≤2))):=by
        rw [word_low,List.drop_eq_getElem_cons hi];simp only [wsD,List.all_cons,Bool.and_assoc]
      rw [e]
      cases h:wordD ws[i] with
      | true=>exact ev_pos rfl (ev_eq (spec_inner ws i hi (word_in h).2 hl _ (ih (i+1) (by omega) (by omega)) _ 0 (by omega) rfl) (by simp [lowD]))
      | false=>exact ev_neg (by simp) (ev_eq (Ev.now _) (by simp))
theorem impl_inner (ws ws':List ByteArray) (n i:Nat) (w:ByteArray) (hi:i<4611686018427387904) (hs:w.size≤12) (T:Bool) (hT:Ev (fun k=>impl_isParticle.l0 k ws ws' (n:Int) ((i+1:Nat):Int)) T) (d:Nat):∀ j:Nat,j≤w.size→w.size-j=d →
    Ev (fun k=>impl_isParticle.l1 k ws w (j:Int) ws' (n:Int) (i:Int)) (lowF w j && T):=by
  have hw:wrap64 ((i:Int)+1)=((i+1:Nat):Int):=by rw [w64 (by omega) (by omega)];rfl
  induction d with
  | zero =>
    intro j h1 hd;refine Ev.step (f:=fun k=>impl_isParticle.l0 k ws ws' (n:Int) ((i+1:Nat):Int)) (fun k=>?_) (ev_eq hT (by rw [lowF_end _ _ (by omega)];simp));simp only [impl_isParticle.l1];rw [if_neg (by omega),hw]
  | succ d ih =>
    intro j h1 hd;rw [lowF_step _ j (by omega)]
    have hw':wrap64 ((j:Int)+1)=((j+1:Nat):Int):=by rw [w64 (by omega) (by omega)];rfl
    refine Ev.step (f:=fun k=>if loD (bt w (j:Int))=true then impl_isParticle.l1 k ws w ((j+1:Nat):Int) ws' (n:Int) (i:Int) else some false) (fun k=>?_) ?_
    · simp only [impl_isParticle.l1]
      rw [if_pos (by omega),if_pos (by omega),hw',impl_lo];rfl
    · cases h:loD (bt w (j:Int)) with
      | true=>exact ev_pos rfl (ev_eq (ih (j+1) (by omega) (by omega)) (by simp))
      | false=>exact ev_neg (by simp) (ev_eq (Ev.now _) (by simp))
theorem impl_outer (ws:List ByteArray) (hl:ws.length≤4611686018427387904) (d:Nat):∀ i:Nat,i≤ws.length→ws.length-i=d →
    Ev (fun k=>impl_isParticle.l0 k ws ws (ws.length:Int) (i:Int)) (wsD (ws.drop i) && decide (ws.length≤2)):=by
  induction d with
  | zero =>
    intro i h1 hd;refine Ev.step (f:=fun k=>some (decide ((ws.length:Int)≤2))) (fun k=>?_) (ev_eq (Ev.now _) ?_)
    · simp only [impl_isParticle.l0];rw [if_neg (by omega)]
    · rw [List.drop_of_length_le (by omega)]
      show decide _=(true && decide _)
      rw [Bool.true_and,decide_eq_decide];omega
  | succ d ih =>
    intro i h1 hd
    have hi:i<ws.length:=by omega
    have e:(wsD (ws.drop i) && decide (ws.length≤2))=(inD (ws[i]).size && (lowD ws[i] && (wsD (ws.drop (i+1)) && decide (ws.length≤2)))):=by
      rw [List.drop_eq_getElem_cons hi];simp only [wsD,List.all_cons,Bool.and_assoc]
    rw [e];refine Ev.step (f:=fun k=>if inD (ws[i]).size=true then impl_isParticle.l1 k ws ws[i] ((0:Nat):Int) ws (ws.length:Int) (i:Int) else some false) (fun k=>?_) ?_
    · simp only [impl_isParticle.l0,rd_get ws i hi]
      rw [if_pos (by omega),if_pos (by omega),if_pos (by omega),impl_in];rfl
    · cases h:inD (ws[i]).size with
      | true=>exact ev_pos rfl (ev_eq (impl_inner ws ws ws.length i ws[i] (by omega) (inD_iff.1 h).2 _ (ih (i+1) (by omega) (by omega)) _ 0 (by omega) rfl) (by simp [lowD]))
      | false=>exact ev_neg (by simp) (ev_eq (Ev.now _) (by simp))
def wordsOf (s:ByteArray):List ByteArray:=(spl 32 (L s)).map mkB
def partD (s:ByteArray):Bool:=decide (s.size=0) || (wsD (wordsOf s) && decide ((wordsOf s).length≤2))
theorem wordsOf_len (s:ByteArray):(wordsOf s).length≤s.size+1:=by
  have:=spl_length 32 (L s);rw [L_len] at this;unfold wordsOf;rw [List.length_map];exact this
theorem nil_iff (s:ByteArray):s.toList=([]:List UInt8) ↔ s.size=0:=by rw [toList_L,size_pos_iff]
theorem split_sp (s:ByteArray) (c:UInt8) (hs:s.size≤4294967280):strings_Split.f s (⟨#[c]⟩:ByteArray)=some ((spl c (L s)).map mkB):=by
  have e:(⟨#[c]⟩:ByteArray)=mkB [c]:=rfl
  have h1:(mkB [c]).size=1:=by rw [size_mk];rfl
  have hc:=Lib.countB_le (mkB [c]) (by omega) s.size s (Nat.le_refl _);unfold strings_Split.f;rw [e,if_pos ⟨by omega,by omega,Lib.splitB_all (mkB [c]) (by omega) 0 _ s rfl,by omega⟩,splitB_eq]
theorem spec_part (s:ByteArray) (hs:s.size≤4294967280):Ev (fun k=>spec_l2Particle.f k s) (partD s):=by
  unfold spec_l2Particle.f partD;by_cases h:s.size=0
  · exact ev_pos ((nil_iff s).2 h) (ev_eq (Ev.now _) (by simp [h]))
  · refine ev_neg (fun e=>h ((nil_iff s).1 e)) (Ev.bind (split_ev s 32 (by omega)) (ev_eq (spec_outer (wordsOf s) (by have:=wordsOf_len s;omega) _ 0 (by omega) rfl) ?_))
    simp [h]
theorem impl_part (s:ByteArray) (hs:s.size≤4294967280):Ev (fun k=>impl_isParticle.f k s) (partD s):=by
  unfold impl_isParticle.f partD;by_cases h:s.size=0
  · exact ev_pos ((nil_iff s).2 h) (ev_eq (Ev.now _) (by simp [h]))
  · refine ev_neg (fun e=>h ((nil_iff s).1 e)) (ev_bind0 (split_sp s 32 hs) (ev_eq (impl_outer (wordsOf s) (by have:=wordsOf_len s;omega) _ 0 (by omega) rfl) ?_))
    simp [h]
end Go.Proofs.YtcbhlghofihjcaaGreatDoor.G

namespace Go.Proofs.YtcbhlghofihjcaaGreatDoor.G
open Go.RowKit Go.Proofs.YtcbhlghofihjcaaGreatDoorW.PrintWords Go.Proofs.YtcbhlghofihjcaaGreatDoorW.PrintLast Go.Proofs.YtcbhlghofihjcaaGreatDoorW.PrintMore
open Go.Proofs.YtcbhlghofihjcaaGreatDoor.Gl Go.Proofs.YtcbhlghofihjcaaGreatDoor.Ext
attribute [local go_sem] max2_int min2_int max_two min_two max_three min_three max_four min_four   -- for this text's walks alone
set_option linter.unusedVariables false
set_option linter.unusedSimpArgs false
def impl_IsValidName_1.f (k:Nat) (a0:ByteArray):Option (Bool):=(impl_isGreatWord.f k a0).bind fun DG=>(some (!DG))
theorem impl_IsValidName_1.mono:∀ a0 k,LeO (impl_IsValidName_1.f k a0) (impl_IsValidName_1.f (k+1) a0):=by
 intro a0 k;unfold impl_IsValidName_1.f
 repeat' first
   | (with_reducible exact impl_isGreatWord.mono _ _)
   | (with_reducible exact LeO.refl _)
   | (with_reducible exact LeO.none _)
   | (with_reducible refine LeO.ite ?_ ?_)
   | (with_reducible refine LeO.bind ?_ (fun _=>?_))
   | exact impl_isGreatWord.mono _ _
   | exact LeO.none _
   | refine LeO.ite ?_ ?_
   | refine LeO.bind ?_ (fun _=>?_)
theorem impl_IsValidName_1.calls (k:Nat) (a0:ByteArray) (r:Bool) (w:World) (h:impl_IsValidName_1.f k a0=some r) :
  Calls Tryz.prog 65 #[.string a0] w fun e w'=>e=.returned (.bool r)∧Drawn0 w w':=by
 have H:((impl_isGreatWord.f k a0).bind fun DG=>(some (!DG)))=some r:=h;clear h;replace H:=obz H;obtain ⟨DG,fD,H⟩:=H
 try dsimp only at H
 have A2:=am fD;clear fD;obtain rfl:=ojz H;go_enter Tryz.func65,Tryz.ntmps65;go_wp2_with (first|((with_reducible refine gate_callee (f:=66) rfl ?_);refine goesL_ (some 4) rfl rfl Tryz.func66 (by kernel_rfl) rfl #[.string a0] rfl au58 ?_;(with_reducible refine (impl_isGreatWord.calls k a0 DG _ A2.out).mono ?_);rintro e w' ⟨rfl,⟨nd,rfl⟩⟩;refine ⟨_,rfl,?_⟩));go_ret;exact ax1
def slices_IndexFunc_string_string_at_65.l0:Nat→List ByteArray→Int→Int→Option (Int)
 | 0,_,_,_=>none
 | k+1,x0,x7,x8=>if x8<x7 then (if 0≤x8 then (if x8<(x0.length:Int) then ((impl_IsValidName_1.f k (rdOf ByteArray.empty x0 x8)).bind fun tV=>(if tV=true then (some x8) else (slices_IndexFunc_string_string_at_65.l0 k x0 x7 (wrap64 (x8+1))))) else (none)) else (none)) else (some (-1))
def slices_IndexFunc_string_string_at_65.f (k:Nat) (l0:List ByteArray) :Option (Int):=slices_IndexFunc_string_string_at_65.l0 k l0 (l0.length:Int) 0
theorem slices_IndexFunc_string_string_at_65.mono_l:∀ k,(∀ y0 y1 y2,LeO (slices_IndexFunc_string_string_at_65.l0 k y0 y1 y2) (slices_IndexFunc_string_string_at_65.l0 (k+1) y0 y1 y2))
 | 0=>fun _ _ _ r h=>by simp [slices_IndexFunc_string_string_at_65.l0] at h
 | k+1=>by
  have ih0:=slices_IndexFunc_string_string_at_65.mono_l k
  ·
   intro y0 y1 y2;unfold slices_IndexFunc_string_string_at_65.l0
   repeat' first
   | (with_reducible exact ih0 _ _ _)
   | (with_reducible exact impl_IsValidName_1.mono _ _)
   | (with_reducible exact LeO.refl _)
   | (with_reducible exact LeO.none _)
   | (with_reducible refine LeO.ite ?_ ?_)
   | (with_reducible refine LeO.bind ?_ (fun _=>?_))
   | exact ih0 _ _ _
   | exact impl_IsValidName_1.mono _ _
   | exact LeO.none _
   | refine LeO.ite ?_ ?_
   | refine LeO.bind ?_ (fun _=>?_)
theorem slices_IndexFunc_string_string_at_65.mono:∀ a0 k,LeO (slices_IndexFunc_string_string_at_65.f k a0) (slices_IndexFunc_string_string_at_65.f (k+1) a0):=by
 intro a0 k;have ih0:=slices_IndexFunc_string_string_at_65.mono_l k;unfold slices_IndexFunc_string_string_at_65.f
 repeat' first
   | (with_reducible exact ih0 _ _ _)
   | (with_reducible exact impl_IsValidName_1.mono _ _)
   | (with_reducible exact LeO.refl _)
   | (with_reducible exact LeO.none _)
   | (with_reducible refine LeO.ite ?_ ?_)
   | (with_reducible refine LeO.bind ?_ (fun _=>?_))
   | exact ih0 _ _ _
   | exact impl_IsValidName_1.mono _ _
   | exact LeO.none _
   | refine LeO.ite ?_ ?_
   | refine LeO.bind ?_ (fun _=>?_)
theorem slices_IndexFunc_string_string_at_65.calls (k:Nat) (A0:Option Addr) (c0:Nat) (l0:List ByteArray)  (r:Int) (w:World) (dW:Kd.C Kd.string w A0 l0.length l0) (fT:l0.length≤c0) (h:slices_IndexFunc_string_string_at_65.f k l0=some r) :
  Calls Tryz.prog 79 #[.slice A0 l0.length c0,.func (.func 65) #[] #[]] w fun e w'=>e=.returned (.int .i64 r)∧Drawn0 w w':=by
 have iQ:=am dW;have zX:=am fT;clear dW fT;have H:(slices_IndexFunc_string_string_at_65.l0 k l0 (l0.length:Int) 0)=some r:=h;clear h;have H':=am H;clear H;go_enter Tryz.func79,Tryz.ntmps79;go_wp2
 go_loopg [8] k (fun kq v8 w'=>∃ (eD:Int),v8=.int .i64 eD∧Aside0 (slices_IndexFunc_string_string_at_65.l0 kq l0 (l0.length:Int) eD=some r)∧Aside0 (kq≤k)∧Drawn0 w w')
 case atStart=>exact ⟨(0),au104,H',⟨Nat.le_refl _⟩,by repeat (first|exact Drawn0.refl _|apply Drawn0.step)⟩
 case round =>
  clear H'
  try clear p2
  obtain ⟨eD,rfl,HA,HK1,⟨m1,rfl⟩⟩:=hrel
  cases gk with
  | zero=>exact absurd HA.out (by simp [slices_IndexFunc_string_string_at_65.l0])
  | succ k1 =>
   have H:=HA.out;clear HA;simp only [slices_IndexFunc_string_string_at_65.l0] at H;by_cases c3:eD<(l0.length:Int)
   ·
    rw [if_pos c3] at H;have c3b0:=dt c3;clear c3;by_cases c4:0≤eD
    ·
     rw [if_pos c4] at H;have c4b0:=dt c4;clear c4;by_cases c5:eD<(l0.length:Int)
     ·
      rw [if_pos c5] at H;have c5b0:=dt c5;clear c5;replace H:=obz H;obtain ⟨tV,nF,H⟩:=H
      try dsimp only at H
      have A6:=am nF;clear nF;by_cases c7:tV=true
      ·
       subst c7;replace H:=(if_pos rfl).symm.trans H;obtain rfl:=ojz H;have pX:0≤(eD:Int):=od au103;have pY:eD<(l0.length:Int):=od au103;obtain ⟨Tt,Hq,tX⟩:=Kd.at_string iQ.out eD pX pY
       cases Hq
       replace pX:=eq_true pX;replace pY:=eq_true pY;go_wp2_with (first|((with_reducible refine gate_tmp (t:=11) rfl ?_);refine goesLt_ (t:=11) (show _=Value.func (.func 65) #[] #[] from rfl) (some 16) rfl rfl Tryz.func65 (by kernel_rfl) rfl #[.string (rdOf ByteArray.empty l0 eD)] rfl au58 ?_;(with_reducible refine (impl_IsValidName_1.calls k1 (rdOf ByteArray.empty l0 eD) true _ A6.out).mono ?_);rintro e w' ⟨rfl,⟨nd,rfl⟩⟩;refine ⟨_,rfl,?_⟩));go_ret;exact ax1
      ·
       replace c7:=Bool.eq_false_iff.mpr c7;subst c7;replace H:=(if_neg (show ¬ (false=true) by decide)).symm.trans H;have H':=am H;clear H;have pX:0≤(eD:Int):=od au103;have pY:eD<(l0.length:Int):=od au103;obtain ⟨Tt,Hq,tX⟩:=Kd.at_string iQ.out eD pX pY
       cases Hq
       replace pX:=eq_true pX;replace pY:=eq_true pY;go_wp2_with (first|((with_reducible refine gate_tmp (t:=11) rfl ?_);refine goesLt_ (t:=11) (show _=Value.func (.func 65) #[] #[] from rfl) (some 16) rfl rfl Tryz.func65 (by kernel_rfl) rfl #[.string (rdOf ByteArray.empty l0 eD)] rfl au58 ?_;(with_reducible refine (impl_IsValidName_1.calls k1 (rdOf ByteArray.empty l0 eD) false _ A6.out).mono ?_);rintro e w' ⟨rfl,⟨nd,rfl⟩⟩;refine ⟨_,rfl,?_⟩))
       go_roundg k1
       case measure=>have:=HK1.out;omega
       case rel=>exact ⟨(wrap64 (eD+1)),au104,H',⟨by have:=HK1.out;omega⟩,by repeat (first|exact Drawn0.refl _|apply Drawn0.step)⟩
     · rw [if_neg c5] at H;exact absurd H (by simp)
    · rw [if_neg c4] at H;exact absurd H (by simp)
   · rw [if_neg c3] at H;have c3b0:=df c3;clear c3;obtain rfl:=ojz H;go_wp2;go_ret;exact ax1
def slices_ContainsFunc_string_string_at_65.f (k:Nat) (l0:List ByteArray) :Option (Bool):=(slices_IndexFunc_string_string_at_65.f k l0).bind fun nH=>(some (decide (nH ≥ 0)))
theorem slices_ContainsFunc_string_string_at_65.mono:∀ a0 k,LeO (slices_ContainsFunc_string_string_at_65.f k a0) (slices_ContainsFunc_string_string_at_65.f (k+1) a0):=by
 intro a0 k;unfold slices_ContainsFunc_string_string_at_65.f
 repeat' first
   | (with_reducible exact slices_IndexFunc_string_string_at_65.mono _ _)
   | (with_reducible exact LeO.refl _)
   | (with_reducible exact LeO.none _)
   | (with_reducible refine LeO.ite ?_ ?_)
   | (with_reducible refine LeO.bind ?_ (fun _=>?_))
   | exact slices_IndexFunc_string_string_at_65.mono _ _
   | exact LeO.none _
   | refine LeO.ite ?_ ?_
   | refine LeO.bind ?_ (fun _=>?_)
theorem slices_ContainsFunc_string_string_at_65.calls (k:Nat) (A0:Option Addr) (c0:Nat) (l0:List ByteArray)  (r:Bool) (w:World) (dW:Kd.C Kd.string w A0 l0.length l0) (fT:l0.length≤c0) (h:slices_ContainsFunc_string_string_at_65.f k l0=some r) :
  Calls Tryz.prog 64 #[.slice A0 l0.length c0,.func (.func 65) #[] #[]] w fun e w'=>e=.returned (.bool r)∧Drawn0 w w':=by
 have iQ:=am dW;have zX:=am fT;clear dW fT;have H:((slices_IndexFunc_string_string_at_65.f k l0).bind fun nH=>(some (decide (nH ≥ 0))))=some r:=h;clear h;replace H:=obz H;obtain ⟨nH,dR,H⟩:=H
 try dsimp only at H
 have A3:=am dR;clear dR;obtain rfl:=ojz H;go_enter Tryz.func64,Tryz.ntmps64;go_wp2_with (first|((with_reducible refine gate_callee (f:=79) rfl ?_);refine goesL_ (some 7) rfl rfl Tryz.func79 (by kernel_rfl) rfl #[.slice A0 l0.length c0,.func (.func 65) #[] #[]] rfl au58 ?_;(with_reducible refine (slices_IndexFunc_string_string_at_65.calls k _ _ l0  nH _ ?aE ?aG A3.out).mono ?_);(case aE=>repeat (first|exact iQ.out|(with_reducible refine Kd.C_alloc ?_ _)|(with_reducible refine Kd.C_drewN ?_ _)|(with_reducible refine Kd.C_drew ?_)));(case aG=>exact zX.out);rintro e w' ⟨rfl,⟨nd,rfl⟩⟩;refine ⟨_,rfl,?_⟩));go_ret;exact ax1
def impl_IsValidName.j0:Nat→Bool→List ByteArray→ByteArray→ByteArray→ByteArray→Option (Bool)
 | 0,_,_,_,_,_=>none
 | k+1,BG,auY,Y3,Y4,Qg=>if BG=true then (some false) else ((impl_isParticle.f k Y3).bind fun pW=>(if pW=true then ((impl_isGreatWord.f k Y4).bind fun DF=>(if DF=true then (if Qg.toList=([]:List UInt8) then (some true) else ((impl_isNameWord.f k Qg).bind fun DG=>(some DG))) else (some false))) else (some false)))
def impl_IsValidName.f (k:Nat) (bI:List ByteArray) (aA:ByteArray) (aX:ByteArray) (aZ:ByteArray):Option (Bool):=if (bI.length:Int)>3 then (impl_IsValidName.j0 k true bI aA aX aZ) else ((slices_ContainsFunc_string_string_at_65.f k bI).bind fun kU=>(impl_IsValidName.j0 k kU bI aA aX aZ))
theorem impl_IsValidName.mono_l:∀ k,(∀ y0 y1 y2 y3 y4,LeO (impl_IsValidName.j0 k y0 y1 y2 y3 y4) (impl_IsValidName.j0 (k+1) y0 y1 y2 y3 y4))
 | 0=>fun _ _ _ _ _ r h=>by simp [impl_IsValidName.j0] at h
 | k+1=>by
  have ih0:=impl_IsValidName.mono_l k
  ·
   intro y0 y1 y2 y3 y4;unfold impl_IsValidName.j0
   repeat' first
   | (with_reducible exact ih0 _ _ _ _ _)
   | (with_reducible exact impl_isGreatWord.mono _ _)
   | (with_reducible exact impl_isNameWord.mono _ _)
   | (with_reducible exact impl_isParticle.mono _ _)
   | (with_reducible exact slices_ContainsFunc_string_string_at_65.mono _ _)
   | (with_reducible exact LeO.refl _)
   | (with_reducible exact LeO.none _)
   | (with_reducible refine LeO.ite ?_ ?_)
   | (with_reducible refine LeO.bind ?_ (fun _=>?_))
   | exact ih0 _ _ _ _ _
   | exact impl_isGreatWord.mono _ _
   | exact impl_isNameWord.mono _ _
   | exact impl_isParticle.mono _ _
   | exact slices_ContainsFunc_string_string_at_65.mono _ _
   | exact LeO.none _
   | refine LeO.ite ?_ ?_
   | refine LeO.bind ?_ (fun _=>?_)
theorem impl_IsValidName.mono:∀ a0 a1 a2 a3 k,LeO (impl_IsValidName.f k a0 a1 a2 a3) (impl_IsValidName.f (k+1) a0 a1 a2 a3):=by
 intro a0 a1 a2 a3 k;have ih0:=impl_IsValidName.mono_l k;unfold impl_IsValidName.f
 repeat' first
   | (with_reducible exact ih0 _ _ _ _ _)
   | (with_reducible exact impl_isGreatWord.mono _ _)
   | (with_reducible exact impl_isNameWord.mono _ _)
   | (with_reducible exact impl_isParticle.mono _ _)
   | (with_reducible exact slices_ContainsFunc_string_string_at_65.mono _ _)
   | (with_reducible exact LeO.refl _)
   | (with_reducible exact LeO.none _)
   | (with_reducible refine LeO.ite ?_ ?_)
   | (with_reducible refine LeO.bind ?_ (fun _=>?_))
   | exact ih0 _ _ _ _ _
   | exact impl_isGreatWord.mono _ _
   | exact impl_isNameWord.mono _ _
   | exact impl_isParticle.mono _ _
   | exact slices_ContainsFunc_string_string_at_65.mono _ _
   | exact LeO.none _
   | refine LeO.ite ?_ ?_
   | refine LeO.bind ?_ (fun _=>?_)
theorem impl_IsValidName.L0 {P:Prop} (h:P:=by
  go_wp2_with (first|((with_reducible refine gate_callee (f:=67) rfl ?_);refine goesL_ (some 14) rfl rfl Tryz.func67 (by kernel_rfl) rfl #[.string aA] rfl au58 ?_;(with_reducible refine (impl_isParticle.calls (hG:=au6) gS aA _ _ A9.out).mono ?_);rintro e Qh ⟨rfl,hb⟩;refine ⟨_,rfl,?_⟩;replace nT:=am (blk_below (g:=Tu) au60 hb);replace HB:=am (below_step au37 hb);(try clear hb);obtain ⟨Qi,Qj,Qk,Ql,Qm,Qn,Qo,Qp⟩:=blkc4 nT.out)|(go_at_call 66;(with_reducible refine (impl_isGreatWord.calls gS aX _ _ A11.out).mono ?_);rintro e w' ⟨rfl,⟨nd,rfl⟩⟩)|(go_at_call 68;(with_reducible refine (impl_isNameWord.calls gS aZ DG _ MP.out).mono ?_);rintro e w' ⟨rfl,⟨nd,rfl⟩⟩));go_ret
  exact ⟨by first|rfl|(simp [errW_none,errW_some] <;> rfl)|(simp [*,errW_none,errW_some] <;> rfl),by repeat (first|(with_reducible first|exact HB.out|apply below_alloc|apply pw_below_drewN|apply below_drew1|refine below_set ?_ Ji.out)|exact HB.out)⟩):P:=h
theorem impl_IsValidName.calls (k:Nat) (fQ:Option Addr) (fR:Nat) (bI:List ByteArray) (aA:ByteArray) (aX:ByteArray) (aZ:ByteArray) (r:Bool) (w:World) {gF1 gF2 gF3:Bool} (hG:GL gF1 gF2 gF3 w) (iR:Kd.C Kd.string w fQ bI.length bI) (iT:bI.length≤fR) (h:impl_IsValidName.f k bI aA aX aZ=some r) :
  Calls Tryz.prog 52 #[.agg #[.slice fQ bI.length fR,.string aA,.string aX,.string aZ]] w fun e w'=>e=.returned (.bool r)∧Below w.heap.size w w':=by
 have HG:=am hG;clear hG;have hu68:=Tryz.underlying68;have kR:=am iR;have pV:=am iT;clear iR iT;have HB:=am (Below.refl w.heap.size w);have H:(if (bI.length:Int)>3 then (impl_IsValidName.j0 k true bI aA aX aZ) else ((slices_ContainsFunc_string_string_at_65.f k bI).bind fun kU=>(impl_IsValidName.j0 k kU bI aA aX aZ)))=some r:=h;clear h;have jZ:=am H;clear H;go_enter Tryz.func52,Tryz.ntmps52
 go_upto_region 1 with (first|((with_reducible refine gate_dst (N:=1) rfl ?_);refine box_event ?hg (N:=1) ?hd (cs:=#[.slice fQ bI.length fR,.string aA,.string aX,.string aZ]) (t:=68) ?hr ?_;(case hd=>rfl);(case hg=>rfl);(case hr=>first|(go_simp;done)|(go_simp;rfl));intro Tu hg w3 hbox hb;have nT:=am (hbox);have aKI:=am (bsz hg au59);have Ji:=am (bsz hg au59);replace HB:=am (below_step au59 hb);clear hb hbox hg))
 (try simp only [Act.put,List.setIfInBounds_toArray,List.set_cons_zero,List.set_cons_succ])
 go_cut [11] (fun Um wc=>∃ (kq:Nat) (xB:Bool),Um=.bool xB∧Aside0 (impl_IsValidName.j0 kq xB bI aA aX aZ=some r)∧Aside0 (kq≤k)∧Aside0 (wc.heap[Tu]?=some (.cells #[(.slice fQ bI.length fR),.string aA,.string aX,.string aZ] 68 (0,0)))∧Aside0 (Below w.heap.size w wc))
 case first =>
  have H:=jZ.out;clear jZ;by_cases c4:(bI.length:Int)>3
  ·
   rw [if_pos c4] at H;have c4b0:=dt c4;have c4b1:decide (3<bI.length)=true:=dt (by omega);clear c4
   (first|rw [c4b0]|(simp only [i64_w,i32_w];rw [c4b0])|skip)
   have H':=am H;clear H;obtain ⟨BA,BB,BC,EM,EN,BD,BE,EO⟩:=blkc4 nT.out;go_wp2;go_meet
   case rel=>exact ⟨_,(true),au104,H',⟨by first|omega|exact Nat.le_refl _⟩,⟨by (with_reducible repeat (first|refine blk_drewN ?_ _|refine blk_drew ?_|refine blk_alloc ?_ _));exact nT.out⟩,⟨by repeat (first|(with_reducible first|exact HB.out|apply below_alloc|apply pw_below_drewN|apply below_drew1|refine below_set ?_ Ji.out)|exact HB.out)⟩⟩
  ·
   rw [if_neg c4] at H;have c4b0:=df c4;have c4b1:decide (3<bI.length)=false:=df (by omega);clear c4
   (first|rw [c4b0]|(simp only [i64_w,i32_w];rw [c4b0])|skip)
   replace H:=obz H;obtain ⟨kU,nF,H⟩:=H
   try dsimp only at H
   have A6:=am nF;clear nF;have H':=am H;clear H;obtain ⟨pJ,pK,pL,pM,pN,pO,pP,pQ⟩:=blkc4 nT.out;go_wp2_with (first|(go_at_call 64;(with_reducible refine (slices_ContainsFunc_string_string_at_65.calls k _ _ bI  kU _ ?aE ?aG A6.out).mono ?_);(case aE=>repeat (first|exact (Kd.C_below kR.out HB.out)|(with_reducible refine Kd.C_alloc ?_ _)|(with_reducible refine Kd.C_drewN ?_ _)|(with_reducible refine Kd.C_drew ?_)));(case aG=>exact pV.out);rintro e w' ⟨rfl,⟨nd,rfl⟩⟩));go_meet
   case rel=>exact ⟨_,(kU),au104,H',⟨by first|omega|exact Nat.le_refl _⟩,⟨by (with_reducible repeat (first|refine blk_drewN ?_ _|refine blk_drew ?_|refine blk_alloc ?_ _));exact nT.out⟩,⟨by repeat (first|(with_reducible first|exact HB.out|apply below_alloc|apply pw_below_drewN|apply below_drew1|refine below_set ?_ Ji.out)|exact HB.out)⟩⟩
 case rest =>
  clear jZ
  try clear p2
  try clear c4
  try clear c4b0
  try clear c4b1
  try clear c5
  try clear BA BB BC EM EN BD BE EO
  try clear pJ pK pL pM pN pO pP pQ
  obtain ⟨kq,xB,rfl,HA,kA,nT,HB⟩:=hcut
  cases kq with
  | zero=>exact absurd HA.out (by simp [impl_IsValidName.j0])
  | succ gS =>
   have H:=HA.out;clear HA;simp only [impl_IsValidName.j0] at H;by_cases c8:xB=true
   · subst c8;replace H:=(if_pos rfl).symm.trans H;obtain rfl:=ojz H;exact impl_IsValidName.L0
   ·
    replace c8:=Bool.eq_false_iff.mpr c8;subst c8;replace H:=(if_neg (show ¬ (false=true) by decide)).symm.trans H;replace H:=obz H;obtain ⟨pW,qP,H⟩:=H
    try dsimp only at H
    have A9:=am qP;clear qP;by_cases c10:pW=true
    ·
     subst c10;replace H:=(if_pos rfl).symm.trans H;replace H:=obz H;obtain ⟨DF,a5K,H⟩:=H
     try dsimp only at H
     have A11:=am a5K;clear a5K;by_cases dD:DF=true
     ·
      subst dD;replace H:=(if_pos rfl).symm.trans H;by_cases dE:aZ.toList=([]:List UInt8)
      · rw [if_pos dE] at H;have c13b0:=qt dE;have c13b1:=bfz dE;clear dE;obtain rfl:=ojz H;obtain ⟨nX,nY,nZ,oB,oC,oD,oF,oG⟩:=blkc4 nT.out;exact impl_IsValidName.L0
      ·
       rw [if_neg dE] at H;have c13b0:=qf dE;have c13b1:=bu dE;replace H:=obz H;obtain ⟨DG,zZ,H⟩:=H
       try dsimp only at H
       have MP:=am zZ;clear zZ;obtain rfl:=ojz H;obtain ⟨xG,xH,xI,xJ,xK,xL,xM,xN⟩:=blkc4 nT.out;exact impl_IsValidName.L0
     · replace dD:=Bool.eq_false_iff.mpr dD;subst dD;replace H:=(if_neg (show ¬ (false=true) by decide)).symm.trans H;obtain rfl:=ojz H;obtain ⟨BH,BI,BJ,BK,BL,BM,BN,BO⟩:=blkc4 nT.out;exact impl_IsValidName.L0
    · replace c10:=Bool.eq_false_iff.mpr c10;subst c10;replace H:=(if_neg (show ¬ (false=true) by decide)).symm.trans H;obtain rfl:=ojz H;obtain ⟨FF,FG,FH,FI,FJ,FL,FM,FN⟩:=blkc4 nT.out;go_wp2_with (first|((with_reducible refine gate_callee (f:=67) rfl ?_);refine goesL_ (some 14) rfl rfl Tryz.func67 (by kernel_rfl) rfl #[.string aA] rfl au58 ?_;(with_reducible refine (impl_isParticle.calls (hG:=au6) gS aA _ _ A9.out).mono ?_);rintro e Un ⟨rfl,hb⟩;refine ⟨_,rfl,?_⟩;replace nT:=am (blk_below (g:=Tu) au60 hb);replace HB:=am (below_step au37 hb);(try clear hb)));go_ret;exact ⟨by first|rfl|(simp [errW_none,errW_some] <;> rfl)|(simp [*,errW_none,errW_some] <;> rfl),by repeat (first|(with_reducible first|exact HB.out|apply below_alloc|apply pw_below_drewN|apply below_drew1|refine below_set ?_ Ji.out)|exact HB.out)⟩
end Go.Proofs.YtcbhlghofihjcaaGreatDoor.G
