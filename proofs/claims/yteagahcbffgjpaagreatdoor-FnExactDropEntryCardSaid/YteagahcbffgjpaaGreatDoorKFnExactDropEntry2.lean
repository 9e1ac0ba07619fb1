/- Texts of this session for the law FnExactDropEntry, put together by a program (merge.py): each ends with its namespace; conditions stand with each theorem. -/
import Derived.Handed
import Derived.SizedLaws
import Derived.Test.YteagahcbffgjpaaGreatDoorKFnExactDropEntry1
import Derived.Lib.Strings
import Derived.Test.YteagahcbffgjpaaGreatDoorProg
import Derived.Lib.LaidTab
import Derived.Below
import Derived.Deep.Draws
import Derived.Deep.AppendLies
import Derived.Maps.AppendAt
import Derived.OwnWalk
import Derived.Laws.BytesArg
import Derived.Laws.MakeOwn
import Derived.Laws.OwnMore
import Derived.Deep.OwnRows
import Derived.Tactics
import Derived.Lib.ConvBytes
import Derived.Laws.Slices
import Derived.WalkKit
import Derived.KernelRfl
import Derived.RowKit3
import Derived.Deep.LoopGhost
import Derived.Deep.QuietTactic
import Derived.BigQuiet
import Derived.WideLaws
import Derived.Deep.DeepCutAuto
import Derived.Deep.CutBlock
import Derived.Deep.RegionHeld3
import Derived.Laws.Rows
import Derived.Lib.AppendStr
import Derived.ArgAppend
import Derived.Laws.IdiomCopy
import Derived.OrdersHeld
import Derived.Laws.BitsLemmas
import Derived.RowKit
namespace Go.Proofs.YteagahcbffgjpaaGreatDoor.Crd
open Go
variable {H:Type} {enc:TypeId × Value→H}
theorem wrap_and_shaped {a:Assume} {C:Checked} {os:Os} {f:FuncId} {fn:Func} {s:ChangeSpec} {conds:List PathCond} {apart fresh handsOn again:Bool} {X:World→Array Value→Prop}
    (hX:∀ (w w':World) (args:Array Value),w.heap=w'.heap→X w args→X w' args)
    (own:ownKnob C.prog.godebug=none) (started:os.Started) (noInit:C.prog.inits.idxOf? f=none) (hfn:C.prog.funcs[f]?=some fn)
    (witness:∃ (w:World) (tape:Tape) (i:Input),w.os=os∧(w.forCall tape i).Shaped C.prog∧i.vars=[]∧Input.okWide C.prog (w.forCall tape i) .any w.heap.size f i ∧
      ((s.pre enc C.prog fn conds apart (w.forCall tape i).memory i.args∧X (w.forCall tape i).memory i.args)∧sizedMet enc C.prog fn (OpenSpec.ofChange s) apart (w.forCall tape i).memory i.args)∧a.holds C.prog (lone (Frame.enter C.prog f i.args .normal) [] (w.forCall tape i)))
    (contract:∀ (W:World) (base:Nat) (args:Array Value) (ds gs:List (DataW H)) (before:List MemPlace),
      (∀ (j:Nat) t v,fn.params[j]?=some t→args[j]?=some v→Value.okWide C.prog W .any base t v) →
      DataW.Whole enc C.prog fn.params.toList s.vars apart W args.toList ds gs before →
      conds.all (PathCond.test C.prog ⟨fn.params.toList,ds,s.plain.varTypes C.prog,gs⟩)=true →
      (DataW.weightsEach C.prog (fn.params.toList++s.plain.varTypes C.prog) (ds++gs)).all (·≤reachBytes)=true→X W args→W.ShapedOpen C.prog →
      Calls C.prog f args W fun e W'=>∃ v,e=.returned v∧s.post enc C.prog fn apart fresh handsOn again W args v W') :
    ReturnsInHanded a C os f .any (fun w args=>(s.pre enc C.prog fn conds apart w args∧X w args)∧sizedMet enc C.prog fn (OpenSpec.ofChange s) apart w args) (s.post enc C.prog fn apart fresh handsOn again):=by
  refine returnsInHanded_of_calls own started noInit witness ?_;intro w tape i _ hsh _ hok hpre hholds;obtain ⟨_,_,_,fn',hfn',_,_,_,_,hval⟩:=hok;have e:fn'=fn:=ojz (hfn'.symm.trans hfn);subst e;obtain ⟨⟨⟨ds,gs,before,hw,hc⟩,hx⟩,hz⟩:=hpre;have hw':=DataW.Whole.of_heap (w':=w.forCall tape i) (by rfl) hw
  refine (contract (w.forCall tape i) w.heap.size i.args ds gs before hval hw' hc (hz.weights hw) (hX _ _ _ (by rfl) hx) hsh).mono fun e W' ⟨v,he,hp⟩=>?_
  subst he;exact ChangeSpec.post_blind hp
end Go.Proofs.YteagahcbffgjpaaGreatDoor.Crd

namespace Go.Proofs.YteagahcbffgjpaaGreatDoor.B
open Go.RowKit Go.Proofs.YteagahcbffgjpaaGreatDoorW.PrintWords Go.Proofs.YteagahcbffgjpaaGreatDoorW.PrintLast
set_option linter.unusedVariables false
set_option linter.unusedSimpArgs false
theorem w64 {x:Int} (h:-9223372036854775808≤x) (h':x≤9223372036854775807):wrap64 x=x:=by unfold wrap64;omega
theorem ev_pos {α:Type} {c:Prop} [Decidable c] {g f:Nat→Option α} {r:α} (h:c) (e:Ev g r):Ev (fun k=>if c then g k else f k) r:=Ev.congr (fun _=>if_pos h) e
theorem ev_neg {α:Type} {c:Prop} [Decidable c] {g f:Nat→Option α} {r:α} (h:¬ c) (e:Ev f r):Ev (fun k=>if c then g k else f k) r:=Ev.congr (fun _=>if_neg h) e
theorem ev_bind0 {α β:Type} {o:Option α} {f:Nat→α→Option β} {a:α} {r:β} (h:o=some a) (k:Ev (fun n=>f n a) r):Ev (fun n=>o.bind (f n)) r:=Ev.congr (fun _=>by rw [h];rfl) k
theorem ev_uniq {α:Type} {g:Nat→Option α} {a b:α} (h:Ev g a) (h':Ev g b):a=b:=by
  obtain ⟨K,h⟩:=h;obtain ⟨K',h'⟩:=h';exact ojz ((h _ (Nat.le_max_left K K')).symm.trans (h' _ (Nat.le_max_right K K')))
theorem ev_eq {α:Type} {g:Nat→Option α} {a b:α} (h:Ev g a) (e:a=b):Ev g b:=e ▸ h
abbrev L (s:ByteArray):List UInt8:=s.data.toList
def mkB (l:List UInt8):ByteArray:=⟨l.toArray⟩
theorem L_mk (l:List UInt8):L (mkB l)=l:=by simp [mkB]
theorem mk_L (s:ByteArray):mkB (L s)=s:=by cases s;simp [mkB,L]
theorem L_inj {a b:ByteArray} (h:L a=L b):a=b:=by rw [← mk_L a,h,mk_L]
theorem L_iff {a b:ByteArray}:a=b ↔ L a=L b:=⟨fun h=>by rw [h],L_inj⟩
theorem L_len (s:ByteArray):(L s).length=s.size:=(Lib.size_eq s).symm
theorem size_mk (l:List UInt8):(mkB l).size=l.length:=by rw [← L_len,L_mk]
theorem toList_L (s:ByteArray):s.toList=L s:=Lib.toList_data s
theorem L_extract (s:ByteArray) (a b:Nat):L (s.extract a b)=((L s).drop a).take (b-a):=Lib.extract_data s a b
theorem L_append (a b:ByteArray):L (a++b)=L a++L b:=by simp [L,ByteArray.data_append]
theorem size_append (a b:ByteArray):(a++b).size=a.size+b.size:=by rw [← L_len,L_append,List.length_append,L_len,L_len]
theorem bt_get (s:ByteArray) (i:Nat) (h:i<s.size):bt s (i:Int)=(((L s)[i]'(by rw [L_len];exact h)).toNat:Int):=by
  unfold bt;simp only [Int.toNat_natCast,h,dif_pos];rfl
theorem size_pos_iff (s:ByteArray):s.size=0 ↔ L s=[]:=by rw [← L_len,List.length_eq_zero_iff]
theorem u8_inj {a b:UInt8} (h:(a.toNat:Int)=(b.toNat:Int)):a=b:=UInt8.toNat_inj.1 (by omega)
theorem toList_eq_iff {a b:ByteArray}:a.toList=b.toList ↔ a=b:=by rw [toList_L,toList_L,L_iff]
end Go.Proofs.YteagahcbffgjpaaGreatDoor.B

namespace Go.Proofs.YteagahcbffgjpaaGreatDoor.Ext
open Go.RowKit Go.Proofs.YteagahcbffgjpaaGreatDoorW.PrintWords Go.Proofs.YteagahcbffgjpaaGreatDoorW.PrintLast
set_option linter.unusedVariables false
set_option linter.unusedSimpArgs false
theorem cell_lt {w:World} {a:Addr} {v:Value} (h:w.cell? a=some v):a.block<w.heap.size:=by
  unfold World.cell? at h;by_cases hb:a.block<w.heap.size
  · exact hb
  · rw [Array.getElem?_eq_none (by omega)] at h;cases h
theorem add_zero (a:Addr):a.add 0=a:=rfl
theorem cell_below {w w':World} {a:Addr} {v:Value} (hb:Below w.heap.size w w') (h:w.cell? a=some v):w'.cell? a=some v:=(hb.cell (cell_lt h)).trans h
theorem gate_tmp {P:Program} {ops:Array Oper} {rest:List Oper} {o:Oper} {a:Act} {Q:Exit→Act→World→Prop} {W:World} {t:Tmp} {ars:Array Operand} {ts:Array TypeId} (_ho:o.op=.call { callee:=.value (.tmp t),args:=ars,argTypes:=ts })
    (h:wpList P ops Q (o :: rest) a W):wpList P ops Q (o :: rest) a W:=h
theorem goesLt_ {P:Program} {ops:Array Oper} {Q:Exit→Act→World→Prop} {rest:List Oper} {oi:Oper} {a:Act} {w:World} {t:Tmp} {f:FuncId} (ht:a.tmps.getD t undef=Value.func (.func f) #[] #[]) (N:Option Tmp) (hd:oi.dst=N) (hg:oi.guard=none) {fn:Func} {ars:Array Operand} {ts:Array TypeId}
    (hf:P.funcs[f]?=some fn) (hname:(fn.name == "runtime.NumGoroutine")=false) (hb:fn.body.isSome=true) (args:Array Value)
    (hop:oi.op=.call { callee:=.value (.tmp t),args:=ars,argTypes:=ts }) (hargs:ars.map a.eval=args)
    (h:Calls P f args w fun e w'=>∃ v,e=.returned v∧wpList P ops Q rest (a.put N v) w'):wpList P ops Q (oi :: rest) a w:=by
  refine wpList_plain hg fun K hK=>?_
  have he:=Go.Proofs.YteagahcbffgjpaaGreatDoorW.PrintLast.enters_ hf hname hb args w
  have hrun:(execOp a.eval oi).run P w=.ok (.enter f args) w:=by
    unfold execOp;have hv:a.eval (.tmp t)=Value.func (.func f) #[] #[]:=ht;simp [hop,resolve,Deferred.ofValue,invoke,hv,hargs,he]
  unfold Oper.wp;rw [hrun,Oper.upon_enter]
  refine h.mono fun e w'' hh=>?_
  obtain ⟨v,rfl,hk⟩:=hh;subst hd;exact hK _ _ hk
theorem goesCt_ {P:Program} {ops:Array Oper} {Q:Exit→Act→World→Prop} {rest:List Oper} {oi:Oper} {a:Act} {w:World} {t:Tmp} {f:FuncId} {caps:Array Value} (ht:a.tmps.getD t undef=Value.func (.func f) #[] caps) (N:Option Tmp) (hd:oi.dst=N) (hg:oi.guard=none) {fn:Func} {ars:Array Operand} {ts:Array TypeId}
    (hf:P.funcs[f]?=some fn) (hname:(fn.name == "runtime.NumGoroutine")=false) (hb:fn.body.isSome=true) (args:Array Value)
    (hop:oi.op=.call { callee:=.value (.tmp t),args:=ars,argTypes:=ts }) (hargs:ars.map a.eval=args)
    (h:Calls P f (args++caps) w fun e w'=>∃ v,e=.returned v∧wpList P ops Q rest (a.put N v) w'):wpList P ops Q (oi :: rest) a w:=by
  refine wpList_plain hg fun K hK=>?_
  have he:=Go.Proofs.YteagahcbffgjpaaGreatDoorW.PrintLast.enters_ hf hname hb (args++caps) w
  have hrun:(execOp a.eval oi).run P w=.ok (.enter f (args++caps)) w:=by
    unfold execOp;have hv:a.eval (.tmp t)=Value.func (.func f) #[] caps:=ht;simp [hop,resolve,Deferred.ofValue,invoke,hv,hargs,he]
  unfold Oper.wp;rw [hrun,Oper.upon_enter]
  refine h.mono fun e w'' hh=>?_
  obtain ⟨v,rfl,hk⟩:=hh;subst hd;exact hK _ _ hk
end Go.Proofs.YteagahcbffgjpaaGreatDoor.Ext

namespace Go.Proofs.YteagahcbffgjpaaGreatDoor.Gl
open Go.RowKit Go.Proofs.YteagahcbffgjpaaGreatDoorW.PrintWords Go.Proofs.YteagahcbffgjpaaGreatDoor.Ext
structure GL (gF1 gF2 gF3:Bool) (w:World):Prop where
  mx:∃ m,w.cell? ⟨2,0,none⟩=some (.int .i64 m)
theorem GL.below {gF1 gF2 gF3:Bool} {w w':World} (h:GL gF1 gF2 gF3 w) (hb:Below w.heap.size w w'):GL gF1 gF2 gF3 w' where
  mx:=by obtain ⟨m,hm⟩:=h.mx;exact ⟨m,cell_below hb hm⟩
theorem GL.drawn {gF1 gF2 gF3:Bool} {w w':World} (h:GL gF1 gF2 gF3 w) (hd:Drawn0 w w'):GL gF1 gF2 gF3 w':=h.below hd.below
end Go.Proofs.YteagahcbffgjpaaGreatDoor.Gl

namespace Go.Proofs.YteagahcbffgjpaaGreatDoor.G
open Go.RowKit Go.Proofs.YteagahcbffgjpaaGreatDoorW.PrintWords Go.Proofs.YteagahcbffgjpaaGreatDoorW.PrintLast Go.Proofs.YteagahcbffgjpaaGreatDoorW.PrintMore
open Go.Proofs.YteagahcbffgjpaaGreatDoor.Gl Go.Proofs.YteagahcbffgjpaaGreatDoor.Ext
attribute [local go_sem] max2_int min2_int max_two min_two max_three min_three max_four min_four   -- for this text's walks alone
set_option linter.unusedVariables false
set_option linter.unusedSimpArgs false
def errW:Option Int→Value
  | none=>.nilIface
  | some c=>.iface 0 (.int .i64 c)
theorem errW_none:errW none=.nilIface:=rfl
theorem errW_some (c:Int):errW (some c)=.iface 0 (.int .i64 c):=rfl
theorem info9:(Tryz.prog.info? 9).map (fun i=>(i.zero,i.size,i.bytes))=some (some (.string ⟨#[]⟩),1,16):=by kernel_rfl
theorem info42:(Tryz.prog.info? 42).map (fun i=>(i.zero,i.size,i.bytes))=some (some (.agg #[(.string ⟨#[]⟩),(.int .i64 0),(.slice none 0 0),(.slice none 0 0),(.string ⟨#[]⟩),(.string ⟨#[]⟩),(.string ⟨#[]⟩),(.int .i64 0),(.int .i64 0),(.int .i64 0),(.bool false),(.int .i64 0),(.string ⟨#[]⟩),(.string ⟨#[]⟩)]),14,192):=by kernel_rfl
theorem info69:(Tryz.prog.info? 69).map (fun i=>(i.zero,i.size,i.bytes))=some (some (.agg #[(.slice none 0 0),(.string ⟨#[]⟩),(.string ⟨#[]⟩),(.string ⟨#[]⟩)]),4,72):=by kernel_rfl
-- the values' own types
structure S78 where
  f0:(List ByteArray)
  f1:ByteArray
  f2:ByteArray
  f3:ByteArray
def z78:S78:=⟨([]:List ByteArray),(⟨#[]⟩:ByteArray),(⟨#[]⟩:ByteArray),(⟨#[]⟩:ByteArray)⟩
def k78:Kd S78:=Kd.iso (Kd.pair (Kd.slice 9 Kd.string) (Kd.pair Kd.string (Kd.pair Kd.string Kd.string))) (fun x:S78=>(x.f0,x.f1,x.f2,x.f3))
theorem k78_open {w:World} {x:S78} {cs:List Value} (h:k78.K w x cs):∃ A0 c0,cs=[.slice A0 x.f0.length c0,.string x.f1,.string x.f2,.string x.f3]∧x.f0.length≤c0∧Kd.string.C w A0 x.f0.length x.f0:=by
  obtain ⟨_,_,rfl,⟨A0,c0,rfl,l0,g0⟩,⟨_,_,rfl,rfl,⟨_,_,rfl,rfl,rfl⟩⟩⟩:=h;exact ⟨A0,c0,rfl,l0,g0⟩
def rd_T78 (xs:List S78) (i:Int):S78:=xs.getD i.toNat z78
theorem at_T78 {w:World} {A:Option Addr} {n:Nat} {xs:List S78} (h:Kd.C k78 w A n xs) (i:Int) (h0:0≤i) (h1:i<n):∃ ad A0 c0,A=some ad∧w.cell? (ad.add (i.toNat*4))=some (.slice A0 (rd_T78 xs i).f0.length c0)∧w.cell? ⟨(ad.add (i.toNat*4)).block,(ad.add (i.toNat*4)).off+1,none⟩=some (.string (rd_T78 xs i).f1)∧w.cell? ⟨(ad.add (i.toNat*4)).block,(ad.add (i.toNat*4)).off+2,none⟩=some (.string (rd_T78 xs i).f2)∧w.cell? ⟨(ad.add (i.toNat*4)).block,(ad.add (i.toNat*4)).off+3,none⟩=some (.string (rd_T78 xs i).f3)∧(rd_T78 xs i).f0.length≤c0∧Kd.string.C w A0 (rd_T78 xs i).f0.length (rd_T78 xs i).f0:=by
  obtain ⟨ad,c,e,_,hK,cP⟩:=Kd.C_get h z78 i h0 h1;have hc:∀ j u,c[j]?=some u→w.cell? (ad.add (i.toNat*4+j))=some u:=cP;obtain ⟨A0,c0,rfl,l0,g0⟩:=k78_open hK;exact ⟨ad,A0,c0,e,hc 0 _ rfl,by rw [← add_field _ _ 1 (by omega)];exact hc 1 _ rfl,by rw [← add_field _ _ 2 (by omega)];exact hc 2 _ rfl,by rw [← add_field _ _ 3 (by omega)];exact hc 3 _ rfl,l0,g0⟩
structure S50 where
  f0:Int
  f1:Int
  f2:Int
  f3:Bool
def z50:S50:=⟨(0:Int),(0:Int),(0:Int),false⟩
def k50:Kd S50:=Kd.iso (Kd.pair (Kd.int .i64) (Kd.pair (Kd.int .i64) (Kd.pair (Kd.int .i64) Kd.bool))) (fun x:S50=>(x.f0,x.f1,x.f2,x.f3))
theorem k50_open {w:World} {x:S50} {cs:List Value} (h:k50.K w x cs):cs=[.int .i64 x.f0,.int .i64 x.f1,.int .i64 x.f2,.bool x.f3]:=by
  obtain ⟨_,_,rfl,rfl,⟨_,_,rfl,rfl,⟨_,_,rfl,rfl,rfl⟩⟩⟩:=h;exact rfl
structure S52 where
  f0:ByteArray
  f1:Int
  f2:(List S78)
  f3:(List S78)
  f4:ByteArray
  f5:ByteArray
  f6:ByteArray
  f7:S50
  f8:Int
  f9:ByteArray
  f10:ByteArray
def z52:S52:=⟨(⟨#[]⟩:ByteArray),(0:Int),([]:List S78),([]:List S78),(⟨#[]⟩:ByteArray),(⟨#[]⟩:ByteArray),(⟨#[]⟩:ByteArray),z50,(0:Int),(⟨#[]⟩:ByteArray),(⟨#[]⟩:ByteArray)⟩
def k52:Kd S52:=Kd.iso (Kd.pair Kd.string (Kd.pair (Kd.int .i64) (Kd.pair (Kd.slice 78 k78) (Kd.pair (Kd.slice 78 k78) (Kd.pair Kd.string (Kd.pair Kd.string (Kd.pair Kd.string (Kd.pair k50 (Kd.pair (Kd.int .i64) (Kd.pair Kd.string Kd.string)))))))))) (fun x:S52=>(x.f0,x.f1,x.f2,x.f3,x.f4,x.f5,x.f6,x.f7,x.f8,x.f9,x.f10))
theorem k52_open {w:World} {x:S52} {cs:List Value} (h:k52.K w x cs):∃ A2 c2 A3 c3,cs=[.string x.f0,.int .i64 x.f1,.slice A2 x.f2.length c2,.slice A3 x.f3.length c3,.string x.f4,.string x.f5,.string x.f6,.int .i64 x.f7.f0,.int .i64 x.f7.f1,.int .i64 x.f7.f2,.bool x.f7.f3,.int .i64 x.f8,.string x.f9,.string x.f10]∧x.f2.length≤c2∧k78.C w A2 x.f2.length x.f2∧x.f3.length≤c3∧k78.C w A3 x.f3.length x.f3:=by
  obtain ⟨_,_,rfl,rfl,⟨_,_,rfl,rfl,⟨_,_,rfl,⟨A2,c2,rfl,l2,g2⟩,⟨_,_,rfl,⟨A3,c3,rfl,l3,g3⟩,⟨_,_,rfl,rfl,⟨_,_,rfl,rfl,⟨_,_,rfl,rfl,⟨_,_,rfl,s7,⟨_,_,rfl,rfl,⟨_,_,rfl,rfl,rfl⟩⟩⟩⟩⟩⟩⟩⟩⟩⟩:=h;obtain rfl:=k50_open s7;exact ⟨A2,c2,A3,c3,rfl,l2,g2,l3,g3⟩
def rd_T52 (xs:List S52) (i:Int):S52:=xs.getD i.toNat z52
theorem at_T52 {w:World} {A:Option Addr} {n:Nat} {xs:List S52} (h:Kd.C k52 w A n xs) (i:Int) (h0:0≤i) (h1:i<n):∃ ad A2 c2 A3 c3,A=some ad∧w.cell? (ad.add (i.toNat*14))=some (.string (rd_T52 xs i).f0)∧w.cell? ⟨(ad.add (i.toNat*14)).block,(ad.add (i.toNat*14)).off+1,none⟩=some (.int .i64 (rd_T52 xs i).f1)∧w.cell? ⟨(ad.add (i.toNat*14)).block,(ad.add (i.toNat*14)).off+2,none⟩=some (.slice A2 (rd_T52 xs i).f2.length c2)∧w.cell? ⟨(ad.add (i.toNat*14)).block,(ad.add (i.toNat*14)).off+3,none⟩=some (.slice A3 (rd_T52 xs i).f3.length c3)∧w.cell? ⟨(ad.add (i.toNat*14)).block,(ad.add (i.toNat*14)).off+4,none⟩=some (.string (rd_T52 xs i).f4)∧w.cell? ⟨(ad.add (i.toNat*14)).block,(ad.add (i.toNat*14)).off+5,none⟩=some (.string (rd_T52 xs i).f5)∧w.cell? ⟨(ad.add (i.toNat*14)).block,(ad.add (i.toNat*14)).off+6,none⟩=some (.string (rd_T52 xs i).f6)∧w.cell? ⟨(ad.add (i.toNat*14)).block,(ad.add (i.toNat*14)).off+7,none⟩=some (.int .i64 (rd_T52 xs i).f7.f0)∧w.cell? ⟨(ad.add (i.toNat*14)).block,(ad.add (i.toNat*14)).off+8,none⟩=some (.int .i64 (rd_T52 xs i).f7.f1)∧w.cell? ⟨(ad.add (i.toNat*14)).block,(ad.add (i.toNat*14)).off+9,none⟩=some (.int .i64 (rd_T52 xs i).f7.f2)∧w.cell? ⟨(ad.add (i.toNat*14)).block,(ad.add (i.toNat*14)).off+10,none⟩=some (.bool (rd_T52 xs i).f7.f3)∧w.cell? ⟨(ad.add (i.toNat*14)).block,(ad.add (i.toNat*14)).off+11,none⟩=some (.int .i64 (rd_T52 xs i).f8)∧w.cell? ⟨(ad.add (i.toNat*14)).block,(ad.add (i.toNat*14)).off+12,none⟩=some (.string (rd_T52 xs i).f9)∧w.cell? ⟨(ad.add (i.toNat*14)).block,(ad.add (i.toNat*14)).off+13,none⟩=some (.string (rd_T52 xs i).f10)∧(rd_T52 xs i).f2.length≤c2∧k78.C w A2 (rd_T52 xs i).f2.length (rd_T52 xs i).f2∧(rd_T52 xs i).f3.length≤c3∧k78.C w A3 (rd_T52 xs i).f3.length (rd_T52 xs i).f3:=by
  obtain ⟨ad,c,e,_,hK,cP⟩:=Kd.C_get h z52 i h0 h1;have hc:∀ j u,c[j]?=some u→w.cell? (ad.add (i.toNat*14+j))=some u:=cP;obtain ⟨A2,c2,A3,c3,rfl,l2,g2,l3,g3⟩:=k52_open hK;exact ⟨ad,A2,c2,A3,c3,e,hc 0 _ rfl,by rw [← add_field _ _ 1 (by omega)];exact hc 1 _ rfl,by rw [← add_field _ _ 2 (by omega)];exact hc 2 _ rfl,by rw [← add_field _ _ 3 (by omega)];exact hc 3 _ rfl,by rw [← add_field _ _ 4 (by omega)];exact hc 4 _ rfl,by rw [← add_field _ _ 5 (by omega)];exact hc 5 _ rfl,by rw [← add_field _ _ 6 (by omega)];exact hc 6 _ rfl,by rw [← add_field _ _ 7 (by omega)];exact hc 7 _ rfl,by rw [← add_field _ _ 8 (by omega)];exact hc 8 _ rfl,by rw [← add_field _ _ 9 (by omega)];exact hc 9 _ rfl,by rw [← add_field _ _ 10 (by omega)];exact hc 10 _ rfl,by rw [← add_field _ _ 11 (by omega)];exact hc 11 _ rfl,by rw [← add_field _ _ 12 (by omega)];exact hc 12 _ rfl,by rw [← add_field _ _ 13 (by omega)];exact hc 13 _ rfl,l2,g2,l3,g3⟩
structure S69 where
  f0:(List ByteArray)
  f1:ByteArray
  f2:ByteArray
  f3:ByteArray
def z69:S69:=⟨([]:List ByteArray),(⟨#[]⟩:ByteArray),(⟨#[]⟩:ByteArray),(⟨#[]⟩:ByteArray)⟩
def k69:Kd S69:=Kd.iso (Kd.pair (Kd.slice 9 Kd.string) (Kd.pair Kd.string (Kd.pair Kd.string Kd.string))) (fun x:S69=>(x.f0,x.f1,x.f2,x.f3))
theorem k69_open {w:World} {x:S69} {cs:List Value} (h:k69.K w x cs):∃ A0 c0,cs=[.slice A0 x.f0.length c0,.string x.f1,.string x.f2,.string x.f3]∧x.f0.length≤c0∧Kd.string.C w A0 x.f0.length x.f0:=by
  obtain ⟨_,_,rfl,⟨A0,c0,rfl,l0,g0⟩,⟨_,_,rfl,rfl,⟨_,_,rfl,rfl,rfl⟩⟩⟩:=h;exact ⟨A0,c0,rfl,l0,g0⟩
theorem k69_openM {w:World} {base:Nat} {ok:Nat→Prop} {x:S69} {cs:List Value} (h:k69.M w base ok x cs):∃ v0,cs=[v0,.string x.f1,.string x.f2,.string x.f3]∧Kd.string.R 9 w base ok v0 x.f0:=by
  obtain ⟨_,_,rfl,⟨v0,rfl,g0⟩,⟨_,_,rfl,rfl,⟨_,_,rfl,rfl,rfl⟩⟩⟩:=h;exact ⟨v0,rfl,g0⟩
theorem k69_mkM (w:World) (base:Nat) (ok:Nat→Prop) (x:S69) {v0:Value} (g0:Kd.string.R 9 w base ok v0 x.f0):k69.M w base ok x [v0,.string x.f1,.string x.f2,.string x.f3]:=⟨[v0],[.string x.f1,.string x.f2,.string x.f3],rfl,⟨v0,rfl,g0⟩,⟨[.string x.f1],[.string x.f2,.string x.f3],rfl,rfl,⟨[.string x.f2],[.string x.f3],rfl,rfl,rfl⟩⟩⟩
def rd_T69 (xs:List S69) (i:Int):S69:=xs.getD i.toNat z69
theorem at_T69 {w:World} {A:Option Addr} {n:Nat} {xs:List S69} (h:Kd.C k69 w A n xs) (i:Int) (h0:0≤i) (h1:i<n):∃ ad A0 c0,A=some ad∧w.cell? (ad.add (i.toNat*4))=some (.slice A0 (rd_T69 xs i).f0.length c0)∧w.cell? ⟨(ad.add (i.toNat*4)).block,(ad.add (i.toNat*4)).off+1,none⟩=some (.string (rd_T69 xs i).f1)∧w.cell? ⟨(ad.add (i.toNat*4)).block,(ad.add (i.toNat*4)).off+2,none⟩=some (.string (rd_T69 xs i).f2)∧w.cell? ⟨(ad.add (i.toNat*4)).block,(ad.add (i.toNat*4)).off+3,none⟩=some (.string (rd_T69 xs i).f3)∧(rd_T69 xs i).f0.length≤c0∧Kd.string.C w A0 (rd_T69 xs i).f0.length (rd_T69 xs i).f0:=by
  obtain ⟨ad,c,e,_,hK,cP⟩:=Kd.C_get h z69 i h0 h1;have hc:∀ j u,c[j]?=some u→w.cell? (ad.add (i.toNat*4+j))=some u:=cP;obtain ⟨A0,c0,rfl,l0,g0⟩:=k69_open hK;exact ⟨ad,A0,c0,e,hc 0 _ rfl,by rw [← add_field _ _ 1 (by omega)];exact hc 1 _ rfl,by rw [← add_field _ _ 2 (by omega)];exact hc 2 _ rfl,by rw [← add_field _ _ 3 (by omega)];exact hc 3 _ rfl,l0,g0⟩
structure S40 where
  f0:Int
  f1:Int
  f2:Int
  f3:Bool
def z40:S40:=⟨(0:Int),(0:Int),(0:Int),false⟩
def k40:Kd S40:=Kd.iso (Kd.pair (Kd.int .i64) (Kd.pair (Kd.int .i64) (Kd.pair (Kd.int .i64) Kd.bool))) (fun x:S40=>(x.f0,x.f1,x.f2,x.f3))
theorem k40_open {w:World} {x:S40} {cs:List Value} (h:k40.K w x cs):cs=[.int .i64 x.f0,.int .i64 x.f1,.int .i64 x.f2,.bool x.f3]:=by
  obtain ⟨_,_,rfl,rfl,⟨_,_,rfl,rfl,⟨_,_,rfl,rfl,rfl⟩⟩⟩:=h;exact rfl
theorem k40_openM {w:World} {base:Nat} {ok:Nat→Prop} {x:S40} {cs:List Value} (h:k40.M w base ok x cs):cs=[.int .i64 x.f0,.int .i64 x.f1,.int .i64 x.f2,.bool x.f3]:=by
  obtain ⟨_,_,rfl,rfl,⟨_,_,rfl,rfl,⟨_,_,rfl,rfl,rfl⟩⟩⟩:=h;exact rfl
theorem k40_mkM (w:World) (base:Nat) (ok:Nat→Prop) (x:S40) :k40.M w base ok x [.int .i64 x.f0,.int .i64 x.f1,.int .i64 x.f2,.bool x.f3]:=⟨[.int .i64 x.f0],[.int .i64 x.f1,.int .i64 x.f2,.bool x.f3],rfl,rfl,⟨[.int .i64 x.f1],[.int .i64 x.f2,.bool x.f3],rfl,rfl,⟨[.int .i64 x.f2],[.bool x.f3],rfl,rfl,rfl⟩⟩⟩
structure S42 where
  f0:ByteArray
  f1:Int
  f2:(List S69)
  f3:(List S69)
  f4:ByteArray
  f5:ByteArray
  f6:ByteArray
  f7:S40
  f8:Int
  f9:ByteArray
  f10:ByteArray
def z42:S42:=⟨(⟨#[]⟩:ByteArray),(0:Int),([]:List S69),([]:List S69),(⟨#[]⟩:ByteArray),(⟨#[]⟩:ByteArray),(⟨#[]⟩:ByteArray),z40,(0:Int),(⟨#[]⟩:ByteArray),(⟨#[]⟩:ByteArray)⟩
def k42:Kd S42:=Kd.iso (Kd.pair Kd.string (Kd.pair (Kd.int .i64) (Kd.pair (Kd.slice 69 k69) (Kd.pair (Kd.slice 69 k69) (Kd.pair Kd.string (Kd.pair Kd.string (Kd.pair Kd.string (Kd.pair k40 (Kd.pair (Kd.int .i64) (Kd.pair Kd.string Kd.string)))))))))) (fun x:S42=>(x.f0,x.f1,x.f2,x.f3,x.f4,x.f5,x.f6,x.f7,x.f8,x.f9,x.f10))
theorem k42_open {w:World} {x:S42} {cs:List Value} (h:k42.K w x cs):∃ A2 c2 A3 c3,cs=[.string x.f0,.int .i64 x.f1,.slice A2 x.f2.length c2,.slice A3 x.f3.length c3,.string x.f4,.string x.f5,.string x.f6,.int .i64 x.f7.f0,.int .i64 x.f7.f1,.int .i64 x.f7.f2,.bool x.f7.f3,.int .i64 x.f8,.string x.f9,.string x.f10]∧x.f2.length≤c2∧k69.C w A2 x.f2.length x.f2∧x.f3.length≤c3∧k69.C w A3 x.f3.length x.f3:=by
  obtain ⟨_,_,rfl,rfl,⟨_,_,rfl,rfl,⟨_,_,rfl,⟨A2,c2,rfl,l2,g2⟩,⟨_,_,rfl,⟨A3,c3,rfl,l3,g3⟩,⟨_,_,rfl,rfl,⟨_,_,rfl,rfl,⟨_,_,rfl,rfl,⟨_,_,rfl,s7,⟨_,_,rfl,rfl,⟨_,_,rfl,rfl,rfl⟩⟩⟩⟩⟩⟩⟩⟩⟩⟩:=h;obtain rfl:=k40_open s7;exact ⟨A2,c2,A3,c3,rfl,l2,g2,l3,g3⟩
theorem k42_openM {w:World} {base:Nat} {ok:Nat→Prop} {x:S42} {cs:List Value} (h:k42.M w base ok x cs):∃ v2 v3,cs=[.string x.f0,.int .i64 x.f1,v2,v3,.string x.f4,.string x.f5,.string x.f6,.int .i64 x.f7.f0,.int .i64 x.f7.f1,.int .i64 x.f7.f2,.bool x.f7.f3,.int .i64 x.f8,.string x.f9,.string x.f10]∧k69.R 69 w base ok v2 x.f2∧k69.R 69 w base ok v3 x.f3:=by
  obtain ⟨_,_,rfl,rfl,⟨_,_,rfl,rfl,⟨_,_,rfl,⟨v2,rfl,g2⟩,⟨_,_,rfl,⟨v3,rfl,g3⟩,⟨_,_,rfl,rfl,⟨_,_,rfl,rfl,⟨_,_,rfl,rfl,⟨_,_,rfl,s7,⟨_,_,rfl,rfl,⟨_,_,rfl,rfl,rfl⟩⟩⟩⟩⟩⟩⟩⟩⟩⟩:=h;obtain rfl:=k40_openM s7;exact ⟨v2,v3,rfl,g2,g3⟩
theorem k42_mkM (w:World) (base:Nat) (ok:Nat→Prop) (x:S42) {v2:Value} (g2:k69.R 69 w base ok v2 x.f2) {v3:Value} (g3:k69.R 69 w base ok v3 x.f3):k42.M w base ok x [.string x.f0,.int .i64 x.f1,v2,v3,.string x.f4,.string x.f5,.string x.f6,.int .i64 x.f7.f0,.int .i64 x.f7.f1,.int .i64 x.f7.f2,.bool x.f7.f3,.int .i64 x.f8,.string x.f9,.string x.f10]:=⟨[.string x.f0],[.int .i64 x.f1,v2,v3,.string x.f4,.string x.f5,.string x.f6,.int .i64 x.f7.f0,.int .i64 x.f7.f1,.int .i64 x.f7.f2,.bool x.f7.f3,.int .i64 x.f8,.string x.f9,.string x.f10],rfl,rfl,⟨[.int .i64 x.f1],[v2,v3,.string x.f4,.string x.f5,.string x.f6,.int .i64 x.f7.f0,.int .i64 x.f7.f1,.int .i64 x.f7.f2,.bool x.f7.f3,.int .i64 x.f8,.string x.f9,.string x.f10],rfl,rfl,⟨[v2],[v3,.string x.f4,.string x.f5,.string x.f6,.int .i64 x.f7.f0,.int .i64 x.f7.f1,.int .i64 x.f7.f2,.bool x.f7.f3,.int .i64 x.f8,.string x.f9,.string x.f10],rfl,⟨v2,rfl,g2⟩,⟨[v3],[.string x.f4,.string x.f5,.string x.f6,.int .i64 x.f7.f0,.int .i64 x.f7.f1,.int .i64 x.f7.f2,.bool x.f7.f3,.int .i64 x.f8,.string x.f9,.string x.f10],rfl,⟨v3,rfl,g3⟩,⟨[.string x.f4],[.string x.f5,.string x.f6,.int .i64 x.f7.f0,.int .i64 x.f7.f1,.int .i64 x.f7.f2,.bool x.f7.f3,.int .i64 x.f8,.string x.f9,.string x.f10],rfl,rfl,⟨[.string x.f5],[.string x.f6,.int .i64 x.f7.f0,.int .i64 x.f7.f1,.int .i64 x.f7.f2,.bool x.f7.f3,.int .i64 x.f8,.string x.f9,.string x.f10],rfl,rfl,⟨[.string x.f6],[.int .i64 x.f7.f0,.int .i64 x.f7.f1,.int .i64 x.f7.f2,.bool x.f7.f3,.int .i64 x.f8,.string x.f9,.string x.f10],rfl,rfl,⟨[.int .i64 x.f7.f0,.int .i64 x.f7.f1,.int .i64 x.f7.f2,.bool x.f7.f3],[.int .i64 x.f8,.string x.f9,.string x.f10],rfl,(k40_mkM w base ok x.f7 ),⟨[.int .i64 x.f8],[.string x.f9,.string x.f10],rfl,rfl,⟨[.string x.f9],[.string x.f10],rfl,rfl,rfl⟩⟩⟩⟩⟩⟩⟩⟩⟩⟩
def rd_T42 (xs:List S42) (i:Int):S42:=xs.getD i.toNat z42
theorem at_T42 {w:World} {A:Option Addr} {n:Nat} {xs:List S42} (h:Kd.C k42 w A n xs) (i:Int) (h0:0≤i) (h1:i<n):∃ ad A2 c2 A3 c3,A=some ad∧w.cell? (ad.add (i.toNat*14))=some (.string (rd_T42 xs i).f0)∧w.cell? ⟨(ad.add (i.toNat*14)).block,(ad.add (i.toNat*14)).off+1,none⟩=some (.int .i64 (rd_T42 xs i).f1)∧w.cell? ⟨(ad.add (i.toNat*14)).block,(ad.add (i.toNat*14)).off+2,none⟩=some (.slice A2 (rd_T42 xs i).f2.length c2)∧w.cell? ⟨(ad.add (i.toNat*14)).block,(ad.add (i.toNat*14)).off+3,none⟩=some (.slice A3 (rd_T42 xs i).f3.length c3)∧w.cell? ⟨(ad.add (i.toNat*14)).block,(ad.add (i.toNat*14)).off+4,none⟩=some (.string (rd_T42 xs i).f4)∧w.cell? ⟨(ad.add (i.toNat*14)).block,(ad.add (i.toNat*14)).off+5,none⟩=some (.string (rd_T42 xs i).f5)∧w.cell? ⟨(ad.add (i.toNat*14)).block,(ad.add (i.toNat*14)).off+6,none⟩=some (.string (rd_T42 xs i).f6)∧w.cell? ⟨(ad.add (i.toNat*14)).block,(ad.add (i.toNat*14)).off+7,none⟩=some (.int .i64 (rd_T42 xs i).f7.f0)∧w.cell? ⟨(ad.add (i.toNat*14)).block,(ad.add (i.toNat*14)).off+8,none⟩=some (.int .i64 (rd_T42 xs i).f7.f1)∧w.cell? ⟨(ad.add (i.toNat*14)).block,(ad.add (i.toNat*14)).off+9,none⟩=some (.int .i64 (rd_T42 xs i).f7.f2)∧w.cell? ⟨(ad.add (i.toNat*14)).block,(ad.add (i.toNat*14)).off+10,none⟩=some (.bool (rd_T42 xs i).f7.f3)∧w.cell? ⟨(ad.add (i.toNat*14)).block,(ad.add (i.toNat*14)).off+11,none⟩=some (.int .i64 (rd_T42 xs i).f8)∧w.cell? ⟨(ad.add (i.toNat*14)).block,(ad.add (i.toNat*14)).off+12,none⟩=some (.string (rd_T42 xs i).f9)∧w.cell? ⟨(ad.add (i.toNat*14)).block,(ad.add (i.toNat*14)).off+13,none⟩=some (.string (rd_T42 xs i).f10)∧(rd_T42 xs i).f2.length≤c2∧k69.C w A2 (rd_T42 xs i).f2.length (rd_T42 xs i).f2∧(rd_T42 xs i).f3.length≤c3∧k69.C w A3 (rd_T42 xs i).f3.length (rd_T42 xs i).f3:=by
  obtain ⟨ad,c,e,_,hK,cP⟩:=Kd.C_get h z42 i h0 h1;have hc:∀ j u,c[j]?=some u→w.cell? (ad.add (i.toNat*14+j))=some u:=cP;obtain ⟨A2,c2,A3,c3,rfl,l2,g2,l3,g3⟩:=k42_open hK;exact ⟨ad,A2,c2,A3,c3,e,hc 0 _ rfl,by rw [← add_field _ _ 1 (by omega)];exact hc 1 _ rfl,by rw [← add_field _ _ 2 (by omega)];exact hc 2 _ rfl,by rw [← add_field _ _ 3 (by omega)];exact hc 3 _ rfl,by rw [← add_field _ _ 4 (by omega)];exact hc 4 _ rfl,by rw [← add_field _ _ 5 (by omega)];exact hc 5 _ rfl,by rw [← add_field _ _ 6 (by omega)];exact hc 6 _ rfl,by rw [← add_field _ _ 7 (by omega)];exact hc 7 _ rfl,by rw [← add_field _ _ 8 (by omega)];exact hc 8 _ rfl,by rw [← add_field _ _ 9 (by omega)];exact hc 9 _ rfl,by rw [← add_field _ _ 10 (by omega)];exact hc 10 _ rfl,by rw [← add_field _ _ 11 (by omega)];exact hc 11 _ rfl,by rw [← add_field _ _ 12 (by omega)];exact hc 12 _ rfl,by rw [← add_field _ _ 13 (by omega)];exact hc 13 _ rfl,l2,g2,l3,g3⟩
structure S28 where
  f0:(List S42)
structure S24 where
  f0:(List S52)
def k24:Kd S24:=Kd.iso (Kd.slice 52 k52) (fun x:S24=>x.f0)
theorem k24_open {w:World} {x:S24} {cs:List Value} (h:k24.K w x cs):∃ A0 c0,cs=[.slice A0 x.f0.length c0]∧x.f0.length≤c0∧k52.C w A0 x.f0.length x.f0:=by
  obtain ⟨A0,c0,rfl,l0,g0⟩:=h;exact ⟨A0,c0,rfl,l0,g0⟩
theorem bcl {w w':World} {a:Addr} {v:Value} (hb:Below w.heap.size w w') (h:w.cell? a=some v):w'.cell? a=some v:=(hb.cell (World.block_lt_of_cell? w _ h)).trans h
theorem bsz {w0 w:World} {g:Nat} (hg:g=w.heap.size) (hb:Below w0.heap.size w0 w):w0.heap.size≤g:=hg ▸ hb.size
theorem bne {w:World} {g g':Nat} {o:Obj} (hg:g'=w.heap.size) (h:w.heap[g]?=some o):g≠g':=hg ▸ Nat.ne_of_lt (blk_lt h)
theorem ben {w:World} {g g':Nat} {o:Obj} (hg:g'=w.heap.size) (h:w.heap[g]?=some o):g'≠g:=hg ▸ Nat.ne_of_gt (blk_lt h)
theorem pu_ {P:Program} {ops:Array Oper} {Q:Exit→Act→World→Prop} {md:Region.Mode} {S:World→Prop} {ds:List Nat} (i:Nat) (N:Option Tmp) {oi:Oper} {v:Value} {fuel:Nat} {l:Array Bool} {a:Act} {w:World} (l':Array Bool) {T:Bool × List (List Nat × List Nat)} (hT:rtab md ops=T) {a':Act}
    (h:wpAnyLast P md ops Q S ds fuel l' a' w) (hi:ops[i]?=some oi:=by rfl) (hN:oi.dst=N:=by rfl) (hc:anyT T l.toList l'.toList i=true:=by kernel_rfl)
    (hQ:∀ c a w,Q (.panic c) (a.put oi.dst v) w→Q (.panic c) a w:=by exact fun _ _ _ h=>h) (hy:Yields P ops oi v a:=by exact Or.inl ⟨by rfl,by intro w';go_simp;with_reducible rfl⟩) (ha:a.put N v=a':=by simp only [Act.put,List.setIfInBounds_toArray,List.set_cons_zero,List.set_cons_succ,i64_w,i32_w];rfl) :
    wpAnyLast P md ops Q S ds (fuel+1) l a w:=pure_ l' hi hN (any_of hT hc) hQ hy ha h
theorem no_ {P:Program} {ops:Array Oper} {Q:Exit→Act→World→Prop} {md:Region.Mode} {S:World→Prop} {ds:List Nat} (N:Option Tmp) {v:Value} {fuel:Nat} {l:Array Bool} {a a':Act} {w:World} (h:wpAnyLast P md ops Q S ds fuel l a' w) (ha:a.put N v=a':=by simp only [Act.put,List.setIfInBounds_toArray,List.set_cons_zero,List.set_cons_succ,i64_w,i32_w];rfl) :
    wpAnyLast P md ops Q S ds fuel l (a.put N v) w:=norm_ ha h
theorem on_ {P:Program} {ops:Array Oper} {Q:Exit→Act→World→Prop} {md:Region.Mode} {S:World→Prop} {ds:List Nat} (i:Nat) (N:Option Tmp) {oi:Oper} {fuel:Nat} {l:Array Bool} {a:Act} {w:World} (l':Array Bool) {T:Bool × List (List Nat × List Nat)} (hT:rtab md ops=T)
    (h:∀ K:Act→World→Prop,Shut (∀ a' w',S w'→(S w'→wpAnyLast P md ops Q S ds fuel l' a' w')→K a' w')→if Region.wanted oi (yielded ops a.tmps)=true then Oper.wp P oi a w K Q else K (a.put N undef) w)
    (hi:ops[i]?=some oi:=by rfl) (hN:oi.dst=N:=by rfl) (hc:(readyT T.2 l.toList == [i] && l.toList.set i true == l'.toList)=true:=by kernel_rfl) (hd:i ∉ ds:=by decide) :
    wpAnyLast P md ops Q S ds (fuel+1) l a w:=one_ l' hi hN (one_of hT hc) hd h
theorem gs_ {P:Program} {ops:Array Oper} {Q:Exit→Act→World→Prop} {oi:Oper} {N:Option Tmp} {a:Act} {w:World} {K:Act→World→Prop} {f:FuncId} {fn:Func} {as_:Array Operand} {ts:Array TypeId} (hf:P.funcs[f]?=some fn) (args:Array Value)
    (h:Calls P f args w fun e w'=>∃ v,e=.returned v∧K (a.put N v) w') (hname:(fn.name == "runtime.NumGoroutine")=false:=by kernel_rfl) (hb:fn.body.isSome=true:=by rfl)
    (hw:Region.wanted oi (yielded ops a.tmps)=true:=by rfl) (hN:oi.dst=N:=by rfl) (hop:oi.op=.call { callee:=.value (.func f),args:=as_,argTypes:=ts }:=by rfl)
    (hargs:as_.map a.eval=args:=by (try simp only [List.map_toArray,List.map_cons,List.map_nil]);first|done|rfl|(simp only [List.length_drop,List.length_take];rfl)):if Region.wanted oi (yielded ops a.tmps)=true then Oper.wp P oi a w K Q else K (a.put N undef) w :=
  goes_ hf hname hb args hw hN hop hargs h
theorem blkc4 {w:World} {g:Nat} {t:TypeId} {a0 a1 a2 a3:Value} (h:w.heap[g]?=some (.cells #[a0,a1,a2,a3] t (0,0))):w.cell? ⟨g,0,none⟩=some a0∧w.cell? ⟨g,1,none⟩=some a1∧w.cell? ⟨g,2,none⟩=some a2∧w.cell? ⟨g,3,none⟩=some a3∧w.frozen? ⟨g,0,none⟩=false∧w.frozen? ⟨g,1,none⟩=false∧w.frozen? ⟨g,2,none⟩=false∧w.frozen? ⟨g,3,none⟩=false:=⟨blk_cell h 0,blk_cell h 1,blk_cell h 2,blk_cell h 3,blk_frozen h 0,blk_frozen h 1,blk_frozen h 2,blk_frozen h 3⟩
theorem blkc14 {w:World} {g:Nat} {t:TypeId} {a0 a1 a2 a3 a4 a5 a6 a7 a8 a9 iG iH iI iJ:Value} (h:w.heap[g]?=some (.cells #[a0,a1,a2,a3,a4,a5,a6,a7,a8,a9,iG,iH,iI,iJ] t (0,0))):w.cell? ⟨g,0,none⟩=some a0∧w.cell? ⟨g,1,none⟩=some a1∧w.cell? ⟨g,2,none⟩=some a2∧w.cell? ⟨g,3,none⟩=some a3∧w.cell? ⟨g,4,none⟩=some a4∧w.cell? ⟨g,5,none⟩=some a5∧w.cell? ⟨g,6,none⟩=some a6∧w.cell? ⟨g,7,none⟩=some a7∧w.cell? ⟨g,8,none⟩=some a8∧w.cell? ⟨g,9,none⟩=some a9∧w.cell? ⟨g,10,none⟩=some iG∧w.cell? ⟨g,11,none⟩=some iH∧w.cell? ⟨g,12,none⟩=some iI∧w.cell? ⟨g,13,none⟩=some iJ∧w.frozen? ⟨g,0,none⟩=false∧w.frozen? ⟨g,1,none⟩=false∧w.frozen? ⟨g,2,none⟩=false∧w.frozen? ⟨g,3,none⟩=false∧w.frozen? ⟨g,4,none⟩=false∧w.frozen? ⟨g,5,none⟩=false∧w.frozen? ⟨g,6,none⟩=false∧w.frozen? ⟨g,7,none⟩=false∧w.frozen? ⟨g,8,none⟩=false∧w.frozen? ⟨g,9,none⟩=false∧w.frozen? ⟨g,10,none⟩=false∧w.frozen? ⟨g,11,none⟩=false∧w.frozen? ⟨g,12,none⟩=false∧w.frozen? ⟨g,13,none⟩=false:=⟨blk_cell h 0,blk_cell h 1,blk_cell h 2,blk_cell h 3,blk_cell h 4,blk_cell h 5,blk_cell h 6,blk_cell h 7,blk_cell h 8,blk_cell h 9,blk_cell h 10,blk_cell h 11,blk_cell h 12,blk_cell h 13,blk_frozen h 0,blk_frozen h 1,blk_frozen h 2,blk_frozen h 3,blk_frozen h 4,blk_frozen h 5,blk_frozen h 6,blk_frozen h 7,blk_frozen h 8,blk_frozen h 9,blk_frozen h 10,blk_frozen h 11,blk_frozen h 12,blk_frozen h 13⟩
theorem ta0_ {P:Program} {ops:Array Oper} {Q:Exit→Act→World→Prop} {md:Region.Mode} {S:World→Prop} {ds:List Nat} (i:Nat) (N:Option Tmp) {oi:Oper} {v:Value} {fuel:Nat} {l:Array Bool} {a:Act} {w:World} (l':Array Bool) {T:Bool × List (List Nat × List Nat)} {B:List Nat} (hT:rtab md ops=T) (hB:waitsOk T.2 B=true) (hS:S w) {a':Act}
    (h:wpAnyLast P md ops Q S ds fuel l' a' w) (hi:ops[i]?=some oi:=by rfl) (hN:oi.dst=N:=by rfl) (hc:takeW T B ds l.toList l'.toList i=true:=by kernel_rfl)
    (hQ:∀ c a w,Q (.panic c) (a.put oi.dst v) w→Q (.panic c) a w:=by exact fun _ _ _ h=>h) (hy:YieldsIf P ops S oi v a:=by exact Or.inl ⟨by rfl,by rintro w' ⟨s0,s1,s2,s3,s4,s5,s6,s7,s8,s9,s10,s11,IC,ID⟩;go_simp;with_reducible rfl⟩) (ha:a.put N v=a':=by simp only [Act.put,List.setIfInBounds_toArray,List.set_cons_zero,List.set_cons_succ,i64_w,i32_w];rfl) :
    wpAnyLast P md ops Q S ds (fuel+1) l a w:=take_ l' hi hN (take_ofW hT hB hc) hQ hy hS ha h
theorem ta1_ {P:Program} {ops:Array Oper} {Q:Exit→Act→World→Prop} {md:Region.Mode} {S:World→Prop} {ds:List Nat} (i:Nat) (N:Option Tmp) {oi:Oper} {v:Value} {fuel:Nat} {l:Array Bool} {a:Act} {w:World} (l':Array Bool) {T:Bool × List (List Nat × List Nat)} {B:List Nat} (hT:rtab md ops=T) (hB:waitsOk T.2 B=true) (hS:S w) {a':Act}
    (h:wpAnyLast P md ops Q S ds fuel l' a' w) (hi:ops[i]?=some oi:=by rfl) (hN:oi.dst=N:=by rfl) (hc:takeW T B ds l.toList l'.toList i=true:=by kernel_rfl)
    (hQ:∀ c a w,Q (.panic c) (a.put oi.dst v) w→Q (.panic c) a w:=by exact fun _ _ _ h=>h) (hy:YieldsIf P ops S oi v a:=by exact Or.inl ⟨by rfl,by rintro w' ⟨s0,s1,s2,s3,s4,s5,s6,s7,s8,s9,s10,s11,IC,ID,s14⟩;go_simp;with_reducible rfl⟩) (ha:a.put N v=a':=by simp only [Act.put,List.setIfInBounds_toArray,List.set_cons_zero,List.set_cons_succ,i64_w,i32_w];rfl) :
    wpAnyLast P md ops Q S ds (fuel+1) l a w:=take_ l' hi hN (take_ofW hT hB hc) hQ hy hS ha h
theorem ta2_ {P:Program} {ops:Array Oper} {Q:Exit→Act→World→Prop} {md:Region.Mode} {S:World→Prop} {ds:List Nat} (i:Nat) (N:Option Tmp) {oi:Oper} {v:Value} {fuel:Nat} {l:Array Bool} {a:Act} {w:World} (l':Array Bool) {T:Bool × List (List Nat × List Nat)} {B:List Nat} (hT:rtab md ops=T) (hB:waitsOk T.2 B=true) (hS:S w) {a':Act}
    (h:wpAnyLast P md ops Q S ds fuel l' a' w) (hi:ops[i]?=some oi:=by rfl) (hN:oi.dst=N:=by rfl) (hc:takeW T B ds l.toList l'.toList i=true:=by kernel_rfl)
    (hQ:∀ c a w,Q (.panic c) (a.put oi.dst v) w→Q (.panic c) a w:=by exact fun _ _ _ h=>h) (hy:YieldsIf P ops S oi v a:=by exact Or.inl ⟨by rfl,by rintro w' ⟨s0,s1,s2,s3,s4,s5,s6,s7,s8,s9,s10,s11,IC,ID,s14,s15,s16,s17,s18,s19,s20,s21,s22,s23,s24,s25,s26,s27,s28⟩;go_simp;with_reducible rfl⟩) (ha:a.put N v=a':=by simp only [Act.put,List.setIfInBounds_toArray,List.set_cons_zero,List.set_cons_succ,i64_w,i32_w];rfl) :
    wpAnyLast P md ops Q S ds (fuel+1) l a w:=take_ l' hi hN (take_ofW hT hB hc) hQ hy hS ha h
theorem ta3_ {P:Program} {ops:Array Oper} {Q:Exit→Act→World→Prop} {md:Region.Mode} {S:World→Prop} {ds:List Nat} (i:Nat) (N:Option Tmp) {oi:Oper} {v:Value} {fuel:Nat} {l:Array Bool} {a:Act} {w:World} (l':Array Bool) {T:Bool × List (List Nat × List Nat)} {B:List Nat} (hT:rtab md ops=T) (hB:waitsOk T.2 B=true) (hS:S w) {a':Act}
    (h:wpAnyLast P md ops Q S ds fuel l' a' w) (hi:ops[i]?=some oi:=by rfl) (hN:oi.dst=N:=by rfl) (hc:takeW T B ds l.toList l'.toList i=true:=by kernel_rfl)
    (hQ:∀ c a w,Q (.panic c) (a.put oi.dst v) w→Q (.panic c) a w:=by exact fun _ _ _ h=>h) (hy:YieldsIf P ops S oi v a:=by exact Or.inl ⟨by rfl,by rintro w' ⟨s0,s1,s2,s3⟩;go_simp;with_reducible rfl⟩) (ha:a.put N v=a':=by simp only [Act.put,List.setIfInBounds_toArray,List.set_cons_zero,List.set_cons_succ,i64_w,i32_w];rfl) :
    wpAnyLast P md ops Q S ds (fuel+1) l a w:=take_ l' hi hN (take_ofW hT hB hc) hQ hy hS ha h
theorem ta4_ {P:Program} {ops:Array Oper} {Q:Exit→Act→World→Prop} {md:Region.Mode} {S:World→Prop} {ds:List Nat} (i:Nat) (N:Option Tmp) {oi:Oper} {v:Value} {fuel:Nat} {l:Array Bool} {a:Act} {w:World} (l':Array Bool) {T:Bool × List (List Nat × List Nat)} {B:List Nat} (hT:rtab md ops=T) (hB:waitsOk T.2 B=true) (hS:S w) {a':Act}
    (h:wpAnyLast P md ops Q S ds fuel l' a' w) (hi:ops[i]?=some oi:=by rfl) (hN:oi.dst=N:=by rfl) (hc:takeW T B ds l.toList l'.toList i=true:=by kernel_rfl)
    (hQ:∀ c a w,Q (.panic c) (a.put oi.dst v) w→Q (.panic c) a w:=by exact fun _ _ _ h=>h) (hy:YieldsIf P ops S oi v a:=by exact Or.inl ⟨by rfl,by rintro w' ⟨s0,s1,s2,s3,s4,s5,s6,s7⟩;go_simp;with_reducible rfl⟩) (ha:a.put N v=a':=by simp only [Act.put,List.setIfInBounds_toArray,List.set_cons_zero,List.set_cons_succ,i64_w,i32_w];rfl) :
    wpAnyLast P md ops Q S ds (fuel+1) l a w:=take_ l' hi hN (take_ofW hT hB hc) hQ hy hS ha h
theorem ta5_ {P:Program} {ops:Array Oper} {Q:Exit→Act→World→Prop} {md:Region.Mode} {S:World→Prop} {ds:List Nat} (i:Nat) (N:Option Tmp) {oi:Oper} {v:Value} {fuel:Nat} {l:Array Bool} {a:Act} {w:World} (l':Array Bool) {T:Bool × List (List Nat × List Nat)} {B:List Nat} (hT:rtab md ops=T) (hB:waitsOk T.2 B=true) (hS:S w) {a':Act}
    (h:wpAnyLast P md ops Q S ds fuel l' a' w) (hi:ops[i]?=some oi:=by rfl) (hN:oi.dst=N:=by rfl) (hc:takeW T B ds l.toList l'.toList i=true:=by kernel_rfl)
    (hQ:∀ c a w,Q (.panic c) (a.put oi.dst v) w→Q (.panic c) a w:=by exact fun _ _ _ h=>h) (hy:YieldsIf P ops S oi v a:=by exact Or.inl ⟨by rfl,by rintro w' ⟨s0,s1,s2,s3,s4,s5,s6,s7,s8,s9,s10,s11,IC,ID,s14,s15,s16,s17,s18,s19,s20,s21,s22,s23,s24,s25,s26,s27⟩;go_simp;with_reducible rfl⟩) (ha:a.put N v=a':=by simp only [Act.put,List.setIfInBounds_toArray,List.set_cons_zero,List.set_cons_succ,i64_w,i32_w];rfl) :
    wpAnyLast P md ops Q S ds (fuel+1) l a w:=take_ l' hi hN (take_ofW hT hB hc) hQ hy hS ha h
theorem ta6_ {P:Program} {ops:Array Oper} {Q:Exit→Act→World→Prop} {md:Region.Mode} {S:World→Prop} {ds:List Nat} (i:Nat) (N:Option Tmp) {oi:Oper} {v:Value} {fuel:Nat} {l:Array Bool} {a:Act} {w:World} (l':Array Bool) {T:Bool × List (List Nat × List Nat)} {B:List Nat} (hT:rtab md ops=T) (hB:waitsOk T.2 B=true) (hS:S w) {a':Act}
    (h:wpAnyLast P md ops Q S ds fuel l' a' w) (hi:ops[i]?=some oi:=by rfl) (hN:oi.dst=N:=by rfl) (hc:takeW T B ds l.toList l'.toList i=true:=by kernel_rfl)
    (hQ:∀ c a w,Q (.panic c) (a.put oi.dst v) w→Q (.panic c) a w:=by exact fun _ _ _ h=>h) (hy:YieldsIf P ops S oi v a:=by exact Or.inl ⟨by rfl,by rintro w' ⟨s0,s1,s2,s3,s4,s5,s6,s7,s8,s9,s10,s11,IC,ID,s14,s15,s16,s17,s18,s19,s20,s21,s22,s23,s24,s25,s26,s27,s28,s29,s30,s31,s32,s33,s34,s35,s36,s37,s38,s39,s40,s41,s42⟩;go_simp;with_reducible rfl⟩) (ha:a.put N v=a':=by simp only [Act.put,List.setIfInBounds_toArray,List.set_cons_zero,List.set_cons_succ,i64_w,i32_w];rfl) :
    wpAnyLast P md ops Q S ds (fuel+1) l a w:=take_ l' hi hN (take_ofW hT hB hc) hQ hy hS ha h
theorem ta7_ {P:Program} {ops:Array Oper} {Q:Exit→Act→World→Prop} {md:Region.Mode} {S:World→Prop} {ds:List Nat} (i:Nat) (N:Option Tmp) {oi:Oper} {v:Value} {fuel:Nat} {l:Array Bool} {a:Act} {w:World} (l':Array Bool) {T:Bool × List (List Nat × List Nat)} {B:List Nat} (hT:rtab md ops=T) (hB:waitsOk T.2 B=true) (hS:S w) {a':Act}
    (h:wpAnyLast P md ops Q S ds fuel l' a' w) (hi:ops[i]?=some oi:=by rfl) (hN:oi.dst=N:=by rfl) (hc:takeW T B ds l.toList l'.toList i=true:=by kernel_rfl)
    (hQ:∀ c a w,Q (.panic c) (a.put oi.dst v) w→Q (.panic c) a w:=by exact fun _ _ _ h=>h) (hy:YieldsIf P ops S oi v a:=by exact Or.inl ⟨by rfl,by rintro w' ⟨s0,s1,s2,s3,s4,s5,s6,s7,s8,s9,s10,s11,IC,ID,s14,s15⟩;go_simp;with_reducible rfl⟩) (ha:a.put N v=a':=by simp only [Act.put,List.setIfInBounds_toArray,List.set_cons_zero,List.set_cons_succ,i64_w,i32_w];rfl) :
    wpAnyLast P md ops Q S ds (fuel+1) l a w:=take_ l' hi hN (take_ofW hT hB hc) hQ hy hS ha h
theorem au0 {P:Prop} (h:P:=by first|exact HG.out|(refine HG.out.drawn ?_;(repeat (first|exact Drawn0.refl _|apply Drawn0.step));done)|(refine HG.out.below ?_;(repeat (first|(with_reducible first|exact HB.out|apply below_alloc|apply pw_below_drewN|apply below_drew1|refine below_set ?_ (by first|assumption|exact Aside0.out (by assumption)))|exact HB.out));done)):P:=h
theorem au1 {P:Prop} (h:P:=by (with_reducible repeat (first|refine blk_drewN ?_ _|refine blk_drew ?_|refine blk_alloc ?_ _));refine blk_put (cs:=#[.slice none 0 0]) ?_ 0 _ rfl;(with_reducible repeat (first|refine blk_drewN ?_ _|refine blk_drew ?_|refine blk_alloc ?_ _));exact eW.out):P:=h
theorem au2 {P:Prop} (h:P:=by repeat (first|(with_reducible first|exact HB.out|apply below_alloc|apply pw_below_drewN|apply below_drew1|refine below_set ?_ wK.out|refine below_set ?_ Bs.out|refine below_set ?_ En.out|refine below_set ?_ a1I.out)|exact HB.out)):P:=h
theorem au3 {P:Prop} (h:P:=by (with_reducible repeat (first|apply Kd.S_alloc|apply Kd.S_drewN|apply Kd.S_drew));exact (Kd.S_mono (Kd.S_far (p:=⟨eS,2,none⟩) (Kd.S_types Eo.out kC.out (by decide)) (fun _ hk=>hk.2) (.slice eT fN.length eU)) (fun _ h_=>h_.1))):P:=h
theorem au4 {P:Prop} (h:P:=by (with_reducible repeat (first|apply Kd.S_alloc|apply Kd.S_drewN|apply Kd.S_drew));exact (Kd.S_mono (Kd.S_far (p:=⟨wL,2,none⟩) (Kd.S_types MI.out oK.out (by decide)) (fun _ hk=>hk.2) (.slice fW iX.length fL)) (fun _ h_=>h_.1))):P:=h
theorem au5 {P:Prop} (h:P:=by repeat (first|(with_reducible first|exact HB.out|apply below_alloc|apply pw_below_drewN|apply below_drew1|refine below_set ?_ wK.out|refine below_set ?_ Bs.out|refine below_set ?_ En.out)|exact HB.out)):P:=h
theorem au6 {P:Prop} (h:P:=by repeat (first|(with_reducible first|exact HB.out|apply below_alloc|apply pw_below_drewN|apply below_drew1|refine below_set ?_ MJ.out|refine below_set ?_ a1J.out|refine below_set ?_ aeG.out)|exact HB.out)):P:=h
theorem au7 {P:Prop} (h:P:=by repeat (first|(with_reducible first|exact HB.out|apply below_alloc|apply pw_below_drewN|apply below_drew1|refine below_set ?_ MK.out|refine below_set ?_ a1K.out|refine below_set ?_ aeH.out)|exact HB.out)):P:=h
theorem au8 {P:Prop} (h:P:=by repeat (first|(with_reducible first|exact HB.out|apply below_alloc|apply pw_below_drewN|apply below_drew1|refine below_set ?_ ML.out|refine below_set ?_ a1L.out|refine below_set ?_ aeI.out)|exact HB.out)):P:=h
theorem au9 {P:Prop} (h:P:=by repeat (first|(with_reducible first|exact HB.out|apply below_alloc|apply pw_below_drewN|apply below_drew1|refine below_set ?_ qI.out|refine below_set ?_ rP.out|refine below_set ?_ JX.out)|exact HB.out)):P:=h
theorem au10 {P:Prop} (h:P:=by repeat (first|(with_reducible first|exact HB.out|apply below_alloc|apply pw_below_drewN|apply below_drew1|refine below_set ?_ a1M.out|refine below_set ?_ aeJ.out)|exact HB.out)):P:=h
theorem au11 {P:Prop} (h:P:=by repeat (first|(with_reducible first|exact HB.out|apply below_alloc|apply pw_below_drewN|apply below_drew1|refine below_set ?_ wK.out|refine below_set ?_ Bs.out)|exact HB.out)):P:=h
theorem au12 {P:Prop} (h:P:=by repeat (first|(with_reducible first|exact HB.out|apply below_alloc|apply pw_below_drewN|apply below_drew1|refine below_set ?_ qJ.out|refine below_set ?_ wM.out)|exact HB.out)):P:=h
theorem au13 {P:Prop} (h:P:=by repeat (first|(with_reducible first|exact HB.out|apply below_alloc|apply pw_below_drewN|apply below_drew1|refine below_set ?_ MJ.out|refine below_set ?_ a1J.out)|exact HB.out)):P:=h
theorem au14 {P:Prop} (h:P:=by repeat (first|(with_reducible first|exact HB.out|apply below_alloc|apply pw_below_drewN|apply below_drew1|refine below_set ?_ a1N.out|refine below_set ?_ aeK.out)|exact HB.out)):P:=h
theorem au15 {P:Prop} (h:P:=by repeat (first|(with_reducible first|exact HB.out|apply below_alloc|apply pw_below_drewN|apply below_drew1|refine below_set ?_ MK.out|refine below_set ?_ a1K.out)|exact HB.out)):P:=h
theorem au16 {P:Prop} (h:P:=by repeat (first|(with_reducible first|exact HB.out|apply below_alloc|apply pw_below_drewN|apply below_drew1|refine below_set ?_ ML.out|refine below_set ?_ a1L.out)|exact HB.out)):P:=h
theorem au17 {P:Prop} (h:P:=by repeat (first|(with_reducible first|exact HB.out|apply below_alloc|apply pw_below_drewN|apply below_drew1|refine below_set ?_ a1O.out|refine below_set ?_ aeL.out)|exact HB.out)):P:=h
theorem au18 {P:Prop} (h:P:=by repeat (first|(with_reducible first|exact HB.out|apply below_alloc|apply pw_below_drewN|apply below_drew1|refine below_set ?_ a1P.out|refine below_set ?_ aeM.out)|exact HB.out)):P:=h
theorem au19 {P:Prop} (h:P:=by repeat (first|(with_reducible first|exact HB.out|apply below_alloc|apply pw_below_drewN|apply below_drew1|refine below_set ?_ qI.out|refine below_set ?_ rP.out)|exact HB.out)):P:=h
theorem au20 {P:Prop} (h:P:=by rw [hg];exact below_size (show Below w0.heap.size w0 _ from by repeat (first|exact HB0.out|apply below_alloc|apply pw_below_drewN|apply below_drew1|refine below_set ?_ eV.out))):P:=h
theorem au21 {P:Prop} (h:P:=by repeat (first|(with_reducible first|exact HB.out|apply below_alloc|apply pw_below_drewN|apply below_drew1|refine below_set ?_ aeN.out)|exact HB.out)):P:=h
theorem au22 {P:Prop} (h:P:=by repeat (first|(with_reducible first|exact HB.out|apply below_alloc|apply pw_below_drewN|apply below_drew1|refine below_set ?_ a1M.out)|exact HB.out)):P:=h
theorem au23 {P:Prop} (h:P:=by repeat (first|(with_reducible first|exact HB.out|apply below_alloc|apply pw_below_drewN|apply below_drew1|refine below_set ?_ wK.out)|exact HB.out)):P:=h
theorem au24 {P:Prop} (h:P:=by repeat (first|(with_reducible first|exact HB.out|apply below_alloc|apply pw_below_drewN|apply below_drew1|refine below_set ?_ JY.out)|exact HB.out)):P:=h
theorem au25 {P:Prop} (h:P:=by repeat (first|(with_reducible first|exact HB.out|apply below_alloc|apply pw_below_drewN|apply below_drew1|refine below_set ?_ Bt.out)|exact HB.out)):P:=h
theorem au26 {P:Prop} (h:P:=by repeat (first|(with_reducible first|exact HB.out|apply below_alloc|apply pw_below_drewN|apply below_drew1|refine below_set ?_ qJ.out)|exact HB.out)):P:=h
theorem au27 {P:Prop} (h:P:=by repeat (first|(with_reducible first|exact HB.out|apply below_alloc|apply pw_below_drewN|apply below_drew1|refine below_set ?_ MM.out)|exact HB.out)):P:=h
theorem au28 {P:Prop} (h:P:=by repeat (first|(with_reducible first|exact HB.out|apply below_alloc|apply pw_below_drewN|apply below_drew1|refine below_set ?_ a1Q.out)|exact HB.out)):P:=h
theorem au29 {P:Prop} (h:P:=by repeat (first|(with_reducible first|exact HB.out|apply below_alloc|apply pw_below_drewN|apply below_drew1|refine below_set ?_ MJ.out)|exact HB.out)):P:=h
theorem au30 {P:Prop} (h:P:=by repeat (first|(with_reducible first|exact HB.out|apply below_alloc|apply pw_below_drewN|apply below_drew1|refine below_set ?_ a1N.out)|exact HB.out)):P:=h
theorem au31 {P:Prop} (h:P:=by repeat (first|(with_reducible first|exact HB.out|apply below_alloc|apply pw_below_drewN|apply below_drew1|refine below_set ?_ MK.out)|exact HB.out)):P:=h
theorem au32 {P:Prop} (h:P:=by repeat (first|(with_reducible first|exact HB.out|apply below_alloc|apply pw_below_drewN|apply below_drew1|refine below_set ?_ ML.out)|exact HB.out)):P:=h
theorem au33 {P:Prop} (h:P:=by repeat (first|(with_reducible first|exact HB.out|apply below_alloc|apply pw_below_drewN|apply below_drew1|refine below_set ?_ aeO.out)|exact HB.out)):P:=h
theorem au34 {P:Prop} (h:P:=by repeat (first|(with_reducible first|exact HB.out|apply below_alloc|apply pw_below_drewN|apply below_drew1|refine below_set ?_ aeP.out)|exact HB.out)):P:=h
theorem au35 {P:Prop} (h:P:=by repeat (first|(with_reducible first|exact HB.out|apply below_alloc|apply pw_below_drewN|apply below_drew1|refine below_set ?_ a1O.out)|exact HB.out)):P:=h
theorem au36 {P:Prop} (h:P:=by repeat (first|(with_reducible first|exact HB.out|apply below_alloc|apply pw_below_drewN|apply below_drew1|refine below_set ?_ a1R.out)|exact HB.out)):P:=h
theorem au37 {P:Prop} (h:P:=by repeat (first|(with_reducible first|exact HB.out|apply below_alloc|apply pw_below_drewN|apply below_drew1|refine below_set ?_ MN.out)|exact HB.out)):P:=h
theorem au38 {P:Prop} (h:P:=by repeat (first|(with_reducible first|exact HB.out|apply below_alloc|apply pw_below_drewN|apply below_drew1|refine below_set ?_ wN.out)|exact HB.out)):P:=h
theorem au39 {P:Prop} (h:P:=by repeat (first|(with_reducible first|exact HB.out|apply below_alloc|apply pw_below_drewN|apply below_drew1|refine below_set ?_ Bu.out)|exact HB.out)):P:=h
theorem au40 {P:Prop} (h:P:=by repeat (first|(with_reducible first|exact HB.out|apply below_alloc|apply pw_below_drewN|apply below_drew1|refine below_set ?_ aeQ.out)|exact HB.out)):P:=h
theorem au41 {P:Prop} (h:P:=by repeat (first|(with_reducible first|exact HB.out|apply below_alloc|apply pw_below_drewN|apply below_drew1|refine below_set ?_ a1P.out)|exact HB.out)):P:=h
theorem au42 {P:Prop} (h:P:=by repeat (first|(with_reducible first|exact HB.out|apply below_alloc|apply pw_below_drewN|apply below_drew1|refine below_set ?_ qI.out)|exact HB.out)):P:=h
theorem au43 {P:Prop} (h:P:=by (with_reducible repeat (first|apply Kd.S_alloc|apply Kd.S_drewN|apply Kd.S_drew));exact Kd.S_mono bS.out (fun k_ hk=>⟨hk.2,fun e_=>hk.1 e_⟩)):P:=h
theorem au44 {P:Prop} (h:P:=by (with_reducible repeat (first|apply Kd.S_alloc|apply Kd.S_drewN|apply Kd.S_drew));exact Kd.S_mono bS.out (fun _ hk=>⟨hk.1.2,hk.2⟩)):P:=h
theorem au45 {P:Prop} (h:P:=by (try simp only [List.map_toArray,List.map_cons,List.map_nil]);first|done|rfl|(simp only [List.length_drop,List.length_take];rfl)):P:=h
theorem au46 {P:Prop} (h:P:=by repeat (first|(with_reducible first|exact HB.out|apply below_alloc|apply pw_below_drewN|apply below_drew1)|exact HB.out)):P:=h
theorem au47 {P:Prop} (h:P:=by repeat (first|(with_reducible first|exact HK.out|apply Kept.alloc|apply Kept.drewN|apply Kept.drew)|exact HK.out)):P:=h
theorem au48 {P:Prop} (h:P:=by (with_reducible repeat (first|refine blk_drewN ?_ _|refine blk_drew ?_|refine blk_alloc ?_ _));exact iC.out):P:=h
theorem au49 {P:Prop} (h:P:=by (with_reducible repeat (first|refine blk_drewN ?_ _|refine blk_drew ?_|refine blk_alloc ?_ _));exact cC.out):P:=h
theorem au50 {P:Prop} (h:P:=by (with_reducible repeat (first|refine blk_drewN ?_ _|refine blk_drew ?_|refine blk_alloc ?_ _));exact qK.out):P:=h
theorem au51 {P:Prop} (h:P:=by (with_reducible repeat (first|refine blk_drewN ?_ _|refine blk_drew ?_|refine blk_alloc ?_ _));exact fO.out):P:=h
theorem au52 {P:Prop} (h:P:=by (with_reducible repeat (first|refine blk_drewN ?_ _|refine blk_drew ?_|refine blk_alloc ?_ _));exact fI.out):P:=h
theorem au53 {P:Prop} (h:P:=by (with_reducible repeat (first|refine blk_drewN ?_ _|refine blk_drew ?_|refine blk_alloc ?_ _));exact eD.out):P:=h
theorem au54 {P:Prop} (h:P:=by (with_reducible repeat (first|refine blk_drewN ?_ _|refine blk_drew ?_|refine blk_alloc ?_ _));exact bV.out):P:=h
theorem au55 {P:Prop} (h:P:=by (with_reducible repeat (first|refine blk_drewN ?_ _|refine blk_drew ?_|refine blk_alloc ?_ _));exact lS.out):P:=h
theorem au56 {P:Prop} (h:P:=by (with_reducible repeat (first|refine blk_drewN ?_ _|refine blk_drew ?_|refine blk_alloc ?_ _));exact bZ.out):P:=h
theorem au57 {P:Prop} (h:P:=by (with_reducible repeat (first|refine blk_drewN ?_ _|refine blk_drew ?_|refine blk_alloc ?_ _));exact eN.out):P:=h
theorem au58 {P:Prop} (h:P:=by (with_reducible repeat (first|refine blk_drewN ?_ _|refine blk_drew ?_|refine blk_alloc ?_ _));exact bR.out):P:=h
theorem au59 {P:Prop} (h:P:=by (with_reducible repeat (first|refine blk_drewN ?_ _|refine blk_drew ?_|refine blk_alloc ?_ _));exact kV.out):P:=h
theorem au60 {P:Prop} (h:P:=by (with_reducible repeat (first|refine blk_drewN ?_ _|refine blk_drew ?_|refine blk_alloc ?_ _));exact wO.out):P:=h
theorem au61 {P:Prop} (h:P:=by (with_reducible repeat (first|refine blk_drewN ?_ _|refine blk_drew ?_|refine blk_alloc ?_ _));exact Ep.out):P:=h
theorem au62 {P:Prop} (h:P:=by (with_reducible repeat (first|refine blk_drewN ?_ _|refine blk_drew ?_|refine blk_alloc ?_ _));exact Er.out):P:=h
theorem au63 {P:Prop} (h:P:=by (with_reducible repeat (first|refine blk_drewN ?_ _|refine blk_drew ?_|refine blk_alloc ?_ _));exact MO.out):P:=h
theorem au64 {P:Prop} (h:P:=by (with_reducible repeat (first|refine blk_drewN ?_ _|refine blk_drew ?_|refine blk_alloc ?_ _));exact MP.out):P:=h
theorem au65 {P:Prop} (h:P:=by (with_reducible repeat (first|refine blk_drewN ?_ _|refine blk_drew ?_|refine blk_alloc ?_ _));exact lT.out):P:=h
theorem au66 {P:Prop} (h:P:=by (with_reducible repeat (first|refine blk_drewN ?_ _|refine blk_drew ?_|refine blk_alloc ?_ _));exact nA.out):P:=h
theorem au67 {P:Prop} (h:P:=by (with_reducible repeat (first|refine blk_drewN ?_ _|refine blk_drew ?_|refine blk_alloc ?_ _));exact Es.out):P:=h
theorem au68 {P:Prop} (h:P:=by (with_reducible repeat (first|refine blk_drewN ?_ _|refine blk_drew ?_|refine blk_alloc ?_ _));exact Bv.out):P:=h
theorem au69 {P:Prop} (h:P:=by (with_reducible repeat (first|refine blk_drewN ?_ _|refine blk_drew ?_|refine blk_alloc ?_ _));exact a1S.out):P:=h
theorem au70 {P:Prop} (h:P:=by (with_reducible repeat (first|refine blk_drewN ?_ _|refine blk_drew ?_|refine blk_alloc ?_ _));exact a1T.out):P:=h
theorem au71 {P:Prop} (h:P:=by (with_reducible repeat (first|refine blk_drewN ?_ _|refine blk_drew ?_|refine blk_alloc ?_ _));exact rQ.out):P:=h
theorem au72 {P:Prop} (h:P:=by (with_reducible repeat (first|refine blk_drewN ?_ _|refine blk_drew ?_|refine blk_alloc ?_ _));exact wP.out):P:=h
theorem au73 {P:Prop} (h:P:=by (with_reducible repeat (first|refine blk_drewN ?_ _|refine blk_drew ?_|refine blk_alloc ?_ _));exact JZ.out):P:=h
theorem au74 {P:Prop} (h:P:=by (with_reducible repeat (first|refine blk_drewN ?_ _|refine blk_drew ?_|refine blk_alloc ?_ _));exact iD.out):P:=h
theorem au75 {P:Prop} (h:P:=by (with_reducible repeat (first|refine blk_drewN ?_ _|refine blk_drew ?_|refine blk_alloc ?_ _));exact eE.out):P:=h
theorem au76 {P:Prop} (h:P:=by (with_reducible repeat (first|refine blk_drewN ?_ _|refine blk_drew ?_|refine blk_alloc ?_ _));exact eF.out):P:=h
theorem au77 {P:Prop} (h:P:=by (with_reducible repeat (first|refine blk_drewN ?_ _|refine blk_drew ?_|refine blk_alloc ?_ _));exact iE.out):P:=h
theorem au78 {P:Prop} (h:P:=by (with_reducible repeat (first|refine blk_drewN ?_ _|refine blk_drew ?_|refine blk_alloc ?_ _));exact oK.out):P:=h
theorem au79 {P:Prop} (h:P:=by (with_reducible repeat (first|refine blk_drewN ?_ _|refine blk_drew ?_|refine blk_alloc ?_ _));exact dC.out):P:=h
theorem au80 {P:Prop} (h:P:=by (with_reducible repeat (first|refine blk_drewN ?_ _|refine blk_drew ?_|refine blk_alloc ?_ _));exact eW.out):P:=h
theorem au81 {P:Prop} (h:P:=by (with_reducible repeat (first|refine blk_drewN ?_ _|refine blk_drew ?_|refine blk_alloc ?_ _));exact fD.out):P:=h
theorem au82 {P:Prop} (h:P:=by (with_reducible repeat (first|apply Kd.S_alloc|apply Kd.S_drewN|apply Kd.S_drew));exact dA.out):P:=h
theorem au83 {P:Prop} (h:P:=by (with_reducible repeat (first|apply Kd.S_alloc|apply Kd.S_drewN|apply Kd.S_drew));exact bS.out):P:=h
theorem au84 {P:Prop} (h:P:=by (with_reducible repeat (first|apply Kd.R_alloc|apply Kd.R_drewN|apply Kd.R_drew));exact a1U.out):P:=h
theorem au85 {P:Prop} (h:P:=by (try simp only [List.map_toArray,List.map_cons,List.map_nil]);first|done|rfl):P:=h
theorem au87 {P:Prop} (h:P:=by first|(with_reducible assumption)|assumption):P:=h
theorem au88 {P:Prop} (h:P:=by first|rfl|(simp;done)|(simp [*];done)):P:=h
theorem au89 {P:Prop} (h:P:=by have:=HRP.out;omega):P:=h
theorem ax0 {P:Prop} (h:P:=by exact ⟨by first|rfl|(simp;done)|(simp [*];done),by repeat (first|exact Drawn0.refl _|apply Drawn0.step)⟩):P:=h
theorem ax1 {P:Prop} (h:P:=by exact ⟨by first|rfl|(simp [errW_none,errW_some] <;> rfl)|(simp [*,errW_none,errW_some] <;> rfl),by repeat (first|(with_reducible first|exact HB.out|apply below_alloc|apply pw_below_drewN|apply below_drew1)|exact HB.out)⟩):P:=h
theorem ax2 {P:Prop} (h:P:=by exact ⟨by first|rfl|(simp;done)|(simp only [← qL] <;> (first|rfl|simp))|(simp [*];done),by repeat (first|exact Drawn0.refl _|apply Drawn0.step)⟩):P:=h
theorem ax3 {P:Prop} (h:P:=by exact ⟨by first|rfl|(simp [errW_none,errW_some] <;> rfl)|(simp [*,errW_none,errW_some] <;> rfl),by repeat (first|(with_reducible first|exact HB.out|apply below_alloc|apply pw_below_drewN|apply below_drew1|refine below_set ?_ qM.out)|exact HB.out)⟩):P:=h
theorem ax4 {P:Prop} (h:P:=by exact ⟨by first|rfl|(simp [errW_none,errW_some] <;> rfl)|(simp [*,errW_none,errW_some] <;> rfl),by repeat (first|(with_reducible first|exact HB.out|apply below_alloc|apply pw_below_drewN|apply below_drew1|refine below_set ?_ Bt.out)|exact HB.out)⟩):P:=h
theorem ax5 {P:Prop} (h:P:=by exact ⟨by first|rfl|(simp [errW_none,errW_some] <;> rfl)|(simp [*,errW_none,errW_some] <;> rfl),by repeat (first|(with_reducible first|exact HB.out|apply below_alloc|apply pw_below_drewN|apply below_drew1|refine below_set ?_ MM.out)|exact HB.out)⟩):P:=h
theorem ax6 {P:Prop} (h:P:=by exact ⟨by first|rfl|(simp [errW_none,errW_some] <;> rfl)|(simp [*,errW_none,errW_some] <;> rfl),by repeat (first|(with_reducible first|exact HB.out|apply below_alloc|apply pw_below_drewN|apply below_drew1|refine below_set ?_ a1Q.out)|exact HB.out)⟩):P:=h
theorem ax7 {P:Prop} (h:P:=by exact ⟨by first|rfl|(simp [errW_none,errW_some] <;> rfl)|(simp [*,errW_none,errW_some] <;> rfl),by repeat (first|(with_reducible first|exact HB.out|apply below_alloc|apply pw_below_drewN|apply below_drew1|refine below_set ?_ MN.out)|exact HB.out)⟩):P:=h
theorem ax8 {P:Prop} (h:P:=by exact ⟨by first|rfl|(simp [errW_none,errW_some] <;> rfl)|(simp [*,errW_none,errW_some] <;> rfl),by repeat (first|(with_reducible first|exact HB.out|apply below_alloc|apply pw_below_drewN|apply below_drew1|refine below_set ?_ wQ.out)|exact HB.out)⟩):P:=h
theorem ax9 {P:Prop} (h:P:=by exact ⟨by first|rfl|(simp [errW_none,errW_some] <;> rfl)|(simp [*,errW_none,errW_some] <;> rfl),by repeat (first|(with_reducible first|exact HB.out|apply below_alloc|apply pw_below_drewN|apply below_drew1|refine below_set ?_ Bu.out)|exact HB.out)⟩):P:=h
theorem ax10 {P:Prop} (h:P:=by exact ⟨by first|rfl|(simp [errW_none,errW_some] <;> rfl)|(simp [*,errW_none,errW_some] <;> rfl),by repeat (first|(with_reducible first|exact HB.out|apply below_alloc|apply pw_below_drewN|apply below_drew1|refine below_set ?_ a1V.out)|exact HB.out)⟩):P:=h
end Go.Proofs.YteagahcbffgjpaaGreatDoor.G

namespace Go.Proofs.YteagahcbffgjpaaGreatDoor.G
open Go.RowKit Go.Proofs.YteagahcbffgjpaaGreatDoorW.PrintWords Go.Proofs.YteagahcbffgjpaaGreatDoorW.PrintLast Go.Proofs.YteagahcbffgjpaaGreatDoor.B
set_option linter.unusedVariables false
set_option linter.unusedSimpArgs false
def SimV (v v':Value):Prop:=v'=v∨(∃ a b,v=.string a∧v'=.string b)∨(∃ k a b,v=.int k a∧v'=.int k b)∨∃ a b,v=.bool a∧v'=.bool b
def SimC (l l':List Value):Prop:=l'.length=l.length∧∀ (i:Nat) (v v':Value),l[i]?=some v→l'[i]?=some v'→SimV v v'
def SimO (o o':Option Obj):Prop:=o'=o∨∃ (cs cs':Array Value) (t:TypeId),o=some (.cells cs t (0,0))∧o'=some (.cells cs' t (0,0))∧SimC cs.toList cs'.toList
def Sim (P:Nat→Prop) (w w':World):Prop:=w.heap.size≤w'.heap.size∧∀ k,k<w.heap.size→SimO w.heap[k]? w'.heap[k]?∧(¬ P k→w'.heap[k]?=w.heap[k]?)
theorem SimV.trans {a b c:Value} (h:SimV a b) (h':SimV b c):SimV a c:=by
  rcases h with rfl|⟨x,y,rfl,rfl⟩|⟨k,x,y,rfl,rfl⟩|⟨x,y,rfl,rfl⟩
  · exact h'
  · rcases h' with rfl|⟨p,q,e,rfl⟩|⟨k,p,q,e,rfl⟩|⟨p,q,e,rfl⟩
    · exact .inr (.inl ⟨_,_,rfl,rfl⟩)
    · exact .inr (.inl ⟨_,_,rfl,rfl⟩)
    · cases e
    · cases e
  · rcases h' with rfl|⟨p,q,e,rfl⟩|⟨k',p,q,e,rfl⟩|⟨p,q,e,rfl⟩
    · exact .inr (.inr (.inl ⟨_,_,_,rfl,rfl⟩))
    · cases e
    · injection e with e1 e2
      subst e1;exact .inr (.inr (.inl ⟨_,_,_,rfl,rfl⟩))
    · cases e
  · rcases h' with rfl|⟨p,q,e,rfl⟩|⟨k',p,q,e,rfl⟩|⟨p,q,e,rfl⟩
    · exact .inr (.inr (.inr ⟨_,_,rfl,rfl⟩))
    · cases e
    · cases e
    · exact .inr (.inr (.inr ⟨_,_,rfl,rfl⟩))
theorem SimC.refl (l:List Value):SimC l l:=⟨rfl,fun i v v' h h'=>.inl (by rw [h] at h';exact (ojz h').symm)⟩
theorem SimC.trans {a b c:List Value} (h:SimC a b) (h':SimC b c):SimC a c:=by
  refine ⟨h'.1.trans h.1,fun i v v' hv hv'=>?_⟩
  have hi:i<b.length:=by
    rw [h.1];exact (List.getElem?_eq_some_iff.1 hv).1
  exact (h.2 i v _ hv (List.getElem?_eq_getElem hi)).trans (h'.2 i _ v' (List.getElem?_eq_getElem hi) hv')
theorem SimC.take {a b:List Value} (h:SimC a b) (n:Nat):SimC (a.take n) (b.take n):=by
  refine ⟨by rw [List.length_take,List.length_take,h.1],fun i v v' hv hv'=>?_⟩;rw [List.getElem?_take] at hv hv';by_cases c:i<n
  · rw [if_pos c] at hv hv';exact h.2 i v v' hv hv'
  · rw [if_neg c] at hv;cases hv
theorem SimC.drop {a b:List Value} (h:SimC a b) (n:Nat):SimC (a.drop n) (b.drop n):=by
  refine ⟨by rw [List.length_drop,List.length_drop,h.1],fun i v v' hv hv'=>?_⟩;rw [List.getElem?_drop] at hv hv';exact h.2 _ v v' hv hv'
theorem SimC.one {v:Value} {l:List Value} (h:SimC [v] l):∃ v',l=[v']∧SimV v v':=by
  obtain ⟨hl,hv⟩:=h
  match l,hl with
  | [v'],_=>exact ⟨v',rfl,hv 0 v v' rfl rfl⟩
theorem SimO.trans {a b c:Option Obj} (h:SimO a b) (h':SimO b c):SimO a c:=by
  rcases h with rfl|⟨cs,cs',t,rfl,rfl,hc⟩
  · exact h'
  · rcases h' with rfl|⟨ds,ds',t',e,rfl,hd⟩
    · exact .inr ⟨cs,cs',t,rfl,rfl,hc⟩
    · injection e with e
      injection e with e1 e2
      subst e1 e2;exact .inr ⟨cs,ds',_,rfl,rfl,hc.trans hd⟩
theorem Sim.refl (P:Nat→Prop) (w:World):Sim P w w:=⟨Nat.le_refl _,fun k _=>⟨.inl rfl,fun _=>rfl⟩⟩
theorem Sim.trans {P:Nat→Prop} {a b c:World} (h:Sim P a b) (h':Sim P b c):Sim P a c :=
  ⟨Nat.le_trans h.1 h'.1,fun k hk=>⟨(h.2 k hk).1.trans (h'.2 k (Nat.lt_of_lt_of_le hk h.1)).1,fun hp=>((h'.2 k (Nat.lt_of_lt_of_le hk h.1)).2 hp).trans ((h.2 k hk).2 hp)⟩⟩
theorem Sim.mono {P Q:Nat→Prop} {a b:World} (h:Sim P a b) (hq:∀ k,P k→Q k):Sim Q a b:=⟨h.1,fun k hk=>⟨(h.2 k hk).1,fun hn=>(h.2 k hk).2 (fun hp=>hn (hq k hp))⟩⟩
theorem Sim.below {P:Nat→Prop} {a b c:World} (h:Sim P a b) (hb:Below b.heap.size b c):Sim P a c :=
  h.trans ⟨hb.size,fun k hk=>⟨.inl (hb.block k hk),fun _=>hb.block k hk⟩⟩
theorem Sim.alloc {P:Nat→Prop} {a b:World} (h:Sim P a b) (o:Obj):Sim P a (b.alloc o):=h.below (below_alloc (Below.refl _ _) o)
theorem Sim.drewN {P:Nat→Prop} {a b:World} (h:Sim P a b) (m:Nat):Sim P a (b.drewN m):=h.below (pw_below_drewN (Below.refl _ _) m)
theorem Sim.drew {P:Nat→Prop} {a b:World} (h:Sim P a b):Sim P a b.drew:=h.below (below_drew1 (Below.refl _ _))
theorem Sim.kept {P:Nat→Prop} {a b:World} (h:Sim P a b):Kept a b P:=⟨h.1,fun i hi hn=>(h.2 i hi).2 hn⟩
theorem heap_set_row {w:World} {g j:Nat} {cs:Array Value} {t:TypeId} (hb:w.heap[g]?=some (.cells cs t (0,0))) (u:Value):(w.setCell ⟨g,j,none⟩ u).heap[g]?=some (.cells (cs.setIfInBounds j u) t (0,0)):=by
  simp [World.setCell,Array.getElem?_modify,hb]
theorem Sim.store {P:Nat→Prop} {a b:World} {g j:Nat} {cs:Array Value} {t:TypeId} {old u:Value} (h:Sim P a b) (hP:P g) (hb:b.heap[g]?=some (.cells cs t (0,0))) (hc:b.cell? ⟨g,j,none⟩=some old) (hv:SimV old u):Sim P a (b.setCell ⟨g,j,none⟩ u):=by
  refine h.trans ⟨by simp [World.setCell],fun k hk=>?_⟩;by_cases e:k=g
  · subst e
    refine ⟨?_,fun hn=>absurd hP hn⟩;rw [heap_set_row hb,hb];refine .inr ⟨cs,_,t,rfl,rfl,by simp,fun i v v' hi hi'=>?_⟩;rw [cell_of_row b k j cs t _ hb] at hc;rw [Array.getElem?_toList] at hi hi';by_cases ei:i=j
    · subst ei
      rw [hc] at hi;obtain rfl:=ojz hi;have hlt:i<cs.size:=(Array.getElem?_eq_some_iff.1 hc).1;rw [Array.getElem?_setIfInBounds_self_of_lt hlt] at hi';obtain rfl:=ojz hi';exact hv
    · rw [Array.getElem?_setIfInBounds_ne (Ne.symm ei),hi] at hi'
      exact .inl (ojz hi').symm
  · have:=Below.heap_setCell b ⟨g,j,none⟩ u k e
    exact ⟨.inl this,fun _=>this⟩
def SimK {α β:Type} (d:Kd α) (sh:α→β):Prop:=∀ (P:Nat→Prop) (w w':World) (base:Nat) (ok:Nat→Prop) (x:α) (cs cs':List Value),Sim P w w'→d.M w base ok x cs→SimC cs cs'→True→∃ x',d.M w' base ok x' cs'∧sh x'=sh x
theorem simK_string:SimK Kd.string (fun _=>()):=by
  intro P w w' base ok x cs cs' _ h hc _;obtain rfl:cs=[.string x]:=h;obtain ⟨v',rfl,hv⟩:=hc.one
  rcases hv with rfl|⟨a,b,e,rfl⟩|⟨k,a,b,e,rfl⟩|⟨a,b,e,rfl⟩
  · exact ⟨x,rfl,rfl⟩
  · exact ⟨b,rfl,rfl⟩
  · cases e
  · cases e
theorem simK_int (q:IntKind):SimK (Kd.int q) (fun _=>()):=by
  intro P w w' base ok x cs cs' _ h hc _;obtain rfl:cs=[.int q x]:=h;obtain ⟨v',rfl,hv⟩:=hc.one
  rcases hv with rfl|⟨a,b,e,rfl⟩|⟨k,a,b,e,rfl⟩|⟨a,b,e,rfl⟩
  · exact ⟨x,rfl,rfl⟩
  · cases e
  · injection e with e1 e2
    subst e1;exact ⟨b,rfl,rfl⟩
  · cases e
theorem simK_bool:SimK Kd.bool (fun _=>()):=by
  intro P w w' base ok x cs cs' _ h hc _;obtain rfl:cs=[.bool x]:=h;obtain ⟨v',rfl,hv⟩:=hc.one
  rcases hv with rfl|⟨a,b,e,rfl⟩|⟨k,a,b,e,rfl⟩|⟨a,b,e,rfl⟩
  · exact ⟨x,rfl,rfl⟩
  · cases e
  · cases e
  · exact ⟨b,rfl,rfl⟩
theorem simK_pair {α β γ δ:Type} {a:Kd α} {b:Kd β} {f:α→γ} {g:β→δ} (ha:SimK a f) (hb:SimK b g):SimK (Kd.pair a b) (fun x=>(f x.1,g x.2)):=by
  intro P w w' base ok x cs cs' hs h hc ht;obtain ⟨c0,c1,rfl,h0,h1⟩:=h
  have e0:SimC c0 (cs'.take c0.length):=by have:=hc.take c0.length;rwa [List.take_left] at this
  have e1:SimC c1 (cs'.drop c0.length):=by have:=hc.drop c0.length;rwa [List.drop_left] at this
  obtain ⟨y,hy,ey⟩:=ha P w w' base ok x.1 c0 _ hs h0 e0 ht;obtain ⟨z,hz,ez⟩:=hb P w w' base ok x.2 c1 _ hs h1 e1 ht;exact ⟨(y,z),⟨_,_,(List.take_append_drop _ _).symm,hy,hz⟩,by show (f y,g z)=(f x.1,g x.2);rw [ey,ez]⟩
theorem simK_iso {α β γ:Type} {d:Kd α} {f:β→α} {sh:α→γ} (g:α→β) (hg:∀ y,f (g y)=y) (h:SimK d sh):SimK (Kd.iso d f) (fun x=>sh (f x)):=by
  intro P w w' base ok x cs cs' hs hm hc ht;obtain ⟨y,hy,ey⟩:=h P w w' base ok (f x) cs cs' hs hm hc ht;exact ⟨g y,by show d.M w' base ok (f (g y)) cs';rw [hg];exact hy,by show sh (f (g y))=_;rw [hg];exact ey⟩
theorem R_sim {α β:Type} {d:Kd α} {sh:α→β} (hd:SimK d sh) {P:Nat→Prop} {w w':World} {base e:Nat} {ok:Nat→Prop} {v:Value} {xs:List α} (h:d.R e w base ok v xs) (hs:Sim P w w'):∃ xs',d.R e w' base ok v xs'∧xs'.map sh=xs.map sh:=by
  obtain ⟨h0,inner,ho,hr⟩:=h
  rcases ho.2 with ⟨rfl,hn⟩|⟨g,cap,cur,rfl,hg,hh,r1,r2,r3,r4⟩
  · have hx:xs=[]:=List.length_eq_zero_iff.1 hn
    subst hx;have hi:inner=[]:=List.length_eq_zero_iff.1 (by rw [ho.1];simp);subst hi;exact ⟨[],⟨h0,[],⟨by simp,.inl ⟨rfl,rfl⟩⟩,Reps.none _ _⟩,rfl⟩
  · have hlt:g<w.heap.size:=by
      rcases Nat.lt_or_ge g w.heap.size with q|q
      · exact q
      · rw [Array.getElem?_eq_none q] at hh;cases hh
    obtain ⟨cur',hh',hC⟩:∃ cur':Array Value,w'.heap[g]?=some (.cells cur' e (0,0))∧SimC cur.toList cur'.toList:=by
      rcases (hs.2 g hlt).1 with q|⟨cs,cs',t,q1,q2,q3⟩
      · exact ⟨cur,q.trans hh,SimC.refl _⟩
      · rw [hh] at q1
        injection q1 with q1
        injection q1 with e1 e2
        subst e1 e2;exact ⟨cs',q2,q3⟩
    have hsz:cur'.size=cur.size:=by have:=hC.1;simpa using this
    have hI:SimC inner (cur'.toList.take (xs.length*d.sz)):=by rw [← r4];exact hC.take _
    have hM:∀ j (hj:j<xs.length),∃ x',d.M w' base (fun k=>ok k∧some k≠(Value.slice (some ⟨g,0,none⟩) xs.length cap).ownBlock) x' (((cur'.toList.take (xs.length*d.sz)).drop (j*d.sz)).take d.sz)∧sh x'=sh xs[j]:=fun j hj =>
      hd P w w' base _ _ _ _ hs (hr.2 j xs[j] (List.getElem?_eq_getElem hj)) ((hI.drop _).take _) trivial
    let F:Fin xs.length→α:=fun j=>Classical.choose (hM j.1 j.2)
    have hF:∀ j:Fin xs.length,d.M w' base (fun k=>ok k∧some k≠(Value.slice (some ⟨g,0,none⟩) xs.length cap).ownBlock) (F j) (((cur'.toList.take (xs.length*d.sz)).drop (j.1*d.sz)).take d.sz)∧sh (F j)=sh xs[j.1]:=fun j=>Classical.choose_spec (hM j.1 j.2)
    have hl:(List.ofFn F).length=xs.length:=List.length_ofFn;refine ⟨List.ofFn F,⟨h0,cur'.toList.take (xs.length*d.sz),⟨by rw [hl,hI.1,ho.1],.inr ⟨g,cap,cur',by rw [hl],hg,hh',by rw [hl];exact r1,r2,by rw [hsz];exact r3,by rw [hl]⟩⟩,by rw [hl,hI.1,ho.1],fun j p hp=>?_⟩,?_⟩
    · have hj:j<xs.length:=by have:=(List.getElem?_eq_some_iff.1 hp).1;omega
      have e1:=(List.getElem?_eq_some_iff.1 hp).2;rw [List.getElem_ofFn] at e1;rw [← e1];exact (hF ⟨j,hj⟩).1
    · apply List.ext_getElem
      · rw [List.length_map,List.length_map,hl]
      · intro j h1 h2
        rw [List.getElem_map,List.getElem_map,List.getElem_ofFn];exact (hF ⟨j,by simpa using h2⟩).2
theorem simK_slice {α β:Type} {d:Kd α} {sh:α→β} (e:Nat) (hd:SimK d sh):SimK (Kd.slice e d) (fun l=>l.map sh):=by
  intro P w w' base ok x cs cs' hs h hc _;obtain ⟨v,rfl,hR⟩:=h;obtain ⟨v',rfl,hv⟩:=hc.one;obtain ⟨A,c,rfl⟩:=Kd.R_slice hR
  obtain rfl:v'=.slice A x.length c:=by
    rcases hv with q|⟨a,b,q,_⟩|⟨k,a,b,q,_⟩|⟨a,b,q,_⟩
    · exact q
    · cases q
    · cases q
    · cases q
  obtain ⟨xs',h1,h2⟩:=R_sim hd hR hs;exact ⟨xs',⟨_,rfl,h1⟩,h2⟩
end Go.Proofs.YteagahcbffgjpaaGreatDoor.G

namespace Go.Proofs.YteagahcbffgjpaaGreatDoor.G
open Go.RowKit Go.Proofs.YteagahcbffgjpaaGreatDoorW.PrintWords Go.Proofs.YteagahcbffgjpaaGreatDoorW.PrintLast Go.Proofs.YteagahcbffgjpaaGreatDoorW.PrintMore
open Go.Proofs.YteagahcbffgjpaaGreatDoor.Gl Go.Proofs.YteagahcbffgjpaaGreatDoor.Ext
attribute [local go_sem] max2_int min2_int max_two min_two max_three min_three max_four min_four   -- for this text's walks alone
set_option linter.unusedVariables false
set_option linter.unusedSimpArgs false
def laws_eqStringS.l0:Nat→List ByteArray→List ByteArray→Int→Option (Bool)
 | 0,_,_,_=>none
 | k+1,x0,x1,x5=>if x5<(x0.length:Int) then (if 0≤x5 then (if x5<(x1.length:Int) then (if (rdOf ByteArray.empty x0 x5).toList=(rdOf ByteArray.empty x1 x5).toList then (laws_eqStringS.l0 k x0 x1 (wrap64 (x5+1))) else (some false)) else (none)) else (none)) else (some true)
def laws_eqStringS.f (k:Nat) (l0:List ByteArray) (l1:List ByteArray):Option (Bool):=if (l0.length:Int)=(l1.length:Int) then (laws_eqStringS.l0 k l0 l1 0) else (some false)
theorem laws_eqStringS.mono_l:∀ k,(∀ y0 y1 y2,LeO (laws_eqStringS.l0 k y0 y1 y2) (laws_eqStringS.l0 (k+1) y0 y1 y2))
 | 0=>fun _ _ _ r h=>by simp [laws_eqStringS.l0] at h
 | k+1=>by
  have ih0:=laws_eqStringS.mono_l k
  ·
   intro y0 y1 y2;unfold laws_eqStringS.l0
   repeat' first
   | (with_reducible exact ih0 _ _ _)
   | (with_reducible exact LeO.refl _)
   | (with_reducible exact LeO.none _)
   | (with_reducible refine LeO.ite ?_ ?_)
   | (with_reducible refine LeO.bind ?_ (fun _=>?_))
   | exact ih0 _ _ _
   | exact LeO.none _
   | refine LeO.ite ?_ ?_
   | refine LeO.bind ?_ (fun _=>?_)
theorem laws_eqStringS.mono:∀ a0 a1 k,LeO (laws_eqStringS.f k a0 a1) (laws_eqStringS.f (k+1) a0 a1):=by
 intro a0 a1 k;have ih0:=laws_eqStringS.mono_l k;unfold laws_eqStringS.f
 repeat' first
   | (with_reducible exact ih0 _ _ _)
   | (with_reducible exact LeO.refl _)
   | (with_reducible exact LeO.none _)
   | (with_reducible refine LeO.ite ?_ ?_)
   | (with_reducible refine LeO.bind ?_ (fun _=>?_))
   | exact ih0 _ _ _
   | exact LeO.none _
   | refine LeO.ite ?_ ?_
   | refine LeO.bind ?_ (fun _=>?_)
set_option maxHeartbeats 8000000 in
set_option maxRecDepth 100000 in
theorem laws_eqStringS.calls (k:Nat) (A0:Option Addr) (c0:Nat) (l0:List ByteArray) (A1:Option Addr) (c1:Nat) (l1:List ByteArray) (w:World) (dH:Kd.C Kd.string w A0 l0.length l0) (cP:l0.length≤c0) (IB:Kd.C Kd.string w A1 l1.length l1) (dK:l1.length≤c1) (h:laws_eqStringS.f k l0 l1=some true) :
  Calls Tryz.prog 80 #[.slice A0 l0.length c0,.slice A1 l1.length c1] w fun e w'=>e=.returned (.bool true)∧Drawn0 w w':=by
 obtain ⟨r,hr_⟩:∃ r,r=true:=⟨true,rfl⟩
 rw [← hr_] at h ⊢;have HRT:=am hr_;clear hr_;have cW:=am dH;have mM:=am cP;clear dH cP;have IE:=am IB;have HC1:=am dK;clear IB dK;have H:(if (l0.length:Int)=(l1.length:Int) then (laws_eqStringS.l0 k l0 l1 0) else (some false))=some r:=h;clear h;by_cases c3:(l0.length:Int)=(l1.length:Int)
 ·
  rw [if_pos c3] at H;have c3b0:=qt c3;have c3b1:=bf c3
  have c3b2:(l0.length == l1.length)=true:=by first|simpa using c3|(simp at c3 ⊢;omega)
  clear c3;have H':=am H;clear H;go_enter Tryz.func80,Tryz.ntmps80;go_wp2
  repeat (go_quiet (fail);try go_wp2)
  go_loopg [5] k (fun kq v5 w'=>∃ (aC:Int),v5=.int .i64 aC∧Aside0 (laws_eqStringS.l0 kq l0 l1 aC=some r)∧Aside0 (kq≤k)∧Drawn0 w w')
  case atStart=>exact ⟨(0),au88,H',⟨Nat.le_refl _⟩,by repeat (first|exact Drawn0.refl _|apply Drawn0.step)⟩
  case round =>
   clear H'
   try clear c1
   try clear p2
   try clear c3
   try clear c3b0
   try clear c3b1
   try clear c3b2
   obtain ⟨aC,rfl,HA,HK1,⟨m1,rfl⟩⟩:=hrel
   cases gk with
   | zero=>exact absurd HA.out (by simp [laws_eqStringS.l0])
   | succ k1 =>
    have H:=HA.out;clear HA;simp only [laws_eqStringS.l0] at H;by_cases c4:aC<(l0.length:Int)
    ·
     rw [if_pos c4] at H;have c4b0:=dt c4;clear c4;by_cases c5:0≤aC
     ·
      rw [if_pos c5] at H;have c5b0:=dt c5;clear c5;by_cases c6:aC<(l1.length:Int)
      ·
       rw [if_pos c6] at H;have c6b0:=dt c6;clear c6;by_cases c7:(rdOf ByteArray.empty l0 aC).toList=(rdOf ByteArray.empty l1 aC).toList
       ·
        rw [if_pos c7] at H;have c7b0:=qt c7;have c7b1:=bf c7;clear c7;have H':=am H;clear H;have IK:0≤(aC:Int):=od au87;have IL:aC<(l0.length:Int):=od au87;obtain ⟨aAp,a7P,agU⟩:=Kd.at_string cW.out aC IK IL
        cases a7P
        replace IK:=eq_true IK;replace IL:=eq_true IL;have IM:0≤(aC:Int):=od au87;have IP:aC<(l1.length:Int):=od au87;obtain ⟨aAq,a7Q,agV⟩:=Kd.at_string IE.out aC IM IP
        cases a7Q
        replace IM:=eq_true IM;replace IP:=eq_true IP;go_wp2
        repeat (go_quiet (fail);try go_wp2)
        go_roundg k1
        case measure=>have:=HK1.out;omega
        case rel=>exact ⟨(wrap64 (aC+1)),au88,H',⟨by have:=HK1.out;omega⟩,by repeat (first|exact Drawn0.refl _|apply Drawn0.step)⟩
       ·
        rw [if_neg c7] at H;have c7b0:=qf c7;have c7b1:=bu c7;obtain rfl:=ojz H;have IK:0≤(aC:Int):=od au87;have IL:aC<(l0.length:Int):=od au87;obtain ⟨aAp,a7P,agU⟩:=Kd.at_string cW.out aC IK IL
        cases a7P
        replace IK:=eq_true IK;replace IL:=eq_true IL;have IM:0≤(aC:Int):=od au87;have IP:aC<(l1.length:Int):=od au87;obtain ⟨aAq,a7Q,agV⟩:=Kd.at_string IE.out aC IM IP
        cases a7Q
        replace IM:=eq_true IM;replace IP:=eq_true IP;go_wp2
        repeat (go_quiet (fail);try go_wp2)
        go_ret;exact ax0
      · rw [if_neg c6] at H;exact absurd H (by simp)
     · rw [if_neg c5] at H;exact absurd H (by simp)
    ·
     rw [if_neg c4] at H;have c4b0:=df c4;clear c4;obtain rfl:=ojz H;go_wp2
     repeat (go_quiet (fail);try go_wp2)
     go_ret;exact ax0
 ·
  rw [if_neg c3] at H;have c3b0:=qf c3;have c3b1:=bu c3
  have c3b2:(l0.length == l1.length)=false:=by first|simpa using c3|(simp at c3 ⊢;omega)
  exact absurd ((ojz H).trans HRT.out) (by simp)
end Go.Proofs.YteagahcbffgjpaaGreatDoor.G
-- TRUE ALONE

namespace Go.Proofs.YteagahcbffgjpaaGreatDoor.G
open Go.RowKit Go.Proofs.YteagahcbffgjpaaGreatDoorW.PrintWords Go.Proofs.YteagahcbffgjpaaGreatDoorW.PrintLast Go.Proofs.YteagahcbffgjpaaGreatDoorW.PrintMore
open Go.Proofs.YteagahcbffgjpaaGreatDoor.Gl Go.Proofs.YteagahcbffgjpaaGreatDoor.Ext
attribute [local go_sem] max2_int min2_int max_two min_two max_three min_three max_four min_four   -- for this text's walks alone
set_option linter.unusedVariables false
set_option linter.unusedSimpArgs false
def laws_markText.l0:Nat→Int→ByteArray→Option (ByteArray)
 | 0,_,_=>none
 | k+1,x0,x3=>if x0>0 then ((some (([(wrap64 (48+(Int.tmod x0 10))) % 256]:List Int):List Int)).bind fun Dr=>(if (strOfNums Dr).size+x3.size≤9223372036854775807 then (laws_markText.l0 k (wrap64 (Int.tdiv x0 10)) ((strOfNums Dr)++x3)) else (none))) else (if 1+x3.size≤9223372036854775807 then (some ((⟨#[109]⟩:ByteArray)++x3)) else (none))
def laws_markText.f (k:Nat) (a0:Int):Option (ByteArray):=if a0≤0 then (some (⟨#[109,48]⟩:ByteArray)) else (laws_markText.l0 k a0 (⟨#[]⟩:ByteArray))
theorem laws_markText.mono_l:∀ k,(∀ y0 y1,LeO (laws_markText.l0 k y0 y1) (laws_markText.l0 (k+1) y0 y1))
 | 0=>fun _ _ r h=>by simp [laws_markText.l0] at h
 | k+1=>by
  have ih0:=laws_markText.mono_l k
  ·
   intro y0 y1;unfold laws_markText.l0
   repeat' first
   | (with_reducible exact ih0 _ _)
   | (with_reducible exact LeO.refl _)
   | (with_reducible exact LeO.none _)
   | (with_reducible refine LeO.ite ?_ ?_)
   | (with_reducible refine LeO.bind ?_ (fun _=>?_))
   | exact ih0 _ _
   | exact LeO.none _
   | refine LeO.ite ?_ ?_
   | refine LeO.bind ?_ (fun _=>?_)
theorem laws_markText.mono:∀ a0 k,LeO (laws_markText.f k a0) (laws_markText.f (k+1) a0):=by
 intro a0 k;have ih0:=laws_markText.mono_l k;unfold laws_markText.f
 repeat' first
   | (with_reducible exact ih0 _ _)
   | (with_reducible exact LeO.refl _)
   | (with_reducible exact LeO.none _)
   | (with_reducible refine LeO.ite ?_ ?_)
   | (with_reducible refine LeO.bind ?_ (fun _=>?_))
   | exact ih0 _ _
   | exact LeO.none _
   | refine LeO.ite ?_ ?_
   | refine LeO.bind ?_ (fun _=>?_)
set_option maxHeartbeats 8000000 in
set_option maxRecDepth 100000 in
theorem laws_markText.calls (k:Nat) (a0:Int) (r:ByteArray) (w:World) (h:laws_markText.f k a0=some r) :
  Calls Tryz.prog 32 #[.int .i64 a0] w fun e w'=>e=.returned (.string r)∧Below w.heap.size w w':=by
 have HB:=am (Below.refl w.heap.size w);have H:(if a0≤0 then (some (⟨#[109,48]⟩:ByteArray)) else (laws_markText.l0 k a0 (⟨#[]⟩:ByteArray)))=some r:=h;clear h;by_cases c2:a0≤0
 · rw [if_pos c2] at H;have c2b0:=dt c2;clear c2;obtain rfl:=ojz H;go_enter Tryz.func32,Tryz.ntmps32;go_wp2;go_ret;exact ax1
 ·
  rw [if_neg c2] at H;have c2b0:=df c2;clear c2;have H':=am H;clear H;go_enter Tryz.func32,Tryz.ntmps32;go_wp2
  go_loopg [0,3] k (fun kq v0 v3 w'=>∃ (cF:Int) (aE:ByteArray),v0=.int .i64 cF∧v3=.string aE∧Aside0 (laws_markText.l0 kq cF aE=some r)∧Aside0 (kq≤k)∧Aside0 (Below w.heap.size w w'))
  case atStart=>exact ⟨(a0),((⟨#[]⟩:ByteArray)),au88,au88,H',⟨Nat.le_refl _⟩,⟨by repeat (first|(with_reducible first|exact HB.out|apply below_alloc|apply pw_below_drewN|apply below_drew1)|exact HB.out)⟩⟩
  case round =>
   clear H'
   try clear c2
   try clear c2b0
   try clear p2
   obtain ⟨cF,aE,rfl,rfl,HA,HK1,HB⟩:=hrel
   cases gk with
   | zero=>exact absurd HA.out (by simp [laws_markText.l0])
   | succ k1 =>
    have H:=HA.out;clear HA;simp only [laws_markText.l0] at H;by_cases c3:cF>0
    ·
     rw [if_pos c3] at H;have c3b0:=dt c3;clear c3
     obtain ⟨Dr,K0⟩:∃ y_:List Int,y_=(([(wrap64 (48+(Int.tmod cF 10))) % 256]:List Int)):=⟨_,rfl⟩
     replace H:(if (strOfNums Dr).size+aE.size≤9223372036854775807 then (laws_markText.l0 k1 (wrap64 (Int.tdiv cF 10)) ((strOfNums Dr)++aE)) else (none))=some r:=by first|(rw [K0];with_reducible exact H)|(have H2_:=(Option.bind_some _ _).symm.trans H;rw [K0];with_reducible exact H2_)|(have H2_:=(Option.bind_some _ _).symm.trans H;with_reducible exact H2_)|with_reducible exact H|(rw [K0];exact H)|exact H
     have aeR:=am K0;clear K0;by_cases c4:(strOfNums Dr).size+aE.size≤9223372036854775807
     ·
      rw [if_pos c4] at H;have c4b0:=eq_true c4;have c4b1:=dt c4
      try have c4b2:(9223372036854775807<(strOfNums Dr).size+aE.size)=False:=eq_false (Nat.not_lt.2 c4)
      have H':=am H;clear H;go_wp2_with (first|((with_reducible refine gate_dst (N:=12) rfl ?_);refine Kd.R_lit (Kd.int .u8) _ 5 ?hg (N:=12) ?hd (xs:=([(wrap64 (48+(Int.tmod cF 10))) % 256]:List Int)) (inner:=[.int .u8 ((wrap64 (48+(Int.tmod cF 10))) % 256)]) (ok:=fun _=>True) (okp:=fun _=>True) ?hr ?hp (fun _ hk=>hk) trivial (Below.refl _ _) (Nat.le_refl _) (by simp) ?_;(case hd=>rfl);(case hg=>rfl);(case hr=>first|(go_simp;done)|(go_simp;rfl));(case hp=>exact (Reps.one (show Kd.M (Kd.int .u8) _ _ _ ((wrap64 (48+(Int.tmod cF 10))) % 256) [.int .u8 ((wrap64 (48+(Int.tmod cF 10))) % 256)] from rfl) (Reps.none _ _)));intro aY5 w5 ho6 hb hg_ hnew_;clear hg_ hnew_;(first|rw [← aeR.out] at ho6|(simp only [Int.reduceToNat] at ho6;rw [← aeR.out] at ho6));have aAr:=am (Kd.R_lower ho6 (below_size au46));replace HB:=am (below_step au46 hb);clear hb ho6;have hcv7:=own_string (P:=Tryz.prog) Tryz.underlying75 Tryz.underlying5 Tryz.underlying9 (Kd.own_of_R aAr.out)))
      go_roundg k1
      case measure=>have:=HK1.out;omega
      case rel=>exact ⟨(wrap64 (Int.tdiv cF 10)),((strOfNums Dr)++aE),au88,au88,H',⟨by have:=HK1.out;omega⟩,⟨by repeat (first|(with_reducible first|exact HB.out|apply below_alloc|apply pw_below_drewN|apply below_drew1)|exact HB.out)⟩⟩
     · rw [if_neg c4] at H;exact absurd H (by simp)
    ·
     rw [if_neg c3] at H;have c3b0:=df c3;clear c3;by_cases c8:1+aE.size≤9223372036854775807
     ·
      rw [if_pos c8] at H;have c8b0:=eq_true c8;have c8b1:=dt c8
      try have c8b2:(9223372036854775807<1+aE.size)=False:=eq_false (Nat.not_lt.2 c8)
      obtain rfl:=ojz H;go_wp2;go_ret;exact ax1
     · rw [if_neg c8] at H;exact absurd H (by simp)
def laws_markStringS.l0:Nat→List ByteArray→Int→Int→Option (Int × List ByteArray)
 | 0,_,_,_=>none
 | k+1,x0,x1,x5=>if x5<(x0.length:Int) then ((laws_markText.f k x1).bind fun KM=>(if 0≤x5 then (laws_markStringS.l0 k (x0.set (x5:Int).toNat KM) (wrap64 (x1+1)) (wrap64 (x5+1))) else (none))) else (some (x1,x0))
def laws_markStringS.f (k:Nat) (l0:List ByteArray) (a1:Int):Option (Int × List ByteArray):=laws_markStringS.l0 k l0 a1 0
theorem laws_markStringS.mono_l:∀ k,(∀ y0 y1 y2,LeO (laws_markStringS.l0 k y0 y1 y2) (laws_markStringS.l0 (k+1) y0 y1 y2))
 | 0=>fun _ _ _ r h=>by simp [laws_markStringS.l0] at h
 | k+1=>by
  have ih0:=laws_markStringS.mono_l k
  ·
   intro y0 y1 y2;unfold laws_markStringS.l0
   repeat' first
   | (with_reducible exact ih0 _ _ _)
   | (with_reducible exact laws_markText.mono _ _)
   | (with_reducible exact LeO.refl _)
   | (with_reducible exact LeO.none _)
   | (with_reducible refine LeO.ite ?_ ?_)
   | (with_reducible refine LeO.bind ?_ (fun _=>?_))
   | exact ih0 _ _ _
   | exact laws_markText.mono _ _
   | exact LeO.none _
   | refine LeO.ite ?_ ?_
   | refine LeO.bind ?_ (fun _=>?_)
theorem laws_markStringS.mono:∀ a0 a1 k,LeO (laws_markStringS.f k a0 a1) (laws_markStringS.f (k+1) a0 a1):=by
 intro a0 a1 k;have ih0:=laws_markStringS.mono_l k;unfold laws_markStringS.f
 repeat' first
   | (with_reducible exact ih0 _ _ _)
   | (with_reducible exact laws_markText.mono _ _)
   | (with_reducible exact LeO.refl _)
   | (with_reducible exact LeO.none _)
   | (with_reducible refine LeO.ite ?_ ?_)
   | (with_reducible refine LeO.bind ?_ (fun _=>?_))
   | exact ih0 _ _ _
   | exact laws_markText.mono _ _
   | exact LeO.none _
   | refine LeO.ite ?_ ?_
   | refine LeO.bind ?_ (fun _=>?_)
set_option maxHeartbeats 8000000 in
set_option maxRecDepth 100000 in
theorem laws_markStringS.calls (k:Nat) (P0_:Nat→Prop) (Ds:Value) (l0:List ByteArray) (a1:Int) (r1:Int) (r2:List ByteArray) (w0 w:World) (hB:Below w0.heap.size w0 w) (ho0:Kd.R Kd.string 9 w w0.heap.size P0_ Ds l0) (h:laws_markStringS.f k l0 a1=some (r1,r2)) :
  Calls Tryz.prog 52 #[Ds,.int .i64 a1] w fun e w'=>e=.returned (.int .i64 r1)∧Kd.R Kd.string 9 w' w0.heap.size (fun k_=>(P0_ k_∨w.heap.size≤k_)) Ds r2∧Below w0.heap.size w0 w'∧Kept w w' (fun k_=>P0_ k_):=by
 have HO0:=am (show Kd.R Kd.string 9 w w0.heap.size (fun k_=>(P0_ k_∨w.heap.size≤k_)) Ds l0 from Kd.R_mono ho0 (fun k_ hk=>(.inl hk)));have HK:=am (Kept.refl w (fun k_=>P0_ k_));have HW0:=am hB.size;have HB:=am hB;clear hB;have H:(laws_markStringS.l0 k l0 a1 0)=some (r1,r2):=h;clear h;have H':=am H;clear H;go_enter Tryz.func52,Tryz.ntmps52;go_wp2
 go_loopg [1,5] k (fun kq v1 v5 w'=>∃ (cF:List ByteArray) (cL:Int) (aC:Int),v1=.int .i64 cL∧v5=.int .i64 aC∧Aside0 (laws_markStringS.l0 kq cF cL aC=some (r1,r2))∧Aside0 (kq≤k)∧Aside0 (Kd.R Kd.string 9 w' w0.heap.size (fun k_=>(P0_ k_∨w.heap.size≤k_)) Ds cF)∧Aside0 (Kept w w' (fun k_=>P0_ k_))∧Aside0 (Below w0.heap.size w0 w'))
 case atStart=>exact ⟨(l0),(a1),(0),au88,au88,H',⟨Nat.le_refl _⟩,⟨by (with_reducible repeat (first|apply Kd.R_alloc|apply Kd.R_drewN|apply Kd.R_drew));exact HO0.out⟩,⟨by repeat (first|(with_reducible first|exact HK.out|apply Kept.alloc|apply Kept.drewN|apply Kept.drew)|exact HK.out)⟩,⟨by repeat (first|(with_reducible first|exact HB.out|apply below_alloc|apply pw_below_drewN|apply below_drew1)|exact HB.out)⟩⟩
 case round =>
  clear H'
  try clear p2
  obtain ⟨cF,cL,aC,rfl,rfl,HA,HK1,pC,HK,HB⟩:=hrel
  cases gk with
  | zero=>exact absurd HA.out (by simp [laws_markStringS.l0])
  | succ k1 =>
   have H:=HA.out;clear HA;simp only [laws_markStringS.l0] at H;by_cases c3:aC<(cF.length:Int)
   ·
    rw [if_pos c3] at H;have c3b0:=dt c3;clear c3;replace H:=ob H;obtain ⟨KM,oL,H⟩:=H
    try dsimp only at H
    have A4:=am oL;clear oL;by_cases c5:0≤aC
    ·
     rw [if_pos c5] at H;have c5b0:=dt c5;clear c5
     obtain ⟨a7R,K1⟩:∃ y_:List ByteArray,y_=(cF.set (aC:Int).toNat KM):=⟨_,rfl⟩
     replace H:(laws_markStringS.l0 k1 a7R (wrap64 (cL+1)) (wrap64 (aC+1)))=some (r1,r2):=by first|(rw [K1];with_reducible exact H)|(have H2_:=(Option.bind_some _ _).symm.trans H;rw [K1];with_reducible exact H2_)|(have H2_:=(Option.bind_some _ _).symm.trans H;with_reducible exact H2_)|with_reducible exact H|(rw [K1];exact H)|exact H
     have aAs:=am K1;clear K1;have H':=am H;clear H;obtain ⟨Ao7,co7,eo7⟩:=Kd.R_slice pC.out;subst eo7;go_wp2_with (first|((with_reducible refine gate_callee (f:=32) rfl ?_);refine goesL_ (some 15) rfl rfl Tryz.func32 (by kernel_rfl) rfl #[.int .i64 cL] rfl au45 ?_;(with_reducible refine (laws_markText.calls k1 cL KM _ A4.out).mono ?_);rintro e w8 ⟨rfl,hb⟩;refine ⟨_,rfl,?_⟩;replace pC:=am (Kd.R_below (by (with_reducible repeat (first|apply Kd.R_alloc|apply Kd.R_drewN|apply Kd.R_drew));exact pC.out) hb);replace HK:=am (Kept.below (S:=(fun k_=>P0_ k_)) au47 hb);replace HB:=am (below_step au46 hb);(try clear hb);have p6:0≤(aC:Int):=od au87;have q6:(aC:Int)<((cF.length:Int):Int):=od au87;obtain ⟨go6,co6,eo6,gb6,gl6,cl6,HG6⟩:=Kd.R_form pC.out (by omega);(first|cases eo6|(injection eo6 with ea_ en_ ec_;(first|subst ea_|(injection ea_ with ea_;subst ea_));subst ec_;clear en_));have GB6:=am gb6;have GG6:=am HG6;clear gb6 gl6 HG6;have HMgo6:=am (show (P0_ go6∨w.heap.size≤go6) from (pC.out.1 _ rfl));obtain ⟨aV0,aeT⟩:=Kd.R_celln (⟨#[]⟩:ByteArray) pC.out (aC:Int) p6 q6;replace p6:=eq_true p6;replace q6:=eq_true q6;obtain ⟨aY6,aY7⟩:=Kd.R_celln (⟨#[]⟩:ByteArray) pC.out (aC:Int) (od au87) (od au87);have HP9:=Kd.R_putg pC.out (aC:Int) KM)|((with_reducible refine gate_store (t:=9) (p:=16) rfl ?_);refine store_event (t:=9) (p:=16) (v:=?vo_w10) (w1:=(w8.setCell ⟨go6,(aC:Int).toNat,none⟩ (.string KM))) ?hg ?ho ?hn ?hr ?_;(case ho=>rfl);(case hg=>rfl);(case hn=>rfl);(case hr=>first|(go_simp;done)|(go_simp;rfl));intro mN hw;have hg:w8.grownBy mN (some go6):=(by rw [hw];exact HP9.2);have hp_:Kd.R Kd.string 9 mN w0.heap.size (fun k_=>(P0_ k_∨w.heap.size≤k_)) (.slice (some ⟨go6,0,none⟩) cF.length co7) a7R:=(by rw [hw,aAs.out];exact HP9.1);clear HP9;replace HB:=am ((by rw [hw];exact below_set (HB.out) GB6.out:Below w0.heap.size w0 mN));replace HK:=am (Kept.of_grown (S:=(fun k_=>P0_ k_)) hg au47 (fun k_ e_=>(pC.out.1 k_ e_)));replace pC:=am (hp_);clear hg hw hp_))
     go_roundg k1
     case measure=>have:=HK1.out;omega
     case rel=>exact ⟨(a7R),(wrap64 (cL+1)),(wrap64 (aC+1)),au88,au88,H',⟨by have:=HK1.out;omega⟩,⟨by (with_reducible repeat (first|apply Kd.R_alloc|apply Kd.R_drewN|apply Kd.R_drew));exact pC.out⟩,⟨by repeat (first|(with_reducible first|exact HK.out|apply Kept.alloc|apply Kept.drewN|apply Kept.drew)|exact HK.out)⟩,⟨by repeat (first|(with_reducible first|exact HB.out|apply below_alloc|apply pw_below_drewN|apply below_drew1)|exact HB.out)⟩⟩
    · rw [if_neg c5] at H;exact absurd H (by simp)
   · rw [if_neg c3] at H;have c3b0:=df c3;clear c3;simp only [Option.some.injEq,Prod.mk.injEq] at H;obtain ⟨rfl,rfl⟩:=H;obtain ⟨mR,mS,a1W⟩:=Kd.R_slice pC.out;subst a1W;go_wp2;go_ret;exact ⟨by first|rfl|(simp [errW_none,errW_some] <;> rfl)|(simp [*,errW_none,errW_some] <;> rfl),by (with_reducible repeat (first|apply Kd.R_alloc|apply Kd.R_drewN|apply Kd.R_drew));exact pC.out,by repeat (first|(with_reducible first|exact HB.out|apply below_alloc|apply pw_below_drewN|apply below_drew1)|exact HB.out),by repeat (first|(with_reducible first|exact HK.out|apply Kept.alloc|apply Kept.drewN|apply Kept.drew)|exact HK.out)⟩
def laws_heldStringS.l0:Nat→List ByteArray→Int→Int→Option (Int)
 | 0,_,_,_=>none
 | k+1,x0,x1,x5=>if x5<(x0.length:Int) then (if 0≤x5 then ((laws_markText.f k x1).bind fun Nr=>(if (rdOf ByteArray.empty x0 x5).toList=Nr.toList then (laws_heldStringS.l0 k x0 (wrap64 (x1+1)) (wrap64 (x5+1))) else (some (-1)))) else (none)) else (some x1)
def laws_heldStringS.f (k:Nat) (l0:List ByteArray) (a1:Int):Option (Int):=laws_heldStringS.l0 k l0 a1 0
theorem laws_heldStringS.mono_l:∀ k,(∀ y0 y1 y2,LeO (laws_heldStringS.l0 k y0 y1 y2) (laws_heldStringS.l0 (k+1) y0 y1 y2))
 | 0=>fun _ _ _ r h=>by simp [laws_heldStringS.l0] at h
 | k+1=>by
  have ih0:=laws_heldStringS.mono_l k
  ·
   intro y0 y1 y2;unfold laws_heldStringS.l0
   repeat' first
   | (with_reducible exact ih0 _ _ _)
   | (with_reducible exact laws_markText.mono _ _)
   | (with_reducible exact LeO.refl _)
   | (with_reducible exact LeO.none _)
   | (with_reducible refine LeO.ite ?_ ?_)
   | (with_reducible refine LeO.bind ?_ (fun _=>?_))
   | exact ih0 _ _ _
   | exact laws_markText.mono _ _
   | exact LeO.none _
   | refine LeO.ite ?_ ?_
   | refine LeO.bind ?_ (fun _=>?_)
theorem laws_heldStringS.mono:∀ a0 a1 k,LeO (laws_heldStringS.f k a0 a1) (laws_heldStringS.f (k+1) a0 a1):=by
 intro a0 a1 k;have ih0:=laws_heldStringS.mono_l k;unfold laws_heldStringS.f
 repeat' first
   | (with_reducible exact ih0 _ _ _)
   | (with_reducible exact laws_markText.mono _ _)
   | (with_reducible exact LeO.refl _)
   | (with_reducible exact LeO.none _)
   | (with_reducible refine LeO.ite ?_ ?_)
   | (with_reducible refine LeO.bind ?_ (fun _=>?_))
   | exact ih0 _ _ _
   | exact laws_markText.mono _ _
   | exact LeO.none _
   | refine LeO.ite ?_ ?_
   | refine LeO.bind ?_ (fun _=>?_)
set_option maxHeartbeats 8000000 in
set_option maxRecDepth 100000 in
theorem laws_heldStringS.calls (k:Nat) (A0:Option Addr) (c0:Nat) (l0:List ByteArray) (a1:Int) (r:Int) (w:World) (dH:Kd.C Kd.string w A0 l0.length l0) (cP:l0.length≤c0) (h:laws_heldStringS.f k l0 a1=some r) :
  Calls Tryz.prog 53 #[.slice A0 l0.length c0,.int .i64 a1] w fun e w'=>e=.returned (.int .i64 r)∧Below w.heap.size w w':=by
 have cW:=am dH;have mM:=am cP;clear dH cP;have HB:=am (Below.refl w.heap.size w);have H:(laws_heldStringS.l0 k l0 a1 0)=some r:=h;clear h;have H':=am H;clear H;go_enter Tryz.func53,Tryz.ntmps53;go_wp2
 go_loopg [1,5] k (fun kq v1 v5 w'=>∃ (cL:Int) (aC:Int),v1=.int .i64 cL∧v5=.int .i64 aC∧Aside0 (laws_heldStringS.l0 kq l0 cL aC=some r)∧Aside0 (kq≤k)∧Aside0 (Below w.heap.size w w'))
 case atStart=>exact ⟨(a1),(0),au88,au88,H',⟨Nat.le_refl _⟩,⟨by repeat (first|(with_reducible first|exact HB.out|apply below_alloc|apply pw_below_drewN|apply below_drew1)|exact HB.out)⟩⟩
 case round =>
  clear H'
  try clear p2
  obtain ⟨cL,aC,rfl,rfl,HA,HK1,HB⟩:=hrel
  cases gk with
  | zero=>exact absurd HA.out (by simp [laws_heldStringS.l0])
  | succ k1 =>
   have H:=HA.out;clear HA;simp only [laws_heldStringS.l0] at H;by_cases c3:aC<(l0.length:Int)
   ·
    rw [if_pos c3] at H;have c3b0:=dt c3;clear c3;by_cases c4:0≤aC
    ·
     rw [if_pos c4] at H;have c4b0:=dt c4;clear c4;replace H:=ob H;obtain ⟨Nr,wR,H⟩:=H
     try dsimp only at H
     have A5:=am wR;clear wR;by_cases c6:(rdOf ByteArray.empty l0 aC).toList=Nr.toList
     ·
      rw [if_pos c6] at H;have c6b0:=qt c6;have c6b1:=bf c6;clear c6;have H':=am H;clear H
      try go_wp2
      replace HB:=am (below_drew1 HB.out);have IQ:0≤(aC:Int):=od au87;have IR:aC<(l0.length:Int):=od au87;obtain ⟨a1X,a7S,lU⟩:=Kd.at_string cW.out aC IQ IR;have xK:=lU
      cases a7S
      replace lU:=bcl HB.out lU;replace IQ:=eq_true IQ;replace IR:=eq_true IR;refine start_ (n:=7) (S:=fun w'=>w'.cell? (a1X.add (aC).toNat)=some (.string (rdOf ByteArray.empty l0 aC))) (ds:=[]) #[false,false,false,false,false,false,false] (by kernel_rfl) rfl rfl ((bcl HB.out xK)) (fun hHeld=>?_);generalize wr.drew=w7 at HB lU hHeld ⊢;refine pure_ (i:=0) (N:=some 12) (v:=?_) (a':=?_) #[true,false,false,false,false,false,false] rfl rfl (by kernel_rfl) (fun _ _ _ h=>h) (Or.inl ⟨by rfl,?_⟩) ?_ ?_
      rotate_left
      ·
       intro w'
       go_simp
       with_reducible rfl
      rotate_left
      · simp only [Act.put,List.setIfInBounds_toArray,List.set_cons_zero,List.set_cons_succ,i64_w,i32_w];rfl
      refine pure_ (i:=1) (N:=some 13) (v:=?_) (a':=?_) #[true,true,false,false,false,false,false] rfl rfl (by kernel_rfl) (fun _ _ _ h=>h) (Or.inl ⟨by rfl,?_⟩) ?_ ?_
      rotate_left
      ·
       intro w'
       go_simp
       with_reducible rfl
      rotate_left
      · simp only [Act.put,List.setIfInBounds_toArray,List.set_cons_zero,List.set_cons_succ,i64_w,i32_w];rfl
      refine pure_ (i:=2) (N:=some 14) (v:=?_) (a':=?_) #[true,true,true,false,false,false,false] rfl rfl (by kernel_rfl) (fun _ _ _ h=>h) (Or.inl ⟨by rfl,?_⟩) ?_ ?_
      rotate_left
      ·
       intro w'
       go_simp
       with_reducible rfl
      rotate_left
      · simp only [Act.put,List.setIfInBounds_toArray,List.set_cons_zero,List.set_cons_succ,i64_w,i32_w];rfl
      refine pure_ (i:=4) (N:=some 16) (v:=?_) (a':=?_) #[true,true,true,false,true,false,false] rfl rfl (by kernel_rfl) (fun _ _ _ h=>h) (Or.inl ⟨by rfl,?_⟩) ?_ ?_
      rotate_left
      ·
       intro w'
       go_simp
       with_reducible rfl
      rotate_left
      · simp only [Act.put,List.setIfInBounds_toArray,List.set_cons_zero,List.set_cons_succ,i64_w,i32_w];rfl
      refine take_ (i:=3) (N:=some 15) (v:=?_) (a':=?_) #[true,true,true,true,true,false,false] rfl rfl (by kernel_rfl) (fun _ _ _ h=>h) (Or.inl ⟨by rfl,?_⟩) hHeld ?_ ?_
      rotate_left
      ·
       intro w' s0
       go_simp
       with_reducible rfl
      rotate_left
      · simp only [Act.put,List.setIfInBounds_toArray,List.set_cons_zero,List.set_cons_succ,i64_w,i32_w];rfl
      refine one_ (i:=5) (N:=some 17) #[true,true,true,true,true,true,false] rfl rfl (by kernel_rfl) (by decide) (fun K hK=>?_);refine gs_ Tryz.func32 #[.int .i64 cL] ?_
      with_reducible refine (laws_markText.calls k1 cL Nr _ A5.out).mono ?_
      rintro e w8 ⟨rfl,hb⟩;refine ⟨_,rfl,?_⟩;replace HB:=am (below_step au46 hb)
      (try clear hb)
      refine hK.out _ _ ((bcl HB.out xK)) (fun hHeld=>?_);clear hK K;refine no_ (some 17) ?_;refine pure_ (i:=6) (N:=some 18) (v:=?_) (a':=?_) #[true,true,true,true,true,true,true] rfl rfl (by kernel_rfl) (fun _ _ _ h=>h) (Or.inl ⟨by rfl,?_⟩) ?_ ?_
      rotate_left
      ·
       intro w'
       go_simp
       with_reducible rfl
      rotate_left
      · simp only [Act.put,List.setIfInBounds_toArray,List.set_cons_zero,List.set_cons_succ,i64_w,i32_w];rfl
      refine done_ (by kernel_rfl) ?_
      try go_wp2
      go_roundg k1
      case measure=>have:=HK1.out;omega
      case rel=>exact ⟨(wrap64 (cL+1)),(wrap64 (aC+1)),au88,au88,H',⟨by have:=HK1.out;omega⟩,⟨by repeat (first|(with_reducible first|exact HB.out|apply below_alloc|apply pw_below_drewN|apply below_drew1)|exact HB.out)⟩⟩
     ·
      rw [if_neg c6] at H;have c6b0:=qf c6;have c6b1:=bu c6;obtain rfl:=ojz H
      try go_wp2
      replace HB:=am (below_drew1 HB.out);have IQ:0≤(aC:Int):=od au87;have IR:aC<(l0.length:Int):=od au87;obtain ⟨a1X,a7S,lU⟩:=Kd.at_string cW.out aC IQ IR;have xK:=lU
      cases a7S
      replace lU:=bcl HB.out lU;replace IQ:=eq_true IQ;replace IR:=eq_true IR;refine start_ (n:=7) (S:=fun w'=>w'.cell? (a1X.add (aC).toNat)=some (.string (rdOf ByteArray.empty l0 aC))) (ds:=[]) #[false,false,false,false,false,false,false] (by kernel_rfl) rfl rfl ((bcl HB.out xK)) (fun hHeld=>?_);generalize wr.drew=w9 at HB lU hHeld ⊢;refine pure_ (i:=0) (N:=some 12) (v:=?_) (a':=?_) #[true,false,false,false,false,false,false] rfl rfl (by kernel_rfl) (fun _ _ _ h=>h) (Or.inl ⟨by rfl,?_⟩) ?_ ?_
      rotate_left
      ·
       intro w'
       go_simp
       with_reducible rfl
      rotate_left
      · simp only [Act.put,List.setIfInBounds_toArray,List.set_cons_zero,List.set_cons_succ,i64_w,i32_w];rfl
      refine pure_ (i:=1) (N:=some 13) (v:=?_) (a':=?_) #[true,true,false,false,false,false,false] rfl rfl (by kernel_rfl) (fun _ _ _ h=>h) (Or.inl ⟨by rfl,?_⟩) ?_ ?_
      rotate_left
      ·
       intro w'
       go_simp
       with_reducible rfl
      rotate_left
      · simp only [Act.put,List.setIfInBounds_toArray,List.set_cons_zero,List.set_cons_succ,i64_w,i32_w];rfl
      refine pure_ (i:=2) (N:=some 14) (v:=?_) (a':=?_) #[true,true,true,false,false,false,false] rfl rfl (by kernel_rfl) (fun _ _ _ h=>h) (Or.inl ⟨by rfl,?_⟩) ?_ ?_
      rotate_left
      ·
       intro w'
       go_simp
       with_reducible rfl
      rotate_left
      · simp only [Act.put,List.setIfInBounds_toArray,List.set_cons_zero,List.set_cons_succ,i64_w,i32_w];rfl
      refine pure_ (i:=4) (N:=some 16) (v:=?_) (a':=?_) #[true,true,true,false,true,false,false] rfl rfl (by kernel_rfl) (fun _ _ _ h=>h) (Or.inl ⟨by rfl,?_⟩) ?_ ?_
      rotate_left
      ·
       intro w'
       go_simp
       with_reducible rfl
      rotate_left
      · simp only [Act.put,List.setIfInBounds_toArray,List.set_cons_zero,List.set_cons_succ,i64_w,i32_w];rfl
      refine take_ (i:=3) (N:=some 15) (v:=?_) (a':=?_) #[true,true,true,true,true,false,false] rfl rfl (by kernel_rfl) (fun _ _ _ h=>h) (Or.inl ⟨by rfl,?_⟩) hHeld ?_ ?_
      rotate_left
      ·
       intro w' s0
       go_simp
       with_reducible rfl
      rotate_left
      · simp only [Act.put,List.setIfInBounds_toArray,List.set_cons_zero,List.set_cons_succ,i64_w,i32_w];rfl
      refine one_ (i:=5) (N:=some 17) #[true,true,true,true,true,true,false] rfl rfl (by kernel_rfl) (by decide) (fun K hK=>?_);refine gs_ Tryz.func32 #[.int .i64 cL] ?_
      with_reducible refine (laws_markText.calls k1 cL Nr _ A5.out).mono ?_
      rintro e mN ⟨rfl,hb⟩;refine ⟨_,rfl,?_⟩;replace HB:=am (below_step au46 hb)
      (try clear hb)
      refine hK.out _ _ ((bcl HB.out xK)) (fun hHeld=>?_);clear hK K;refine no_ (some 17) ?_;refine pure_ (i:=6) (N:=some 18) (v:=?_) (a':=?_) #[true,true,true,true,true,true,true] rfl rfl (by kernel_rfl) (fun _ _ _ h=>h) (Or.inl ⟨by rfl,?_⟩) ?_ ?_
      rotate_left
      ·
       intro w'
       go_simp
       with_reducible rfl
      rotate_left
      · simp only [Act.put,List.setIfInBounds_toArray,List.set_cons_zero,List.set_cons_succ,i64_w,i32_w];rfl
      refine done_ (by kernel_rfl) ?_
      try go_wp2
      go_ret;exact ax1
    · rw [if_neg c4] at H;exact absurd H (by simp)
   · rw [if_neg c3] at H;have c3b0:=df c3;clear c3;obtain rfl:=ojz H;go_wp2;go_ret;exact ax1
end Go.Proofs.YteagahcbffgjpaaGreatDoor.G

namespace Go.Proofs.YteagahcbffgjpaaGreatDoor.G
open Go.RowKit Go.Proofs.YteagahcbffgjpaaGreatDoorW.PrintWords Go.Proofs.YteagahcbffgjpaaGreatDoorW.PrintLast Go.Proofs.YteagahcbffgjpaaGreatDoor.B
set_option linter.unusedVariables false
set_option linter.unusedSimpArgs false
theorem markText_loop (d:Nat):∀ (n:Int) (s:ByteArray),0≤n→n.toNat<10 ^ d→s.size+d+1≤9223372036854775807→n≤4611686018427387904→∃ r,Ev (fun k=>laws_markText.l0 k n s) r:=by
  have done:∀ (n:Int) (s:ByteArray),¬ n>0→s.size+1≤9223372036854775807→∃ r,Ev (fun k=>laws_markText.l0 k n s) r:=fun n s hn h =>
    ⟨_,Ev.step (f:=fun _=>some ((⟨#[109]⟩:ByteArray)++s)) (fun k=>by simp only [laws_markText.l0];rw [if_neg hn,if_pos (by omega)]) (Ev.now _)⟩
  induction d with
  | zero=>intro n s h0 h1 h2 h3;exact done n s (by simp at h1;omega) (by omega)
  | succ d ih =>
    intro n s h0 h1 h2 h3;by_cases hn:n>0
    · have hq:wrap64 (Int.tdiv n 10)=n / 10:=by rw [Int.tdiv_eq_ediv_of_nonneg h0,w64 (by omega) (by omega)]
      have hs:(strOfNums [(wrap64 (48+(Int.tmod n 10))) % 256]).size=1:=by simp [strOfNums,ByteArray.size]
      obtain ⟨r,hr⟩:=ih (wrap64 (Int.tdiv n 10)) (strOfNums [(wrap64 (48+(Int.tmod n 10))) % 256]++s) (by rw [hq];omega) (by rw [hq];rw [Nat.pow_succ] at h1;omega) (by rw [size_append,hs];omega) (by rw [hq];omega);refine ⟨r,Ev.step (fun k=>?_) hr⟩;simp only [laws_markText.l0];rw [if_pos hn];simp only [Option.bind_some];rw [if_pos (by rw [hs];omega)]
    · exact done n s hn (by omega)
theorem markText_ex (n:Int) (h0:0≤n) (h:n≤4611686018427387904):∃ r,Ev (fun k=>laws_markText.f k n) r:=by
  unfold laws_markText.f;by_cases hn:n≤0
  · exact ⟨_,ev_pos hn (Ev.now _)⟩
  · have e1:(10:Nat) ^ 20=100000000000000000000:=by decide
    have e2:(⟨#[]⟩:ByteArray).size=0:=rfl;obtain ⟨r,hr⟩:=markText_loop 20 n ⟨#[]⟩ h0 (by rw [e1];omega) (by rw [e2];omega) h;exact ⟨r,ev_neg hn hr⟩
noncomputable def mt (n:Int):ByteArray:=open Classical in if h:∃ r,Ev (fun k=>laws_markText.f k n) r then h.choose else ⟨#[]⟩
theorem mt_ev (n:Int) (h0:0≤n) (h:n≤4611686018427387904):Ev (fun k=>laws_markText.f k n) (mt n):=by
  unfold mt;rw [dif_pos (markText_ex n h0 h)];exact (markText_ex n h0 h).choose_spec
noncomputable def mts (m:Int) (n:Nat):List ByteArray:=(List.range n).map fun i=>mt (m+(i:Nat))
theorem mts_len (m:Int) (n:Nat):(mts m n).length=n:=by simp [mts]
theorem markS_loop (d:Nat):∀ (a:List ByteArray) (m:Int) (i:Nat),0≤m→m+a.length≤4611686018427387904→a.length-i=d→i≤a.length →
    Ev (fun k=>laws_markStringS.l0 k (mts m i++a.drop i) (m+i) i) (m+a.length,mts m a.length):=by
  induction d with
  | zero =>
    intro a m i h0 h1 hd hi
    have e:i=a.length:=by omega
    subst e;refine Ev.step (f:=fun _=>some (m+(a.length:Nat),mts m a.length)) (fun k=>?_) (Ev.now _);simp only [laws_markStringS.l0];rw [if_neg (by simp [mts_len]),List.drop_of_length_le (by omega),List.append_nil]
  | succ d ih =>
    intro a m i h0 h1 hd hi
    have hlt:i<a.length:=by omega
    refine Ev.step (f:=fun k=>(laws_markText.f k (m+i)).bind fun t=>laws_markStringS.l0 k ((mts m i++a.drop i).set i t) (m+((i+1:Nat):Int)) ((i+1:Nat):Int)) (fun k=>?_) ?_
    · simp only [laws_markStringS.l0]
      rw [if_pos (by simp [mts_len];omega)]
      congr 1
      funext t
      rw [if_pos (by omega),w64 (by omega) (by omega),w64 (by omega) (by omega)]
      congr 1
      omega
    · refine Ev.bind (mt_ev (m+i) (by omega) (by omega)) ?_
      have e:(mts m i++a.drop i).set i (mt (m+(i:Nat)))=mts m (i+1)++a.drop (i+1):=by
        rw [List.drop_eq_getElem_cons hlt];have hl:(mts m i).length=i:=mts_len m i;rw [List.set_append_right _ _ (by omega),hl,Nat.sub_self,List.set_cons_zero];unfold mts;rw [List.range_succ,List.map_append];simp
      rw [e];exact ih a m (i+1) h0 h1 (by omega) (by omega)
theorem markS_ev (a:List ByteArray) (m:Int) (h0:0≤m) (h1:m+a.length≤4611686018427387904):Ev (fun k=>laws_markStringS.f k a m) (m+a.length,mts m a.length):=by
  have:=markS_loop a.length a m 0 h0 h1 rfl (by omega)
  simpa [laws_markStringS.f,mts] using this
theorem heldS_loop (d:Nat):∀ (m:Int) (n i:Nat),0≤m→m+n≤4611686018427387904→n-i=d→i≤n →
    Ev (fun k=>laws_heldStringS.l0 k (mts m n) (m+i) i) (m+n):=by
  induction d with
  | zero =>
    intro m n i h0 h1 hd hi
    have e:i=n:=by omega
    subst e;refine Ev.step (f:=fun _=>some (m+(i:Nat))) (fun k=>?_) (Ev.now _);simp only [laws_heldStringS.l0];rw [if_neg (by simp [mts_len])]
  | succ d ih =>
    intro m n i h0 h1 hd hi
    have hlt:i<n:=by omega
    refine Ev.step (f:=fun k=>(laws_markText.f k (m+i)).bind fun t=>if (rdOf ByteArray.empty (mts m n) i).toList=t.toList then laws_heldStringS.l0 k (mts m n) (m+((i+1:Nat):Int)) ((i+1:Nat):Int) else some (-1)) (fun k=>?_) ?_
    · simp only [laws_heldStringS.l0]
      rw [if_pos (by rw [mts_len];omega),if_pos (by omega)]
      congr 1
      funext t
      rw [w64 (by omega) (by omega),w64 (by omega) (by omega)]
      have e1:m+(i:Int)+1=m+((i+1:Nat):Int):=by omega
      rw [e1];rfl
    · refine Ev.bind (mt_ev (m+i) (by omega) (by omega)) (ev_pos ?_ (ih m n (i+1) h0 h1 (by omega) (by omega)))
      simp [rdOf,mts,hlt]
theorem heldS_ev (m:Int) (n:Nat) (h0:0≤m) (h1:m+n≤4611686018427387904):Ev (fun k=>laws_heldStringS.f k (mts m n) m) (m+n):=by
  have:=heldS_loop n m n 0 h0 h1 rfl (by omega)
  simpa [laws_heldStringS.f] using this
end Go.Proofs.YteagahcbffgjpaaGreatDoor.G

namespace Go.Proofs.YteagahcbffgjpaaGreatDoor.G
open Go.RowKit Go.Proofs.YteagahcbffgjpaaGreatDoorW.PrintWords Go.Proofs.YteagahcbffgjpaaGreatDoorW.PrintLast Go.Proofs.YteagahcbffgjpaaGreatDoorW.PrintMore Go.Proofs.YteagahcbffgjpaaGreatDoor.B
set_option linter.unusedVariables false
set_option linter.unusedSimpArgs false
theorem mk_w1 (x:Int) (h0:0≤x) (h1:x≤4611686018427387904):wrap64 (x+1)=x+1:=w64 (by omega) (by omega)
theorem mk_add (a:Int) (i:Nat):a+(i:Int)+1=a+((i+1:Nat):Int):=by omega
theorem mk_i (i:Nat) (h:i≤4611686018427387904):wrap64 ((i:Int)+1)=((i+1:Nat):Int):=by rw [w64 (by omega) (by omega)];rfl
theorem sim_str (s t:ByteArray):SimV (.string s) (.string t):=.inr (.inl ⟨_,_,rfl,rfl⟩)
set_option maxHeartbeats 8000000 in
set_option maxRecDepth 100000 in
theorem markS_w (base:Nat) (P:Nat→Prop) (u:Value) (l:List ByteArray) (a1:Int) (w:World) (h0:0≤a1) (h1:a1+(l.length:Int)≤4611686018427387904) (ho:Kd.R Kd.string 9 w base P u l) :
    Calls Tryz.prog 52 #[u,.int .i64 a1] w fun e w'=>e=.returned (.int .i64 (a1+(l.length:Int)))∧Sim P w w'∧Below base w w':=by
  have HL:=am (And.intro h0 h1);have HR:=am ho;have HS:=am (Sim.refl P w);have HB:=am (Below.refl base w)
  obtain ⟨kk,hkk⟩:∃ kk,kk=l.length+1:=⟨_,rfl⟩
  have HKK:=am hkk;obtain ⟨A,c,rfl⟩:=Kd.R_slice ho;clear ho hkk h0 h1;go_enter Tryz.func52,Tryz.ntmps52;go_wp2
  go_loopg [1,5] kk (fun kq v1 v5 w'=>∃ (i:Nat),v1=.int .i64 (a1+(i:Int))∧v5=.int .i64 (i:Int)∧Aside0 (i≤l.length∧l.length-i<kq)∧Aside0 (kq≤kk)∧Aside0 (Sim P w w')∧Aside0 (Below base w w'))
  case atStart=>exact ⟨0,(by simp),(by first|rfl|simp),⟨Nat.zero_le _,by have:=HKK.out;omega⟩,⟨Nat.le_refl _⟩,⟨by repeat (first|exact HS.out|apply Sim.drewN|apply Sim.drew|apply Sim.alloc)⟩,⟨by repeat (first|exact HB.out|apply pw_below_drewN|apply below_drew1|apply below_alloc)⟩⟩
  case round =>
    clear HS HB;obtain ⟨i,rfl,rfl,HI,HK1,HS,HB⟩:=hrel
    cases gk with
    | zero=>exact absurd HI.out.2 (Nat.not_lt_zero _)
    | succ k1 =>
      by_cases ci:i<l.length
      · have c0:decide ((i:Int)<(l.length:Int))=true:=dt (by omega)
        have c1:decide ((0:Int)≤(i:Int))=true:=dt (by omega);have HW1:=am (mk_w1 (a1+(i:Int)) (by have:=HL.out;omega) (by have:=HL.out;omega));have HW2:=am (mk_i i (by have:=HL.out;omega))
        obtain ⟨kt,hkt⟩:=(mt_ev (a1+(i:Int)) (by have:=HL.out;omega) (by have:=HL.out;omega))
        have HT:=am (hkt kt (Nat.le_refl _));clear hkt;obtain ⟨g,cap,eo,gb,gl,cl,HG⟩:=Kd.R_form HR.out (by omega)
        cases eo
        have GB:=am gb;have HBS:=am (show base≤w.heap.size by omega);have PG:=am (HR.out.1 g rfl);clear gb gl HG;have CI:=am ci
        go_wp2_with (first
          | ((with_reducible refine gate_callee (f:=32) rfl ?_);refine goesL_ (some 15) rfl rfl Tryz.func32 (by kernel_rfl) rfl #[.int .i64 (a1+(i:Int))] rfl (by (try simp only [List.map_toArray,List.map_cons,List.map_nil]);first|done|rfl) ?_;(refine (laws_markText.calls kt (a1+(i:Int)) (mt (a1+(i:Int))) _ HT.out).mono ?_);rintro e w8 ⟨rfl,hb⟩;refine ⟨_,rfl,?_⟩;have HS2:=am ((show Sim P w _ by repeat (first|exact HS.out|apply Sim.drewN|apply Sim.drew|apply Sim.alloc)).below hb);have HB2:=am (Below.trans (show Below base w _ by repeat (first|exact HB.out|apply pw_below_drewN|apply below_drew1|apply below_alloc)) (hb.mono (Nat.le_trans HBS.out (Below.size (show Below base w _ by repeat (first|exact HB.out|apply pw_below_drewN|apply below_drew1|apply below_alloc))))));clear HS HB hb;have HS:=HS2;have HB:=HB2;clear HS2 HB2;obtain ⟨l2,hR2,Sl⟩:=R_sim simK_string HR.out HS.out;have hlen:=congrArg List.length Sl;rw [List.length_map,List.length_map] at hlen;obtain ⟨Dt,hf0⟩:=Kd.R_celln (⟨#[]⟩:ByteArray) hR2 (i:Int) (by omega) (by have:=CI.out;omega);simp only [Int.toNat_natCast] at Dt hf0;obtain ⟨cl2,hG2⟩:∃ cl2,w8.heap[g]?=some (.cells cl2 9 (0,0)):=Kd.R_typed hR2 g rfl;have ST:=am (Sim.store (u:=.string (mt (a1+(i:Int)))) HS.out PG.out hG2 Dt (sim_str _ _));clear hR2 Sl hlen hG2)
          | ((with_reducible refine gate_store (t:=9) (p:=16) rfl ?_);refine store_event (t:=9) (p:=16) (v:=?vo_w10) (w1:=(w8.setCell ⟨g,i,none⟩ (.string (mt (a1+(i:Int)))))) ?hg ?ho ?hn ?hr ?_;(case ho=>rfl);(case hg=>rfl);(case hn=>rfl);(case hr=>first|(go_simp;done)|(go_simp;rfl));intro mN hw;have HS2:=am (show Sim P w mN by rw [hw];exact ST.out);have HB2:=am (show Below base w mN by rw [hw];exact HB.out.setCell GB.out _);clear HS HB ST hw;have HS:=HS2;have HB:=HB2;clear HS2 HB2))
        go_roundg k1
        case rel=>exact ⟨i+1,(by (try simp only [i64_w]);rw [HW1.out,mk_add]),(by (try simp only [i64_w]);rw [HW2.out]),⟨by have:=HI.out;have:=CI.out;omega⟩,⟨by have:=HK1.out;omega⟩,⟨by repeat (first|exact HS.out|apply Sim.drewN|apply Sim.drew|apply Sim.alloc)⟩,⟨by repeat (first|exact HB.out|apply pw_below_drewN|apply below_drew1|apply below_alloc)⟩⟩
        case measure=>have:=HK1.out;omega
      · have c0:decide ((i:Int)<(l.length:Int))=false:=df (by omega)
        have HE:=am (show i=l.length by have:=HI.out;omega);go_wp2;go_ret;exact ⟨by first|(rw [HE.out];rfl)|rfl,by repeat (first|exact HS.out|apply Sim.drewN|apply Sim.drew|apply Sim.alloc),by repeat (first|exact HB.out|apply pw_below_drewN|apply below_drew1|apply below_alloc)⟩
theorem sim_int (q:IntKind) (a b:Int):SimV (.int q a) (.int q b):=.inr (.inr (.inl ⟨_,_,_,rfl,rfl⟩))
theorem sim_bool (a b:Bool):SimV (.bool a) (.bool b):=.inr (.inr (.inr ⟨_,_,rfl,rfl⟩))
def elN (x:S69):Int:=(x.f0.length:Int)+3
theorem elN_eq (x:S69):elN x=(x.f0.length:Int)+3:=rfl
def cntN:List S69→Int
  | []=>0
  | x :: l=>elN x+cntN l
theorem cntN_len (l:List S69):(l.length:Int)≤cntN l:=by
  induction l with
  | nil=>exact Int.le_refl _
  | cons x l ih=>simp only [cntN,elN,List.length_cons];omega
theorem cntN_nonneg (l:List S69):0≤cntN l:=Int.le_trans (Int.natCast_nonneg _) (cntN_len l)
theorem cntN_step (l:List S69):∀ i (h:i<l.length),cntN (l.take (i+1))=cntN (l.take i)+elN l[i]∧cntN (l.take (i+1))≤cntN l:=by
  induction l with
  | nil=>intro i h;simp at h
  | cons x l ih =>
    intro i h
    cases i with
    | zero=>have:=cntN_nonneg l;simp [cntN];omega
    | succ i =>
      have:=ih i (by simpa using h);simp only [List.take_succ_cons,cntN,List.getElem_cons_succ];omega
theorem cntN_at {l:List S69} {a n:Int} {i:Nat} (h:n=a+cntN (l.take i)) (hl:0≤a∧a+cntN l≤4611686018427387904) (hi:i<l.length):(0≤n∧n+elN l[i]≤4611686018427387904)∧n+elN l[i]=a+cntN (l.take (i+1)):=by
  have h1:=cntN_step l i hi;have h2:=cntN_nonneg (l.take i);omega
def shN (x:S69):=(x.f0.map (fun _:ByteArray=>()),(),(),())
theorem simK_name:SimK k69 shN :=
  simK_iso (f:=fun x:S69=>(x.f0,x.f1,x.f2,x.f3)) (fun y=>⟨y.1,y.2.1,y.2.2.1,y.2.2.2⟩) (fun _=>rfl) (simK_pair (simK_slice 9 simK_string) (simK_pair simK_string (simK_pair simK_string simK_string)))
theorem shN_elN {x y:S69} (h:shN x=shN y):x.f0.length=y.f0.length:=by
  have:=congrArg (fun z=>z.1.length) h
  simpa [shN] using this
theorem shN_cnt (l:List S69):∀ l',l'.map shN=l.map shN→cntN l'=cntN l:=by
  induction l with
  | nil=>intro l' h;cases l' with|nil=>rfl|cons x r=>simp at h
  | cons x l ih =>
    intro l' h
    cases l' with
    | nil=>simp at h
    | cons y r =>
      simp only [List.map_cons,List.cons.injEq] at h;have:=shN_elN h.1;simp only [cntN,elN,this,ih r h.2]
theorem sh_at {α β:Type} {sh:α→β} {l l':List α} (h:l'.map sh=l.map sh) (z:α) (i:Nat) (hi:i<l.length):l'.length=l.length∧sh (l'.getD i z)=sh l[i]:=by
  have hl:l'.length=l.length:=by have:=congrArg List.length h;simpa using this
  refine ⟨hl,?_⟩;have:=congrArg (fun q=>q[i]?) h;simp only [List.getElem?_map] at this;rw [List.getElem?_eq_getElem (show i<l'.length by omega),List.getElem?_eq_getElem hi] at this;rw [List.getD_eq_getElem?_getD,List.getElem?_eq_getElem (show i<l'.length by omega)];exact ojz this
theorem rowN_at {w W:World} {P:Nat→Prop} {base g cap:Nat} {l:List S69} (HR:Kd.R k69 69 w base P (.slice (some ⟨g,0,none⟩) l.length cap) l) (HS:Sim P w W) (i:Nat) (hi:i<l.length) :
    ∃ (A:Option Addr) (c:Nat) (xs:List ByteArray) (s1 s2 s3:ByteArray) (cl:Array Value),W.cell? ⟨g,i*4,none⟩=some (.slice A xs.length c)∧W.cell? ⟨g,i*4+1,none⟩=some (.string s1)∧W.cell? ⟨g,i*4+2,none⟩=some (.string s2)∧W.cell? ⟨g,i*4+3,none⟩=some (.string s3) ∧
      W.frozen? ⟨g,i*4,none⟩=false∧W.frozen? ⟨g,i*4+1,none⟩=false∧W.frozen? ⟨g,i*4+2,none⟩=false∧W.frozen? ⟨g,i*4+3,none⟩=false ∧
      (xs.length:Int)=(l[i].f0.length:Int)∧Kd.R Kd.string 9 W base P (.slice A xs.length c) xs∧W.heap[g]?=some (.cells cl 69 (0,0)):=by
  obtain ⟨l',hR',hm⟩:=R_sim simK_name HR HS;obtain ⟨hl,hs⟩:=sh_at hm (⟨[],⟨#[]⟩,⟨#[]⟩,⟨#[]⟩⟩:S69) i hi;obtain ⟨c,hcl,hM,hc,hf⟩:=Kd.R_elem hR' (⟨[],⟨#[]⟩,⟨#[]⟩,⟨#[]⟩⟩:S69) (i:Int) (by omega) (by omega);obtain ⟨_,_,rfl,⟨v,rfl,hRs⟩,_,_,rfl,rfl,_,_,rfl,rfl,rfl⟩:=hM;obtain ⟨A,cc,rfl⟩:=Kd.R_slice hRs;obtain ⟨cl,hG⟩:=Kd.R_typed hR' g rfl;exact ⟨A,cc,_,_,_,_,cl,hc 0 _ rfl,hc 1 _ rfl,hc 2 _ rfl,hc 3 _ rfl,hf 0,hf 1,hf 2,hf 3,by exact_mod_cast shN_elN hs,Kd.R_mono hRs (fun _ hk=>hk.1),hG⟩
set_option maxHeartbeats 8000000 in
set_option maxRecDepth 100000 in
theorem markN_w (base:Nat) (P:Nat→Prop) (u:Value) (l:List S69) (a1:Int) (w:World) (h0:0≤a1) (h1:a1+cntN l≤4611686018427387904) (ho:Kd.R k69 69 w base P u l) :
    Calls Tryz.prog 33 #[u,.int .i64 a1] w fun e w'=>e=.returned (.int .i64 (a1+cntN l))∧Sim P w w'∧Below base w w':=by
  have HL:=am (And.intro h0 h1);have HZ:=am (show (l.length:Int)≤4611686018427387904 from Int.le_trans (cntN_len l) (by omega));have HR:=am ho;have HS:=am (Sim.refl P w);have HB:=am (Below.refl base w)
  obtain ⟨kk,hkk⟩:∃ kk,kk=l.length+1:=⟨_,rfl⟩
  have HKK:=am hkk;obtain ⟨A,c,rfl⟩:=Kd.R_slice ho;have hu1:=Tryz.underlying69;clear ho hkk h0 h1;go_enter Tryz.func33,Tryz.ntmps33;go_wp2
  go_loopg [1,5] kk (fun kq v1 v5 w'=>∃ (i:Nat) (n:Int),v1=.int .i64 n∧v5=.int .i64 (i:Int)∧Aside0 (n=a1+cntN (l.take i))∧Aside0 (i≤l.length∧l.length-i<kq)∧Aside0 (kq≤kk)∧Aside0 (Sim P w w')∧Aside0 (Below base w w'))
  case atStart=>exact ⟨0,a1,rfl,(by first|rfl|simp),⟨by simp [cntN]⟩,⟨Nat.zero_le _,by have:=HKK.out;omega⟩,⟨Nat.le_refl _⟩,⟨by repeat (first|exact HS.out|apply Sim.drewN|apply Sim.drew|apply Sim.alloc)⟩,⟨by repeat (first|exact HB.out|apply pw_below_drewN|apply below_drew1|apply below_alloc)⟩⟩
  case round =>
    clear HS HB;obtain ⟨i,n,rfl,rfl,HN,HI,HK1,HS,HB⟩:=hrel
    cases gk with
    | zero=>exact absurd HI.out.2 (Nat.not_lt_zero _)
    | succ k1 =>
      by_cases ci:i<l.length
      · have c0:decide ((i:Int)<(l.length:Int))=true:=dt (by omega)
        have c1:decide ((0:Int)≤(i:Int))=true:=dt (by omega);have CI:=am ci;have HW2:=am (mk_i i (by have:=HZ.out;omega));have HQ:=am (show (0≤n∧n+elN l[i]≤4611686018427387904)∧n+elN l[i]=a1+cntN (l.take (i+1)) from cntN_at HN.out HL.out ci)
        obtain ⟨q0,hq0⟩:∃ q:Int,q=(l[i].f0.length:Int):=⟨_,rfl⟩
        have Du:=am hq0;have HQN:=am (show 0≤n∧n+(q0+3)≤4611686018427387904 from by have h_:=HQ.out.1;rw [show elN l[i]=q0+3 from by rw [hq0];exact elN_eq _] at h_;exact h_);have HQP:=am (show 0≤q0∧True from by rw [hq0];exact ⟨by first|exact Int.natCast_nonneg _|exact cntN_nonneg _,trivial⟩);clear hq0;obtain ⟨g,cap,eo,gb,gl,cl,HG⟩:=Kd.R_form HR.out (by omega)
        cases eo
        have GB:=am gb;have HBS:=am (show base≤w.heap.size by omega);have PG:=am (HR.out.1 g rfl);clear gb gl HG;have uN:=am (rfl:n=n);obtain ⟨bH,bA,fE,aFs,aY8,aY9,cl0,cA,a1Y,eZ,fA,a1Z,a2A,a2B,a2C,MQ,MR,hG0⟩:=rowN_at HR.out HS.out i CI.out;have HRS0:=am MR;have HLS0:=am (MQ.trans Du.out.symm);clear MR MQ;clear a1Y eZ fA a2A a2B a2C hG0
        go_wp2_with (first
          | ((with_reducible refine gate_callee (f:=52) rfl ?_);refine goesL_ (some 18) rfl rfl Tryz.func52 (by kernel_rfl) rfl #[.slice bH fE.length bA,.int .i64 n] rfl (by (try simp only [List.map_toArray,List.map_cons,List.map_nil]);first|done|rfl) ?_;(refine (markS_w base P _ fE n _ (by rw [uN.out];have bW:=HQN.out;have cD:=HQP.out;omega) (by rw [uN.out,HLS0.out];have bW:=HQN.out;have cD:=HQP.out;omega) (by (with_reducible repeat (first|apply Kd.R_alloc|apply Kd.R_drewN|apply Kd.R_drew));exact HRS0.out)).mono ?_);rintro e a2D ⟨rfl,hs,hb⟩;refine ⟨_,rfl,?_⟩;have HS2:=am ((show Sim P w _ from by repeat (first|exact HS.out|apply Sim.drewN|apply Sim.drew|apply Sim.alloc)).trans hs);have HB2:=am ((show Below base w _ from by repeat (first|exact HB.out|apply pw_below_drewN|apply below_drew1|apply below_alloc)).trans hb);clear HS HB hs hb;have HS:=HS2;have HB:=HB2;clear HS2 HB2;have pD:=am (show (n+(fE.length:Int))=(n+q0) from by rw [uN.out,HLS0.out]);clear HRS0 cA a1Z)
          | ((with_reducible refine gate_callee (f:=32) rfl ?_);refine goesL_ (some 22) rfl rfl Tryz.func32 (by kernel_rfl) rfl #[.int .i64 (n+(fE.length:Int))] rfl (by (try simp only [List.map_toArray,List.map_cons,List.map_nil]);first|done|rfl) ?_;obtain ⟨kt1,aoK⟩:=(mt_ev (n+(fE.length:Int)) (by rw [pD.out];have bW:=HQN.out;have cD:=HQP.out;omega) (by rw [pD.out];have bW:=HQN.out;have cD:=HQP.out;omega));(refine (laws_markText.calls kt1 (n+(fE.length:Int)) (mt (n+(fE.length:Int))) _ (aoK kt1 (Nat.le_refl _))).mono ?_);rintro e aoL ⟨rfl,hb⟩;refine ⟨_,rfl,?_⟩;clear aoK;have HS2:=am ((show Sim P w _ from by repeat (first|exact HS.out|apply Sim.drewN|apply Sim.drew|apply Sim.alloc)).below hb);have HB2:=am (Below.trans (show Below base w _ from by repeat (first|exact HB.out|apply pw_below_drewN|apply below_drew1|apply below_alloc)) (hb.mono (Nat.le_trans HBS.out (Below.size (show Below base w _ from by repeat (first|exact HB.out|apply pw_below_drewN|apply below_drew1|apply below_alloc))))));clear HS HB hb;have HS:=HS2;have HB:=HB2;clear HS2 HB2;obtain ⟨rG,rH,aAt,aFt,aYa,aYb,cl1,rR,K2,Et,Eu,a2E,a2F,a2G,a2H,a2I,a2J,hG1⟩:=rowN_at HR.out HS.out i CI.out;have ST1:=am (fun (u:Value) (hv:SimV _ u)=>Sim.store HS.out PG.out hG1 K2 hv);clear rR Et Eu a2E a2G a2H a2I a2J hG1)
          | ((with_reducible refine gate_store (t:=9) (p:=24) rfl ?_);refine store_event (t:=9) (p:=24) (v:=?vo_w201) (w1:=(aoL.setCell ⟨g,i*4+1,none⟩ (.string (mt (n+(fE.length:Int)))))) ?hg ?ho ?hn ?hr ?_;(case ho=>rfl);(case hg=>rfl);(case hn=>rfl);(case hr=>first|(go_simp;done)|(go_simp;rfl));intro oM hw;have HS2:=am (show Sim P w oM by rw [hw];exact ST1.out _ (sim_str _ _));have HB2:=am (show Below base w oM by rw [hw];exact HB.out.setCell GB.out _);clear HS HB ST1 hw;have HS:=HS2;have HB:=HB2;clear HS2 HB2;clear K2 a2F;have lG:=am (show (wrap64 ((n+(fE.length:Int))+1))=((n+q0)+1) from by rw [pD.out];exact mk_w1 _ (by have bW:=HQN.out;have cD:=HQP.out;omega) (by have bW:=HQN.out;have cD:=HQP.out;omega)))
          | ((with_reducible refine gate_callee (f:=32) rfl ?_);refine goesL_ (some 30) rfl rfl Tryz.func32 (by kernel_rfl) rfl #[.int .i64 (wrap64 ((n+(fE.length:Int))+1))] rfl (by (try simp only [List.map_toArray,List.map_cons,List.map_nil]);first|done|rfl) ?_;obtain ⟨kt2,aoM⟩:=(mt_ev (wrap64 ((n+(fE.length:Int))+1)) (by rw [lG.out];have bW:=HQN.out;have cD:=HQP.out;omega) (by rw [lG.out];have bW:=HQN.out;have cD:=HQP.out;omega));(refine (laws_markText.calls kt2 (wrap64 ((n+(fE.length:Int))+1)) (mt (wrap64 ((n+(fE.length:Int))+1))) _ (aoM kt2 (Nat.le_refl _))).mono ?_);rintro e Ns ⟨rfl,hb⟩;refine ⟨_,rfl,?_⟩;clear aoM;have HS2:=am ((show Sim P w _ from by repeat (first|exact HS.out|apply Sim.drewN|apply Sim.drew|apply Sim.alloc)).below hb);have HB2:=am (Below.trans (show Below base w _ from by repeat (first|exact HB.out|apply pw_below_drewN|apply below_drew1|apply below_alloc)) (hb.mono (Nat.le_trans HBS.out (Below.size (show Below base w _ from by repeat (first|exact HB.out|apply pw_below_drewN|apply below_drew1|apply below_alloc))))));clear HS HB hb;have HS:=HS2;have HB:=HB2;clear HS2 HB2;obtain ⟨aoN,aoO,cJ,aFu,aYc,aYd,cl2,a2K,a2L,MS,a2M,a2N,a2O,a2P,a2Q,MU,MV,hG2⟩:=rowN_at HR.out HS.out i CI.out;have ST2:=am (fun (u:Value) (hv:SimV _ u)=>Sim.store HS.out PG.out hG2 MS hv);clear a2K a2L a2M a2N a2O a2Q MU MV hG2)
          | ((with_reducible refine gate_store (t:=9) (p:=32) rfl ?_);refine store_event (t:=9) (p:=32) (v:=?vo_w202) (w1:=(Ns.setCell ⟨g,i*4+2,none⟩ (.string (mt (wrap64 ((n+(fE.length:Int))+1)))))) ?hg ?ho ?hn ?hr ?_;(case ho=>rfl);(case hg=>rfl);(case hn=>rfl);(case hr=>first|(go_simp;done)|(go_simp;rfl));intro KN hw;have HS2:=am (show Sim P w KN by rw [hw];exact ST2.out _ (sim_str _ _));have HB2:=am (show Below base w KN by rw [hw];exact HB.out.setCell GB.out _);clear HS HB ST2 hw;have HS:=HS2;have HB:=HB2;clear HS2 HB2;clear MS a2P;have oN:=am (show (wrap64 ((wrap64 ((n+(fE.length:Int))+1))+1))=(((n+q0)+1)+1) from by rw [lG.out];exact mk_w1 _ (by have bW:=HQN.out;have cD:=HQP.out;omega) (by have bW:=HQN.out;have cD:=HQP.out;omega)))
          | ((with_reducible refine gate_callee (f:=32) rfl ?_);refine goesL_ (some 38) rfl rfl Tryz.func32 (by kernel_rfl) rfl #[.int .i64 (wrap64 ((wrap64 ((n+(fE.length:Int))+1))+1))] rfl (by (try simp only [List.map_toArray,List.map_cons,List.map_nil]);first|done|rfl) ?_;obtain ⟨kt3,aoP⟩:=(mt_ev (wrap64 ((wrap64 ((n+(fE.length:Int))+1))+1)) (by rw [oN.out];have bW:=HQN.out;have cD:=HQP.out;omega) (by rw [oN.out];have bW:=HQN.out;have cD:=HQP.out;omega));(refine (laws_markText.calls kt3 (wrap64 ((wrap64 ((n+(fE.length:Int))+1))+1)) (mt (wrap64 ((wrap64 ((n+(fE.length:Int))+1))+1))) _ (aoP kt3 (Nat.le_refl _))).mono ?_);rintro e Nt ⟨rfl,hb⟩;refine ⟨_,rfl,?_⟩;clear aoP;have HS2:=am ((show Sim P w _ from by repeat (first|exact HS.out|apply Sim.drewN|apply Sim.drew|apply Sim.alloc)).below hb);have HB2:=am (Below.trans (show Below base w _ from by repeat (first|exact HB.out|apply pw_below_drewN|apply below_drew1|apply below_alloc)) (hb.mono (Nat.le_trans HBS.out (Below.size (show Below base w _ from by repeat (first|exact HB.out|apply pw_below_drewN|apply below_drew1|apply below_alloc))))));clear HS HB hb;have HS:=HS2;have HB:=HB2;clear HS2 HB2;obtain ⟨aFv,aFw,aAu,aFx,aYe,aYf,cl3,a2R,a2S,a2T,MW,a2U,a2V,a2W,a2X,a2Y,a2Z,hG3⟩:=rowN_at HR.out HS.out i CI.out;have ST3:=am (fun (u:Value) (hv:SimV _ u)=>Sim.store HS.out PG.out hG3 MW hv);clear a2R a2S a2T a2U a2V a2W a2Y a2Z hG3)
          | ((with_reducible refine gate_store (t:=9) (p:=40) rfl ?_);refine store_event (t:=9) (p:=40) (v:=?vo_w203) (w1:=(Nt.setCell ⟨g,i*4+3,none⟩ (.string (mt (wrap64 ((wrap64 ((n+(fE.length:Int))+1))+1)))))) ?hg ?ho ?hn ?hr ?_;(case ho=>rfl);(case hg=>rfl);(case hn=>rfl);(case hr=>first|(go_simp;done)|(go_simp;rfl));intro aoQ hw;have HS2:=am (show Sim P w aoQ by rw [hw];exact ST3.out _ (sim_str _ _));have HB2:=am (show Below base w aoQ by rw [hw];exact HB.out.setCell GB.out _);clear HS HB ST3 hw;have HS:=HS2;have HB:=HB2;clear HS2 HB2;clear MW a2X;have xE:=am (show (wrap64 ((wrap64 ((wrap64 ((n+(fE.length:Int))+1))+1))+1))=((((n+q0)+1)+1)+1) from by rw [oN.out];exact mk_w1 _ (by have bW:=HQN.out;have cD:=HQP.out;omega) (by have bW:=HQN.out;have cD:=HQP.out;omega))))
        go_roundg k1
        case rel=>exact ⟨i+1,(wrap64 ((wrap64 ((wrap64 ((n+(fE.length:Int))+1))+1))+1)),(by (try simp only [i64_w])),(by (try simp only [i64_w]);rw [HW2.out]),⟨by rw [xE.out];have h_:=HQ.out.2;rw [show elN l[i]=q0+3 from by rw [Du.out];exact elN_eq _] at h_;rw [← h_];omega⟩,⟨by have:=HI.out;have:=CI.out;omega⟩,⟨by have:=HK1.out;omega⟩,⟨by repeat (first|exact HS.out|apply Sim.drewN|apply Sim.drew|apply Sim.alloc)⟩,⟨by repeat (first|exact HB.out|apply pw_below_drewN|apply below_drew1|apply below_alloc)⟩⟩
        case measure=>have:=HK1.out;omega
      · have c0:decide ((i:Int)<(l.length:Int))=false:=df (by omega)
        have HE:=am (show n=a1+cntN l from by rw [HN.out,List.take_of_length_le (by omega)]);go_wp2;go_ret;exact ⟨by first|(rw [HE.out];rfl)|(rw [← HE.out];rfl)|rfl,by repeat (first|exact HS.out|apply Sim.drewN|apply Sim.drew|apply Sim.alloc),by repeat (first|exact HB.out|apply pw_below_drewN|apply below_drew1|apply below_alloc)⟩
def elE (x:S42):Int:=cntN x.f2+cntN x.f3+12
theorem elE_eq (x:S42):elE x=cntN x.f2+cntN x.f3+12:=rfl
def cntE:List S42→Int
  | []=>0
  | x :: l=>elE x+cntE l
theorem cntE_len (l:List S42):(l.length:Int)≤cntE l:=by
  induction l with
  | nil=>exact Int.le_refl _
  | cons x l ih=>have:=cntN_nonneg x.f2;have:=cntN_nonneg x.f3;simp only [cntE,elE,List.length_cons];omega
theorem cntE_nonneg (l:List S42):0≤cntE l:=Int.le_trans (Int.natCast_nonneg _) (cntE_len l)
theorem cntE_step (l:List S42):∀ i (h:i<l.length),cntE (l.take (i+1))=cntE (l.take i)+elE l[i]∧cntE (l.take (i+1))≤cntE l:=by
  induction l with
  | nil=>intro i h;simp at h
  | cons x l ih =>
    intro i h
    cases i with
    | zero=>have:=cntE_nonneg l;simp [cntE];omega
    | succ i =>
      have:=ih i (by simpa using h);simp only [List.take_succ_cons,cntE,List.getElem_cons_succ];omega
theorem cntE_at {l:List S42} {a n:Int} {i:Nat} (h:n=a+cntE (l.take i)) (hl:0≤a∧a+cntE l≤4611686018427387904) (hi:i<l.length):(0≤n∧n+elE l[i]≤4611686018427387904)∧n+elE l[i]=a+cntE (l.take (i+1)):=by
  have h1:=cntE_step l i hi;have h2:=cntE_nonneg (l.take i);omega
def shD (x:S40):=((),(),(),())
theorem simK_date:SimK k40 shD :=
  simK_iso (f:=fun x:S40=>(x.f0,x.f1,x.f2,x.f3)) (fun y=>⟨y.1,y.2.1,y.2.2.1,y.2.2.2⟩) (fun _=>rfl) (simK_pair (simK_int .i64) (simK_pair (simK_int .i64) (simK_pair (simK_int .i64) simK_bool)))
def shE (x:S42):=((),(),x.f2.map shN,x.f3.map shN,(),(),(),shD x.f7,(),(),())
theorem simK_entry:SimK k42 shE :=
  simK_iso (f:=fun x:S42=>(x.f0,x.f1,x.f2,x.f3,x.f4,x.f5,x.f6,x.f7,x.f8,x.f9,x.f10)) (fun y=>⟨y.1,y.2.1,y.2.2.1,y.2.2.2.1,y.2.2.2.2.1,y.2.2.2.2.2.1,y.2.2.2.2.2.2.1,y.2.2.2.2.2.2.2.1,y.2.2.2.2.2.2.2.2.1,y.2.2.2.2.2.2.2.2.2.1,y.2.2.2.2.2.2.2.2.2.2⟩) (fun _=>rfl)
    (simK_pair simK_string (simK_pair (simK_int .i64) (simK_pair (simK_slice _ simK_name) (simK_pair (simK_slice _ simK_name) (simK_pair simK_string (simK_pair simK_string (simK_pair simK_string (simK_pair simK_date (simK_pair (simK_int .i64) (simK_pair simK_string simK_string))))))))))
def e0E:S42:=⟨⟨#[]⟩,0,[],[],⟨#[]⟩,⟨#[]⟩,⟨#[]⟩,⟨0,0,0,false⟩,0,⟨#[]⟩,⟨#[]⟩⟩
theorem rowE_at {w W:World} {P:Nat→Prop} {base g cap:Nat} {l:List S42} (HR:Kd.R k42 42 w base P (.slice (some ⟨g,0,none⟩) l.length cap) l) (HS:Sim P w W) (i:Nat) (hi:i<l.length) :
    ∃ (A:Option Addr) (c:Nat) (xs:List S69) (A2:Option Addr) (c2:Nat) (ys:List S69) (s0:ByteArray) (n1:Int) (s4 s5 s6:ByteArray) (n7 n8 n9:Int) (b10:Bool) (n11:Int) (IC ID:ByteArray) (cl:Array Value),
      W.cell? ⟨g,i*14,none⟩=some (.string s0)∧W.cell? ⟨g,i*14+1,none⟩=some (.int .i64 n1)∧W.cell? ⟨g,i*14+2,none⟩=some (.slice A xs.length c)∧W.cell? ⟨g,i*14+3,none⟩=some (.slice A2 ys.length c2)∧W.cell? ⟨g,i*14+4,none⟩=some (.string s4)∧W.cell? ⟨g,i*14+5,none⟩=some (.string s5)∧W.cell? ⟨g,i*14+6,none⟩=some (.string s6)∧W.cell? ⟨g,i*14+7,none⟩=some (.int .i64 n7)∧W.cell? ⟨g,i*14+8,none⟩=some (.int .i64 n8)∧W.cell? ⟨g,i*14+9,none⟩=some (.int .i64 n9)∧W.cell? ⟨g,i*14+10,none⟩=some (.bool b10)∧W.cell? ⟨g,i*14+11,none⟩=some (.int .i64 n11)∧W.cell? ⟨g,i*14+12,none⟩=some (.string IC)∧W.cell? ⟨g,i*14+13,none⟩=some (.string ID) ∧
      W.frozen? ⟨g,i*14,none⟩=false∧W.frozen? ⟨g,i*14+1,none⟩=false∧W.frozen? ⟨g,i*14+2,none⟩=false∧W.frozen? ⟨g,i*14+3,none⟩=false∧W.frozen? ⟨g,i*14+4,none⟩=false∧W.frozen? ⟨g,i*14+5,none⟩=false∧W.frozen? ⟨g,i*14+6,none⟩=false∧W.frozen? ⟨g,i*14+7,none⟩=false∧W.frozen? ⟨g,i*14+8,none⟩=false∧W.frozen? ⟨g,i*14+9,none⟩=false∧W.frozen? ⟨g,i*14+10,none⟩=false∧W.frozen? ⟨g,i*14+11,none⟩=false∧W.frozen? ⟨g,i*14+12,none⟩=false∧W.frozen? ⟨g,i*14+13,none⟩=false ∧
      cntN xs=cntN l[i].f2∧Kd.R k69 69 W base P (.slice A xs.length c) xs∧cntN ys=cntN l[i].f3∧Kd.R k69 69 W base P (.slice A2 ys.length c2) ys∧W.heap[g]?=some (.cells cl 42 (0,0)):=by
  obtain ⟨l',hR',hm⟩:=R_sim simK_entry HR HS;obtain ⟨hl,hs⟩:=sh_at hm e0E i hi;obtain ⟨c,hcl,hM,hc,hf⟩:=Kd.R_elem hR' e0E (i:Int) (by omega) (by omega);obtain ⟨_,_,rfl,rfl,_,_,rfl,rfl,_,_,rfl,⟨v,rfl,hRs⟩,_,_,rfl,⟨v2,rfl,hRs2⟩,_,_,rfl,rfl,_,_,rfl,rfl,_,_,rfl,rfl,_,_,rfl,⟨_,_,rfl,rfl,_,_,rfl,rfl,_,_,rfl,rfl,rfl⟩,_,_,rfl,rfl,_,_,rfl,rfl,rfl⟩:=hM;obtain ⟨A,cc,rfl⟩:=Kd.R_slice hRs;obtain ⟨A2,cc2,rfl⟩:=Kd.R_slice hRs2;obtain ⟨cl,hG⟩:=Kd.R_typed hR' g rfl;have e2:((l'.getD i e0E).f2.map shN)=l[i].f2.map shN:=congrArg (fun z=>z.2.2.1) hs;have e3:((l'.getD i e0E).f3.map shN)=l[i].f3.map shN:=congrArg (fun z=>z.2.2.2.1) hs;exact ⟨A,cc,_,A2,cc2,_,_,_,_,_,_,_,_,_,_,_,_,_,cl,hc 0 _ rfl,hc 1 _ rfl,hc 2 _ rfl,hc 3 _ rfl,hc 4 _ rfl,hc 5 _ rfl,hc 6 _ rfl,hc 7 _ rfl,hc 8 _ rfl,hc 9 _ rfl,hc 10 _ rfl,hc 11 _ rfl,hc 12 _ rfl,hc 13 _ rfl,hf 0,hf 1,hf 2,hf 3,hf 4,hf 5,hf 6,hf 7,hf 8,hf 9,hf 10,hf 11,hf 12,hf 13,shN_cnt _ _ e2,Kd.R_mono hRs (fun _ hk=>hk.1),shN_cnt _ _ e3,Kd.R_mono hRs2 (fun _ hk=>hk.1),hG⟩
set_option maxHeartbeats 8000000 in
set_option maxRecDepth 100000 in
theorem markE_w (base:Nat) (P:Nat→Prop) (u:Value) (l:List S42) (a1:Int) (w:World) (h0:0≤a1) (h1:a1+cntE l≤4611686018427387904) (ho:Kd.R k42 42 w base P u l) :
    Calls Tryz.prog 20 #[u,.int .i64 a1] w fun e w'=>e=.returned (.int .i64 (a1+cntE l))∧Sim P w w'∧Below base w w':=by
  have HL:=am (And.intro h0 h1);have HZ:=am (show (l.length:Int)≤4611686018427387904 from Int.le_trans (cntE_len l) (by omega));have HR:=am ho;have HS:=am (Sim.refl P w);have HB:=am (Below.refl base w)
  obtain ⟨kk,hkk⟩:∃ kk,kk=l.length+1:=⟨_,rfl⟩
  have HKK:=am hkk;obtain ⟨A,c,rfl⟩:=Kd.R_slice ho;have hu1:=Tryz.underlying42;have hu2:=Tryz.underlying40;clear ho hkk h0 h1;go_enter Tryz.func20,Tryz.ntmps20;go_wp2
  go_loopg [1,5] kk (fun kq v1 v5 w'=>∃ (i:Nat) (n:Int),v1=.int .i64 n∧v5=.int .i64 (i:Int)∧Aside0 (n=a1+cntE (l.take i))∧Aside0 (i≤l.length∧l.length-i<kq)∧Aside0 (kq≤kk)∧Aside0 (Sim P w w')∧Aside0 (Below base w w'))
  case atStart=>exact ⟨0,a1,rfl,(by first|rfl|simp),⟨by simp [cntE]⟩,⟨Nat.zero_le _,by have:=HKK.out;omega⟩,⟨Nat.le_refl _⟩,⟨by repeat (first|exact HS.out|apply Sim.drewN|apply Sim.drew|apply Sim.alloc)⟩,⟨by repeat (first|exact HB.out|apply pw_below_drewN|apply below_drew1|apply below_alloc)⟩⟩
  case round =>
    clear HS HB;obtain ⟨i,n,rfl,rfl,HN,HI,HK1,HS,HB⟩:=hrel
    cases gk with
    | zero=>exact absurd HI.out.2 (Nat.not_lt_zero _)
    | succ k1 =>
      by_cases ci:i<l.length
      · have c0:decide ((i:Int)<(l.length:Int))=true:=dt (by omega)
        have c1:decide ((0:Int)≤(i:Int))=true:=dt (by omega);have CI:=am ci;have HW2:=am (mk_i i (by have:=HZ.out;omega));have HQ:=am (show (0≤n∧n+elE l[i]≤4611686018427387904)∧n+elE l[i]=a1+cntE (l.take (i+1)) from cntE_at HN.out HL.out ci)
        obtain ⟨q0,hq0⟩:∃ q:Int,q=cntN l[i].f2:=⟨_,rfl⟩
        have Du:=am hq0
        obtain ⟨q1,hq1⟩:∃ q:Int,q=cntN l[i].f3:=⟨_,rfl⟩
        have IG:=am hq1;have HQN:=am (show 0≤n∧n+(q0+q1+12)≤4611686018427387904 from by have h_:=HQ.out.1;rw [show elE l[i]=q0+q1+12 from by rw [hq0,hq1];exact elE_eq _] at h_;exact h_);have HQP:=am (show 0≤q0∧0≤q1∧True from by rw [hq0,hq1];exact ⟨by first|exact Int.natCast_nonneg _|exact cntN_nonneg _,by first|exact Int.natCast_nonneg _|exact cntN_nonneg _,trivial⟩);clear hq0 hq1;obtain ⟨g,cap,eo,gb,gl,cl,HG⟩:=Kd.R_form HR.out (by omega)
        cases eo
        have GB:=am gb;have HBS:=am (show base≤w.heap.size by omega);have PG:=am (HR.out.1 g rfl);clear gb gl HG;have uN:=am (rfl:n=n)
        go_wp2_with (first
          | ((with_reducible refine gate_callee (f:=32) rfl ?_);refine goesL_ (some 15) rfl rfl Tryz.func32 (by kernel_rfl) rfl #[.int .i64 n] rfl (by (try simp only [List.map_toArray,List.map_cons,List.map_nil]);first|done|rfl) ?_;obtain ⟨kt0,aoR⟩:=(mt_ev n (by rw [uN.out];have bW:=HQN.out;have cD:=HQP.out;omega) (by rw [uN.out];have bW:=HQN.out;have cD:=HQP.out;omega));(refine (laws_markText.calls kt0 n (mt n) _ (aoR kt0 (Nat.le_refl _))).mono ?_);rintro e a2D ⟨rfl,hb⟩;refine ⟨_,rfl,?_⟩;clear aoR;have HS2:=am ((show Sim P w _ from by repeat (first|exact HS.out|apply Sim.drewN|apply Sim.drew|apply Sim.alloc)).below hb);have HB2:=am (Below.trans (show Below base w _ from by repeat (first|exact HB.out|apply pw_below_drewN|apply below_drew1|apply below_alloc)) (hb.mono (Nat.le_trans HBS.out (Below.size (show Below base w _ from by repeat (first|exact HB.out|apply pw_below_drewN|apply below_drew1|apply below_alloc))))));clear HS HB hb;have HS:=HS2;have HB:=HB2;clear HS2 HB2;obtain ⟨bH,bA,fE,aYg,aYh,aV1,aYi,aFs,aYj,aYk,aYl,aYm,aYn,aYo,aV2,aV3,aV4,aV5,cl0,cA,a1Y,eZ,fA,aAv,aAw,aAx,aAy,aAz,aAA,aoS,aoT,aoU,aoV,a1Z,a2A,a2B,a2C,aAB,aAC,aAD,aAE,aAF,aAG,aoW,aoX,aoY,aoZ,MQ,MR,aAH,aAI,hG0⟩:=rowE_at HR.out HS.out i CI.out;have ST0:=am (fun (u:Value) (hv:SimV _ u)=>Sim.store HS.out PG.out hG0 cA hv);clear a1Y eZ fA aAv aAw aAx aAy aAz aAA aoS aoT aoU aoV a2A a2B a2C aAB aAC aAD aAE aAF aAG aoW aoX aoY aoZ MQ MR aAH aAI hG0)
          | ((with_reducible refine gate_store (t:=9) (p:=17) rfl ?_);refine store_event (t:=9) (p:=17) (v:=?vo_w200) (w1:=(a2D.setCell ⟨g,i*14,none⟩ (.string (mt n)))) ?hg ?ho ?hn ?hr ?_;(case ho=>rfl);(case hg=>rfl);(case hn=>rfl);(case hr=>first|(go_simp;done)|(go_simp;rfl));intro pE hw;have HS2:=am (show Sim P w pE by rw [hw];exact ST0.out _ (sim_str _ _));have HB2:=am (show Below base w pE by rw [hw];exact HB.out.setCell GB.out _);clear HS HB ST0 hw;have HS:=HS2;have HB:=HB2;clear HS2 HB2;clear cA a1Z;have pD:=am (show (wrap64 (n+1))=(n+1) from by rw [uN.out];exact mk_w1 _ (by have bW:=HQN.out;have cD:=HQP.out;omega) (by have bW:=HQN.out;have cD:=HQP.out;omega));obtain ⟨rG,rH,aAt,aYp,aYq,aV6,aYr,aFt,aYs,aYt,aYu,aYv,aYw,aYx,aV7,aV8,aV9,aVa,cl1,rR,K2,Et,Eu,aAJ,aAK,aAL,aAM,aAN,aAO,apA,apB,apC,apD,a2E,a2F,a2G,a2H,aAP,aAQ,aAR,aAS,aAT,aAU,apE,apF,apG,apH,a2I,a2J,aAV,aAW,hG1⟩:=rowE_at HR.out HS.out i CI.out;have ST1:=am (fun (u:Value) (hv:SimV _ u)=>Sim.store HS.out PG.out hG1 K2 hv);clear rR Et Eu aAJ aAK aAL aAM aAN aAO apA apB apC apD a2E a2G a2H aAP aAQ aAR aAS aAT aAU apE apF apG apH a2I a2J aAV aAW hG1)
          | ((with_reducible refine gate_store (t:=3) (p:=24) rfl ?_);refine store_event (t:=3) (p:=24) (v:=?vo_w201) (w1:=(pE.setCell ⟨g,i*14+1,none⟩ (.int .i64 (wrap64 (n+1))))) ?hg ?ho ?hn ?hr ?_;(case ho=>rfl);(case hg=>rfl);(case hn=>rfl);(case hr=>first|(go_simp;done)|(go_simp;rfl));intro oM hw;have HS2:=am (show Sim P w oM by rw [hw];exact ST1.out _ (sim_int _ _ _));have HB2:=am (show Below base w oM by rw [hw];exact HB.out.setCell GB.out _);clear HS HB ST1 hw;have HS:=HS2;have HB:=HB2;clear HS2 HB2;clear K2 a2F;have lG:=am (show (wrap64 ((wrap64 (n+1))+1))=((n+1)+1) from by rw [pD.out];exact mk_w1 _ (by have bW:=HQN.out;have cD:=HQP.out;omega) (by have bW:=HQN.out;have cD:=HQP.out;omega));obtain ⟨aoN,aoO,cJ,aYy,aYz,aVb,aYA,aFu,aYB,aYC,aYD,aYE,aYF,aYG,aVc,aVd,aVe,aVf,cl2,a2K,a2L,MS,a2M,aAX,aAY,aAZ,aB0,aB1,aB2,apI,apJ,apK,apL,a2N,a2O,a2P,a2Q,aB3,aB4,aB5,aB6,aB7,aB8,apM,apN,apO,apP,MU,MV,aB9,aBa,hG2⟩:=rowE_at HR.out HS.out i CI.out;have HRS2:=am MV;have HLS2:=am (MU.trans Du.out.symm);clear MV MU;clear a2K a2L a2M aAX aAY aAZ aB0 aB1 aB2 apI apJ apK apL a2N a2O a2Q aB3 aB4 aB5 aB6 aB7 aB8 apM apN apO apP aB9 aBa hG2)
          | ((with_reducible refine gate_callee (f:=33) rfl ?_);refine goesL_ (some 33) rfl rfl Tryz.func33 (by kernel_rfl) rfl #[.slice aoN cJ.length aoO,.int .i64 (wrap64 ((wrap64 (n+1))+1))] rfl (by (try simp only [List.map_toArray,List.map_cons,List.map_nil]);first|done|rfl) ?_;(refine (markN_w base P _ cJ (wrap64 ((wrap64 (n+1))+1)) _ (by rw [lG.out];have bW:=HQN.out;have cD:=HQP.out;omega) (by rw [lG.out,HLS2.out];have bW:=HQN.out;have cD:=HQP.out;omega) (by (with_reducible repeat (first|apply Kd.R_alloc|apply Kd.R_drewN|apply Kd.R_drew));exact HRS2.out)).mono ?_);rintro e Ns ⟨rfl,hs,hb⟩;refine ⟨_,rfl,?_⟩;have HS2:=am ((show Sim P w _ from by repeat (first|exact HS.out|apply Sim.drewN|apply Sim.drew|apply Sim.alloc)).trans hs);have HB2:=am ((show Below base w _ from by repeat (first|exact HB.out|apply pw_below_drewN|apply below_drew1|apply below_alloc)).trans hb);clear HS HB hs hb;have HS:=HS2;have HB:=HB2;clear HS2 HB2;have oN:=am (show ((wrap64 ((wrap64 (n+1))+1))+cntN cJ)=(((n+1)+1)+q0) from by rw [lG.out,HLS2.out]);clear HRS2 MS a2P;obtain ⟨aFv,aFw,aAu,aFy,aFz,cS,aYH,aFx,aYI,aYJ,aYK,aYL,aYM,aYN,aVg,aVh,aVi,aVj,cl3,a2R,a2S,a2T,MW,aBb,aBc,aBd,aBe,aBf,aBg,apQ,apR,apS,apT,a2U,a2V,a2W,a2X,aBh,aBi,aBj,aBk,aBl,aBm,apU,apV,apW,apX,a2Y,a2Z,aeU,aeV,hG3⟩:=rowE_at HR.out HS.out i CI.out;have HRS3:=am aeV;have HLS3:=am (aeU.trans IG.out.symm);clear aeV aeU;clear a2R a2S a2T aBb aBc aBd aBe aBf aBg apQ apR apS apT a2U a2V a2W aBh aBi aBj aBk aBl aBm apU apV apW apX a2Y a2Z hG3)
          | ((with_reducible refine gate_callee (f:=33) rfl ?_);refine goesL_ (some 40) rfl rfl Tryz.func33 (by kernel_rfl) rfl #[.slice aFy cS.length aFz,.int .i64 ((wrap64 ((wrap64 (n+1))+1))+cntN cJ)] rfl (by (try simp only [List.map_toArray,List.map_cons,List.map_nil]);first|done|rfl) ?_;(refine (markN_w base P _ cS ((wrap64 ((wrap64 (n+1))+1))+cntN cJ) _ (by rw [oN.out];have bW:=HQN.out;have cD:=HQP.out;omega) (by rw [oN.out,HLS3.out];have bW:=HQN.out;have cD:=HQP.out;omega) (by (with_reducible repeat (first|apply Kd.R_alloc|apply Kd.R_drewN|apply Kd.R_drew));exact HRS3.out)).mono ?_);rintro e Nt ⟨rfl,hs,hb⟩;refine ⟨_,rfl,?_⟩;have HS2:=am ((show Sim P w _ from by repeat (first|exact HS.out|apply Sim.drewN|apply Sim.drew|apply Sim.alloc)).trans hs);have HB2:=am ((show Below base w _ from by repeat (first|exact HB.out|apply pw_below_drewN|apply below_drew1|apply below_alloc)).trans hb);clear HS HB hs hb;have HS:=HS2;have HB:=HB2;clear HS2 HB2;have xE:=am (show (((wrap64 ((wrap64 (n+1))+1))+cntN cJ)+cntN cS)=((((n+1)+1)+q0)+q1) from by rw [oN.out,HLS3.out]);clear HRS3 MW a2X)
          | ((with_reducible refine gate_callee (f:=32) rfl ?_);refine goesL_ (some 44) rfl rfl Tryz.func32 (by kernel_rfl) rfl #[.int .i64 (((wrap64 ((wrap64 (n+1))+1))+cntN cJ)+cntN cS)] rfl (by (try simp only [List.map_toArray,List.map_cons,List.map_nil]);first|done|rfl) ?_;obtain ⟨kt4,apY⟩:=(mt_ev (((wrap64 ((wrap64 (n+1))+1))+cntN cJ)+cntN cS) (by rw [xE.out];have bW:=HQN.out;have cD:=HQP.out;omega) (by rw [xE.out];have bW:=HQN.out;have cD:=HQP.out;omega));(refine (laws_markText.calls kt4 (((wrap64 ((wrap64 (n+1))+1))+cntN cJ)+cntN cS) (mt (((wrap64 ((wrap64 (n+1))+1))+cntN cJ)+cntN cS)) _ (apY kt4 (Nat.le_refl _))).mono ?_);rintro e Nu ⟨rfl,hb⟩;refine ⟨_,rfl,?_⟩;clear apY;have HS2:=am ((show Sim P w _ from by repeat (first|exact HS.out|apply Sim.drewN|apply Sim.drew|apply Sim.alloc)).below hb);have HB2:=am (Below.trans (show Below base w _ from by repeat (first|exact HB.out|apply pw_below_drewN|apply below_drew1|apply below_alloc)) (hb.mono (Nat.le_trans HBS.out (Below.size (show Below base w _ from by repeat (first|exact HB.out|apply pw_below_drewN|apply below_drew1|apply below_alloc))))));clear HS HB hb;have HS:=HS2;have HB:=HB2;clear HS2 HB2;obtain ⟨aYO,aYP,aVk,aYQ,aYR,aVl,aYS,aYT,aYU,aYV,aYW,aYX,aYY,aYZ,aVm,aVn,aVo,aVp,cl4,aBn,aBo,aBp,aBq,aeW,aBr,aBs,aBt,aBu,aBv,apZ,aqA,aqB,aqC,aBw,aBx,aBy,aBz,aBA,aBB,aBC,aBD,aBE,aBF,aqD,aqE,aqF,aqG,aBG,aBH,aBI,aBJ,hG4⟩:=rowE_at HR.out HS.out i CI.out;have ST4:=am (fun (u:Value) (hv:SimV _ u)=>Sim.store HS.out PG.out hG4 aeW hv);clear aBn aBo aBp aBq aBr aBs aBt aBu aBv apZ aqA aqB aqC aBw aBx aBy aBz aBB aBC aBD aBE aBF aqD aqE aqF aqG aBG aBH aBI aBJ hG4)
          | ((with_reducible refine gate_store (t:=9) (p:=46) rfl ?_);refine store_event (t:=9) (p:=46) (v:=?vo_w204) (w1:=(Nu.setCell ⟨g,i*14+4,none⟩ (.string (mt (((wrap64 ((wrap64 (n+1))+1))+cntN cJ)+cntN cS))))) ?hg ?ho ?hn ?hr ?_;(case ho=>rfl);(case hg=>rfl);(case hn=>rfl);(case hr=>first|(go_simp;done)|(go_simp;rfl));intro IT hw;have HS2:=am (show Sim P w IT by rw [hw];exact ST4.out _ (sim_str _ _));have HB2:=am (show Below base w IT by rw [hw];exact HB.out.setCell GB.out _);clear HS HB ST4 hw;have HS:=HS2;have HB:=HB2;clear HS2 HB2;clear aeW aBA;have Dv:=am (show (wrap64 ((((wrap64 ((wrap64 (n+1))+1))+cntN cJ)+cntN cS)+1))=(((((n+1)+1)+q0)+q1)+1) from by rw [xE.out];exact mk_w1 _ (by have bW:=HQN.out;have cD:=HQP.out;omega) (by have bW:=HQN.out;have cD:=HQP.out;omega)))
          | ((with_reducible refine gate_callee (f:=32) rfl ?_);refine goesL_ (some 52) rfl rfl Tryz.func32 (by kernel_rfl) rfl #[.int .i64 (wrap64 ((((wrap64 ((wrap64 (n+1))+1))+cntN cJ)+cntN cS)+1))] rfl (by (try simp only [List.map_toArray,List.map_cons,List.map_nil]);first|done|rfl) ?_;obtain ⟨kt5,aqH⟩:=(mt_ev (wrap64 ((((wrap64 ((wrap64 (n+1))+1))+cntN cJ)+cntN cS)+1)) (by rw [Dv.out];have bW:=HQN.out;have cD:=HQP.out;omega) (by rw [Dv.out];have bW:=HQN.out;have cD:=HQP.out;omega));(refine (laws_markText.calls kt5 (wrap64 ((((wrap64 ((wrap64 (n+1))+1))+cntN cJ)+cntN cS)+1)) (mt (wrap64 ((((wrap64 ((wrap64 (n+1))+1))+cntN cJ)+cntN cS)+1))) _ (aqH kt5 (Nat.le_refl _))).mono ?_);rintro e a7T ⟨rfl,hb⟩;refine ⟨_,rfl,?_⟩;clear aqH;have HS2:=am ((show Sim P w _ from by repeat (first|exact HS.out|apply Sim.drewN|apply Sim.drew|apply Sim.alloc)).below hb);have HB2:=am (Below.trans (show Below base w _ from by repeat (first|exact HB.out|apply pw_below_drewN|apply below_drew1|apply below_alloc)) (hb.mono (Nat.le_trans HBS.out (Below.size (show Below base w _ from by repeat (first|exact HB.out|apply pw_below_drewN|apply below_drew1|apply below_alloc))))));clear HS HB hb;have HS:=HS2;have HB:=HB2;clear HS2 HB2;obtain ⟨aZ0,aZ1,aVq,aZ2,aZ3,aVr,aZ4,aZ5,aZ6,aZ7,aZ8,aZ9,aZa,aZb,aVs,aVt,aVu,aVv,cl5,aBK,aBL,aBM,aBN,aBO,aeX,aBP,aBQ,aBR,aBS,aqI,aqJ,aqK,aqL,aBT,aBU,aBV,aBW,aBX,aBY,aBZ,aC0,aC1,aC2,aqM,aqN,aqO,aqP,aC3,aC4,aC5,aC6,hG5⟩:=rowE_at HR.out HS.out i CI.out;have ST5:=am (fun (u:Value) (hv:SimV _ u)=>Sim.store HS.out PG.out hG5 aeX hv);clear aBK aBL aBM aBN aBO aBP aBQ aBR aBS aqI aqJ aqK aqL aBT aBU aBV aBW aBX aBZ aC0 aC1 aC2 aqM aqN aqO aqP aC3 aC4 aC5 aC6 hG5)
          | ((with_reducible refine gate_store (t:=9) (p:=54) rfl ?_);refine store_event (t:=9) (p:=54) (v:=?vo_w205) (w1:=(a7T.setCell ⟨g,i*14+5,none⟩ (.string (mt (wrap64 ((((wrap64 ((wrap64 (n+1))+1))+cntN cJ)+cntN cS)+1)))))) ?hg ?ho ?hn ?hr ?_;(case ho=>rfl);(case hg=>rfl);(case hn=>rfl);(case hr=>first|(go_simp;done)|(go_simp;rfl));intro IU hw;have HS2:=am (show Sim P w IU by rw [hw];exact ST5.out _ (sim_str _ _));have HB2:=am (show Below base w IU by rw [hw];exact HB.out.setCell GB.out _);clear HS HB ST5 hw;have HS:=HS2;have HB:=HB2;clear HS2 HB2;clear aeX aBY;have Dw:=am (show (wrap64 ((wrap64 ((((wrap64 ((wrap64 (n+1))+1))+cntN cJ)+cntN cS)+1))+1))=((((((n+1)+1)+q0)+q1)+1)+1) from by rw [Dv.out];exact mk_w1 _ (by have bW:=HQN.out;have cD:=HQP.out;omega) (by have bW:=HQN.out;have cD:=HQP.out;omega)))
          | ((with_reducible refine gate_callee (f:=32) rfl ?_);refine goesL_ (some 60) rfl rfl Tryz.func32 (by kernel_rfl) rfl #[.int .i64 (wrap64 ((wrap64 ((((wrap64 ((wrap64 (n+1))+1))+cntN cJ)+cntN cS)+1))+1))] rfl (by (try simp only [List.map_toArray,List.map_cons,List.map_nil]);first|done|rfl) ?_;obtain ⟨kt6,aqQ⟩:=(mt_ev (wrap64 ((wrap64 ((((wrap64 ((wrap64 (n+1))+1))+cntN cJ)+cntN cS)+1))+1)) (by rw [Dw.out];have bW:=HQN.out;have cD:=HQP.out;omega) (by rw [Dw.out];have bW:=HQN.out;have cD:=HQP.out;omega));(refine (laws_markText.calls kt6 (wrap64 ((wrap64 ((((wrap64 ((wrap64 (n+1))+1))+cntN cJ)+cntN cS)+1))+1)) (mt (wrap64 ((wrap64 ((((wrap64 ((wrap64 (n+1))+1))+cntN cJ)+cntN cS)+1))+1))) _ (aqQ kt6 (Nat.le_refl _))).mono ?_);rintro e a7U ⟨rfl,hb⟩;refine ⟨_,rfl,?_⟩;clear aqQ;have HS2:=am ((show Sim P w _ from by repeat (first|exact HS.out|apply Sim.drewN|apply Sim.drew|apply Sim.alloc)).below hb);have HB2:=am (Below.trans (show Below base w _ from by repeat (first|exact HB.out|apply pw_below_drewN|apply below_drew1|apply below_alloc)) (hb.mono (Nat.le_trans HBS.out (Below.size (show Below base w _ from by repeat (first|exact HB.out|apply pw_below_drewN|apply below_drew1|apply below_alloc))))));clear HS HB hb;have HS:=HS2;have HB:=HB2;clear HS2 HB2;obtain ⟨aZc,aZd,aVw,aZe,aZf,aVx,aZg,aZh,aZi,aZj,aZk,aZl,aZm,aZn,aVy,aVz,aVA,aVB,cl6,aC7,aC8,aC9,aCa,aCb,aCc,aeY,aCd,aCe,aCf,aqR,aqS,aqT,aqU,aeT,aCg,aCh,aCi,aCj,aCk,aCl,aCm,aCn,aCo,aqV,aqW,aqX,aqY,aCp,aCq,aCr,aCs,hG6⟩:=rowE_at HR.out HS.out i CI.out;have ST6:=am (fun (u:Value) (hv:SimV _ u)=>Sim.store HS.out PG.out hG6 aeY hv);clear aC7 aC8 aC9 aCa aCb aCc aCd aCe aCf aqR aqS aqT aqU aeT aCg aCh aCi aCj aCk aCm aCn aCo aqV aqW aqX aqY aCp aCq aCr aCs hG6)
          | ((with_reducible refine gate_store (t:=9) (p:=62) rfl ?_);refine store_event (t:=9) (p:=62) (v:=?vo_w206) (w1:=(a7U.setCell ⟨g,i*14+6,none⟩ (.string (mt (wrap64 ((wrap64 ((((wrap64 ((wrap64 (n+1))+1))+cntN cJ)+cntN cS)+1))+1)))))) ?hg ?ho ?hn ?hr ?_;(case ho=>rfl);(case hg=>rfl);(case hn=>rfl);(case hr=>first|(go_simp;done)|(go_simp;rfl));intro Bw hw;have HS2:=am (show Sim P w Bw by rw [hw];exact ST6.out _ (sim_str _ _));have HB2:=am (show Below base w Bw by rw [hw];exact HB.out.setCell GB.out _);clear HS HB ST6 hw;have HS:=HS2;have HB:=HB2;clear HS2 HB2;clear aeY aCl;have a3A:=am (show (wrap64 ((wrap64 ((wrap64 ((((wrap64 ((wrap64 (n+1))+1))+cntN cJ)+cntN cS)+1))+1))+1))=(((((((n+1)+1)+q0)+q1)+1)+1)+1) from by rw [Dw.out];exact mk_w1 _ (by have bW:=HQN.out;have cD:=HQP.out;omega) (by have bW:=HQN.out;have cD:=HQP.out;omega));obtain ⟨aZo,aZp,aVC,aZq,aZr,aVD,aZs,aZt,aZu,aZv,aZw,aZx,aZy,aZz,aVE,aVF,aVG,aVH,cl7,aCt,aCu,aCv,aCw,aCx,aCy,aCz,aeZ,aCA,aCB,aqZ,arA,arB,arC,aCC,aCD,aCE,aCF,aCG,aCH,aCI,aCJ,aCK,aCL,arD,arE,arF,arG,aCM,aCN,aCO,aCP,hG7⟩:=rowE_at HR.out HS.out i CI.out;have ST7:=am (fun (u:Value) (hv:SimV _ u)=>Sim.store HS.out PG.out hG7 aeZ hv);clear aCt aCu aCv aCw aCx aCy aCz aCA aCB aqZ arA arB arC aCC aCD aCE aCF aCG aCH aCI aCK aCL arD arE arF arG aCM aCN aCO aCP hG7)
          | ((with_reducible refine gate_store (t:=3) (p:=70) rfl ?_);refine store_event (t:=3) (p:=70) (v:=?vo_w207) (w1:=(Bw.setCell ⟨g,i*14+7,none⟩ (.int .i64 (wrap64 ((wrap64 ((wrap64 ((((wrap64 ((wrap64 (n+1))+1))+cntN cJ)+cntN cS)+1))+1))+1))))) ?hg ?ho ?hn ?hr ?_;(case ho=>rfl);(case hg=>rfl);(case hn=>rfl);(case hr=>first|(go_simp;done)|(go_simp;rfl));intro Bz hw;have HS2:=am (show Sim P w Bz by rw [hw];exact ST7.out _ (sim_int _ _ _));have HB2:=am (show Below base w Bz by rw [hw];exact HB.out.setCell GB.out _);clear HS HB ST7 hw;have HS:=HS2;have HB:=HB2;clear HS2 HB2;clear aeZ aCJ;have a3B:=am (show (wrap64 ((wrap64 ((wrap64 ((wrap64 ((((wrap64 ((wrap64 (n+1))+1))+cntN cJ)+cntN cS)+1))+1))+1))+1))=((((((((n+1)+1)+q0)+q1)+1)+1)+1)+1) from by rw [a3A.out];exact mk_w1 _ (by have bW:=HQN.out;have cD:=HQP.out;omega) (by have bW:=HQN.out;have cD:=HQP.out;omega));obtain ⟨aZA,aZB,aVI,aZC,aZD,aVJ,aZE,aZF,aZG,aZH,aZI,aZJ,aZK,aZL,aVK,aVL,aVM,aVN,cl8,aCQ,aCR,aCS,aCT,aCU,aCV,aCW,aCX,afA,aCY,arH,arI,arJ,arK,aCZ,aD0,aD1,aD2,aD3,aD4,aD5,aD6,aD7,aD8,arL,arM,arN,arO,aD9,aDa,aDb,aDc,hG8⟩:=rowE_at HR.out HS.out i CI.out;have ST8:=am (fun (u:Value) (hv:SimV _ u)=>Sim.store HS.out PG.out hG8 afA hv);clear aCQ aCR aCS aCT aCU aCV aCW aCX aCY arH arI arJ arK aCZ aD0 aD1 aD2 aD3 aD4 aD5 aD6 aD8 arL arM arN arO aD9 aDa aDb aDc hG8)
          | ((with_reducible refine gate_store (t:=3) (p:=78) rfl ?_);refine store_event (t:=3) (p:=78) (v:=?vo_w208) (w1:=(Bz.setCell ⟨g,i*14+8,none⟩ (.int .i64 (wrap64 ((wrap64 ((wrap64 ((wrap64 ((((wrap64 ((wrap64 (n+1))+1))+cntN cJ)+cntN cS)+1))+1))+1))+1))))) ?hg ?ho ?hn ?hr ?_;(case ho=>rfl);(case hg=>rfl);(case hn=>rfl);(case hr=>first|(go_simp;done)|(go_simp;rfl));intro BA hw;have HS2:=am (show Sim P w BA by rw [hw];exact ST8.out _ (sim_int _ _ _));have HB2:=am (show Below base w BA by rw [hw];exact HB.out.setCell GB.out _);clear HS HB ST8 hw;have HS:=HS2;have HB:=HB2;clear HS2 HB2;clear afA aD7;have a3C:=am (show (wrap64 ((wrap64 ((wrap64 ((wrap64 ((wrap64 ((((wrap64 ((wrap64 (n+1))+1))+cntN cJ)+cntN cS)+1))+1))+1))+1))+1))=(((((((((n+1)+1)+q0)+q1)+1)+1)+1)+1)+1) from by rw [a3B.out];exact mk_w1 _ (by have bW:=HQN.out;have cD:=HQP.out;omega) (by have bW:=HQN.out;have cD:=HQP.out;omega));obtain ⟨aZM,aZN,aVO,aZO,aZP,aVP,aZQ,aZR,aZS,aZT,aZU,aZV,aZW,aZX,aVQ,aVR,aVS,aVT,cl9,aDd,aDe,aDf,aDg,aDh,aDi,aDj,aDk,aDl,afB,arP,arQ,arR,arS,afC,aDm,aDn,aDo,aDp,aDq,aDr,aDs,aDt,aDu,arT,arU,arV,arW,aDv,aDw,aDx,aDy,hG9⟩:=rowE_at HR.out HS.out i CI.out;have ST9:=am (fun (u:Value) (hv:SimV _ u)=>Sim.store HS.out PG.out hG9 afB hv);clear aDd aDe aDf aDg aDh aDi aDj aDk aDl arP arQ arR arS afC aDm aDn aDo aDp aDq aDr aDs aDt arT arU arV arW aDv aDw aDx aDy hG9)
          | ((with_reducible refine gate_store (t:=3) (p:=86) rfl ?_);refine store_event (t:=3) (p:=86) (v:=?vo_w209) (w1:=(BA.setCell ⟨g,i*14+9,none⟩ (.int .i64 (wrap64 ((wrap64 ((wrap64 ((wrap64 ((wrap64 ((((wrap64 ((wrap64 (n+1))+1))+cntN cJ)+cntN cS)+1))+1))+1))+1))+1))))) ?hg ?ho ?hn ?hr ?_;(case ho=>rfl);(case hg=>rfl);(case hn=>rfl);(case hr=>first|(go_simp;done)|(go_simp;rfl));intro BB hw;have HS2:=am (show Sim P w BB by rw [hw];exact ST9.out _ (sim_int _ _ _));have HB2:=am (show Below base w BB by rw [hw];exact HB.out.setCell GB.out _);clear HS HB ST9 hw;have HS:=HS2;have HB:=HB2;clear HS2 HB2;clear afB aDu;have MX:=am (show (wrap64 ((wrap64 ((wrap64 ((wrap64 ((wrap64 ((wrap64 ((((wrap64 ((wrap64 (n+1))+1))+cntN cJ)+cntN cS)+1))+1))+1))+1))+1))+1))=((((((((((n+1)+1)+q0)+q1)+1)+1)+1)+1)+1)+1) from by rw [a3C.out];exact mk_w1 _ (by have bW:=HQN.out;have cD:=HQP.out;omega) (by have bW:=HQN.out;have cD:=HQP.out;omega));obtain ⟨aVU,aVV,aSR,aVW,aVX,aSS,aVY,aVZ,aW0,aW1,aW2,aW3,aW4,aW5,aST,aSU,aSV,aSW,cl10,arX,arY,arZ,asA,asB,asC,asD,asE,asF,asG,Sm,agW,agX,agY,Nv,Nw,Nx,Ny,a4X,a4Y,a4Z,a5A,a5B,a5C,Sn,Sp,Sq,Sr,asH,asI,asJ,asK,hG10⟩:=rowE_at HR.out HS.out i CI.out;have ST10:=am (fun (u:Value) (hv:SimV _ u)=>Sim.store HS.out PG.out hG10 Sm hv);clear arX arY arZ asA asB asC asD asE asF asG agW agX agY Nv Nw Nx Ny a4X a4Y a4Z a5A a5B a5C Sp Sq Sr asH asI asJ asK hG10)
          | ((with_reducible refine gate_store (t:=4) (p:=96) rfl ?_);refine store_event (t:=4) (p:=96) (v:=?vo_w210) (w1:=(BB.setCell ⟨g,i*14+10,none⟩ (.bool (Int.tmod (wrap64 ((wrap64 ((wrap64 ((wrap64 ((wrap64 ((wrap64 ((((wrap64 ((wrap64 (n+1))+1))+cntN cJ)+cntN cS)+1))+1))+1))+1))+1))+1)) 3 == 0)))) ?hg ?ho ?hn ?hr ?_;(case ho=>rfl);(case hg=>rfl);(case hn=>rfl);(case hr=>first|(go_simp;done)|(go_simp;rfl));intro BC hw;have HS2:=am (show Sim P w BC by rw [hw];exact ST10.out _ (sim_bool _ _));have HB2:=am (show Below base w BC by rw [hw];exact HB.out.setCell GB.out _);clear HS HB ST10 hw;have HS:=HS2;have HB:=HB2;clear HS2 HB2;clear Sm Sn;have MY:=am (show (wrap64 ((wrap64 ((wrap64 ((wrap64 ((wrap64 ((wrap64 ((wrap64 ((((wrap64 ((wrap64 (n+1))+1))+cntN cJ)+cntN cS)+1))+1))+1))+1))+1))+1))+1))=(((((((((((n+1)+1)+q0)+q1)+1)+1)+1)+1)+1)+1)+1) from by rw [MX.out];exact mk_w1 _ (by have bW:=HQN.out;have cD:=HQP.out;omega) (by have bW:=HQN.out;have cD:=HQP.out;omega));obtain ⟨aW6,aW7,aSX,aW8,aW9,aSY,aWa,aWb,aWc,aWd,aWe,aWf,aWg,aWh,aSZ,aT0,aT1,aT2,cl11,asL,asM,asN,asO,asP,asQ,asR,asS,asT,asU,agZ,Ss,ahA,ahB,asV,asW,asX,asY,asZ,atA,atB,atC,atD,atE,ahC,ahD,ahE,ahF,atF,atG,atH,atI,hG11⟩:=rowE_at HR.out HS.out i CI.out;have ST11:=am (fun (u:Value) (hv:SimV _ u)=>Sim.store HS.out PG.out hG11 Ss hv);clear asL asM asN asO asP asQ asR asS asT asU agZ ahA ahB asV asW asX asY asZ atA atB atC atD atE ahC ahE ahF atF atG atH atI hG11)
          | ((with_reducible refine gate_store (t:=3) (p:=103) rfl ?_);refine store_event (t:=3) (p:=103) (v:=?vo_w211) (w1:=(BC.setCell ⟨g,i*14+11,none⟩ (.int .i64 (wrap64 ((wrap64 ((wrap64 ((wrap64 ((wrap64 ((wrap64 ((wrap64 ((((wrap64 ((wrap64 (n+1))+1))+cntN cJ)+cntN cS)+1))+1))+1))+1))+1))+1))+1))))) ?hg ?ho ?hn ?hr ?_;(case ho=>rfl);(case hg=>rfl);(case hn=>rfl);(case hr=>first|(go_simp;done)|(go_simp;rfl));intro IV hw;have HS2:=am (show Sim P w IV by rw [hw];exact ST11.out _ (sim_int _ _ _));have HB2:=am (show Below base w IV by rw [hw];exact HB.out.setCell GB.out _);clear HS HB ST11 hw;have HS:=HS2;have HB:=HB2;clear HS2 HB2;clear Ss ahD;have wS:=am (show (wrap64 ((wrap64 ((wrap64 ((wrap64 ((wrap64 ((wrap64 ((wrap64 ((wrap64 ((((wrap64 ((wrap64 (n+1))+1))+cntN cJ)+cntN cS)+1))+1))+1))+1))+1))+1))+1))+1))=((((((((((((n+1)+1)+q0)+q1)+1)+1)+1)+1)+1)+1)+1)+1) from by rw [MY.out];exact mk_w1 _ (by have bW:=HQN.out;have cD:=HQP.out;omega) (by have bW:=HQN.out;have cD:=HQP.out;omega)))
          | ((with_reducible refine gate_callee (f:=32) rfl ?_);refine goesL_ (some 109) rfl rfl Tryz.func32 (by kernel_rfl) rfl #[.int .i64 (wrap64 ((wrap64 ((wrap64 ((wrap64 ((wrap64 ((wrap64 ((wrap64 ((wrap64 ((((wrap64 ((wrap64 (n+1))+1))+cntN cJ)+cntN cS)+1))+1))+1))+1))+1))+1))+1))+1))] rfl (by (try simp only [List.map_toArray,List.map_cons,List.map_nil]);first|done|rfl) ?_;obtain ⟨kt12,afD⟩:=(mt_ev (wrap64 ((wrap64 ((wrap64 ((wrap64 ((wrap64 ((wrap64 ((wrap64 ((wrap64 ((((wrap64 ((wrap64 (n+1))+1))+cntN cJ)+cntN cS)+1))+1))+1))+1))+1))+1))+1))+1)) (by rw [wS.out];have bW:=HQN.out;have cD:=HQP.out;omega) (by rw [wS.out];have bW:=HQN.out;have cD:=HQP.out;omega));(refine (laws_markText.calls kt12 (wrap64 ((wrap64 ((wrap64 ((wrap64 ((wrap64 ((wrap64 ((wrap64 ((wrap64 ((((wrap64 ((wrap64 (n+1))+1))+cntN cJ)+cntN cS)+1))+1))+1))+1))+1))+1))+1))+1)) (mt (wrap64 ((wrap64 ((wrap64 ((wrap64 ((wrap64 ((wrap64 ((wrap64 ((wrap64 ((((wrap64 ((wrap64 (n+1))+1))+cntN cJ)+cntN cS)+1))+1))+1))+1))+1))+1))+1))+1))) _ (afD kt12 (Nat.le_refl _))).mono ?_);rintro e a7V ⟨rfl,hb⟩;refine ⟨_,rfl,?_⟩;clear afD;have HS2:=am ((show Sim P w _ from by repeat (first|exact HS.out|apply Sim.drewN|apply Sim.drew|apply Sim.alloc)).below hb);have HB2:=am (Below.trans (show Below base w _ from by repeat (first|exact HB.out|apply pw_below_drewN|apply below_drew1|apply below_alloc)) (hb.mono (Nat.le_trans HBS.out (Below.size (show Below base w _ from by repeat (first|exact HB.out|apply pw_below_drewN|apply below_drew1|apply below_alloc))))));clear HS HB hb;have HS:=HS2;have HB:=HB2;clear HS2 HB2;obtain ⟨aWi,aWj,aT3,aWk,aWl,aT4,aWm,aWn,aWo,aWp,aWq,aWr,aWs,aWt,aT5,aT6,aT7,aT8,cl12,atJ,atK,atL,atM,atN,atO,atP,atQ,atS,atT,ahG,ahH,Su,ahI,Dx,Dy,Dz,DC,Nz,NA,NB,NC,ND,NE,KO,KP,KQ,KR,atU,atV,atW,atX,hG12⟩:=rowE_at HR.out HS.out i CI.out;have ST12:=am (fun (u:Value) (hv:SimV _ u)=>Sim.store HS.out PG.out hG12 Su hv);clear atJ atK atL atM atN atO atP atQ atS atT ahG ahH ahI Dx Dy Dz DC Nz NA NB NC ND NE KO KP KR atU atV atW atX hG12)
          | ((with_reducible refine gate_store (t:=9) (p:=111) rfl ?_);refine store_event (t:=9) (p:=111) (v:=?vo_w212) (w1:=(a7V.setCell ⟨g,i*14+12,none⟩ (.string (mt (wrap64 ((wrap64 ((wrap64 ((wrap64 ((wrap64 ((wrap64 ((wrap64 ((wrap64 ((((wrap64 ((wrap64 (n+1))+1))+cntN cJ)+cntN cS)+1))+1))+1))+1))+1))+1))+1))+1)))))) ?hg ?ho ?hn ?hr ?_;(case ho=>rfl);(case hg=>rfl);(case hn=>rfl);(case hr=>first|(go_simp;done)|(go_simp;rfl));intro IW hw;have HS2:=am (show Sim P w IW by rw [hw];exact ST12.out _ (sim_str _ _));have HB2:=am (show Below base w IW by rw [hw];exact HB.out.setCell GB.out _);clear HS HB ST12 hw;have HS:=HS2;have HB:=HB2;clear HS2 HB2;clear Su KQ;have wT:=am (show (wrap64 ((wrap64 ((wrap64 ((wrap64 ((wrap64 ((wrap64 ((wrap64 ((wrap64 ((wrap64 ((((wrap64 ((wrap64 (n+1))+1))+cntN cJ)+cntN cS)+1))+1))+1))+1))+1))+1))+1))+1))+1))=(((((((((((((n+1)+1)+q0)+q1)+1)+1)+1)+1)+1)+1)+1)+1)+1) from by rw [wS.out];exact mk_w1 _ (by have bW:=HQN.out;have cD:=HQP.out;omega) (by have bW:=HQN.out;have cD:=HQP.out;omega)))
          | ((with_reducible refine gate_callee (f:=32) rfl ?_);refine goesL_ (some 117) rfl rfl Tryz.func32 (by kernel_rfl) rfl #[.int .i64 (wrap64 ((wrap64 ((wrap64 ((wrap64 ((wrap64 ((wrap64 ((wrap64 ((wrap64 ((wrap64 ((((wrap64 ((wrap64 (n+1))+1))+cntN cJ)+cntN cS)+1))+1))+1))+1))+1))+1))+1))+1))+1))] rfl (by (try simp only [List.map_toArray,List.map_cons,List.map_nil]);first|done|rfl) ?_;obtain ⟨kt13,afE⟩:=(mt_ev (wrap64 ((wrap64 ((wrap64 ((wrap64 ((wrap64 ((wrap64 ((wrap64 ((wrap64 ((wrap64 ((((wrap64 ((wrap64 (n+1))+1))+cntN cJ)+cntN cS)+1))+1))+1))+1))+1))+1))+1))+1))+1)) (by rw [wT.out];have bW:=HQN.out;have cD:=HQP.out;omega) (by rw [wT.out];have bW:=HQN.out;have cD:=HQP.out;omega));(refine (laws_markText.calls kt13 (wrap64 ((wrap64 ((wrap64 ((wrap64 ((wrap64 ((wrap64 ((wrap64 ((wrap64 ((wrap64 ((((wrap64 ((wrap64 (n+1))+1))+cntN cJ)+cntN cS)+1))+1))+1))+1))+1))+1))+1))+1))+1)) (mt (wrap64 ((wrap64 ((wrap64 ((wrap64 ((wrap64 ((wrap64 ((wrap64 ((wrap64 ((wrap64 ((((wrap64 ((wrap64 (n+1))+1))+cntN cJ)+cntN cS)+1))+1))+1))+1))+1))+1))+1))+1))+1))) _ (afE kt13 (Nat.le_refl _))).mono ?_);rintro e a7W ⟨rfl,hb⟩;refine ⟨_,rfl,?_⟩;clear afE;have HS2:=am ((show Sim P w _ from by repeat (first|exact HS.out|apply Sim.drewN|apply Sim.drew|apply Sim.alloc)).below hb);have HB2:=am (Below.trans (show Below base w _ from by repeat (first|exact HB.out|apply pw_below_drewN|apply below_drew1|apply below_alloc)) (hb.mono (Nat.le_trans HBS.out (Below.size (show Below base w _ from by repeat (first|exact HB.out|apply pw_below_drewN|apply below_drew1|apply below_alloc))))));clear HS HB hb;have HS:=HS2;have HB:=HB2;clear HS2 HB2;obtain ⟨aWu,aWv,aT9,aWw,aWx,aTa,aWy,aWz,aWA,aWB,aWC,aWD,aWE,aWF,aTb,aTc,aTd,aTe,cl13,atY,atZ,auA,auB,auC,auD,auE,auF,auG,auH,ahJ,ahK,ahL,Sv,auI,auJ,auK,auL,auM,auN,auO,auP,auQ,auR,ahM,ahN,ahO,ahP,auS,auT,auU,auV,hG13⟩:=rowE_at HR.out HS.out i CI.out;have ST13:=am (fun (u:Value) (hv:SimV _ u)=>Sim.store HS.out PG.out hG13 Sv hv);clear atY atZ auA auB auC auD auE auF auG auH ahJ ahK ahL auI auJ auK auL auM auN auO auP auQ auR ahM ahN ahO auS auT auU auV hG13)
          | ((with_reducible refine gate_store (t:=9) (p:=119) rfl ?_);refine store_event (t:=9) (p:=119) (v:=?vo_w213) (w1:=(a7W.setCell ⟨g,i*14+13,none⟩ (.string (mt (wrap64 ((wrap64 ((wrap64 ((wrap64 ((wrap64 ((wrap64 ((wrap64 ((wrap64 ((wrap64 ((((wrap64 ((wrap64 (n+1))+1))+cntN cJ)+cntN cS)+1))+1))+1))+1))+1))+1))+1))+1))+1)))))) ?hg ?ho ?hn ?hr ?_;(case ho=>rfl);(case hg=>rfl);(case hn=>rfl);(case hr=>first|(go_simp;done)|(go_simp;rfl));intro IX hw;have HS2:=am (show Sim P w IX by rw [hw];exact ST13.out _ (sim_str _ _));have HB2:=am (show Below base w IX by rw [hw];exact HB.out.setCell GB.out _);clear HS HB ST13 hw;have HS:=HS2;have HB:=HB2;clear HS2 HB2;clear Sv ahP;have a3D:=am (show (wrap64 ((wrap64 ((wrap64 ((wrap64 ((wrap64 ((wrap64 ((wrap64 ((wrap64 ((wrap64 ((wrap64 ((((wrap64 ((wrap64 (n+1))+1))+cntN cJ)+cntN cS)+1))+1))+1))+1))+1))+1))+1))+1))+1))+1))=((((((((((((((n+1)+1)+q0)+q1)+1)+1)+1)+1)+1)+1)+1)+1)+1)+1) from by rw [wT.out];exact mk_w1 _ (by have bW:=HQN.out;have cD:=HQP.out;omega) (by have bW:=HQN.out;have cD:=HQP.out;omega))))
        go_roundg k1
        case rel=>exact ⟨i+1,(wrap64 ((wrap64 ((wrap64 ((wrap64 ((wrap64 ((wrap64 ((wrap64 ((wrap64 ((wrap64 ((wrap64 ((((wrap64 ((wrap64 (n+1))+1))+cntN cJ)+cntN cS)+1))+1))+1))+1))+1))+1))+1))+1))+1))+1)),(by (try simp only [i64_w])),(by (try simp only [i64_w]);rw [HW2.out]),⟨by rw [a3D.out];have h_:=HQ.out.2;rw [show elE l[i]=q0+q1+12 from by rw [Du.out,IG.out];exact elE_eq _] at h_;rw [← h_];omega⟩,⟨by have:=HI.out;have:=CI.out;omega⟩,⟨by have:=HK1.out;omega⟩,⟨by repeat (first|exact HS.out|apply Sim.drewN|apply Sim.drew|apply Sim.alloc)⟩,⟨by repeat (first|exact HB.out|apply pw_below_drewN|apply below_drew1|apply below_alloc)⟩⟩
        case measure=>have:=HK1.out;omega
      · have c0:decide ((i:Int)<(l.length:Int))=false:=df (by omega)
        have HE:=am (show n=a1+cntE l from by rw [HN.out,List.take_of_length_le (by omega)]);go_wp2;go_ret;exact ⟨by first|(rw [HE.out];rfl)|(rw [← HE.out];rfl)|rfl,by repeat (first|exact HS.out|apply Sim.drewN|apply Sim.drew|apply Sim.alloc),by repeat (first|exact HB.out|apply pw_below_drewN|apply below_drew1|apply below_alloc)⟩
end Go.Proofs.YteagahcbffgjpaaGreatDoor.G

namespace Go.Proofs.YteagahcbffgjpaaGreatDoor.G
open Go.RowKit Go.Proofs.YteagahcbffgjpaaGreatDoorW.PrintWords Go.Proofs.YteagahcbffgjpaaGreatDoorW.PrintLast Go.Proofs.YteagahcbffgjpaaGreatDoor.B
set_option linter.unusedVariables false
theorem blk_keptP {w w':World} {P:Nat→Prop} {g:Nat} {o:Obj} (h:w.heap[g]?=some o) (hk:Kept w w' P) (hp:¬ P g):w'.heap[g]?=some o:=by
  have hlt:g<w.heap.size:=by
    rcases Nat.lt_or_ge g w.heap.size with q|q
    · exact q
    · rw [Array.getElem?_eq_none q] at h;cases h
  exact (hk.2 g hlt hp).trans h
theorem Sim.of_heap {P:Nat→Prop} {a b c:World} (h:Sim P a b) (e:c.heap=a.heap):Sim P c b:=by
  unfold Sim at h ⊢;rw [e];exact h
end Go.Proofs.YteagahcbffgjpaaGreatDoor.G

namespace Go.Proofs.YteagahcbffgjpaaGreatDoor.G
open Go.RowKit Go.Proofs.YteagahcbffgjpaaGreatDoorW.PrintWords Go.Proofs.YteagahcbffgjpaaGreatDoorW.PrintLast Go.Proofs.YteagahcbffgjpaaGreatDoorW.PrintMore Go.Proofs.YteagahcbffgjpaaGreatDoor.B
set_option linter.unusedVariables false
set_option linter.unusedSimpArgs false
theorem S_put {α:Type} {d:Kd α} {e base:Nat} {w w2:World} {P:Nat→Prop} {g cap:Nat} {l:List α} {f:Nat→Nat} (h:(Kd.tag f d).R e w base P (.slice (some ⟨g,0,none⟩) l.length cap) l.zipIdx) {i:Nat} (hi:i<l.length) {cur cur2:Array Value}
    (hw:w.heap[g]?=some (.cells cur e (0,0))) (hw2:w2.heap[g]?=some (.cells cur2 e (0,0))) (hsz:cur2.size=cur.size) (hcell:∀ j,¬ (i*d.sz≤j∧j<i*d.sz+d.sz)→cur2[j]?=cur[j]?) (hk:∀ k,P k→k≠g→f k≠i→k<w.heap.size→w2.heap[k]?=w.heap[k]?)
    {x':α} (hx:d.M w2 base (fun k=>(P k∧some k≠(Value.slice (some ⟨g,0,none⟩) l.length cap).ownBlock)∧f k=i) x' ((cur2.toList.drop (i*d.sz)).take d.sz)) :
    (Kd.tag f d).R e w2 base P (.slice (some ⟨g,0,none⟩) l.length cap) (l.set i x').zipIdx:=by
  obtain ⟨h0,inner,ho,hr⟩:=h
  have hls:(l.set i x').zipIdx.length=l.length:=by rw [List.length_zipIdx,List.length_set]
  rw [List.length_zipIdx] at ho
  rcases ho.2 with ⟨hv,_⟩|⟨g',cap',cur',hv,hg,hh,r1,r2,r3,r4⟩
  · cases hv
  · injection hv with hv1 hv2 hv3
    injection hv1 with hv1
    injection hv1 with hv1 _ _
    subst hv1 hv3;rw [hw] at hh
    injection hh with hh
    injection hh with hh _
    subst hh;have hsz':(Kd.tag f d).sz=d.sz:=rfl;rw [hsz'] at r3 r4
    have hC:l.length*d.sz≤cur.size:=by rw [r3];exact Nat.mul_le_mul_right _ r1
    have hone:∀ j,j<l.length→j*d.sz+d.sz≤l.length*d.sz:=fun j hj=>by rw [← Nat.succ_mul];exact Nat.mul_le_mul_right _ hj
    have hchunk:∀ (c:Array Value) (j:Nat),j<l.length→((c.toList.take (l.length*d.sz)).drop (j*d.sz)).take d.sz=(c.toList.drop (j*d.sz)).take d.sz:=fun c j hj=>by
      rw [List.drop_take,List.take_take];have:=hone j hj;rw [Nat.min_eq_left (by omega)]
    refine ⟨h0,cur2.toList.take (l.length*d.sz),⟨?_,.inr ⟨g,cap,cur2,by rw [hls],hg,hw2,by rw [hls];exact r1,r2,by rw [hsz,r3];rfl,by rw [hls];rfl⟩⟩,?_,fun j p hp=>?_⟩
    · rw [hls,List.length_take]
      show min _ cur2.size=_
      rw [hsz];exact Nat.min_eq_left hC
    · rw [hls,List.length_take]
      show min _ cur2.size=_
      rw [hsz];exact Nat.min_eq_left hC
    · have hj:j<l.length:=by have:=(List.getElem?_eq_some_iff.1 hp).1;omega
      rw [List.getElem?_zipIdx,Nat.zero_add] at hp;rw [hsz',hchunk cur2 j hj];by_cases ej:j=i
      · subst ej
        rw [List.getElem?_set_self hi] at hp;obtain rfl:=ojz hp;exact hx
      · rw [List.getElem?_set_ne (Ne.symm ej)] at hp
        rw [List.getElem?_eq_getElem hj] at hp;obtain rfl:=ojz hp;have hM:=hr.2 j (l[j],j) (by rw [List.getElem?_zipIdx,List.getElem?_eq_getElem hj,Nat.zero_add];rfl);rw [hsz',← r4,hchunk cur j hj] at hM
        have hsame:(cur2.toList.drop (j*d.sz)).take d.sz=(cur.toList.drop (j*d.sz)).take d.sz:=by
          apply List.ext_getElem?;intro q;rw [List.getElem?_take,List.getElem?_take];by_cases cq:q<d.sz
          · rw [if_pos cq,if_pos cq,List.getElem?_drop,List.getElem?_drop,Array.getElem?_toList,Array.getElem?_toList]
            apply hcell;rintro ⟨h1,h2⟩
            rcases Nat.lt_or_gt_of_ne ej with lt|gt
            · have:=Nat.mul_le_mul_right d.sz (show j+1≤i from lt)
              rw [Nat.succ_mul] at this;omega
            · have:=Nat.mul_le_mul_right d.sz (show i+1≤j from gt)
              rw [Nat.succ_mul] at this;omega
          · rw [if_neg cq,if_neg cq]
        rw [hsame];refine Kd.M_step (d:=d) (ok:=fun k=>(P k∧some k≠(Value.slice (some ⟨g,0,none⟩) l.length cap).ownBlock)∧f k=j) hM (fun k hk' hlt=>?_)
        have hne:k≠g:=fun eg=>hk'.1.2 (by rw [eg];rfl)
        exact hk k hk'.1.1 hne (by rw [hk'.2];exact ej) hlt
noncomputable def mkN:Int→List S69→List S69
  | _,[]=>[]
  | k,x :: l=>⟨mts k x.f0.length,mt (k+(x.f0.length:Int)),mt (k+(x.f0.length:Int)+1),mt (k+(x.f0.length:Int)+2)⟩ :: mkN (k+elN x) l
theorem mkN_len (l:List S69):∀ k,(mkN k l).length=l.length:=by
  induction l with
  | nil=>intro k;rfl
  | cons x l ih=>intro k;simp only [mkN,List.length_cons,ih]
theorem mkN_app (l:List S69):∀ (k:Int) (r:List S69),mkN k (l++r)=mkN k l++mkN (k+cntN l) r:=by
  induction l with
  | nil=>intro k r;simp [mkN,cntN]
  | cons x l ih =>
    intro k r;simp only [mkN,cntN,List.cons_append,ih];rw [show k+elN x+cntN l=k+(elN x+cntN l) from Int.add_assoc _ _ _]
noncomputable def rowV (a:Int) (l:List S69) (i:Nat):List S69:=mkN a (l.take i)++l.drop i
theorem rowV_len (a:Int) (l:List S69) (i:Nat) (hi:i≤l.length):(rowV a l i).length=l.length:=by
  unfold rowV;rw [List.length_append,mkN_len,List.length_take,List.length_drop];omega
theorem rowV_at (a:Int) (l:List S69) (i:Nat) (hi:i<l.length):(rowV a l i)[i]'(by rw [rowV_len a l i (by omega)];exact hi)=l[i]:=by
  unfold rowV;rw [List.getElem_append_right (by rw [mkN_len,List.length_take];omega)];simp only [mkN_len,List.length_take,List.getElem_drop]
  congr 1
  omega
theorem rowV_next (a:Int) (l:List S69) (i:Nat) (hi:i<l.length):rowV a l (i+1)=(rowV a l i).set i ⟨mts (a+cntN (l.take i)) l[i].f0.length,mt (a+cntN (l.take i)+(l[i].f0.length:Int)),mt (a+cntN (l.take i)+(l[i].f0.length:Int)+1),mt (a+cntN (l.take i)+(l[i].f0.length:Int)+2)⟩:=by
  have hl:(mkN a (l.take i)).length=i:=by rw [mkN_len,List.length_take];omega
  unfold rowV;rw [List.take_succ_eq_append_getElem hi,mkN_app,List.set_append,if_neg (show ¬ i<(mkN a (l.take i)).length by omega),hl,Nat.sub_self,List.drop_eq_getElem_cons hi,List.set_cons_zero,List.append_assoc];rfl
theorem rowS_at {W:World} {P:Nat→Prop} {f:Nat→Nat} {base g cap n:Nat} {L:List S69} (HR:(Kd.tag f k69).R 69 W base P (.slice (some ⟨g,0,none⟩) n cap) L.zipIdx) (i:Nat) (hi:i<L.length) :
    ∃ (A:Option Addr) (c:Nat) (cur:Array Value),W.heap[g]?=some (.cells cur 69 (0,0))∧n=L.length∧i*4+4≤cur.size∧cur[i*4]?=some (.slice A L[i].f0.length c)∧cur[i*4+1]?=some (.string L[i].f1)∧cur[i*4+2]?=some (.string L[i].f2)∧cur[i*4+3]?=some (.string L[i].f3) ∧
      Kd.R Kd.string 9 W base (fun k=>(P k∧k≠g)∧f k=i) (.slice A L[i].f0.length c) L[i].f0:=by
  have hn:n=L.length:=by have:=(Kd.R_reads' HR).1;rw [List.length_zipIdx] at this;exact this
  subst hn;obtain ⟨cur,hG⟩:=Kd.R_typed HR g rfl;obtain ⟨c,hcl,hM,hc,hf⟩:=Kd.R_elem HR ((⟨[],⟨#[]⟩,⟨#[]⟩,⟨#[]⟩⟩:S69),0) (i:Int) (by omega) (by omega)
  have he:L.zipIdx.getD (i:Int).toNat ((⟨[],⟨#[]⟩,⟨#[]⟩,⟨#[]⟩⟩:S69),0)=(L[i],i):=by
    rw [show ((i:Int)).toNat=i by omega,List.getD_eq_getElem?_getD,List.getElem?_zipIdx,List.getElem?_eq_getElem hi,Nat.zero_add];rfl
  rw [he] at hM;obtain ⟨_,_,rfl,⟨v,rfl,hRs⟩,_,_,rfl,rfl,_,_,rfl,rfl,rfl⟩:=hM;obtain ⟨A,cc,rfl⟩:=Kd.R_slice hRs;have e0:=hc 0 _ rfl;have e1:=hc 1 _ rfl;have e2:=hc 2 _ rfl;have e3:=hc 3 _ rfl
  have q:∀ j,W.cell? ⟨g,(i:Int).toNat*4+j,none⟩=cur[i*4+j]?:=fun j=>by rw [cell_of_row W g _ cur _ _ hG];rfl
  have e0':=(q 0).symm.trans e0;have e1':=(q 1).symm.trans e1;have e2':=(q 2).symm.trans e2;have e3':=(q 3).symm.trans e3;have hs:=(Array.getElem?_eq_some_iff.1 e3').1;exact ⟨A,cc,cur,hG,rfl,by omega,e0',e1',e2',e3',hRs⟩
theorem seg4 {cur:Array Value} {i:Nat} {v0 v1 v2 v3:Value} (hs:i*4+4≤cur.size) (h0:cur[i*4]?=some v0) :
    ((((cur.setIfInBounds (i*4+1) v1).setIfInBounds (i*4+2) v2).setIfInBounds (i*4+3) v3).toList.drop (i*4)).take 4=[v0,v1,v2,v3]:=by
  apply List.ext_getElem?;intro j;rw [List.getElem?_take];by_cases c:j<4
  · rw [if_pos c,List.getElem?_drop,Array.getElem?_toList]
    have:j=0∨j=1∨j=2∨j=3:=by omega
    rcases this with rfl|rfl|rfl|rfl
    · rw [Array.getElem?_setIfInBounds_ne (by omega),Array.getElem?_setIfInBounds_ne (by omega),Array.getElem?_setIfInBounds_ne (by omega)];exact h0
    · rw [Array.getElem?_setIfInBounds_ne (by omega),Array.getElem?_setIfInBounds_ne (by omega),Array.getElem?_setIfInBounds_self_of_lt (by omega)];rfl
    · rw [Array.getElem?_setIfInBounds_ne (by omega),Array.getElem?_setIfInBounds_self_of_lt (by rw [Array.size_setIfInBounds];omega)];rfl
    · rw [Array.getElem?_setIfInBounds_self_of_lt (by rw [Array.size_setIfInBounds,Array.size_setIfInBounds];omega)];rfl
  · rw [if_neg c,List.getElem?_eq_none (by simp;omega)]
theorem seg4_out {cur:Array Value} {i:Nat} {v1 v2 v3:Value} (j:Nat) (hj:¬ (i*4≤j∧j<i*4+4)) :
    (((cur.setIfInBounds (i*4+1) v1).setIfInBounds (i*4+2) v2).setIfInBounds (i*4+3) v3)[j]?=cur[j]?:=by
  rw [Array.getElem?_setIfInBounds_ne (by omega),Array.getElem?_setIfInBounds_ne (by omega),Array.getElem?_setIfInBounds_ne (by omega)]
theorem blk_ltH {w:World} {g:Nat} {o:Obj} (h:w.heap[g]?=some o):g<w.heap.size:=by
  rcases Nat.lt_or_ge g w.heap.size with q|q
  · exact q
  · rw [Array.getElem?_eq_none q] at h;cases h
theorem S_putn {α:Type} {d:Kd α} {e base:Nat} {w w2:World} {P:Nat→Prop} {g cap n:Nat} {l:List α} {f:Nat→Nat} (h:(Kd.tag f d).R e w base P (.slice (some ⟨g,0,none⟩) n cap) l.zipIdx) (hn:n=l.length) {i:Nat} (hi:i<l.length) {cur cur2:Array Value}
    (hw:w.heap[g]?=some (.cells cur e (0,0))) (hw2:w2.heap[g]?=some (.cells cur2 e (0,0))) (hsz:cur2.size=cur.size) (hcell:∀ j,¬ (i*d.sz≤j∧j<i*d.sz+d.sz)→cur2[j]?=cur[j]?) (hk:∀ k,P k→k≠g→f k≠i→k<w.heap.size→w2.heap[k]?=w.heap[k]?)
    {x':α} (hx:d.M w2 base (fun k=>(P k∧some k≠(Value.slice (some ⟨g,0,none⟩) n cap).ownBlock)∧f k=i) x' ((cur2.toList.drop (i*d.sz)).take d.sz)) :
    (Kd.tag f d).R e w2 base P (.slice (some ⟨g,0,none⟩) n cap) (l.set i x').zipIdx:=by
  subst hn;exact S_put h hi hw hw2 hsz hcell hk hx
theorem heap_step {a b c:World} {k:Nat} (hb:Below b.heap.size b c) (h:b.heap[k]?=a.heap[k]?) (hlt:k<a.heap.size):c.heap[k]?=a.heap[k]? :=
  (hb.block k (by rw [Array.getElem?_eq_getElem hlt] at h;exact blk_ltH h)).trans h
theorem kept_step {P Q:Nat→Prop} {a b c:World} (h:Kept a b P) (h':Kept b c Q) (hq:∀ k,Q k→P k):Kept a c P :=
  ⟨Nat.le_trans h.1 h'.1,fun k hk hn=>(h'.2 k (Nat.lt_of_lt_of_le hk h.1) (fun q=>hn (hq k q))).trans (h.2 k hk hn)⟩
theorem kept_set {P:Nat→Prop} {a b:World} {g j:Nat} {u:Value} (h:Kept a b P) (hg:P g):Kept a (b.setCell ⟨g,j,none⟩ u) P :=
  ⟨by simpa [World.setCell] using h.1,fun k hk hn=>(Below.heap_setCell b ⟨g,j,none⟩ u k (fun e=>hn (by rw [e];exact hg))).trans (h.2 k hk hn)⟩
set_option maxHeartbeats 8000000 in
set_option maxRecDepth 100000 in
theorem markN_s (P:Nat→Prop) (u:Value) (l:List S69) (a1:Int) (w0 w:World) (h0:0≤a1) (h1:a1+cntN l≤4611686018427387904) (hB:Below w0.heap.size w0 w) (ho:Kd.S k69 69 w w0.heap.size P u l) :
    Calls Tryz.prog 33 #[u,.int .i64 a1] w fun e w'=>e=.returned (.int .i64 (a1+cntN l))∧Kd.S k69 69 w' w0.heap.size P u (mkN a1 l)∧Below w0.heap.size w0 w'∧Kept w w' P:=by
  have HL:=am (And.intro h0 h1);have HZ:=am (show (l.length:Int)≤4611686018427387904 from Int.le_trans (cntN_len l) (by omega));obtain ⟨f,hR⟩:=ho;obtain ⟨A,c,e⟩:=Kd.R_slice hR;rw [List.length_zipIdx] at e;subst e;have HRW:=am (show (Kd.tag f k69).R 69 w w0.heap.size P (.slice A l.length c) (rowV a1 l 0).zipIdx from by rw [show rowV a1 l 0=l from by simp [rowV,mkN]];exact hR);have HB:=am hB;have HK:=am (Kept.refl w P)
  obtain ⟨kk,hkk⟩:∃ kk,kk=l.length+1:=⟨_,rfl⟩
  have HKK:=am hkk;have hu1:=Tryz.underlying69;clear hR hB hkk h0 h1;go_enter Tryz.func33,Tryz.ntmps33;go_wp2
  go_loopg [1,5] kk (fun kq v1 v5 w'=>∃ (i:Nat) (n:Int),v1=.int .i64 n∧v5=.int .i64 (i:Int)∧Aside0 (n=a1+cntN (l.take i))∧Aside0 (i≤l.length∧l.length-i<kq)∧Aside0 (kq≤kk)∧Aside0 ((Kd.tag f k69).R 69 w' w0.heap.size P (.slice A l.length c) (rowV a1 l i).zipIdx)∧Aside0 (Below w0.heap.size w0 w')∧Aside0 (Kept w w' P))
  case atStart=>exact ⟨0,a1,rfl,(by first|rfl|simp),⟨by simp [cntN]⟩,⟨Nat.zero_le _,by have:=HKK.out;omega⟩,⟨Nat.le_refl _⟩,⟨(by (with_reducible repeat (first|apply Kd.R_alloc|apply Kd.R_drewN|apply Kd.R_drew));exact HRW.out)⟩,⟨by repeat (first|exact HB.out|apply pw_below_drewN|apply below_drew1|apply below_alloc)⟩,⟨by repeat (first|exact HK.out|apply Kept.alloc|apply Kept.drewN|apply Kept.drew)⟩⟩
  case round =>
    clear HRW HB HK;obtain ⟨i,n,rfl,rfl,HN,HI,HK1,HRW,HB,HK⟩:=hrel
    cases gk with
    | zero=>exact absurd HI.out.2 (Nat.not_lt_zero _)
    | succ k1 =>
      by_cases ci:i<l.length
      · have c0:decide ((i:Int)<(l.length:Int))=true:=dt (by omega)
        have c1:decide ((0:Int)≤(i:Int))=true:=dt (by omega);have CI:=am ci;have HW2:=am (mk_i i (by have:=HZ.out;omega));have HQ:=am (show (0≤n∧n+elN l[i]≤4611686018427387904)∧n+elN l[i]=a1+cntN (l.take (i+1)) from cntN_at HN.out HL.out ci)
        obtain ⟨m,hm⟩:∃ m:Nat,m=l[i].f0.length:=⟨_,rfl⟩
        have HM:=am hm;have HQN:=am (show 0≤n∧n+((m:Int)+3)≤4611686018427387904 from by have h_:=HQ.out.1;rw [elN_eq,← hm] at h_;exact h_);clear hm
        have hlz:(rowV a1 l i).zipIdx.length=l.length:=by rw [List.length_zipIdx,rowV_len a1 l i (by omega)]
        obtain ⟨g,cap,eo,gb,gl,cl,HG0⟩:=Kd.R_form HRW.out (by rw [hlz];omega);rw [hlz] at eo
        cases eo
        have hri:i<(rowV a1 l i).length:=by rw [rowV_len a1 l i (by omega)];exact ci
        obtain ⟨Ag,cg,cur,hG,hn,hs,cP,dK,hc2,hc3,hRi⟩:=rowS_at HRW.out i hri;rw [rowV_at a1 l i ci] at cP dK hc2 hc3 hRi;rw [← HM.out] at cP hRi;have GB:=am gb;have PG:=am (HRW.out.1 g rfl);have NI:=am (show ∀ k,some k=(Value.slice Ag m cg).ownBlock→(P k∧k≠g)∧f k=i from fun k e=>hRi.1 k e.symm);have HRI:=am (Kd.R_tight rfl hRi);have HC:=am (And.intro hs (And.intro cP (And.intro dK (And.intro hc2 hc3))));have HGS:=am hG;have HG:=am hG;have Dt:=(blk_cell hG (i*4)).trans cP;have hf0:=blk_frozen hG (i*4);clear hlz gb gl HG0 hG hn hs cP dK hc2 hc3 hRi hri
        go_wp2_with (first
          | ((with_reducible refine gate_callee (f:=52) rfl ?_);refine goesL_ (some 18) rfl rfl Tryz.func52 (by kernel_rfl) rfl #[.slice Ag m cg,.int .i64 n] rfl (by (try simp only [List.map_toArray,List.map_cons,List.map_nil]);first|done|rfl) ?_;obtain ⟨ks,hks⟩:=markS_ev l[i].f0 n HQN.out.1 (by have bW:=HQN.out;rw [← HM.out];omega);(refine (laws_markStringS.calls ks (fun k_=>some k_=(Value.slice Ag m cg).ownBlock) (.slice Ag m cg) l[i].f0 n _ _ w0 _ (show Below w0.heap.size w0 _ from by repeat (first|exact HB.out|apply pw_below_drewN|apply below_drew1|apply below_alloc)) (by (with_reducible repeat (first|apply Kd.R_alloc|apply Kd.R_drewN|apply Kd.R_drew));exact HRI.out) (hks ks (Nat.le_refl _))).mono ?_);rintro e aoL ⟨rfl,hy,hb,hkp⟩;rw [← HM.out];refine ⟨_,rfl,?_⟩;clear hks Dt hf0;rw [← HM.out] at hy;have cK:=am (blk_keptP (g:=g) (by (with_reducible repeat (first|refine blk_drewN ?_ _|refine blk_drew ?_|refine blk_alloc ?_ _));exact HG.out) hkp (fun e_=>(NI.out g e_).1.2 rfl));have HK2:=am (kept_step (show Kept w _ P from by repeat (first|exact HK.out|apply Kept.alloc|apply Kept.drewN|apply Kept.drew)) hkp (fun k e_=>(NI.out k e_).1.1));have IG:=am (fun (k:Nat) (_:P k) (_:k≠g) (hf_:f k≠i) (hlt_:k<_)=>hkp.2 k hlt_ (fun e_=>hf_ (NI.out k e_).2));have HRI2:=am (Kd.R_tight rfl hy);have HB2:=am hb;clear HG HK HRI HB hy hb hkp;have HG:=cK;have HK:=HK2;have HRI:=HRI2;have HB:=HB2;clear cK HK2 HRI2 HB2;have uN:=am (show n+(m:Int)=n+(m:Int) from rfl))
          | ((with_reducible refine gate_callee (f:=32) rfl ?_);refine goesL_ (some 22) rfl rfl Tryz.func32 (by kernel_rfl) rfl #[.int .i64 (n+(m:Int))] rfl (by (try simp only [List.map_toArray,List.map_cons,List.map_nil]);first|done|rfl) ?_;obtain ⟨kt,hkt⟩:=(mt_ev (n+(m:Int)) (by rw [uN.out];have bW:=HQN.out;omega) (by rw [uN.out];have bW:=HQN.out;omega));(refine (laws_markText.calls kt (n+(m:Int)) (mt (n+(m:Int))) _ (hkt kt (Nat.le_refl _))).mono ?_);rintro e Ns ⟨rfl,hb⟩;refine ⟨_,rfl,?_⟩;clear hkt;have cK:=am (blk_below (g:=g) (by (with_reducible repeat (first|refine blk_drewN ?_ _|refine blk_drew ?_|refine blk_alloc ?_ _));exact HG.out) hb);have HK2:=am (Kept.below (S:=fun k_=>P k_) (show Kept w _ P from by repeat (first|exact HK.out|apply Kept.alloc|apply Kept.drewN|apply Kept.drew)) hb);have HRI2:=am (Kd.R_below (by (with_reducible repeat (first|apply Kd.R_alloc|apply Kd.R_drewN|apply Kd.R_drew));exact HRI.out) hb);have HQ2:=am (fun (k:Nat) (hp_:P k) (hg_:k≠g) (hf_:f k≠i) hlt_=>heap_step hb (IG.out k hp_ hg_ hf_ hlt_) hlt_);have HB2:=am (below_step (show Below w0.heap.size w0 _ from by repeat (first|exact HB.out|apply pw_below_drewN|apply below_drew1|apply below_alloc)) hb);clear HG HK HRI HB IG hb;have HG:=cK;have HK:=HK2;have HRI:=HRI2;have HB:=HB2;clear cK HK2 HRI2 HB2;have xL:=(blk_cell HG.out (i*4+1)).trans HC.out.2.2.1;have eG:=blk_frozen HG.out (i*4+1))
          | ((with_reducible refine gate_store (t:=9) (p:=24) rfl ?_);refine store_event (t:=9) (p:=24) (v:=?vo_0) (w1:=(Ns.setCell ⟨g,i*4+1,none⟩ (.string (mt (n+(m:Int)))))) ?hg ?ho ?hn ?hr ?_;(case ho=>rfl);(case hg=>rfl);(case hn=>rfl);(case hr=>first|(go_simp;done)|(go_simp;rfl));intro pE hw;clear xL eG;have cK:=am ((congrArg (fun z_:World=>z_.heap[g]?) hw).trans (heap_set_row HG.out _));have HK2:=am (show Kept w pE P from by rw [hw];exact kept_set HK.out PG.out);have HRI2:=am (show Kd.R Kd.string 9 pE w0.heap.size (fun k=>some k=(Value.slice Ag m cg).ownBlock) (.slice Ag m cg) (mts n m) from by rw [hw];exact Kd.R_far HRI.out (fun k e_=>(NI.out k e_).1.2) _);have HQ3:=am (fun (k:Nat) (hp_:P k) (hg_:k≠g) (hf_:f k≠i) hlt_=>((congrArg (fun z_:World=>z_.heap[k]?) hw).trans (Below.heap_setCell _ _ _ _ hg_)).trans (HQ2.out k hp_ hg_ hf_ hlt_));have HB2:=am (show Below w0.heap.size w0 pE from by rw [hw];exact HB.out.setCell GB.out _);clear HG HK HRI HB HQ2 hw;have HG:=cK;have HK:=HK2;have HRI:=HRI2;have HB:=HB2;clear cK HK2 HRI2 HB2;have pD:=am (show (wrap64 ((n+(m:Int))+1))=((n+(m:Int))+1) from by rw [uN.out];exact mk_w1 _ (by have bW:=HQN.out;omega) (by have bW:=HQN.out;omega)))
          | ((with_reducible refine gate_callee (f:=32) rfl ?_);refine goesL_ (some 30) rfl rfl Tryz.func32 (by kernel_rfl) rfl #[.int .i64 (wrap64 ((n+(m:Int))+1))] rfl (by (try simp only [List.map_toArray,List.map_cons,List.map_nil]);first|done|rfl) ?_;obtain ⟨kt,hkt⟩:=(mt_ev (wrap64 ((n+(m:Int))+1)) (by rw [pD.out];have bW:=HQN.out;omega) (by rw [pD.out];have bW:=HQN.out;omega));(refine (laws_markText.calls kt (wrap64 ((n+(m:Int))+1)) (mt (wrap64 ((n+(m:Int))+1))) _ (hkt kt (Nat.le_refl _))).mono ?_);rintro e Nt ⟨rfl,hb⟩;refine ⟨_,rfl,?_⟩;clear hkt;have cK:=am (blk_below (g:=g) (by (with_reducible repeat (first|refine blk_drewN ?_ _|refine blk_drew ?_|refine blk_alloc ?_ _));exact HG.out) hb);have HK2:=am (Kept.below (S:=fun k_=>P k_) (show Kept w _ P from by repeat (first|exact HK.out|apply Kept.alloc|apply Kept.drewN|apply Kept.drew)) hb);have HRI2:=am (Kd.R_below (by (with_reducible repeat (first|apply Kd.R_alloc|apply Kd.R_drewN|apply Kd.R_drew));exact HRI.out) hb);have HQ4:=am (fun (k:Nat) (hp_:P k) (hg_:k≠g) (hf_:f k≠i) hlt_=>heap_step hb (HQ3.out k hp_ hg_ hf_ hlt_) hlt_);have HB2:=am (below_step (show Below w0.heap.size w0 _ from by repeat (first|exact HB.out|apply pw_below_drewN|apply below_drew1|apply below_alloc)) hb);clear HG HK HRI HB HQ3 hb;have HG:=cK;have HK:=HK2;have HRI:=HRI2;have HB:=HB2;clear cK HK2 HRI2 HB2;have DD:=(blk_cell HG.out (i*4+2)).trans ((Array.getElem?_setIfInBounds_ne (by omega)).trans HC.out.2.2.2.1);have NF:=blk_frozen HG.out (i*4+2))
          | ((with_reducible refine gate_store (t:=9) (p:=32) rfl ?_);refine store_event (t:=9) (p:=32) (v:=?vo_1) (w1:=(Nt.setCell ⟨g,i*4+2,none⟩ (.string (mt (wrap64 ((n+(m:Int))+1)))))) ?hg ?ho ?hn ?hr ?_;(case ho=>rfl);(case hg=>rfl);(case hn=>rfl);(case hr=>first|(go_simp;done)|(go_simp;rfl));intro oM hw;clear DD NF;have cK:=am ((congrArg (fun z_:World=>z_.heap[g]?) hw).trans (heap_set_row HG.out _));have HK2:=am (show Kept w oM P from by rw [hw];exact kept_set HK.out PG.out);have HRI2:=am (show Kd.R Kd.string 9 oM w0.heap.size (fun k=>some k=(Value.slice Ag m cg).ownBlock) (.slice Ag m cg) (mts n m) from by rw [hw];exact Kd.R_far HRI.out (fun k e_=>(NI.out k e_).1.2) _);have HQ5:=am (fun (k:Nat) (hp_:P k) (hg_:k≠g) (hf_:f k≠i) hlt_=>((congrArg (fun z_:World=>z_.heap[k]?) hw).trans (Below.heap_setCell _ _ _ _ hg_)).trans (HQ4.out k hp_ hg_ hf_ hlt_));have HB2:=am (show Below w0.heap.size w0 oM from by rw [hw];exact HB.out.setCell GB.out _);clear HG HK HRI HB HQ4 hw;have HG:=cK;have HK:=HK2;have HRI:=HRI2;have HB:=HB2;clear cK HK2 HRI2 HB2;have lG:=am (show (wrap64 ((wrap64 ((n+(m:Int))+1))+1))=(((n+(m:Int))+1)+1) from by rw [pD.out];exact mk_w1 _ (by have bW:=HQN.out;omega) (by have bW:=HQN.out;omega)))
          | ((with_reducible refine gate_callee (f:=32) rfl ?_);refine goesL_ (some 38) rfl rfl Tryz.func32 (by kernel_rfl) rfl #[.int .i64 (wrap64 ((wrap64 ((n+(m:Int))+1))+1))] rfl (by (try simp only [List.map_toArray,List.map_cons,List.map_nil]);first|done|rfl) ?_;obtain ⟨kt,hkt⟩:=(mt_ev (wrap64 ((wrap64 ((n+(m:Int))+1))+1)) (by rw [lG.out];have bW:=HQN.out;omega) (by rw [lG.out];have bW:=HQN.out;omega));(refine (laws_markText.calls kt (wrap64 ((wrap64 ((n+(m:Int))+1))+1)) (mt (wrap64 ((wrap64 ((n+(m:Int))+1))+1))) _ (hkt kt (Nat.le_refl _))).mono ?_);rintro e Nu ⟨rfl,hb⟩;refine ⟨_,rfl,?_⟩;clear hkt;have cK:=am (blk_below (g:=g) (by (with_reducible repeat (first|refine blk_drewN ?_ _|refine blk_drew ?_|refine blk_alloc ?_ _));exact HG.out) hb);have HK2:=am (Kept.below (S:=fun k_=>P k_) (show Kept w _ P from by repeat (first|exact HK.out|apply Kept.alloc|apply Kept.drewN|apply Kept.drew)) hb);have HRI2:=am (Kd.R_below (by (with_reducible repeat (first|apply Kd.R_alloc|apply Kd.R_drewN|apply Kd.R_drew));exact HRI.out) hb);have HQ6:=am (fun (k:Nat) (hp_:P k) (hg_:k≠g) (hf_:f k≠i) hlt_=>heap_step hb (HQ5.out k hp_ hg_ hf_ hlt_) hlt_);have HB2:=am (below_step (show Below w0.heap.size w0 _ from by repeat (first|exact HB.out|apply pw_below_drewN|apply below_drew1|apply below_alloc)) hb);clear HG HK HRI HB HQ5 hb;have HG:=cK;have HK:=HK2;have HRI:=HRI2;have HB:=HB2;clear cK HK2 HRI2 HB2;have K3:=(blk_cell HG.out (i*4+3)).trans ((Array.getElem?_setIfInBounds_ne (by omega)).trans ((Array.getElem?_setIfInBounds_ne (by omega)).trans HC.out.2.2.2.2));have hf3:=blk_frozen HG.out (i*4+3))
          | ((with_reducible refine gate_store (t:=9) (p:=40) rfl ?_);refine store_event (t:=9) (p:=40) (v:=?vo_2) (w1:=(Nu.setCell ⟨g,i*4+3,none⟩ (.string (mt (wrap64 ((wrap64 ((n+(m:Int))+1))+1)))))) ?hg ?ho ?hn ?hr ?_;(case ho=>rfl);(case hg=>rfl);(case hn=>rfl);(case hr=>first|(go_simp;done)|(go_simp;rfl));intro KN hw;clear K3 hf3;have cK:=am ((congrArg (fun z_:World=>z_.heap[g]?) hw).trans (heap_set_row HG.out _));have HK2:=am (show Kept w KN P from by rw [hw];exact kept_set HK.out PG.out);have HRI2:=am (show Kd.R Kd.string 9 KN w0.heap.size (fun k=>some k=(Value.slice Ag m cg).ownBlock) (.slice Ag m cg) (mts n m) from by rw [hw];exact Kd.R_far HRI.out (fun k e_=>(NI.out k e_).1.2) _);have HQ7:=am (fun (k:Nat) (hp_:P k) (hg_:k≠g) (hf_:f k≠i) hlt_=>((congrArg (fun z_:World=>z_.heap[k]?) hw).trans (Below.heap_setCell _ _ _ _ hg_)).trans (HQ6.out k hp_ hg_ hf_ hlt_));have HB2:=am (show Below w0.heap.size w0 KN from by rw [hw];exact HB.out.setCell GB.out _);clear HG HK HRI HB HQ6 hw;have HG:=cK;have HK:=HK2;have HRI:=HRI2;have HB:=HB2;clear cK HK2 HRI2 HB2;have oN:=am (show (wrap64 ((wrap64 ((wrap64 ((n+(m:Int))+1))+1))+1))=((((n+(m:Int))+1)+1)+1) from by rw [lG.out];exact mk_w1 _ (by have bW:=HQN.out;omega) (by have bW:=HQN.out;omega))))
        go_roundg k1
        case rel=>exact ⟨i+1,(wrap64 ((wrap64 ((wrap64 ((n+(m:Int))+1))+1))+1)),(by (try simp only [i64_w])),(by (try simp only [i64_w]);rw [HW2.out]),⟨by rw [oN.out];have h_:=HQ.out.2;rw [elN_eq,← HM.out] at h_;rw [← h_];omega⟩,⟨by have:=HI.out;have:=CI.out;omega⟩,⟨by have:=HK1.out;omega⟩,⟨by (with_reducible repeat (first|apply Kd.R_alloc|apply Kd.R_drewN|apply Kd.R_drew));rw [rowV_next a1 l i CI.out];refine S_putn HRW.out (rowV_len a1 l i (Nat.le_of_lt CI.out)).symm (by rw [rowV_len a1 l i (Nat.le_of_lt CI.out)];exact CI.out) HGS.out HG.out (by simp) (fun j hj=>seg4_out j hj) HQ7.out ?_;show Kd.M k69 _ _ _ _ (List.take 4 (List.drop (i*4) _));rw [seg4 HC.out.1 HC.out.2.1];rw [← HN.out,← HM.out,lG.out,pD.out,show n+(m:Int)+2=n+(m:Int)+1+1 from by omega];exact ⟨_,_,rfl,⟨_,rfl,Kd.R_mono HRI.out (fun k_ e_=>⟨⟨(NI.out k_ e_).1.1,fun q_=>(NI.out k_ e_).1.2 (ojz q_)⟩,(NI.out k_ e_).2⟩)⟩,_,_,rfl,rfl,_,_,rfl,rfl,rfl⟩⟩,⟨by repeat (first|exact HB.out|apply pw_below_drewN|apply below_drew1|apply below_alloc)⟩,⟨by repeat (first|exact HK.out|apply Kept.alloc|apply Kept.drewN|apply Kept.drew)⟩⟩
        case measure=>have:=HK1.out;omega
      · have c0:decide ((i:Int)<(l.length:Int))=false:=df (by omega)
        have HE:=am (show n=a1+cntN l from by rw [HN.out,List.take_of_length_le (by omega)]);have HV:=am (show rowV a1 l i=mkN a1 l from by unfold rowV;rw [List.take_of_length_le (by omega),List.drop_of_length_le (by omega),List.append_nil]);go_wp2;go_ret;exact ⟨by first|(rw [HE.out];rfl)|(rw [← HE.out];rfl)|rfl,⟨f,by rw [← HV.out];exact (by (with_reducible repeat (first|apply Kd.R_alloc|apply Kd.R_drewN|apply Kd.R_drew));exact HRW.out)⟩,by repeat (first|exact HB.out|apply pw_below_drewN|apply below_drew1|apply below_alloc),by repeat (first|exact HK.out|apply Kept.alloc|apply Kept.drewN|apply Kept.drew)⟩
end Go.Proofs.YteagahcbffgjpaaGreatDoor.G
