/- Texts of this session for the law FnExactParseNames, put together by a program (merge.py): each ends with its namespace; conditions stand with each theorem. -/
import Derived.Handed
import Derived.SizedLaws
import Derived.Test.YtefoiofododliaaDoorKFnExactParseNames1
import Derived.Test.YtefoiofododliaaDoorProg
import Derived.Lib.LaidTab
import Derived.Below
import Derived.Deep.Draws
import Derived.Deep.AppendLies
import Derived.Maps.AppendAt
import Derived.OwnWalk
import Derived.Laws.BytesArg
import Derived.Laws.MakeOwn
import Derived.Laws.OwnMore
import Derived.Deep.OwnRows
import Derived.Tactics
import Derived.Lib.ConvBytes
import Derived.Laws.Slices
import Derived.WalkKit
import Derived.KernelRfl
import Derived.RowKit3
import Derived.Deep.LoopGhost
import Derived.Deep.QuietTactic
import Derived.BigQuiet
import Derived.WideLaws
import Derived.Deep.DeepCutAuto
import Derived.Deep.CutBlock
import Derived.Deep.RegionHeld3
import Derived.Laws.Rows
import Derived.Lib.AppendStr
import Derived.ArgAppend
import Derived.Laws.IdiomCopy
import Derived.OrdersHeld
import Derived.Laws.BitsLemmas
import Derived.RowKit
namespace Go.Proofs.YtefoiofododliaaDoor.Crd
open Go
variable {H : Type} {enc : TypeId × Value → H}
theorem wrap_and_shaped {a : Assume} {C : Checked} {os : Os} {f : FuncId} {fn : Func} {s : ChangeSpec} {conds : List PathCond} {apart fresh handsOn again : Bool} {X : World → Array Value → Prop}
    (hX : ∀ (w w' : World) (args : Array Value), w.heap = w'.heap → X w args → X w' args)
    (own : ownKnob C.prog.godebug = none) (started : os.Started) (noInit : C.prog.inits.idxOf? f = none) (hfn : C.prog.funcs[f]? = some fn)
    (witness : ∃ (w : World) (tape : Tape) (i : Input), w.os = os ∧ (w.forCall tape i).Shaped C.prog ∧ i.vars = [] ∧ Input.okWide C.prog (w.forCall tape i) .any w.heap.size f i ∧
      ((s.pre enc C.prog fn conds apart (w.forCall tape i).memory i.args ∧ X (w.forCall tape i).memory i.args) ∧ sizedMet enc C.prog fn (OpenSpec.ofChange s) apart (w.forCall tape i).memory i.args) ∧ a.holds C.prog (lone (Frame.enter C.prog f i.args .normal) [] (w.forCall tape i)))
    (contract : ∀ (W : World) (base : Nat) (args : Array Value) (ds gs : List (DataW H)) (before : List MemPlace),
      (∀ (j : Nat) t v, fn.params[j]? = some t → args[j]? = some v → Value.okWide C.prog W .any base t v) →
      DataW.Whole enc C.prog fn.params.toList s.vars apart W args.toList ds gs before →
      conds.all (PathCond.test C.prog ⟨fn.params.toList, ds, s.plain.varTypes C.prog, gs⟩) = true →
      (DataW.weightsEach C.prog (fn.params.toList ++ s.plain.varTypes C.prog) (ds ++ gs)).all (· ≤ reachBytes) = true → X W args → W.ShapedOpen C.prog →
      Calls C.prog f args W fun e W' => ∃ v, e = .returned v ∧ s.post enc C.prog fn apart fresh handsOn again W args v W') :
    ReturnsInHanded a C os f .any (fun w args => (s.pre enc C.prog fn conds apart w args ∧ X w args) ∧ sizedMet enc C.prog fn (OpenSpec.ofChange s) apart w args) (s.post enc C.prog fn apart fresh handsOn again) := by
  refine returnsInHanded_of_calls own started noInit witness ?_
  intro w tape i _ hsh _ hok hpre hholds
  obtain ⟨_, _, _, fn', hfn', _, _, _, _, hval⟩ := hok
  have e : fn' = fn := Option.some.inj (hfn'.symm.trans hfn)
  subst e
  obtain ⟨⟨⟨ds, gs, before, hw, hc⟩, hx⟩, hz⟩ := hpre
  have hw' := DataW.Whole.of_heap (w' := w.forCall tape i) (by rfl) hw
  refine (contract (w.forCall tape i) w.heap.size i.args ds gs before hval hw' hc (hz.weights hw) (hX _ _ _ (by rfl) hx) hsh).mono fun e W' ⟨v, he, hp⟩ => ?_
  subst he
  exact ChangeSpec.post_blind hp
end Go.Proofs.YtefoiofododliaaDoor.Crd

namespace Go.Proofs.YtefoiofododliaaDoor.Ext
open Go.RowKit Go.Proofs.YtefoiofododliaaDoorW.PrintWords Go.Proofs.YtefoiofododliaaDoorW.PrintLast
set_option linter.unusedVariables false
set_option linter.unusedSimpArgs false
theorem cell_lt {w : World} {a : Addr} {v : Value} (h : w.cell? a = some v) : a.block < w.heap.size := by
  unfold World.cell? at h
  by_cases hb : a.block < w.heap.size
  · exact hb
  · rw [Array.getElem?_eq_none (by omega)] at h; cases h
theorem cell_spot {w : World} {a : Addr} {v : Value} (h : w.cell? a = some v) : a.spot = none := by
  unfold World.cell? at h
  split at h
  · by_cases hs : a.spot.isSome = true
    · rw [if_pos hs] at h; cases h
    · simpa using hs
  · cases h
theorem add_zero (a : Addr) : a.add 0 = a := rfl
theorem plain_add (b o j : Nat) : (⟨b, o, none⟩ : Addr).add j = ⟨b, o + j, none⟩ := by
  unfold Addr.add
  by_cases h : j = 0 <;> simp [h]
theorem strs_read {w : World} {A : Option Addr} {xs : List ByteArray} (h : Kd.C Kd.string w A xs.length xs) (hn : 0 < xs.length) :
    ∃ b o, A = some ⟨b, o, none⟩ ∧ b < w.heap.size ∧ ∀ (j : Nat) y, xs[j]? = some y → w.cell? ⟨b, o + j, none⟩ = some (.string y) := by
  obtain ⟨ad, rfl, hc⟩ := h.2.2 hn
  have hcell : ∀ (j : Nat) y, xs[j]? = some y → w.cell? (ad.add j) = some (.string y) := by
    intro j y hj
    obtain ⟨c, _, hk, hcc⟩ := hc j y hj
    have := hcc 0 (.string y) (by rw [hk]; rfl)
    simpa [Kd.string, Kd.scalar] using this
  have h0 := hcell 0 xs[0] (List.getElem?_eq_getElem hn)
  rw [add_zero] at h0
  obtain ⟨b, o, s⟩ := ad
  have hs : s = none := cell_spot h0
  subst hs
  exact ⟨b, o, rfl, cell_lt h0, fun j y hj => by have := hcell j y hj; rwa [plain_add] at this⟩
theorem cell_below {w w' : World} {a : Addr} {v : Value} (hb : Below w.heap.size w w') (h : w.cell? a = some v) : w'.cell? a = some v := (hb.cell (cell_lt h)).trans h
theorem gate_tmp {P : Program} {ops : Array Oper} {rest : List Oper} {o : Oper} {a : Act} {Q : Exit → Act → World → Prop} {W : World} {t : Tmp} {ars : Array Operand} {ts : Array TypeId} (_ho : o.op = .call { callee := .value (.tmp t), args := ars, argTypes := ts })
    (h : wpList P ops Q (o :: rest) a W) : wpList P ops Q (o :: rest) a W := h
theorem goesLt_ {P : Program} {ops : Array Oper} {Q : Exit → Act → World → Prop} {rest : List Oper} {oi : Oper} {a : Act} {w : World} {t : Tmp} {f : FuncId} (ht : a.tmps.getD t undef = Value.func (.func f) #[] #[]) (N : Option Tmp) (hd : oi.dst = N) (hg : oi.guard = none) {fn : Func} {ars : Array Operand} {ts : Array TypeId}
    (hf : P.funcs[f]? = some fn) (hname : (fn.name == "runtime.NumGoroutine") = false) (hb : fn.body.isSome = true) (args : Array Value)
    (hop : oi.op = .call { callee := .value (.tmp t), args := ars, argTypes := ts }) (hargs : ars.map a.eval = args)
    (h : Calls P f args w fun e w' => ∃ v, e = .returned v ∧ wpList P ops Q rest (a.put N v) w') : wpList P ops Q (oi :: rest) a w := by
  refine wpList_plain hg fun K hK => ?_
  have he := Go.Proofs.YtefoiofododliaaDoorW.PrintLast.enters_ hf hname hb args w
  have hrun : (execOp a.eval oi).run P w = .ok (.enter f args) w := by
    unfold execOp
    have hv : a.eval (.tmp t) = Value.func (.func f) #[] #[] := ht
    simp [hop, resolve, Deferred.ofValue, invoke, hv, hargs, he]
  unfold Oper.wp
  rw [hrun, Oper.upon_enter]
  refine h.mono fun e w'' hh => ?_
  obtain ⟨v, rfl, hk⟩ := hh
  subst hd
  exact hK _ _ hk
end Go.Proofs.YtefoiofododliaaDoor.Ext

namespace Go.Proofs.YtefoiofododliaaDoor.Gl
open Go.RowKit Go.Proofs.YtefoiofododliaaDoorW.PrintWords Go.Proofs.YtefoiofododliaaDoor.Ext
structure GL (gF1 gF2 gF3 : Bool) (w : World) : Prop where
  mx : ∃ m, w.cell? ⟨0, 0, none⟩ = some (.int .i64 m)
theorem GL.below {gF1 gF2 gF3 : Bool} {w w' : World} (h : GL gF1 gF2 gF3 w) (hb : Below w.heap.size w w') : GL gF1 gF2 gF3 w' where
  mx := by obtain ⟨m, hm⟩ := h.mx; exact ⟨m, cell_below hb hm⟩
theorem GL.drawn {gF1 gF2 gF3 : Bool} {w w' : World} (h : GL gF1 gF2 gF3 w) (hd : Drawn0 w w') : GL gF1 gF2 gF3 w' := h.below hd.below
end Go.Proofs.YtefoiofododliaaDoor.Gl

namespace Go.Proofs.YtefoiofododliaaDoor.G
open Go.RowKit Go.Proofs.YtefoiofododliaaDoorW.PrintWords Go.Proofs.YtefoiofododliaaDoorW.PrintLast Go.Proofs.YtefoiofododliaaDoorW.PrintMore
open Go.Proofs.YtefoiofododliaaDoor.Gl Go.Proofs.YtefoiofododliaaDoor.Ext
attribute [local go_sem] max2_int min2_int max_two min_two max_three min_three max_four min_four   -- for this text's walks alone
set_option linter.unusedVariables false
set_option linter.unusedSimpArgs false

def errW : Option Int → Value
  | none => .nilIface
  | some c => .iface 0 (.int .i64 c)
theorem errW_none : errW none = .nilIface := rfl
theorem errW_some (c : Int) : errW (some c) = .iface 0 (.int .i64 c) := rfl

theorem info9 : (Tryd.prog.info? 9).map (fun i => (i.zero, i.size, i.bytes)) = some (some (.string ⟨#[]⟩), 1, 16) := by kernel_rfl
theorem info31 : (Tryd.prog.info? 31).map (fun i => (i.zero, i.size, i.bytes)) = some (some (.agg #[(.slice none 0 0), (.string ⟨#[]⟩), (.string ⟨#[]⟩), (.string ⟨#[]⟩)]), 4, 72) := by kernel_rfl
-- the values' own types
structure S31 where
  f0 : (List ByteArray)
  f1 : ByteArray
  f2 : ByteArray
  f3 : ByteArray
def z31 : S31 := ⟨([] : List ByteArray), (⟨#[]⟩ : ByteArray), (⟨#[]⟩ : ByteArray), (⟨#[]⟩ : ByteArray)⟩
def k31 : Kd S31 := Kd.iso (Kd.pair (Kd.slice 9 Kd.string) (Kd.pair Kd.string (Kd.pair Kd.string Kd.string))) (fun x : S31 => (x.f0, x.f1, x.f2, x.f3))
theorem k31_open {w : World} {x : S31} {cs : List Value} (h : k31.K w x cs) : ∃ A0 c0, cs = [.slice A0 x.f0.length c0, .string x.f1, .string x.f2, .string x.f3] ∧ x.f0.length ≤ c0 ∧ Kd.string.C w A0 x.f0.length x.f0 := by
  obtain ⟨_, _, rfl, ⟨A0, c0, rfl, l0, g0⟩, ⟨_, _, rfl, rfl, ⟨_, _, rfl, rfl, rfl⟩⟩⟩ := h
  exact ⟨A0, c0, rfl, l0, g0⟩
theorem k31_mkM (w : World) (base : Nat) (ok : Nat → Prop) (x : S31) {v0 : Value} (g0 : Kd.string.R 9 w base ok v0 x.f0) : k31.M w base ok x [v0, .string x.f1, .string x.f2, .string x.f3] := ⟨[v0], [.string x.f1, .string x.f2, .string x.f3], rfl, ⟨v0, rfl, g0⟩, ⟨[.string x.f1], [.string x.f2, .string x.f3], rfl, rfl, ⟨[.string x.f2], [.string x.f3], rfl, rfl, rfl⟩⟩⟩
def rd_T31 (xs : List S31) (i : Int) : S31 := xs.getD i.toNat z31
theorem at_T31 {w : World} {A : Option Addr} {n : Nat} {xs : List S31} (h : Kd.C k31 w A n xs) (i : Int) (h0 : 0 ≤ i) (h1 : i < n) : ∃ ad A0 c0, A = some ad ∧ w.cell? (ad.add (i.toNat * 4)) = some (.slice A0 (rd_T31 xs i).f0.length c0) ∧ w.cell? ⟨(ad.add (i.toNat * 4)).block, (ad.add (i.toNat * 4)).off + 1, none⟩ = some (.string (rd_T31 xs i).f1) ∧ w.cell? ⟨(ad.add (i.toNat * 4)).block, (ad.add (i.toNat * 4)).off + 2, none⟩ = some (.string (rd_T31 xs i).f2) ∧ w.cell? ⟨(ad.add (i.toNat * 4)).block, (ad.add (i.toNat * 4)).off + 3, none⟩ = some (.string (rd_T31 xs i).f3) ∧ (rd_T31 xs i).f0.length ≤ c0 ∧ Kd.string.C w A0 (rd_T31 xs i).f0.length (rd_T31 xs i).f0 := by
  obtain ⟨ad, c, e, _, hK, hc0⟩ := Kd.C_get h z31 i h0 h1
  have hc : ∀ j u, c[j]? = some u → w.cell? (ad.add (i.toNat * 4 + j)) = some u := hc0
  obtain ⟨A0, c0, rfl, l0, g0⟩ := k31_open hK
  exact ⟨ad, A0, c0, e, hc 0 _ rfl, by rw [← add_field _ _ 1 (by omega)]; exact hc 1 _ rfl, by rw [← add_field _ _ 2 (by omega)]; exact hc 2 _ rfl, by rw [← add_field _ _ 3 (by omega)]; exact hc 3 _ rfl, l0, g0⟩

theorem bcl {w w' : World} {a : Addr} {v : Value} (hb : Below w.heap.size w w') (h : w.cell? a = some v) : w'.cell? a = some v := (hb.cell (World.block_lt_of_cell? w _ h)).trans h
theorem bsz {w0 w : World} {g : Nat} (hg : g = w.heap.size) (hb : Below w0.heap.size w0 w) : w0.heap.size ≤ g := hg ▸ hb.size
theorem bne {w : World} {g g' : Nat} {o : Obj} (hg : g' = w.heap.size) (h : w.heap[g]? = some o) : g ≠ g' := hg ▸ Nat.ne_of_lt (blk_lt h)
theorem ben {w : World} {g g' : Nat} {o : Obj} (hg : g' = w.heap.size) (h : w.heap[g]? = some o) : g' ≠ g := hg ▸ Nat.ne_of_gt (blk_lt h)
theorem pu_ {P : Program} {ops : Array Oper} {Q : Exit → Act → World → Prop} {md : Region.Mode} {S : World → Prop} {ds : List Nat} (i : Nat) (N : Option Tmp) {oi : Oper} {v : Value} {fuel : Nat} {l : Array Bool} {a : Act} {w : World} (l' : Array Bool) {T : Bool × List (List Nat × List Nat)} (hT : rtab md ops = T) {a' : Act}
    (h : wpAnyLast P md ops Q S ds fuel l' a' w) (hi : ops[i]? = some oi := by rfl) (hN : oi.dst = N := by rfl) (hc : anyT T l.toList l'.toList i = true := by kernel_rfl)
    (hQ : ∀ c a w, Q (.panic c) (a.put oi.dst v) w → Q (.panic c) a w := by exact fun _ _ _ h => h) (hy : Yields P ops oi v a := by exact Or.inl ⟨by rfl, by intro w'; go_simp; with_reducible rfl⟩) (ha : a.put N v = a' := by simp only [Act.put, List.setIfInBounds_toArray, List.set_cons_zero, List.set_cons_succ, i64_w, i32_w]; rfl) :
    wpAnyLast P md ops Q S ds (fuel + 1) l a w := pure_ l' hi hN (any_of hT hc) hQ hy ha h
theorem no_ {P : Program} {ops : Array Oper} {Q : Exit → Act → World → Prop} {md : Region.Mode} {S : World → Prop} {ds : List Nat} (N : Option Tmp) {v : Value} {fuel : Nat} {l : Array Bool} {a a' : Act} {w : World} (h : wpAnyLast P md ops Q S ds fuel l a' w) (ha : a.put N v = a' := by simp only [Act.put, List.setIfInBounds_toArray, List.set_cons_zero, List.set_cons_succ, i64_w, i32_w]; rfl) :
    wpAnyLast P md ops Q S ds fuel l (a.put N v) w := norm_ ha h
theorem on_ {P : Program} {ops : Array Oper} {Q : Exit → Act → World → Prop} {md : Region.Mode} {S : World → Prop} {ds : List Nat} (i : Nat) (N : Option Tmp) {oi : Oper} {fuel : Nat} {l : Array Bool} {a : Act} {w : World} (l' : Array Bool) {T : Bool × List (List Nat × List Nat)} (hT : rtab md ops = T)
    (h : ∀ K : Act → World → Prop, Shut (∀ a' w', S w' → (S w' → wpAnyLast P md ops Q S ds fuel l' a' w') → K a' w') → if Region.wanted oi (yielded ops a.tmps) = true then Oper.wp P oi a w K Q else K (a.put N undef) w)
    (hi : ops[i]? = some oi := by rfl) (hN : oi.dst = N := by rfl) (hc : (readyT T.2 l.toList == [i] && l.toList.set i true == l'.toList) = true := by kernel_rfl) (hd : i ∉ ds := by decide) :
    wpAnyLast P md ops Q S ds (fuel + 1) l a w := one_ l' hi hN (one_of hT hc) hd h
theorem gs_ {P : Program} {ops : Array Oper} {Q : Exit → Act → World → Prop} {oi : Oper} {N : Option Tmp} {a : Act} {w : World} {K : Act → World → Prop} {f : FuncId} {fn : Func} {as_ : Array Operand} {ts : Array TypeId} (hf : P.funcs[f]? = some fn) (args : Array Value)
    (h : Calls P f args w fun e w' => ∃ v, e = .returned v ∧ K (a.put N v) w') (hname : (fn.name == "runtime.NumGoroutine") = false := by kernel_rfl) (hb : fn.body.isSome = true := by rfl)
    (hw : Region.wanted oi (yielded ops a.tmps) = true := by rfl) (hN : oi.dst = N := by rfl) (hop : oi.op = .call { callee := .value (.func f), args := as_, argTypes := ts } := by rfl)
    (hargs : as_.map a.eval = args := by (try simp only [List.map_toArray, List.map_cons, List.map_nil]); first | done | rfl | (simp only [List.length_drop, List.length_take]; rfl)) : if Region.wanted oi (yielded ops a.tmps) = true then Oper.wp P oi a w K Q else K (a.put N undef) w :=
  goes_ hf hname hb args hw hN hop hargs h
theorem blkc4 {w : World} {g : Nat} {t : TypeId} {a0 a1 a2 a3 : Value} (h : w.heap[g]? = some (.cells #[a0, a1, a2, a3] t (0, 0))) : w.cell? ⟨g, 0, none⟩ = some a0 ∧ w.cell? ⟨g, 1, none⟩ = some a1 ∧ w.cell? ⟨g, 2, none⟩ = some a2 ∧ w.cell? ⟨g, 3, none⟩ = some a3 ∧ w.frozen? ⟨g, 0, none⟩ = false ∧ w.frozen? ⟨g, 1, none⟩ = false ∧ w.frozen? ⟨g, 2, none⟩ = false ∧ w.frozen? ⟨g, 3, none⟩ = false := ⟨blk_cell h 0, blk_cell h 1, blk_cell h 2, blk_cell h 3, blk_frozen h 0, blk_frozen h 1, blk_frozen h 2, blk_frozen h 3⟩
theorem ta0_ {P : Program} {ops : Array Oper} {Q : Exit → Act → World → Prop} {md : Region.Mode} {S : World → Prop} {ds : List Nat} (i : Nat) (N : Option Tmp) {oi : Oper} {v : Value} {fuel : Nat} {l : Array Bool} {a : Act} {w : World} (l' : Array Bool) {T : Bool × List (List Nat × List Nat)} {B : List Nat} (hT : rtab md ops = T) (hB : waitsOk T.2 B = true) (hS : S w) {a' : Act}
    (h : wpAnyLast P md ops Q S ds fuel l' a' w) (hi : ops[i]? = some oi := by rfl) (hN : oi.dst = N := by rfl) (hc : takeW T B ds l.toList l'.toList i = true := by kernel_rfl)
    (hQ : ∀ c a w, Q (.panic c) (a.put oi.dst v) w → Q (.panic c) a w := by exact fun _ _ _ h => h) (hy : YieldsIf P ops S oi v a := by exact Or.inl ⟨by rfl, by rintro w' ⟨s0, s1, s2, s3, s4, s5, s6, s7⟩; go_simp; with_reducible rfl⟩) (ha : a.put N v = a' := by simp only [Act.put, List.setIfInBounds_toArray, List.set_cons_zero, List.set_cons_succ, i64_w, i32_w]; rfl) :
    wpAnyLast P md ops Q S ds (fuel + 1) l a w := take_ l' hi hN (take_ofW hT hB hc) hQ hy hS ha h
theorem ta1_ {P : Program} {ops : Array Oper} {Q : Exit → Act → World → Prop} {md : Region.Mode} {S : World → Prop} {ds : List Nat} (i : Nat) (N : Option Tmp) {oi : Oper} {v : Value} {fuel : Nat} {l : Array Bool} {a : Act} {w : World} (l' : Array Bool) {T : Bool × List (List Nat × List Nat)} {B : List Nat} (hT : rtab md ops = T) (hB : waitsOk T.2 B = true) (hS : S w) {a' : Act}
    (h : wpAnyLast P md ops Q S ds fuel l' a' w) (hi : ops[i]? = some oi := by rfl) (hN : oi.dst = N := by rfl) (hc : takeW T B ds l.toList l'.toList i = true := by kernel_rfl)
    (hQ : ∀ c a w, Q (.panic c) (a.put oi.dst v) w → Q (.panic c) a w := by exact fun _ _ _ h => h) (hy : YieldsIf P ops S oi v a := by exact Or.inl ⟨by rfl, by rintro w' ⟨s0, s1, s2, s3⟩; go_simp; with_reducible rfl⟩) (ha : a.put N v = a' := by simp only [Act.put, List.setIfInBounds_toArray, List.set_cons_zero, List.set_cons_succ, i64_w, i32_w]; rfl) :
    wpAnyLast P md ops Q S ds (fuel + 1) l a w := take_ l' hi hN (take_ofW hT hB hc) hQ hy hS ha h
theorem au0 {P : Prop} (h : P := by (with_reducible repeat (first | apply Kd.R_alloc | apply Kd.R_drewN | apply Kd.R_drew)); exact (Kd.R_mono (Kd.R_far (p := ⟨gb199, 3, none⟩) (Kd.R_far (p := ⟨gb199, 2, none⟩) (Kd.R_far (p := ⟨gb199, 1, none⟩) (Kd.R_far (p := ⟨gb199, 0, none⟩) (Kd.R_types HO194.out BK199.out (by decide)) (fun _ hk => hk.2) (.slice Ao38 t192.length co38)) (fun _ hk => hk.2) (.string t195)) (fun _ hk => hk.2) (.string t196)) (fun _ hk => hk.2) (.string t197)) (fun _ h_ => h_.1))) : P := h
theorem au1 {P : Prop} (h : P := by (with_reducible repeat (first | apply Kd.R_alloc | apply Kd.R_drewN | apply Kd.R_drew)); exact (Kd.R_mono (Kd.R_far (p := ⟨gb213, 3, none⟩) (Kd.R_far (p := ⟨gb213, 2, none⟩) (Kd.R_far (p := ⟨gb213, 1, none⟩) (Kd.R_far (p := ⟨gb213, 0, none⟩) (Kd.R_types HO208.out BK213.out (by decide)) (fun _ hk => hk.2) (.slice Ao56 t206.length co56)) (fun _ hk => hk.2) (.string t209)) (fun _ hk => hk.2) (.string t210)) (fun _ hk => hk.2) (.string t211)) (fun _ h_ => h_.1))) : P := h
theorem au2 {P : Prop} (h : P := by (with_reducible repeat (first | apply Kd.R_alloc | apply Kd.R_drewN | apply Kd.R_drew)); exact (Kd.R_mono (Kd.R_far (p := ⟨gb199, 3, none⟩) (Kd.R_far (p := ⟨gb199, 2, none⟩) (Kd.R_far (p := ⟨gb199, 1, none⟩) (Kd.R_far (p := ⟨gb199, 0, none⟩) (Kd.R_types HO_5.out BK199.out (by decide)) (fun _ hk => hk.2) (.slice Ao38 t192.length co38)) (fun _ hk => hk.2) (.string t195)) (fun _ hk => hk.2) (.string t196)) (fun _ hk => hk.2) (.string t197)) (fun _ h_ => h_.1))) : P := h
theorem au3 {P : Prop} (h : P := by (with_reducible repeat (first | apply Kd.R_alloc | apply Kd.R_drewN | apply Kd.R_drew)); exact (Kd.R_mono (Kd.R_far (p := ⟨gb213, 3, none⟩) (Kd.R_far (p := ⟨gb213, 2, none⟩) (Kd.R_far (p := ⟨gb213, 1, none⟩) (Kd.R_far (p := ⟨gb213, 0, none⟩) (Kd.R_types HO_5.out BK213.out (by decide)) (fun _ hk => hk.2) (.slice Ao56 t206.length co56)) (fun _ hk => hk.2) (.string t209)) (fun _ hk => hk.2) (.string t210)) (fun _ hk => hk.2) (.string t211)) (fun _ h_ => h_.1))) : P := h
theorem au4 {P : Prop} (h : P := by first | exact HG.out | (refine HG.out.drawn ?_; (repeat (first | exact Drawn0.refl _ | apply Drawn0.step)); done) | (refine HG.out.below ?_; (repeat (first | (with_reducible first | exact HB.out | apply below_alloc | apply pw_below_drewN | apply below_drew1 | refine below_set ?_ (by first | assumption | exact Aside0.out (by assumption))) | exact HB.out)); done)) : P := h
theorem au5 {P : Prop} (h : P := by first | exact Kd.own_blk (Kd.R_ne HO154.out BK161.out (by decide)) | (rw [add_block]; exact Kd.own_blk (Kd.R_ne HO154.out BK161.out (by decide))) | (show (Addr.add _ _).block ≠ _; rw [add_block]; exact Kd.own_blk (Kd.R_ne HO154.out BK161.out (by decide))) | (dsimp only; exact Kd.own_blk (Kd.R_ne HO154.out BK161.out (by decide)))) : P := h
theorem au6 {P : Prop} (h : P := by (with_reducible repeat (first | apply Kd.R_alloc | apply Kd.R_drewN | apply Kd.R_drew)); exact (Kd.R_mono (Kd.R_far (p := ⟨gb261, 1, none⟩) (Kd.R_types HO265.out BK261.out (by decide)) (fun _ hk => hk.2) (.string t271)) (fun _ h_ => h_.1))) : P := h
theorem au7 {P : Prop} (h : P := by repeat (first | (with_reducible first | exact HB.out | apply below_alloc | apply pw_below_drewN | apply below_drew1 | refine below_set ?_ GE147.out | refine below_set ?_ GE161.out) | exact HB.out)) : P := h
theorem au8 {P : Prop} (h : P := by repeat (first | (with_reducible first | exact HB.out | apply below_alloc | apply pw_below_drewN | apply below_drew1 | refine below_set ?_ GE254.out | refine below_set ?_ GE261.out) | exact HB.out)) : P := h
theorem au9 {P : Prop} (h : P := by repeat (first | (with_reducible exact HR159.out) | (with_reducible refine Kd.C_alloc ?_ _) | (with_reducible refine Kd.C_drewN ?_ _) | (with_reducible refine Kd.C_drew ?_) | exact HR159.out)) : P := h
theorem au10 {P : Prop} (h : P := by repeat (first | (with_reducible exact HR270.out) | (with_reducible refine Kd.C_alloc ?_ _) | (with_reducible refine Kd.C_drewN ?_ _) | (with_reducible refine Kd.C_drew ?_) | exact HR270.out)) : P := h
theorem au11 {P : Prop} (h : P := by (with_reducible repeat (first | apply Kd.S_alloc | apply Kd.S_drewN | apply Kd.S_drew)); exact Kd.S_mono HO_4.out (fun k_ hk => ⟨⟨hk.1, hk.2.2⟩, fun e_ => hk.2.1 e_⟩)) : P := h
theorem au12 {P : Prop} (h : P := by (try simp only [List.map_toArray, List.map_cons, List.map_nil]); first | done | (simp only [hji13]; rfl) | rfl | (simp only [List.length_drop, List.length_take]; rfl)) : P := h
theorem au13 {P : Prop} (h : P := by (try simp only [List.map_toArray, List.map_cons, List.map_nil]); first | done | (simp only [hji5]; rfl) | rfl | (simp only [List.length_drop, List.length_take]; rfl)) : P := h
theorem au14 {P : Prop} (h : P := by repeat (first | (with_reducible first | exact HB.out | apply below_alloc | apply pw_below_drewN | apply below_drew1 | refine below_set ?_ GE130.out) | exact HB.out)) : P := h
theorem au15 {P : Prop} (h : P := by repeat (first | (with_reducible first | exact HB.out | apply below_alloc | apply pw_below_drewN | apply below_drew1 | refine below_set ?_ GE141.out) | exact HB.out)) : P := h
theorem au16 {P : Prop} (h : P := by repeat (first | (with_reducible first | exact HB.out | apply below_alloc | apply pw_below_drewN | apply below_drew1 | refine below_set ?_ GE147.out) | exact HB.out)) : P := h
theorem au17 {P : Prop} (h : P := by repeat (first | (with_reducible first | exact HB.out | apply below_alloc | apply pw_below_drewN | apply below_drew1 | refine below_set ?_ GE199.out) | exact HB.out)) : P := h
theorem au18 {P : Prop} (h : P := by repeat (first | (with_reducible first | exact HB.out | apply below_alloc | apply pw_below_drewN | apply below_drew1 | refine below_set ?_ GE213.out) | exact HB.out)) : P := h
theorem au19 {P : Prop} (h : P := by repeat (first | (with_reducible first | exact HB.out | apply below_alloc | apply pw_below_drewN | apply below_drew1 | refine below_set ?_ GE243.out) | exact HB.out)) : P := h
theorem au20 {P : Prop} (h : P := by repeat (first | (with_reducible first | exact HB.out | apply below_alloc | apply pw_below_drewN | apply below_drew1 | refine below_set ?_ GE248.out) | exact HB.out)) : P := h
theorem au21 {P : Prop} (h : P := by repeat (first | (with_reducible first | exact HB.out | apply below_alloc | apply pw_below_drewN | apply below_drew1 | refine below_set ?_ GE254.out) | exact HB.out)) : P := h
theorem au22 {P : Prop} (h : P := by repeat (first | (with_reducible first | exact HB.out | apply below_alloc | apply pw_below_drewN | apply below_drew1 | refine below_set ?_ GE294.out) | exact HB.out)) : P := h
theorem au23 {P : Prop} (h : P := by repeat (first | (with_reducible first | exact HB.out | apply below_alloc | apply pw_below_drewN | apply below_drew1 | refine below_set ?_ GE304.out) | exact HB.out)) : P := h
theorem au24 {P : Prop} (h : P := by (try simp only [List.map_toArray, List.map_cons, List.map_nil]); first | done | rfl | (simp only [List.length_drop, List.length_take]; rfl)) : P := h
theorem au25 {P : Prop} (h : P := by (with_reducible repeat (first | apply Kd.R_alloc | apply Kd.R_drewN | apply Kd.R_drew)); exact Kd.R_mono HO150.out (fun _ hk => hk.2)) : P := h
theorem au26 {P : Prop} (h : P := by (with_reducible repeat (first | apply Kd.R_alloc | apply Kd.R_drewN | apply Kd.R_drew)); exact Kd.R_mono HO154.out (fun _ hk => hk.2)) : P := h
theorem au27 {P : Prop} (h : P := by repeat (first | (with_reducible first | exact HB.out | apply below_alloc | apply pw_below_drewN | apply below_drew1) | exact HB.out)) : P := h
theorem au28 {P : Prop} (h : P := by repeat (first | (with_reducible first | exact HK.out | apply Kept.alloc | apply Kept.drewN | apply Kept.drew) | exact HK.out)) : P := h
theorem au29 {P : Prop} (h : P := by first | (rw [add_block]; exact hn162_0) | (show (Addr.add _ _).block ≠ _; rw [add_block]; exact hn162_0) | exact hn162_0) : P := h
theorem au30 {P : Prop} (h : P := by first | (rw [add_block]; exact hn162_1) | (show (Addr.add _ _).block ≠ _; rw [add_block]; exact hn162_1) | exact hn162_1) : P := h
theorem au31 {P : Prop} (h : P := by first | (rw [add_block]; exact hn162_2) | (show (Addr.add _ _).block ≠ _; rw [add_block]; exact hn162_2) | exact hn162_2) : P := h
theorem au32 {P : Prop} (h : P := by first | (rw [add_block]; exact hn162_3) | (show (Addr.add _ _).block ≠ _; rw [add_block]; exact hn162_3) | exact hn162_3) : P := h
theorem au33 {P : Prop} (h : P := by first | (rw [add_block]; exact hn163_0) | (show (Addr.add _ _).block ≠ _; rw [add_block]; exact hn163_0) | exact hn163_0) : P := h
theorem au34 {P : Prop} (h : P := by first | (rw [add_block]; exact hn163_1) | (show (Addr.add _ _).block ≠ _; rw [add_block]; exact hn163_1) | exact hn163_1) : P := h
theorem au35 {P : Prop} (h : P := by first | (rw [add_block]; exact hn163_2) | (show (Addr.add _ _).block ≠ _; rw [add_block]; exact hn163_2) | exact hn163_2) : P := h
theorem au36 {P : Prop} (h : P := by first | (rw [add_block]; exact hn163_3) | (show (Addr.add _ _).block ≠ _; rw [add_block]; exact hn163_3) | exact hn163_3) : P := h
theorem au37 {P : Prop} (h : P := by first | (rw [add_block]; exact hn164_0) | (show (Addr.add _ _).block ≠ _; rw [add_block]; exact hn164_0) | exact hn164_0) : P := h
theorem au38 {P : Prop} (h : P := by first | (rw [add_block]; exact hn164_1) | (show (Addr.add _ _).block ≠ _; rw [add_block]; exact hn164_1) | exact hn164_1) : P := h
theorem au39 {P : Prop} (h : P := by first | (rw [add_block]; exact hn164_2) | (show (Addr.add _ _).block ≠ _; rw [add_block]; exact hn164_2) | exact hn164_2) : P := h
theorem au40 {P : Prop} (h : P := by first | (rw [add_block]; exact hn164_3) | (show (Addr.add _ _).block ≠ _; rw [add_block]; exact hn164_3) | exact hn164_3) : P := h
theorem au41 {P : Prop} (h : P := by first | (rw [add_block]; exact hn166_0) | (show (Addr.add _ _).block ≠ _; rw [add_block]; exact hn166_0) | exact hn166_0) : P := h
theorem au42 {P : Prop} (h : P := by first | (rw [add_block]; exact hn166_1) | (show (Addr.add _ _).block ≠ _; rw [add_block]; exact hn166_1) | exact hn166_1) : P := h
theorem au43 {P : Prop} (h : P := by first | (rw [add_block]; exact hn166_2) | (show (Addr.add _ _).block ≠ _; rw [add_block]; exact hn166_2) | exact hn166_2) : P := h
theorem au44 {P : Prop} (h : P := by first | (rw [add_block]; exact hn166_3) | (show (Addr.add _ _).block ≠ _; rw [add_block]; exact hn166_3) | exact hn166_3) : P := h
theorem au45 {P : Prop} (h : P := by (with_reducible repeat (first | refine blk_drewN ?_ _ | refine blk_drew ?_ | refine blk_alloc ?_ _)); exact BK130.out) : P := h
theorem au46 {P : Prop} (h : P := by (with_reducible repeat (first | refine blk_drewN ?_ _ | refine blk_drew ?_ | refine blk_alloc ?_ _)); exact BK141.out) : P := h
theorem au47 {P : Prop} (h : P := by (with_reducible repeat (first | refine blk_drewN ?_ _ | refine blk_drew ?_ | refine blk_alloc ?_ _)); exact BK147.out) : P := h
theorem au48 {P : Prop} (h : P := by (with_reducible repeat (first | refine blk_drewN ?_ _ | refine blk_drew ?_ | refine blk_alloc ?_ _)); exact BK161.out) : P := h
theorem au49 {P : Prop} (h : P := by (with_reducible repeat (first | refine blk_drewN ?_ _ | refine blk_drew ?_ | refine blk_alloc ?_ _)); exact BK199.out) : P := h
theorem au50 {P : Prop} (h : P := by (with_reducible repeat (first | refine blk_drewN ?_ _ | refine blk_drew ?_ | refine blk_alloc ?_ _)); exact BK213.out) : P := h
theorem au51 {P : Prop} (h : P := by (with_reducible repeat (first | refine blk_drewN ?_ _ | refine blk_drew ?_ | refine blk_alloc ?_ _)); exact BK243.out) : P := h
theorem au52 {P : Prop} (h : P := by (with_reducible repeat (first | refine blk_drewN ?_ _ | refine blk_drew ?_ | refine blk_alloc ?_ _)); exact BK248.out) : P := h
theorem au53 {P : Prop} (h : P := by (with_reducible repeat (first | refine blk_drewN ?_ _ | refine blk_drew ?_ | refine blk_alloc ?_ _)); exact BK254.out) : P := h
theorem au54 {P : Prop} (h : P := by (with_reducible repeat (first | refine blk_drewN ?_ _ | refine blk_drew ?_ | refine blk_alloc ?_ _)); exact BK261.out) : P := h
theorem au55 {P : Prop} (h : P := by (with_reducible repeat (first | refine blk_drewN ?_ _ | refine blk_drew ?_ | refine blk_alloc ?_ _)); exact BK294.out) : P := h
theorem au56 {P : Prop} (h : P := by (with_reducible repeat (first | refine blk_drewN ?_ _ | refine blk_drew ?_ | refine blk_alloc ?_ _)); exact BK304.out) : P := h
theorem au57 {P : Prop} (h : P := by (with_reducible repeat (first | apply Kd.R_alloc | apply Kd.R_drewN | apply Kd.R_drew)); exact HO_162000.out) : P := h
theorem au58 {P : Prop} (h : P := by (with_reducible repeat (first | apply Kd.R_alloc | apply Kd.R_drewN | apply Kd.R_drew)); exact HO_262000.out) : P := h
theorem au59 {P : Prop} (h : P := by (with_reducible repeat (first | apply Kd.R_alloc | apply Kd.R_drewN | apply Kd.R_drew)); exact HO150.out) : P := h
theorem au60 {P : Prop} (h : P := by (with_reducible repeat (first | apply Kd.R_alloc | apply Kd.R_drewN | apply Kd.R_drew)); exact HO154.out) : P := h
theorem au61 {P : Prop} (h : P := by (with_reducible repeat (first | apply Kd.R_alloc | apply Kd.R_drewN | apply Kd.R_drew)); exact HO194.out) : P := h
theorem au62 {P : Prop} (h : P := by (with_reducible repeat (first | apply Kd.R_alloc | apply Kd.R_drewN | apply Kd.R_drew)); exact HO208.out) : P := h
theorem au63 {P : Prop} (h : P := by (with_reducible repeat (first | apply Kd.R_alloc | apply Kd.R_drewN | apply Kd.R_drew)); exact HO260.out) : P := h
theorem au64 {P : Prop} (h : P := by (with_reducible repeat (first | apply Kd.R_alloc | apply Kd.R_drewN | apply Kd.R_drew)); exact HO_14.out) : P := h
theorem au65 {P : Prop} (h : P := by (with_reducible repeat (first | apply Kd.R_alloc | apply Kd.R_drewN | apply Kd.R_drew)); exact HO289.out) : P := h
theorem au66 {P : Prop} (h : P := by (with_reducible repeat (first | apply Kd.S_alloc | apply Kd.S_drewN | apply Kd.S_drew)); exact HO328.out) : P := h
theorem au67 {P : Prop} (h : P := by (with_reducible repeat (first | apply Kd.S_alloc | apply Kd.S_drewN | apply Kd.S_drew)); exact HO332.out) : P := h
theorem au68 {P : Prop} (h : P := by (with_reducible repeat (first | apply Kd.S_alloc | apply Kd.S_drewN | apply Kd.S_drew)); exact HO339.out) : P := h
theorem au69 {P : Prop} (h : P := by (with_reducible repeat (first | apply Kd.R_alloc | apply Kd.R_drewN | apply Kd.R_drew)); exact HO_5.out) : P := h
theorem au70 {P : Prop} (h : P := by (with_reducible repeat (first | apply Kd.R_alloc | apply Kd.R_drewN | apply Kd.R_drew)); exact HO_4.out) : P := h
theorem au71 {P : Prop} (h : P := by (with_reducible repeat (first | apply Kd.S_alloc | apply Kd.S_drewN | apply Kd.S_drew)); exact HO_4.out) : P := h
theorem au72 {P : Prop} (h : P := by (with_reducible repeat (first | apply Kd.S_alloc | apply Kd.S_drewN | apply Kd.S_drew)); exact HO_3.out) : P := h
theorem au73 {P : Prop} (h : P := by (with_reducible repeat (first | apply Kd.S_alloc | apply Kd.S_drewN | apply Kd.S_drew)); exact HO_5.out) : P := h
theorem au75 {P : Prop} (h : P := by first | (with_reducible assumption) | assumption) : P := h
theorem au76 {P : Prop} (h : P := by first | rfl | (simp; done) | (simp [*]; done)) : P := h
theorem ax0 {P : Prop} (h : P := by exact ⟨by first | rfl | (simp; done) | (simp [*]; done), by repeat (first | exact Drawn0.refl _ | apply Drawn0.step)⟩) : P := h
theorem ax1 {P : Prop} (h : P := by exact ⟨by first | rfl | (simp; done) | (simp only [← hji22] <;> (first | rfl | simp)) | (simp [*]; done), by repeat (first | exact Drawn0.refl _ | apply Drawn0.step)⟩) : P := h
theorem ax2 {P : Prop} (h : P := by exact ⟨by first | rfl | (simp [errW_none, errW_some] <;> rfl) | (simp [*, errW_none, errW_some] <;> rfl), by repeat (first | (with_reducible first | exact HB.out | apply below_alloc | apply pw_below_drewN | apply below_drew1) | exact HB.out)⟩) : P := h
theorem ax3 {P : Prop} (h : P := by exact ⟨by first | rfl | (simp [errW_none, errW_some] <;> rfl) | (simp [*, errW_none, errW_some] <;> rfl), by repeat (first | (with_reducible first | exact HB.out | apply below_alloc | apply pw_below_drewN | apply below_drew1 | refine below_set ?_ GE130.out) | exact HB.out)⟩) : P := h

/-! ### spec_l1Split: function 15 -/
def spec_l1Split.l0 : Nat → ByteArray → Int → List ByteArray → Int → Int → Option (List ByteArray)
 | 0, _, _, _, _, _ => none
 | k + 1, x0, x1, x5, x6, x7 => if x7 < (x0.size : Int) then (if 0 ≤ x7 then (if (bt x0 x7) = x1 then (if 0 ≤ x6 then (if x6 ≤ x7 then (if x7 ≤ (x0.size : Int) then (if x5.length < 8796093022208 then (spec_l1Split.l0 k x0 x1 (x5 ++ [x0.extract (x6 : Int).toNat (x7 : Int).toNat]) (wrap64 (x7 + 1)) (wrap64 (x7 + 1))) else (none)) else (none)) else (none)) else (none)) else (spec_l1Split.l0 k x0 x1 x5 x6 (wrap64 (x7 + 1)))) else (none)) else (if 0 ≤ x6 then (if x6 ≤ (x0.size : Int) then (if x5.length < 8796093022208 then (some (x5 ++ [x0.extract (x6 : Int).toNat x0.size])) else (none)) else (none)) else (none))
def spec_l1Split.f (k : Nat) (a0 : ByteArray) (a1 : Int) : Option (List ByteArray) := spec_l1Split.l0 k a0 a1 (([] : List ByteArray)) 0 0
theorem spec_l1Split.mono_l : ∀ k, (∀ y0 y1 y2 y3 y4, LeO (spec_l1Split.l0 k y0 y1 y2 y3 y4) (spec_l1Split.l0 (k + 1) y0 y1 y2 y3 y4))
 | 0 => fun _ _ _ _ _ r h => by simp [spec_l1Split.l0] at h
 | k + 1 => by
  have ih0 := spec_l1Split.mono_l k
  ·
   intro y0 y1 y2 y3 y4
   unfold spec_l1Split.l0
   repeat' first
   | (with_reducible exact ih0 _ _ _ _ _)
   | (with_reducible exact LeO.refl _)
   | (with_reducible exact LeO.none _)
   | (with_reducible refine LeO.ite ?_ ?_)
   | (with_reducible refine LeO.bind ?_ (fun _ => ?_))
   | exact ih0 _ _ _ _ _
   | exact LeO.none _
   | refine LeO.ite ?_ ?_
   | refine LeO.bind ?_ (fun _ => ?_)
theorem spec_l1Split.mono : ∀ a0 a1 k, LeO (spec_l1Split.f k a0 a1) (spec_l1Split.f (k + 1) a0 a1) := by
 intro a0 a1 k
 have ih0 := spec_l1Split.mono_l k
 unfold spec_l1Split.f
 repeat' first
   | (with_reducible exact ih0 _ _ _ _ _)
   | (with_reducible exact LeO.refl _)
   | (with_reducible exact LeO.none _)
   | (with_reducible refine LeO.ite ?_ ?_)
   | (with_reducible refine LeO.bind ?_ (fun _ => ?_))
   | exact ih0 _ _ _ _ _
   | exact LeO.none _
   | refine LeO.ite ?_ ?_
   | refine LeO.bind ?_ (fun _ => ?_)
set_option maxRecDepth 100000 in
theorem spec_l1Split.L0 {P : Prop} (h : P := by
  go_wp2_with (first | ((with_reducible refine gate_builtin (b := .append) (xs := #[.tmp 20, .tmp 25]) rfl ?_); at_builtin; refine Kd.R_append Kd.string (w0 := w) w.heap.size rfl (.tmp 20) (.tmp 25) 29 9 (.string ⟨#[]⟩) 16 rfl Tryd.underlying29 info9 rfl (by decide) (by omega) u5 x5_1 (a0.extract (x6_1 : Int).toNat (x7_1 : Int).toNat) [.string (a0.extract (x6_1 : Int).toNat (x7_1 : Int).toNat)] (fun _ => True) (fun _ => False) rfl rfl ?aP (fun _ hk => hk.elim) ?aF ?aO ?aB ?aS ?aL ?_; (case aP => exact rfl); (case aB => exact au27); (case aF => exact (fun _ _ => trivial)); (case aO => exact au69); (case aS => exact (below_size au27)); (case aL => have := LMc12.out; omega); intro v105 w13 ho hb hg hat; rw [← Ny104.out] at ho; have n0_ := Aside0.mk (hb); have n1_ := Aside0.mk (ho); clear HB; clear HO_5; have HB := n0_; have HO106 := n1_; clear n0_ n1_; clear ho hb hg hat))
  go_roundg k1
  case measure => have := HK1.out; omega
  case rel => first | (exact ⟨(y104), (wrap64 (x7_1 + 1)), (wrap64 (x7_1 + 1)), au76, au76, H', ⟨by have := HK1.out; omega⟩, ⟨by (with_reducible repeat (first | apply Kd.R_alloc | apply Kd.R_drewN | apply Kd.R_drew)); exact HO106.out⟩, ⟨by repeat (first | (with_reducible first | exact HB.out | apply below_alloc | apply pw_below_drewN | apply below_drew1) | exact HB.out)⟩⟩) | (exact ⟨(x5_1), (x6_1), (wrap64 (x7_1 + 1)), au76, au76, H', ⟨by have := HK1.out; omega⟩, ⟨by (with_reducible repeat (first | apply Kd.R_alloc | apply Kd.R_drewN | apply Kd.R_drew)); exact HO_5.out⟩, ⟨by repeat (first | (with_reducible first | exact HB.out | apply below_alloc | apply pw_below_drewN | apply below_drew1) | exact HB.out)⟩⟩)) : P := h
set_option maxHeartbeats 8000000 in
set_option maxRecDepth 100000 in
theorem spec_l1Split.calls (k : Nat) (a0 : ByteArray) (a1 : Int) (r : List ByteArray) (w : World) (h : spec_l1Split.f k a0 a1 = some r) :
  Calls Tryd.prog 15 #[.string a0, .int .u8 a1] w fun e w' => ∃ v0_ : Value, e = .returned (v0_) ∧ Kd.R Kd.string 9 w' w.heap.size (fun _ => True) v0_ r ∧ Below w.heap.size w w' := by
 have HB := Aside0.mk (Below.refl w.heap.size w)
 have H : (spec_l1Split.l0 k a0 a1 (([] : List ByteArray)) 0 0) = some r := h
 clear h
 obtain ⟨y101, hy101⟩ : ∃ y_ : List ByteArray, y_ = (([] : List ByteArray)) := ⟨_, rfl⟩
 replace H : (spec_l1Split.l0 k a0 a1 y101 0 0) = some r := by first | (rw [hy101]; with_reducible exact H) | (have H2_ := (Option.bind_some _ _).symm.trans H; rw [hy101]; with_reducible exact H2_) | (have H2_ := (Option.bind_some _ _).symm.trans H; with_reducible exact H2_) | with_reducible exact H | (rw [hy101]; exact H) | exact H
 have Ny101 := Aside0.mk hy101
 clear hy101
 have H' := Aside0.mk H
 clear H
 go_enter Tryd.func15, Tryd.ntmps15
 go_wp2_with (first | ((with_reducible refine gate_dst (N := 8) rfl ?_); refine Kd.R_lit Kd.string _ 9 ?hg (N := 8) ?hd (xs := ([] : List ByteArray)) (inner := []) (ok := fun _ => True) (okp := fun _ => True) ?hr ?hp (fun _ hk => hk) trivial (Below.refl _ _) (Nat.le_refl _) (by simp) ?_; (case hd => rfl); (case hg => rfl); (case hr => first | (go_simp; done) | (go_simp; rfl)); (case hp => exact (Reps.none _ _)); intro v102 w3 ho4 hb hg_ hnew_; clear hg_ hnew_; (first | rw [← Ny101.out] at ho4 | (simp only [Int.reduceToNat] at ho4; rw [← Ny101.out] at ho4)); have HO103 := Aside0.mk (Kd.R_lower ho4 (below_size au27)); replace HB := Aside0.mk (below_step au27 hb); clear hb ho4))
 go_loopg [5, 6, 7] k (fun kq v5 v6 v7 w' => ∃ (x5_1 : List ByteArray) (x6_1 : Int) (x7_1 : Int), v6 = .int .i64 x6_1 ∧ v7 = .int .i64 x7_1 ∧ Aside0 (spec_l1Split.l0 kq a0 a1 x5_1 x6_1 x7_1 = some r) ∧ Aside0 (kq ≤ k) ∧ Aside0 (Kd.R Kd.string 9 w' w.heap.size (fun _ => True) v5 x5_1) ∧ Aside0 (Below w.heap.size w w'))
 case atStart => exact ⟨(y101), (0), (0), au76, au76, H', ⟨Nat.le_refl _⟩, ⟨by (with_reducible repeat (first | apply Kd.R_alloc | apply Kd.R_drewN | apply Kd.R_drew)); exact HO103.out⟩, ⟨by repeat (first | (with_reducible first | exact HB.out | apply below_alloc | apply pw_below_drewN | apply below_drew1) | exact HB.out)⟩⟩
 case round =>
  clear H'
  try clear c1
  try clear p2
  obtain ⟨x5_1, x6_1, x7_1, rfl, rfl, HA, HK1, HO_5, HB⟩ := hrel
  cases gk with
  | zero => exact absurd HA.out (by simp [spec_l1Split.l0])
  | succ k1 =>
   have H := HA.out
   clear HA
   simp only [spec_l1Split.l0] at H
   by_cases c5 : x7_1 < (a0.size : Int)
   ·
    rw [if_pos c5] at H
    have c5b0 : decide (x7_1 < (a0.size : Int)) = true := decide_eq_true c5
    clear c5
    by_cases c6 : 0 ≤ x7_1
    ·
     rw [if_pos c6] at H
     have c6b0 : decide (0 ≤ x7_1) = true := decide_eq_true c6
     clear c6
     by_cases c8 : (bt a0 x7_1) = a1
     ·
      rw [if_pos c8] at H
      have c8b0 : ((bt a0 x7_1) == a1) = true := beq_iff_eq.mpr c8
      have c8b1 : ((bt a0 x7_1) != a1) = false := bne_eq_false_iff_eq.mpr c8
      clear c8
      by_cases c9 : 0 ≤ x6_1
      ·
       rw [if_pos c9] at H
       have c9b0 := eq_true c9
       have c9b1 : decide (0 ≤ x6_1) = true := decide_eq_true c9
       clear c9
       by_cases c10 : x6_1 ≤ x7_1
       ·
        rw [if_pos c10] at H
        have c10b0 := eq_true c10
        have c10b1 : decide (x6_1 ≤ x7_1) = true := decide_eq_true c10
        clear c10
        by_cases c11 : x7_1 ≤ (a0.size : Int)
        ·
         rw [if_pos c11] at H
         have c11b0 := eq_true c11
         have c11b1 : decide (x7_1 ≤ (a0.size : Int)) = true := decide_eq_true c11
         clear c11
         by_cases c12 : x5_1.length < 8796093022208
         ·
          rw [if_pos c12] at H
          have LMc12 := Aside0.mk c12
          clear c12
          obtain ⟨y104, hy104⟩ : ∃ y_ : List ByteArray, y_ = (x5_1 ++ [a0.extract (x6_1 : Int).toNat (x7_1 : Int).toNat]) := ⟨_, rfl⟩
          replace H : (spec_l1Split.l0 k1 a0 a1 y104 (wrap64 (x7_1 + 1)) (wrap64 (x7_1 + 1))) = some r := by first | (rw [hy104]; with_reducible exact H) | (have H2_ := (Option.bind_some _ _).symm.trans H; rw [hy104]; with_reducible exact H2_) | (have H2_ := (Option.bind_some _ _).symm.trans H; with_reducible exact H2_) | with_reducible exact H | (rw [hy104]; exact H) | exact H
          have Ny104 := Aside0.mk hy104
          clear hy104
          have H' := Aside0.mk H
          clear H
          have p7 : 0 ≤ (x7_1 : Int) := of_decide_eq_true au75
          have q7 : x7_1 < (a0.size : Int) := of_decide_eq_true au75
          have hx7 := bt_at a0 x7_1
          replace p7 := eq_true p7
          replace q7 := eq_true q7
          exact spec_l1Split.L0
         ·
          rw [if_neg c12] at H
          exact absurd H (by simp)
        ·
         rw [if_neg c11] at H
         exact absurd H (by simp)
       ·
        rw [if_neg c10] at H
        exact absurd H (by simp)
      ·
       rw [if_neg c9] at H
       exact absurd H (by simp)
     ·
      rw [if_neg c8] at H
      have c8b0 : ((bt a0 x7_1) == a1) = false := beq_eq_false_iff_ne.mpr c8
      have c8b1 : ((bt a0 x7_1) != a1) = true := bne_iff_ne.mpr c8
      have H' := Aside0.mk H
      clear H
      have p7 : 0 ≤ (x7_1 : Int) := of_decide_eq_true au75
      have q7 : x7_1 < (a0.size : Int) := of_decide_eq_true au75
      have hx7 := bt_at a0 x7_1
      replace p7 := eq_true p7
      replace q7 := eq_true q7
      exact spec_l1Split.L0
    ·
     rw [if_neg c6] at H
     exact absurd H (by simp)
   ·
    rw [if_neg c5] at H
    have c5b0 : decide (x7_1 < (a0.size : Int)) = false := decide_eq_false c5
    clear c5
    by_cases c14 : 0 ≤ x6_1
    ·
     rw [if_pos c14] at H
     have c14b0 := eq_true c14
     have c14b1 : decide (0 ≤ x6_1) = true := decide_eq_true c14
     clear c14
     by_cases c15 : x6_1 ≤ (a0.size : Int)
     ·
      rw [if_pos c15] at H
      have c15b0 := eq_true c15
      have c15b1 : decide (x6_1 ≤ (a0.size : Int)) = true := decide_eq_true c15
      clear c15
      by_cases c16 : x5_1.length < 8796093022208
      ·
       rw [if_pos c16] at H
       have LMc16 := Aside0.mk c16
       clear c16
       obtain ⟨y107, hy107⟩ : ∃ y_ : List ByteArray, y_ = (x5_1 ++ [a0.extract (x6_1 : Int).toNat a0.size]) := ⟨_, rfl⟩
       replace H : (some y107) = some r := by first | (rw [hy107]; with_reducible exact H) | (have H2_ := (Option.bind_some _ _).symm.trans H; rw [hy107]; with_reducible exact H2_) | (have H2_ := (Option.bind_some _ _).symm.trans H; with_reducible exact H2_) | with_reducible exact H | (rw [hy107]; exact H) | exact H
       have Ny107 := Aside0.mk hy107
       clear hy107
       obtain rfl := Option.some.inj H
       go_wp2_with (first | ((with_reducible refine gate_builtin (b := .append) (xs := #[.tmp 29, .tmp 33]) rfl ?_); at_builtin; refine Kd.R_append Kd.string (w0 := w) w.heap.size rfl (.tmp 29) (.tmp 33) 29 9 (.string ⟨#[]⟩) 16 rfl Tryd.underlying29 info9 rfl (by decide) (by omega) u5 x5_1 (a0.extract (x6_1 : Int).toNat a0.size) [.string (a0.extract (x6_1 : Int).toNat a0.size)] (fun _ => True) (fun _ => False) rfl rfl ?aP (fun _ hk => hk.elim) ?aF ?aO ?aB ?aS ?aL ?_; (case aP => exact rfl); (case aB => exact au27); (case aF => exact (fun _ _ => trivial)); (case aO => exact au69); (case aS => exact (below_size au27)); (case aL => have := LMc16.out; omega); intro v108 w17 ho hb hg hat; rw [← Ny107.out] at ho; have n0_ := Aside0.mk (hb); have n1_ := Aside0.mk (ho); clear HB; clear HO_5; have HB := n0_; have HO109 := n1_; clear n0_ n1_; clear ho hb hg hat))
       go_ret
       exact ⟨_, by first | rfl | (simp [errW_none, errW_some] <;> rfl) | (simp [*, errW_none, errW_some] <;> rfl), by (with_reducible repeat (first | apply Kd.R_alloc | apply Kd.R_drewN | apply Kd.R_drew)); exact HO109.out, by repeat (first | (with_reducible first | exact HB.out | apply below_alloc | apply pw_below_drewN | apply below_drew1) | exact HB.out)⟩
      ·
       rw [if_neg c16] at H
       exact absurd H (by simp)
     ·
      rw [if_neg c15] at H
      exact absurd H (by simp)
    ·
     rw [if_neg c14] at H
     exact absurd H (by simp)


/-! ### spec_l2Join: function 21 -/
def spec_l2Join.l0 : Nat → List ByteArray → ByteArray → Int → Option (ByteArray)
 | 0, _, _, _ => none
 | k + 1, x0, x3, x4 => if x4 < (x0.length : Int) then (if x3.toList = ([] : List UInt8) then (if 0 ≤ x4 then (if x3.size + (rdOf ByteArray.empty x0 x4).size ≤ 9223372036854775807 then (spec_l2Join.l0 k x0 (x3 ++ (rdOf ByteArray.empty x0 x4)) (wrap64 (x4 + 1))) else (none)) else (none)) else (if 0 ≤ x4 then (if (rdOf ByteArray.empty x0 x4).toList = ([] : List UInt8) then (if x3.size + (rdOf ByteArray.empty x0 x4).size ≤ 9223372036854775807 then (spec_l2Join.l0 k x0 (x3 ++ (rdOf ByteArray.empty x0 x4)) (wrap64 (x4 + 1))) else (none)) else (if x3.size + 1 ≤ 9223372036854775807 then (if (x3 ++ (⟨#[32]⟩ : ByteArray)).size + (rdOf ByteArray.empty x0 x4).size ≤ 9223372036854775807 then (spec_l2Join.l0 k x0 ((x3 ++ (⟨#[32]⟩ : ByteArray)) ++ (rdOf ByteArray.empty x0 x4)) (wrap64 (x4 + 1))) else (none)) else (none))) else (none))) else (some x3)
def spec_l2Join.f (k : Nat) (l0 : List ByteArray) : Option (ByteArray) := spec_l2Join.l0 k l0 (⟨#[]⟩ : ByteArray) 0
theorem spec_l2Join.mono_l : ∀ k, (∀ y0 y1 y2, LeO (spec_l2Join.l0 k y0 y1 y2) (spec_l2Join.l0 (k + 1) y0 y1 y2))
 | 0 => fun _ _ _ r h => by simp [spec_l2Join.l0] at h
 | k + 1 => by
  have ih0 := spec_l2Join.mono_l k
  ·
   intro y0 y1 y2
   unfold spec_l2Join.l0
   repeat' first
   | (with_reducible exact ih0 _ _ _)
   | (with_reducible exact LeO.refl _)
   | (with_reducible exact LeO.none _)
   | (with_reducible refine LeO.ite ?_ ?_)
   | (with_reducible refine LeO.bind ?_ (fun _ => ?_))
   | exact ih0 _ _ _
   | exact LeO.none _
   | refine LeO.ite ?_ ?_
   | refine LeO.bind ?_ (fun _ => ?_)
theorem spec_l2Join.mono : ∀ a0 k, LeO (spec_l2Join.f k a0) (spec_l2Join.f (k + 1) a0) := by
 intro a0 k
 have ih0 := spec_l2Join.mono_l k
 unfold spec_l2Join.f
 repeat' first
   | (with_reducible exact ih0 _ _ _)
   | (with_reducible exact LeO.refl _)
   | (with_reducible exact LeO.none _)
   | (with_reducible refine LeO.ite ?_ ?_)
   | (with_reducible refine LeO.bind ?_ (fun _ => ?_))
   | exact ih0 _ _ _
   | exact LeO.none _
   | refine LeO.ite ?_ ?_
   | refine LeO.bind ?_ (fun _ => ?_)
set_option maxHeartbeats 8000000 in
set_option maxRecDepth 100000 in
theorem spec_l2Join.calls (k : Nat) (A0 : Option Addr) (c0 : Nat) (l0 : List ByteArray) (r : ByteArray) (w : World) (hr0 : Kd.C Kd.string w A0 l0.length l0) (hc0 : l0.length ≤ c0) (h : spec_l2Join.f k l0 = some r) :
  Calls Tryd.prog 21 #[.slice A0 l0.length c0] w fun e w' => e = .returned (.string r) ∧ Drawn0 w w' := by
 have HR0 := Aside0.mk hr0
 have HC0 := Aside0.mk hc0
 clear hr0 hc0
 have H : (spec_l2Join.l0 k l0 (⟨#[]⟩ : ByteArray) 0) = some r := h
 clear h
 have H' := Aside0.mk H
 clear H
 go_enter Tryd.func21, Tryd.ntmps21
 go_wp2
 go_loopg [3, 4] k (fun kq v3 v4 w' => ∃ (x3_1 : ByteArray) (x4_1 : Int), v3 = .string x3_1 ∧ v4 = .int .i64 x4_1 ∧ Aside0 (spec_l2Join.l0 kq l0 x3_1 x4_1 = some r) ∧ Aside0 (kq ≤ k) ∧ Drawn0 w w')
 case atStart => exact ⟨((⟨#[]⟩ : ByteArray)), (0), au76, au76, H', ⟨Nat.le_refl _⟩, by repeat (first | exact Drawn0.refl _ | apply Drawn0.step)⟩
 case round =>
  clear H'
  obtain ⟨x3_1, x4_1, rfl, rfl, HA, HK1, ⟨m1, rfl⟩⟩ := hrel
  cases gk with
  | zero => exact absurd HA.out (by simp [spec_l2Join.l0])
  | succ k1 =>
   have H := HA.out
   clear HA
   simp only [spec_l2Join.l0] at H
   by_cases c2 : x4_1 < (l0.length : Int)
   ·
    rw [if_pos c2] at H
    have c2b0 : decide (x4_1 < (l0.length : Int)) = true := decide_eq_true c2
    clear c2
    by_cases c3 : x3_1.toList = ([] : List UInt8)
    ·
     rw [if_pos c3] at H
     have c3b0 : (x3_1.toList == ([] : List UInt8)) = true := beq_iff_eq.mpr c3
     have c3b1 : (x3_1.toList != ([] : List UInt8)) = false := bne_eq_false_iff_eq.mpr c3
     clear c3
     by_cases c4 : 0 ≤ x4_1
     ·
      rw [if_pos c4] at H
      have c4b0 : decide (0 ≤ x4_1) = true := decide_eq_true c4
      clear c4
      by_cases c5 : x3_1.size + (rdOf ByteArray.empty l0 x4_1).size ≤ 9223372036854775807
      ·
       rw [if_pos c5] at H
       have c5b0 := eq_true c5
       have c5b1 : decide (x3_1.size + (rdOf ByteArray.empty l0 x4_1).size ≤ 9223372036854775807) = true := decide_eq_true c5
       try have c5b2 : (9223372036854775807 < x3_1.size + (rdOf ByteArray.empty l0 x4_1).size) = False := eq_false (Nat.not_lt.2 c5)
       have H' := Aside0.mk H
       clear H
       have p110 : 0 ≤ (x4_1 : Int) := of_decide_eq_true au75
       have q110 : x4_1 < (l0.length : Int) := of_decide_eq_true au75
       obtain ⟨ad110, e110, hx110_0⟩ := Kd.at_string HR0.out x4_1 p110 q110
       cases e110
       replace p110 := eq_true p110
       replace q110 := eq_true q110
       go_wp2
       go_roundg k1
       case measure => have := HK1.out; omega
       case rel => exact ⟨(x3_1 ++ (rdOf ByteArray.empty l0 x4_1)), (wrap64 (x4_1 + 1)), au76, au76, H', ⟨by have := HK1.out; omega⟩, by repeat (first | exact Drawn0.refl _ | apply Drawn0.step)⟩
      ·
       rw [if_neg c5] at H
       exact absurd H (by simp)
     ·
      rw [if_neg c4] at H
      exact absurd H (by simp)
    ·
     rw [if_neg c3] at H
     have c3b0 : (x3_1.toList == ([] : List UInt8)) = false := beq_eq_false_iff_ne.mpr c3
     have c3b1 : (x3_1.toList != ([] : List UInt8)) = true := bne_iff_ne.mpr c3
     by_cases c6 : 0 ≤ x4_1
     ·
      rw [if_pos c6] at H
      have c6b0 : decide (0 ≤ x4_1) = true := decide_eq_true c6
      clear c6
      by_cases c7 : (rdOf ByteArray.empty l0 x4_1).toList = ([] : List UInt8)
      ·
       rw [if_pos c7] at H
       have c7b0 : ((rdOf ByteArray.empty l0 x4_1).toList == ([] : List UInt8)) = true := beq_iff_eq.mpr c7
       have c7b1 : ((rdOf ByteArray.empty l0 x4_1).toList != ([] : List UInt8)) = false := bne_eq_false_iff_eq.mpr c7
       clear c7
       by_cases c8 : x3_1.size + (rdOf ByteArray.empty l0 x4_1).size ≤ 9223372036854775807
       ·
        rw [if_pos c8] at H
        have c8b0 := eq_true c8
        have c8b1 : decide (x3_1.size + (rdOf ByteArray.empty l0 x4_1).size ≤ 9223372036854775807) = true := decide_eq_true c8
        try have c8b2 : (9223372036854775807 < x3_1.size + (rdOf ByteArray.empty l0 x4_1).size) = False := eq_false (Nat.not_lt.2 c8)
        have H' := Aside0.mk H
        clear H
        have p111 : 0 ≤ (x4_1 : Int) := of_decide_eq_true au75
        have q111 : x4_1 < (l0.length : Int) := of_decide_eq_true au75
        obtain ⟨ad111, e111, hx111_0⟩ := Kd.at_string HR0.out x4_1 p111 q111
        cases e111
        replace p111 := eq_true p111
        replace q111 := eq_true q111
        have p112 : 0 ≤ (x4_1 : Int) := of_decide_eq_true au75
        have q112 : x4_1 < (l0.length : Int) := of_decide_eq_true au75
        obtain ⟨ad112, e112, hx112_0⟩ := Kd.at_string HR0.out x4_1 p112 q112
        obtain rfl : ad111 = ad112 := (by injection e112)
        replace p112 := eq_true p112
        replace q112 := eq_true q112
        go_wp2
        go_roundg k1
        case measure => have := HK1.out; omega
        case rel => exact ⟨(x3_1 ++ (rdOf ByteArray.empty l0 x4_1)), (wrap64 (x4_1 + 1)), au76, au76, H', ⟨by have := HK1.out; omega⟩, by repeat (first | exact Drawn0.refl _ | apply Drawn0.step)⟩
       ·
        rw [if_neg c8] at H
        exact absurd H (by simp)
      ·
       rw [if_neg c7] at H
       have c7b0 : ((rdOf ByteArray.empty l0 x4_1).toList == ([] : List UInt8)) = false := beq_eq_false_iff_ne.mpr c7
       have c7b1 : ((rdOf ByteArray.empty l0 x4_1).toList != ([] : List UInt8)) = true := bne_iff_ne.mpr c7
       by_cases c9 : x3_1.size + 1 ≤ 9223372036854775807
       ·
        rw [if_pos c9] at H
        have c9b0 := eq_true c9
        have c9b1 : decide (x3_1.size + 1 ≤ 9223372036854775807) = true := decide_eq_true c9
        try have c9b2 : (9223372036854775807 < x3_1.size + 1) = False := eq_false (Nat.not_lt.2 c9)
        by_cases c10 : (x3_1 ++ (⟨#[32]⟩ : ByteArray)).size + (rdOf ByteArray.empty l0 x4_1).size ≤ 9223372036854775807
        ·
         rw [if_pos c10] at H
         have c10b0 := eq_true c10
         have c10b1 : decide ((x3_1 ++ (⟨#[32]⟩ : ByteArray)).size + (rdOf ByteArray.empty l0 x4_1).size ≤ 9223372036854775807) = true := decide_eq_true c10
         try have c10b2 : (9223372036854775807 < (x3_1 ++ (⟨#[32]⟩ : ByteArray)).size + (rdOf ByteArray.empty l0 x4_1).size) = False := eq_false (Nat.not_lt.2 c10)
         try have c10x : (9223372036854775807 < x3_1.size + 1 + (rdOf ByteArray.empty l0 x4_1).size) = False := eq_false (by have z_ := c10; simp only [ByteArray.size_append] at z_; have hl0_ : (⟨#[32]⟩ : ByteArray).size = 1 := rfl; omega)
         have H' := Aside0.mk H
         clear H
         have p111 : 0 ≤ (x4_1 : Int) := of_decide_eq_true au75
         have q111 : x4_1 < (l0.length : Int) := of_decide_eq_true au75
         obtain ⟨ad111, e111, hx111_0⟩ := Kd.at_string HR0.out x4_1 p111 q111
         cases e111
         replace p111 := eq_true p111
         replace q111 := eq_true q111
         have p113 : 0 ≤ (x4_1 : Int) := of_decide_eq_true au75
         have q113 : x4_1 < (l0.length : Int) := of_decide_eq_true au75
         obtain ⟨ad113, e113, hx113_0⟩ := Kd.at_string HR0.out x4_1 p113 q113
         obtain rfl : ad111 = ad113 := (by injection e113)
         replace p113 := eq_true p113
         replace q113 := eq_true q113
         go_wp2
         go_roundg k1
         case measure => have := HK1.out; omega
         case rel => exact ⟨((x3_1 ++ (⟨#[32]⟩ : ByteArray)) ++ (rdOf ByteArray.empty l0 x4_1)), (wrap64 (x4_1 + 1)), au76, au76, H', ⟨by have := HK1.out; omega⟩, by repeat (first | exact Drawn0.refl _ | apply Drawn0.step)⟩
        ·
         rw [if_neg c10] at H
         exact absurd H (by simp)
       ·
        rw [if_neg c9] at H
        exact absurd H (by simp)
     ·
      rw [if_neg c6] at H
      exact absurd H (by simp)
   ·
    rw [if_neg c2] at H
    have c2b0 : decide (x4_1 < (l0.length : Int)) = false := decide_eq_false c2
    clear c2
    obtain rfl := Option.some.inj H
    go_wp2
    go_ret
    exact ax0


/-! ### spec_l1In: function 44 -/
def spec_l1In.f (a0 : Int) (a1 : Int) (a2 : Int) : Option (Bool) := if a0 ≥ a1 then (some (decide (a0 ≤ a2))) else (some false)
set_option maxHeartbeats 8000000 in
set_option maxRecDepth 100000 in
theorem spec_l1In.calls (a0 : Int) (a1 : Int) (a2 : Int) (r : Bool) (w : World) (h : spec_l1In.f a0 a1 a2 = some r) :
  Calls Tryd.prog 44 #[.int .i64 a0, .int .i64 a1, .int .i64 a2] w fun e w' => e = .returned (.bool r) ∧ Drawn0 w w' := by
 have H : (if a0 ≥ a1 then (some (decide (a0 ≤ a2))) else (some false)) = some r := h
 clear h
 by_cases c4 : a0 ≥ a1
 ·
  rw [if_pos c4] at H
  have c4b0 : decide (a1 ≤ a0) = true := decide_eq_true c4
  clear c4
  obtain rfl := Option.some.inj H
  go_enter Tryd.func44, Tryd.ntmps44
  go_wp2
  go_ret
  exact ax0
 ·
  rw [if_neg c4] at H
  have c4b0 : decide (a1 ≤ a0) = false := decide_eq_false c4
  clear c4
  obtain rfl := Option.some.inj H
  go_enter Tryd.func44, Tryd.ntmps44
  go_wp2
  go_ret
  exact ax0


/-! ### spec_l2Upper: function 29 -/
def spec_l2Upper.f (a0 : Int) : Option (Bool) := if a0 ≥ 65 then (some (decide (a0 ≤ 90))) else (some false)
set_option maxHeartbeats 8000000 in
set_option maxRecDepth 100000 in
theorem spec_l2Upper.calls (a0 : Int) (r : Bool) (w : World) (h : spec_l2Upper.f a0 = some r) :
  Calls Tryd.prog 29 #[.int .u8 a0] w fun e w' => e = .returned (.bool r) ∧ Drawn0 w w' := by
 have H : (if a0 ≥ 65 then (some (decide (a0 ≤ 90))) else (some false)) = some r := h
 clear h
 by_cases c2 : a0 ≥ 65
 ·
  rw [if_pos c2] at H
  have c2b0 : decide (65 ≤ a0) = true := decide_eq_true c2
  clear c2
  obtain rfl := Option.some.inj H
  go_enter Tryd.func29, Tryd.ntmps29
  go_wp2
  go_ret
  exact ax0
 ·
  rw [if_neg c2] at H
  have c2b0 : decide (65 ≤ a0) = false := decide_eq_false c2
  clear c2
  obtain rfl := Option.some.inj H
  go_enter Tryd.func29, Tryd.ntmps29
  go_wp2
  go_ret
  exact ax0


/-! ### spec_l2Lower: function 46 -/
def spec_l2Lower.f (a0 : Int) : Option (Bool) := if a0 ≥ 97 then (some (decide (a0 ≤ 122))) else (some false)
set_option maxHeartbeats 8000000 in
set_option maxRecDepth 100000 in
theorem spec_l2Lower.calls (a0 : Int) (r : Bool) (w : World) (h : spec_l2Lower.f a0 = some r) :
  Calls Tryd.prog 46 #[.int .u8 a0] w fun e w' => e = .returned (.bool r) ∧ Drawn0 w w' := by
 have H : (if a0 ≥ 97 then (some (decide (a0 ≤ 122))) else (some false)) = some r := h
 clear h
 by_cases c2 : a0 ≥ 97
 ·
  rw [if_pos c2] at H
  have c2b0 : decide (97 ≤ a0) = true := decide_eq_true c2
  clear c2
  obtain rfl := Option.some.inj H
  go_enter Tryd.func46, Tryd.ntmps46
  go_wp2
  go_ret
  exact ax0
 ·
  rw [if_neg c2] at H
  have c2b0 : decide (97 ≤ a0) = false := decide_eq_false c2
  clear c2
  obtain rfl := Option.some.inj H
  go_enter Tryd.func46, Tryd.ntmps46
  go_wp2
  go_ret
  exact ax0


/-! ### spec_l2Letter: function 45 -/
def spec_l2Letter.f (a0 : Int) : Option (Bool) := (spec_l2Upper.f a0).bind fun t114 => (if t114 = true then (some true) else ((spec_l2Lower.f a0).bind fun t115 => (some t115)))
set_option maxHeartbeats 8000000 in
set_option maxRecDepth 100000 in
theorem spec_l2Letter.calls (a0 : Int) (r : Bool) (w : World) (h : spec_l2Letter.f a0 = some r) :
  Calls Tryd.prog 45 #[.int .u8 a0] w fun e w' => e = .returned (.bool r) ∧ Drawn0 w w' := by
 have H : ((spec_l2Upper.f a0).bind fun t114 => (if t114 = true then (some true) else ((spec_l2Lower.f a0).bind fun t115 => (some t115)))) = some r := h
 clear h
 replace H := Option.bind_eq_some_iff.mp H
 obtain ⟨t114, A20, H⟩ := H
 try dsimp only at H
 have A2 := Aside0.mk A20
 clear A20
 by_cases c3 : t114 = true
 ·
  subst c3
  replace H := (if_pos rfl).symm.trans H
  obtain rfl := Option.some.inj H
  go_enter Tryd.func45, Tryd.ntmps45
  go_wp2_with (first | ((with_reducible refine gate_callee (f := 29) rfl ?_); refine goesL_ (some 4) rfl rfl Tryd.func29 (by kernel_rfl) rfl #[.int .u8 a0] rfl au24 ?_; (with_reducible refine (spec_l2Upper.calls a0 true _ A2.out).mono ?_); rintro e w' ⟨rfl, ⟨nd, rfl⟩⟩; refine ⟨_, rfl, ?_⟩))
  go_ret
  exact ax0
 ·
  replace c3 := Bool.eq_false_iff.mpr c3
  subst c3
  replace H := (if_neg (show ¬ (false = true) by decide)).symm.trans H
  replace H := Option.bind_eq_some_iff.mp H
  obtain ⟨t115, A40, H⟩ := H
  try dsimp only at H
  have A4 := Aside0.mk A40
  clear A40
  obtain rfl := Option.some.inj H
  go_enter Tryd.func45, Tryd.ntmps45
  go_wp2_with (first | ((with_reducible refine gate_callee (f := 29) rfl ?_); refine goesL_ (some 4) rfl rfl Tryd.func29 (by kernel_rfl) rfl #[.int .u8 a0] rfl au24 ?_; (with_reducible refine (spec_l2Upper.calls a0 false _ A2.out).mono ?_); rintro e w' ⟨rfl, ⟨nd, rfl⟩⟩; refine ⟨_, rfl, ?_⟩) | (go_at_call 46; (with_reducible refine (spec_l2Lower.calls a0 t115 _ A4.out).mono ?_); rintro e w' ⟨rfl, ⟨nd, rfl⟩⟩))
  go_ret
  exact ax0


/-! ### spec_l2Word: function 28 -/
mutual
def spec_l2Word.j0 : Nat → ByteArray → Bool → Option (Bool)
 | 0, _, _ => none
 | k + 1, x0, x22 => if x22 = true then (some false) else (spec_l2Word.l0 k x0 1)
def spec_l2Word.l0 : Nat → ByteArray → Int → Option (Bool)
 | 0, _, _ => none
 | k + 1, x0, x3 => if x3 < (x0.size : Int) then (if 0 ≤ x3 then ((spec_l2Letter.f (bt x0 x3)).bind fun t119 => (if t119 = true then (spec_l2Word.l0 k x0 (wrap64 (x3 + 1))) else (if (bt x0 x3) = 45 then (if 0 ≤ (wrap64 (x3 - 1)) then (if (wrap64 (x3 - 1)) < (x0.size : Int) then ((spec_l2Letter.f (bt x0 (wrap64 (x3 - 1)))).bind fun t120 => (if t120 = true then (spec_l2Word.l0 k x0 (wrap64 (x3 + 1))) else (some false))) else (none)) else (none)) else (if (bt x0 x3) = 39 then (if 0 ≤ (wrap64 (x3 - 1)) then (if (wrap64 (x3 - 1)) < (x0.size : Int) then ((spec_l2Letter.f (bt x0 (wrap64 (x3 - 1)))).bind fun t121 => (if t121 = true then (spec_l2Word.l0 k x0 (wrap64 (x3 + 1))) else (some false))) else (none)) else (none)) else (some false))))) else (none)) else (some true)
end
def spec_l2Word.f (k : Nat) (a0 : ByteArray) : Option (Bool) := (spec_l1In.f (a0.size : Int) 1 12).bind fun t116 => (if t116 = true then (if 0 < (a0.size : Int) then ((spec_l2Letter.f (bt a0 0)).bind fun t117 => (if t117 = true then (if 0 ≤ (wrap64 ((a0.size : Int) - 1)) then (if (wrap64 ((a0.size : Int) - 1)) < (a0.size : Int) then ((spec_l2Letter.f (bt a0 (wrap64 ((a0.size : Int) - 1)))).bind fun t118 => (spec_l2Word.j0 k a0 (!t118))) else (none)) else (none)) else (spec_l2Word.j0 k a0 true))) else (none)) else (spec_l2Word.j0 k a0 true))
theorem spec_l2Word.mono_l : ∀ k, (∀ y0 y1, LeO (spec_l2Word.j0 k y0 y1) (spec_l2Word.j0 (k + 1) y0 y1)) ∧ (∀ y0 y1, LeO (spec_l2Word.l0 k y0 y1) (spec_l2Word.l0 (k + 1) y0 y1))
 | 0 => ⟨fun _ _ r h => by simp [spec_l2Word.j0] at h, fun _ _ r h => by simp [spec_l2Word.l0] at h⟩
 | k + 1 => by
  obtain ⟨ih0, ih1⟩ := spec_l2Word.mono_l k
  refine ⟨?_, ?_⟩
  ·
   intro y0 y1
   unfold spec_l2Word.j0
   repeat' first
   | (with_reducible exact ih0 _ _)
   | (with_reducible exact ih1 _ _)
   | (with_reducible exact LeO.refl _)
   | (with_reducible exact LeO.none _)
   | (with_reducible refine LeO.ite ?_ ?_)
   | (with_reducible refine LeO.bind ?_ (fun _ => ?_))
   | exact ih0 _ _
   | exact ih1 _ _
   | exact LeO.none _
   | refine LeO.ite ?_ ?_
   | refine LeO.bind ?_ (fun _ => ?_)
  ·
   intro y0 y1
   unfold spec_l2Word.l0
   repeat' first
   | (with_reducible exact ih0 _ _)
   | (with_reducible exact ih1 _ _)
   | (with_reducible exact LeO.refl _)
   | (with_reducible exact LeO.none _)
   | (with_reducible refine LeO.ite ?_ ?_)
   | (with_reducible refine LeO.bind ?_ (fun _ => ?_))
   | exact ih0 _ _
   | exact ih1 _ _
   | exact LeO.none _
   | refine LeO.ite ?_ ?_
   | refine LeO.bind ?_ (fun _ => ?_)
theorem spec_l2Word.mono : ∀ a0 k, LeO (spec_l2Word.f k a0) (spec_l2Word.f (k + 1) a0) := by
 intro a0 k
 obtain ⟨ih0, ih1⟩ := spec_l2Word.mono_l k
 unfold spec_l2Word.f
 repeat' first
   | (with_reducible exact ih0 _ _)
   | (with_reducible exact ih1 _ _)
   | (with_reducible exact LeO.refl _)
   | (with_reducible exact LeO.none _)
   | (with_reducible refine LeO.ite ?_ ?_)
   | (with_reducible refine LeO.bind ?_ (fun _ => ?_))
   | exact ih0 _ _
   | exact ih1 _ _
   | exact LeO.none _
   | refine LeO.ite ?_ ?_
   | refine LeO.bind ?_ (fun _ => ?_)
set_option maxRecDepth 100000 in
theorem spec_l2Word.L0 {P : Prop} (h : P := by
  go_wp2_with (first | ((with_reducible refine gate_callee (f := 45) rfl ?_); refine goesL_ (some 32) rfl rfl Tryd.func45 (by kernel_rfl) rfl #[.int .u8 (bt a0 x3_2)] rfl au24 ?_; (with_reducible refine (spec_l2Letter.calls (bt a0 x3_2) _ _ A18.out).mono ?_); rintro e w' ⟨rfl, ⟨nd, rfl⟩⟩; refine ⟨_, rfl, ?_⟩; have p20 : 0 ≤ (x3_2 : Int) := of_decide_eq_true au75; have q20 : x3_2 < (a0.size : Int) := of_decide_eq_true au75; have hx20 := bt_at a0 x3_2; replace p20 := eq_true p20; replace q20 := eq_true q20; have p28 : 0 ≤ (x3_2 : Int) := of_decide_eq_true au75; have q28 : x3_2 < (a0.size : Int) := of_decide_eq_true au75; have hx28 := bt_at a0 x3_2; replace p28 := eq_true p28; replace q28 := eq_true q28; have p33 : 0 ≤ ((ji30) : Int) := of_decide_eq_true au75; have q33 : (ji30) < (a0.size : Int) := of_decide_eq_true au75; have hx33 := bt_at a0 (ji30); replace p33 := eq_true p33; replace q33 := eq_true q33) | (go_at_call 45; (with_reducible refine (spec_l2Letter.calls (bt a0 (ji30)) _ _ A34.out).mono ?_); rintro e w' ⟨rfl, ⟨nd, rfl⟩⟩))
  go_ret
  first | (exact ⟨by first | rfl | (simp; done) | (simp only [← hji30] <;> (first | rfl | simp)) | (simp [*]; done), by repeat (first | exact Drawn0.refl _ | apply Drawn0.step)⟩) | (exact ax0)) : P := h
set_option maxHeartbeats 8000000 in
set_option maxRecDepth 100000 in
theorem spec_l2Word.calls (k : Nat) (a0 : ByteArray) (r : Bool) (w : World) (h : spec_l2Word.f k a0 = some r) :
  Calls Tryd.prog 28 #[.string a0] w fun e w' => e = .returned (.bool r) ∧ Drawn0 w w' := by
 have H : ((spec_l1In.f (a0.size : Int) 1 12).bind fun t116 => (if t116 = true then (if 0 < (a0.size : Int) then ((spec_l2Letter.f (bt a0 0)).bind fun t117 => (if t117 = true then (if 0 ≤ (wrap64 ((a0.size : Int) - 1)) then (if (wrap64 ((a0.size : Int) - 1)) < (a0.size : Int) then ((spec_l2Letter.f (bt a0 (wrap64 ((a0.size : Int) - 1)))).bind fun t118 => (spec_l2Word.j0 k a0 (!t118))) else (none)) else (none)) else (spec_l2Word.j0 k a0 true))) else (none)) else (spec_l2Word.j0 k a0 true))) = some r := h
 clear h
 have HC2 := Aside0.mk H
 clear H
 go_enter Tryd.func28, Tryd.ntmps28
 go_upto_region 1 with (fail)
 go_cut [22] (fun v22 wc => ∃ (kq : Nat) (x22_1 : Bool), v22 = .bool x22_1 ∧ Aside0 (spec_l2Word.j0 kq a0 x22_1 = some r) ∧ Aside0 (kq ≤ k) ∧ Drawn0 w wc)
 case first =>
  have H := HC2.out
  clear HC2
  replace H := Option.bind_eq_some_iff.mp H
  obtain ⟨t116, A30, H⟩ := H
  try dsimp only at H
  have A3 := Aside0.mk A30
  clear A30
  by_cases c4 : t116 = true
  ·
   subst c4
   replace H := (if_pos rfl).symm.trans H
   by_cases c5 : 0 < (a0.size : Int)
   ·
    rw [if_pos c5] at H
    have c5b0 : decide (0 < (a0.size : Int)) = true := decide_eq_true c5
    have c5b1 : decide (0 < a0.size) = true := decide_eq_true (by omega)
    clear c5
    (first | rw [c5b0] | (simp only [i64_w, i32_w]; rw [c5b0]) | skip)
    replace H := Option.bind_eq_some_iff.mp H
    obtain ⟨t117, A70, H⟩ := H
    try dsimp only at H
    have A7 := Aside0.mk A70
    clear A70
    by_cases c8 : t117 = true
    ·
     subst c8
     replace H := (if_pos rfl).symm.trans H
     obtain ⟨ji9, hji9⟩ : ∃ j_ : Int, (wrap64 ((a0.size : Int) - 1)) = j_ := ⟨_, rfl⟩
     replace H : (if 0 ≤ (ji9) then (if (ji9) < (a0.size : Int) then ((spec_l2Letter.f (bt a0 (ji9))).bind fun t118 => (spec_l2Word.j0 k a0 (!t118))) else (none)) else (none)) = some r := by first | (rw [hji9] at H; exact H) | (simp only [hji9] at H ⊢; exact H)
     (try rw [hji9] at A3)
     (try rw [hji9] at A7)
     have hji9w : (IntKind.i64.wrap ((a0.size : Int) - 1)) = ji9 := (i64_w _).trans hji9
     by_cases c10 : 0 ≤ (ji9)
     ·
      rw [if_pos c10] at H
      have c10b0 : decide (0 ≤ (ji9)) = true := decide_eq_true c10
      clear c10
      by_cases c11 : (ji9) < (a0.size : Int)
      ·
       rw [if_pos c11] at H
       have c11b0 : decide ((ji9) < (a0.size : Int)) = true := decide_eq_true c11
       clear c11
       replace H := Option.bind_eq_some_iff.mp H
       obtain ⟨t118, A130, H⟩ := H
       try dsimp only at H
       have A13 := Aside0.mk A130
       clear A130
       have H' := Aside0.mk H
       clear H
       go_wp2_with (first | ((with_reducible refine gate_callee (f := 44) rfl ?_); refine goesL_ (some 6) rfl rfl Tryd.func44 (by kernel_rfl) rfl #[.int .i64 (a0.size : Int), .int .i64 1, .int .i64 12] rfl au24 ?_; (with_reducible refine (spec_l1In.calls (a0.size : Int) 1 12 _ _ A3.out).mono ?_); rintro e w' ⟨rfl, ⟨nd, rfl⟩⟩; refine ⟨_, rfl, ?_⟩; have p6 : 0 ≤ (0 : Int) := (by omega); have q6 : 0 < a0.size := (by have : (0 : Int) < (a0.size : Int) := of_decide_eq_true au75; omega); have hx6 : ∀ h : 0 < a0.size, ((a0[0]'h).toNat : Int) = bt a0 0 := bt_at a0 0; clear p6; have qi6 : (0 < (a0.size : Int)) = True := eq_true (of_decide_eq_true au75); replace q6 := eq_true q6) | (go_at_call 45; (with_reducible refine (spec_l2Letter.calls (bt a0 0) _ _ A7.out).mono ?_); rintro e w' ⟨rfl, ⟨nd, rfl⟩⟩; have p12 : 0 ≤ ((ji9) : Int) := of_decide_eq_true au75; have q12 : (ji9) < (a0.size : Int) := of_decide_eq_true au75; have hx12 := bt_at a0 (ji9); replace p12 := eq_true p12; replace q12 := eq_true q12) | (go_at_call 45; (with_reducible refine (spec_l2Letter.calls (bt a0 (ji9)) t118 _ A13.out).mono ?_); rintro e w' ⟨rfl, ⟨nd, rfl⟩⟩))
       go_meet
       case rel => exact ⟨_, (!t118), au76, H', ⟨by first | omega | exact Nat.le_refl _⟩, by repeat (first | exact Drawn0.refl _ | apply Drawn0.step)⟩
      ·
       rw [if_neg c11] at H
       exact absurd H (by simp)
     ·
      rw [if_neg c10] at H
      exact absurd H (by simp)
    ·
     replace c8 := Bool.eq_false_iff.mpr c8
     subst c8
     replace H := (if_neg (show ¬ (false = true) by decide)).symm.trans H
     have H' := Aside0.mk H
     clear H
     go_wp2_with (first | ((with_reducible refine gate_callee (f := 44) rfl ?_); refine goesL_ (some 6) rfl rfl Tryd.func44 (by kernel_rfl) rfl #[.int .i64 (a0.size : Int), .int .i64 1, .int .i64 12] rfl au24 ?_; (with_reducible refine (spec_l1In.calls (a0.size : Int) 1 12 _ _ A3.out).mono ?_); rintro e w' ⟨rfl, ⟨nd, rfl⟩⟩; refine ⟨_, rfl, ?_⟩; have p6 : 0 ≤ (0 : Int) := (by omega); have q6 : 0 < a0.size := (by have : (0 : Int) < (a0.size : Int) := of_decide_eq_true au75; omega); have hx6 : ∀ h : 0 < a0.size, ((a0[0]'h).toNat : Int) = bt a0 0 := bt_at a0 0; clear p6; have qi6 : (0 < (a0.size : Int)) = True := eq_true (of_decide_eq_true au75); replace q6 := eq_true q6) | (go_at_call 45; (with_reducible refine (spec_l2Letter.calls (bt a0 0) _ _ A7.out).mono ?_); rintro e w' ⟨rfl, ⟨nd, rfl⟩⟩))
     go_meet
     case rel => exact ⟨_, (true), au76, H', ⟨by first | omega | exact Nat.le_refl _⟩, by repeat (first | exact Drawn0.refl _ | apply Drawn0.step)⟩
   ·
    rw [if_neg c5] at H
    exact absurd H (by simp)
  ·
   replace c4 := Bool.eq_false_iff.mpr c4
   subst c4
   replace H := (if_neg (show ¬ (false = true) by decide)).symm.trans H
   have H' := Aside0.mk H
   clear H
   go_wp2_with (first | ((with_reducible refine gate_callee (f := 44) rfl ?_); refine goesL_ (some 6) rfl rfl Tryd.func44 (by kernel_rfl) rfl #[.int .i64 (a0.size : Int), .int .i64 1, .int .i64 12] rfl au24 ?_; (with_reducible refine (spec_l1In.calls (a0.size : Int) 1 12 _ _ A3.out).mono ?_); rintro e w' ⟨rfl, ⟨nd, rfl⟩⟩; refine ⟨_, rfl, ?_⟩))
   go_meet
   case rel => exact ⟨_, (true), au76, H', ⟨by first | omega | exact Nat.le_refl _⟩, by repeat (first | exact Drawn0.refl _ | apply Drawn0.step)⟩
 case rest =>
  clear HC2
  try clear c1
  try clear p1
  try clear q1
  try clear hx1
  try clear c2
  try clear p2
  try clear c4
  try clear c5
  try clear c5b0
  try clear c5b1
  try clear p6
  try clear q6
  try clear hx6
  try clear qi6
  try clear c8
  try clear c10
  try clear c10b0
  try clear c11
  try clear c11b0
  try clear p12
  try clear q12
  try clear hx12
  try clear p12
  try clear p6
  try clear q12
  try clear q6
  obtain ⟨kq, x22_1, rfl, HA, HJ1, ⟨mc1, rfl⟩⟩ := hcut
  cases kq with
  | zero => exact absurd HA.out (by simp [spec_l2Word.j0])
  | succ kj1 =>
   have H := HA.out
   clear HA
   simp only [spec_l2Word.j0] at H
   by_cases c14 : x22_1 = true
   ·
    subst c14
    replace H := (if_pos rfl).symm.trans H
    obtain rfl := Option.some.inj H
    exact spec_l2Word.L0
   ·
    replace c14 := Bool.eq_false_iff.mpr c14
    subst c14
    replace H := (if_neg (show ¬ (false = true) by decide)).symm.trans H
    have H' := Aside0.mk H
    clear H
    go_wp2
    go_loopg [3] kj1 (fun kq v3 w' => ∃ (x3_2 : Int), v3 = .int .i64 x3_2 ∧ Aside0 (spec_l2Word.l0 kq a0 x3_2 = some r) ∧ Aside0 (kq ≤ kj1) ∧ Drawn0 w w')
    case atStart => exact ⟨(1), au76, H', ⟨Nat.le_refl _⟩, by repeat (first | exact Drawn0.refl _ | apply Drawn0.step)⟩
    case round =>
     clear H'
     try clear c1
     try clear p1
     try clear q1
     try clear hx1
     try clear c2
     try clear p2
     try clear c4
     try clear c5
     try clear c5b0
     try clear c5b1
     try clear p6
     try clear q6
     try clear hx6
     try clear qi6
     try clear c8
     try clear c10
     try clear c10b0
     try clear c11
     try clear c11b0
     try clear p12
     try clear q12
     try clear hx12
     try clear c14
     try clear p1
     try clear p12
     try clear p2
     try clear p6
     try clear q1
     try clear q12
     try clear q6
     obtain ⟨x3_2, rfl, HA, HK2, ⟨m2, rfl⟩⟩ := hrel
     cases gk with
     | zero => exact absurd HA.out (by simp [spec_l2Word.l0])
     | succ k2 =>
      have H := HA.out
      clear HA
      simp only [spec_l2Word.l0] at H
      by_cases c15 : x3_2 < (a0.size : Int)
      ·
       rw [if_pos c15] at H
       have c15b0 : decide (x3_2 < (a0.size : Int)) = true := decide_eq_true c15
       clear c15
       by_cases c16 : 0 ≤ x3_2
       ·
        rw [if_pos c16] at H
        have c16b0 : decide (0 ≤ x3_2) = true := decide_eq_true c16
        clear c16
        replace H := Option.bind_eq_some_iff.mp H
        obtain ⟨t119, A180, H⟩ := H
        try dsimp only at H
        have A18 := Aside0.mk A180
        clear A180
        by_cases c19 : t119 = true
        ·
         subst c19
         replace H := (if_pos rfl).symm.trans H
         have H' := Aside0.mk H
         clear H
         have p17 : 0 ≤ (x3_2 : Int) := of_decide_eq_true au75
         have q17 : x3_2 < (a0.size : Int) := of_decide_eq_true au75
         have hx17 := bt_at a0 x3_2
         replace p17 := eq_true p17
         replace q17 := eq_true q17
         go_wp2_with (first | ((with_reducible refine gate_callee (f := 45) rfl ?_); refine goesL_ (some 32) rfl rfl Tryd.func45 (by kernel_rfl) rfl #[.int .u8 (bt a0 x3_2)] rfl au24 ?_; (with_reducible refine (spec_l2Letter.calls (bt a0 x3_2) _ _ A18.out).mono ?_); rintro e w' ⟨rfl, ⟨nd, rfl⟩⟩; refine ⟨_, rfl, ?_⟩))
         go_roundg k2
         case measure => have := HJ1.out; have := HK2.out; omega
         case rel => exact ⟨(wrap64 (x3_2 + 1)), au76, H', ⟨by have := HJ1.out; have := HK2.out; omega⟩, by repeat (first | exact Drawn0.refl _ | apply Drawn0.step)⟩
        ·
         replace c19 := Bool.eq_false_iff.mpr c19
         subst c19
         replace H := (if_neg (show ¬ (false = true) by decide)).symm.trans H
         by_cases c21 : (bt a0 x3_2) = 45
         ·
          rw [if_pos c21] at H
          have c21b0 : ((bt a0 x3_2) == 45) = true := beq_iff_eq.mpr c21
          have c21b1 : ((bt a0 x3_2) != 45) = false := bne_eq_false_iff_eq.mpr c21
          clear c21
          obtain ⟨ji22, hji22⟩ : ∃ j_ : Int, (wrap64 (x3_2 - 1)) = j_ := ⟨_, rfl⟩
          replace H : (if 0 ≤ (ji22) then (if (ji22) < (a0.size : Int) then ((spec_l2Letter.f (bt a0 (ji22))).bind fun t120 => (if t120 = true then (spec_l2Word.l0 k2 a0 (wrap64 (x3_2 + 1))) else (some false))) else (none)) else (none)) = some r := by first | (rw [hji22] at H; exact H) | (simp only [hji22] at H ⊢; exact H)
          (try rw [hji22] at A18)
          have hji22w : (IntKind.i64.wrap (x3_2 - 1)) = ji22 := (i64_w _).trans hji22
          by_cases c23 : 0 ≤ (ji22)
          ·
           rw [if_pos c23] at H
           have c23b0 : decide (0 ≤ (ji22)) = true := decide_eq_true c23
           clear c23
           by_cases c24 : (ji22) < (a0.size : Int)
           ·
            rw [if_pos c24] at H
            have c24b0 : decide ((ji22) < (a0.size : Int)) = true := decide_eq_true c24
            clear c24
            replace H := Option.bind_eq_some_iff.mp H
            obtain ⟨t120, A260, H⟩ := H
            try dsimp only at H
            have A26 := Aside0.mk A260
            clear A260
            by_cases c27 : t120 = true
            ·
             subst c27
             replace H := (if_pos rfl).symm.trans H
             have H' := Aside0.mk H
             clear H
             have p17 : 0 ≤ (x3_2 : Int) := of_decide_eq_true au75
             have q17 : x3_2 < (a0.size : Int) := of_decide_eq_true au75
             have hx17 := bt_at a0 x3_2
             replace p17 := eq_true p17
             replace q17 := eq_true q17
             go_wp2_with (first | ((with_reducible refine gate_callee (f := 45) rfl ?_); refine goesL_ (some 32) rfl rfl Tryd.func45 (by kernel_rfl) rfl #[.int .u8 (bt a0 x3_2)] rfl au24 ?_; (with_reducible refine (spec_l2Letter.calls (bt a0 x3_2) _ _ A18.out).mono ?_); rintro e w' ⟨rfl, ⟨nd, rfl⟩⟩; refine ⟨_, rfl, ?_⟩; have p20 : 0 ≤ (x3_2 : Int) := of_decide_eq_true au75; have q20 : x3_2 < (a0.size : Int) := of_decide_eq_true au75; have hx20 := bt_at a0 x3_2; replace p20 := eq_true p20; replace q20 := eq_true q20; have p25 : 0 ≤ ((ji22) : Int) := of_decide_eq_true au75; have q25 : (ji22) < (a0.size : Int) := of_decide_eq_true au75; have hx25 := bt_at a0 (ji22); replace p25 := eq_true p25; replace q25 := eq_true q25) | (go_at_call 45; (with_reducible refine (spec_l2Letter.calls (bt a0 (ji22)) _ _ A26.out).mono ?_); rintro e w' ⟨rfl, ⟨nd, rfl⟩⟩))
             go_roundg k2
             case measure => have := HJ1.out; have := HK2.out; omega
             case rel => exact ⟨(wrap64 (x3_2 + 1)), au76, H', ⟨by have := HJ1.out; have := HK2.out; omega⟩, by repeat (first | exact Drawn0.refl _ | apply Drawn0.step)⟩
            ·
             replace c27 := Bool.eq_false_iff.mpr c27
             subst c27
             replace H := (if_neg (show ¬ (false = true) by decide)).symm.trans H
             obtain rfl := Option.some.inj H
             have p17 : 0 ≤ (x3_2 : Int) := of_decide_eq_true au75
             have q17 : x3_2 < (a0.size : Int) := of_decide_eq_true au75
             have hx17 := bt_at a0 x3_2
             replace p17 := eq_true p17
             replace q17 := eq_true q17
             go_wp2_with (first | ((with_reducible refine gate_callee (f := 45) rfl ?_); refine goesL_ (some 32) rfl rfl Tryd.func45 (by kernel_rfl) rfl #[.int .u8 (bt a0 x3_2)] rfl au24 ?_; (with_reducible refine (spec_l2Letter.calls (bt a0 x3_2) _ _ A18.out).mono ?_); rintro e w' ⟨rfl, ⟨nd, rfl⟩⟩; refine ⟨_, rfl, ?_⟩; have p20 : 0 ≤ (x3_2 : Int) := of_decide_eq_true au75; have q20 : x3_2 < (a0.size : Int) := of_decide_eq_true au75; have hx20 := bt_at a0 x3_2; replace p20 := eq_true p20; replace q20 := eq_true q20; have p25 : 0 ≤ ((ji22) : Int) := of_decide_eq_true au75; have q25 : (ji22) < (a0.size : Int) := of_decide_eq_true au75; have hx25 := bt_at a0 (ji22); replace p25 := eq_true p25; replace q25 := eq_true q25) | (go_at_call 45; (with_reducible refine (spec_l2Letter.calls (bt a0 (ji22)) _ _ A26.out).mono ?_); rintro e w' ⟨rfl, ⟨nd, rfl⟩⟩))
             go_ret
             exact ax1
           ·
            rw [if_neg c24] at H
            exact absurd H (by simp)
          ·
           rw [if_neg c23] at H
           exact absurd H (by simp)
         ·
          rw [if_neg c21] at H
          have c21b0 : ((bt a0 x3_2) == 45) = false := beq_eq_false_iff_ne.mpr c21
          have c21b1 : ((bt a0 x3_2) != 45) = true := bne_iff_ne.mpr c21
          by_cases c29 : (bt a0 x3_2) = 39
          ·
           rw [if_pos c29] at H
           have c29b0 : ((bt a0 x3_2) == 39) = true := beq_iff_eq.mpr c29
           have c29b1 : ((bt a0 x3_2) != 39) = false := bne_eq_false_iff_eq.mpr c29
           clear c29
           obtain ⟨ji30, hji30⟩ : ∃ j_ : Int, (wrap64 (x3_2 - 1)) = j_ := ⟨_, rfl⟩
           replace H : (if 0 ≤ (ji30) then (if (ji30) < (a0.size : Int) then ((spec_l2Letter.f (bt a0 (ji30))).bind fun t121 => (if t121 = true then (spec_l2Word.l0 k2 a0 (wrap64 (x3_2 + 1))) else (some false))) else (none)) else (none)) = some r := by first | (rw [hji30] at H; exact H) | (simp only [hji30] at H ⊢; exact H)
           (try rw [hji30] at A18)
           have hji30w : (IntKind.i64.wrap (x3_2 - 1)) = ji30 := (i64_w _).trans hji30
           by_cases c31 : 0 ≤ (ji30)
           ·
            rw [if_pos c31] at H
            have c31b0 : decide (0 ≤ (ji30)) = true := decide_eq_true c31
            clear c31
            by_cases c32 : (ji30) < (a0.size : Int)
            ·
             rw [if_pos c32] at H
             have c32b0 : decide ((ji30) < (a0.size : Int)) = true := decide_eq_true c32
             clear c32
             replace H := Option.bind_eq_some_iff.mp H
             obtain ⟨t121, A340, H⟩ := H
             try dsimp only at H
             have A34 := Aside0.mk A340
             clear A340
             by_cases c35 : t121 = true
             ·
              subst c35
              replace H := (if_pos rfl).symm.trans H
              have H' := Aside0.mk H
              clear H
              have p17 : 0 ≤ (x3_2 : Int) := of_decide_eq_true au75
              have q17 : x3_2 < (a0.size : Int) := of_decide_eq_true au75
              have hx17 := bt_at a0 x3_2
              replace p17 := eq_true p17
              replace q17 := eq_true q17
              go_wp2_with (first | ((with_reducible refine gate_callee (f := 45) rfl ?_); refine goesL_ (some 32) rfl rfl Tryd.func45 (by kernel_rfl) rfl #[.int .u8 (bt a0 x3_2)] rfl au24 ?_; (with_reducible refine (spec_l2Letter.calls (bt a0 x3_2) _ _ A18.out).mono ?_); rintro e w' ⟨rfl, ⟨nd, rfl⟩⟩; refine ⟨_, rfl, ?_⟩; have p20 : 0 ≤ (x3_2 : Int) := of_decide_eq_true au75; have q20 : x3_2 < (a0.size : Int) := of_decide_eq_true au75; have hx20 := bt_at a0 x3_2; replace p20 := eq_true p20; replace q20 := eq_true q20; have p28 : 0 ≤ (x3_2 : Int) := of_decide_eq_true au75; have q28 : x3_2 < (a0.size : Int) := of_decide_eq_true au75; have hx28 := bt_at a0 x3_2; replace p28 := eq_true p28; replace q28 := eq_true q28; have p33 : 0 ≤ ((ji30) : Int) := of_decide_eq_true au75; have q33 : (ji30) < (a0.size : Int) := of_decide_eq_true au75; have hx33 := bt_at a0 (ji30); replace p33 := eq_true p33; replace q33 := eq_true q33) | (go_at_call 45; (with_reducible refine (spec_l2Letter.calls (bt a0 (ji30)) _ _ A34.out).mono ?_); rintro e w' ⟨rfl, ⟨nd, rfl⟩⟩))
              go_roundg k2
              case measure => have := HJ1.out; have := HK2.out; omega
              case rel => exact ⟨(wrap64 (x3_2 + 1)), au76, H', ⟨by have := HJ1.out; have := HK2.out; omega⟩, by repeat (first | exact Drawn0.refl _ | apply Drawn0.step)⟩
             ·
              replace c35 := Bool.eq_false_iff.mpr c35
              subst c35
              replace H := (if_neg (show ¬ (false = true) by decide)).symm.trans H
              obtain rfl := Option.some.inj H
              have p17 : 0 ≤ (x3_2 : Int) := of_decide_eq_true au75
              have q17 : x3_2 < (a0.size : Int) := of_decide_eq_true au75
              have hx17 := bt_at a0 x3_2
              replace p17 := eq_true p17
              replace q17 := eq_true q17
              exact spec_l2Word.L0
            ·
             rw [if_neg c32] at H
             exact absurd H (by simp)
           ·
            rw [if_neg c31] at H
            exact absurd H (by simp)
          ·
           rw [if_neg c29] at H
           have c29b0 : ((bt a0 x3_2) == 39) = false := beq_eq_false_iff_ne.mpr c29
           have c29b1 : ((bt a0 x3_2) != 39) = true := bne_iff_ne.mpr c29
           obtain rfl := Option.some.inj H
           have p17 : 0 ≤ (x3_2 : Int) := of_decide_eq_true au75
           have q17 : x3_2 < (a0.size : Int) := of_decide_eq_true au75
           have hx17 := bt_at a0 x3_2
           replace p17 := eq_true p17
           replace q17 := eq_true q17
           go_wp2_with (first | ((with_reducible refine gate_callee (f := 45) rfl ?_); refine goesL_ (some 32) rfl rfl Tryd.func45 (by kernel_rfl) rfl #[.int .u8 (bt a0 x3_2)] rfl au24 ?_; (with_reducible refine (spec_l2Letter.calls (bt a0 x3_2) _ _ A18.out).mono ?_); rintro e w' ⟨rfl, ⟨nd, rfl⟩⟩; refine ⟨_, rfl, ?_⟩; have p20 : 0 ≤ (x3_2 : Int) := of_decide_eq_true au75; have q20 : x3_2 < (a0.size : Int) := of_decide_eq_true au75; have hx20 := bt_at a0 x3_2; replace p20 := eq_true p20; replace q20 := eq_true q20; have p28 : 0 ≤ (x3_2 : Int) := of_decide_eq_true au75; have q28 : x3_2 < (a0.size : Int) := of_decide_eq_true au75; have hx28 := bt_at a0 x3_2; replace p28 := eq_true p28; replace q28 := eq_true q28))
           go_ret
           exact ax0
       ·
        rw [if_neg c16] at H
        exact absurd H (by simp)
      ·
       rw [if_neg c15] at H
       have c15b0 : decide (x3_2 < (a0.size : Int)) = false := decide_eq_false c15
       clear c15
       obtain rfl := Option.some.inj H
       exact spec_l2Word.L0


/-! ### spec_l2Particle: function 30 -/
mutual
def spec_l2Particle.l0 : Nat → List ByteArray → Int → Option (Bool)
 | 0, _, _ => none
 | k + 1, x3, x4 => if x4 < (x3.length : Int) then (if 0 ≤ x4 then ((spec_l2Word.f k (rdOf ByteArray.empty x3 x4)).bind fun t126 => (if t126 = true then (spec_l2Particle.l1 k x3 x4 0) else (some false))) else (none)) else (some (decide ((x3.length : Int) ≤ 2)))
def spec_l2Particle.l1 : Nat → List ByteArray → Int → Int → Option (Bool)
 | 0, _, _, _ => none
 | k + 1, x3, x4, x5 => if 0 ≤ x4 then (if x4 < (x3.length : Int) then (if x5 < ((rdOf ByteArray.empty x3 x4).size : Int) then (if 0 ≤ x5 then ((spec_l2Lower.f (bt (rdOf ByteArray.empty x3 x4) x5)).bind fun t129 => (if t129 = true then (spec_l2Particle.l1 k x3 x4 (wrap64 (x5 + 1))) else (some false))) else (none)) else (spec_l2Particle.l0 k x3 (wrap64 (x4 + 1)))) else (none)) else (none)
end
def spec_l2Particle.f (k : Nat) (a0 : ByteArray) : Option (Bool) := if a0.toList = ([] : List UInt8) then (some true) else ((spec_l1Split.f k a0 32).bind fun t122 => (spec_l2Particle.l0 k t122 0))
theorem spec_l2Particle.mono_l : ∀ k, (∀ y0 y1, LeO (spec_l2Particle.l0 k y0 y1) (spec_l2Particle.l0 (k + 1) y0 y1)) ∧ (∀ y0 y1 y2, LeO (spec_l2Particle.l1 k y0 y1 y2) (spec_l2Particle.l1 (k + 1) y0 y1 y2))
 | 0 => ⟨fun _ _ r h => by simp [spec_l2Particle.l0] at h, fun _ _ _ r h => by simp [spec_l2Particle.l1] at h⟩
 | k + 1 => by
  obtain ⟨ih0, ih1⟩ := spec_l2Particle.mono_l k
  refine ⟨?_, ?_⟩
  ·
   intro y0 y1
   unfold spec_l2Particle.l0
   repeat' first
   | (with_reducible exact ih0 _ _)
   | (with_reducible exact ih1 _ _ _)
   | (with_reducible exact spec_l1Split.mono _ _ _)
   | (with_reducible exact spec_l2Word.mono _ _)
   | (with_reducible exact LeO.refl _)
   | (with_reducible exact LeO.none _)
   | (with_reducible refine LeO.ite ?_ ?_)
   | (with_reducible refine LeO.bind ?_ (fun _ => ?_))
   | exact ih0 _ _
   | exact ih1 _ _ _
   | exact spec_l1Split.mono _ _ _
   | exact spec_l2Word.mono _ _
   | exact LeO.none _
   | refine LeO.ite ?_ ?_
   | refine LeO.bind ?_ (fun _ => ?_)
  ·
   intro y0 y1 y2
   unfold spec_l2Particle.l1
   repeat' first
   | (with_reducible exact ih0 _ _)
   | (with_reducible exact ih1 _ _ _)
   | (with_reducible exact spec_l1Split.mono _ _ _)
   | (with_reducible exact spec_l2Word.mono _ _)
   | (with_reducible exact LeO.refl _)
   | (with_reducible exact LeO.none _)
   | (with_reducible refine LeO.ite ?_ ?_)
   | (with_reducible refine LeO.bind ?_ (fun _ => ?_))
   | exact ih0 _ _
   | exact ih1 _ _ _
   | exact spec_l1Split.mono _ _ _
   | exact spec_l2Word.mono _ _
   | exact LeO.none _
   | refine LeO.ite ?_ ?_
   | refine LeO.bind ?_ (fun _ => ?_)
theorem spec_l2Particle.mono : ∀ a0 k, LeO (spec_l2Particle.f k a0) (spec_l2Particle.f (k + 1) a0) := by
 intro a0 k
 obtain ⟨ih0, ih1⟩ := spec_l2Particle.mono_l k
 unfold spec_l2Particle.f
 repeat' first
   | (with_reducible exact ih0 _ _)
   | (with_reducible exact ih1 _ _ _)
   | (with_reducible exact spec_l1Split.mono _ _ _)
   | (with_reducible exact spec_l2Word.mono _ _)
   | (with_reducible exact LeO.refl _)
   | (with_reducible exact LeO.none _)
   | (with_reducible refine LeO.ite ?_ ?_)
   | (with_reducible refine LeO.bind ?_ (fun _ => ?_))
   | exact ih0 _ _
   | exact ih1 _ _ _
   | exact spec_l1Split.mono _ _ _
   | exact spec_l2Word.mono _ _
   | exact LeO.none _
   | refine LeO.ite ?_ ?_
   | refine LeO.bind ?_ (fun _ => ?_)
set_option maxHeartbeats 8000000 in
set_option maxRecDepth 100000 in
theorem spec_l2Particle.calls (k : Nat) (a0 : ByteArray) (r : Bool) (w : World) (h : spec_l2Particle.f k a0 = some r) :
  Calls Tryd.prog 30 #[.string a0] w fun e w' => e = .returned (.bool r) ∧ Below w.heap.size w w' := by
 have HB := Aside0.mk (Below.refl w.heap.size w)
 have H : (if a0.toList = ([] : List UInt8) then (some true) else ((spec_l1Split.f k a0 32).bind fun t122 => (spec_l2Particle.l0 k t122 0))) = some r := h
 clear h
 by_cases c2 : a0.toList = ([] : List UInt8)
 ·
  rw [if_pos c2] at H
  have c2b0 : (a0.toList == ([] : List UInt8)) = true := beq_iff_eq.mpr c2
  have c2b1 : (a0.toList != ([] : List UInt8)) = false := bne_eq_false_iff_eq.mpr c2
  clear c2
  obtain rfl := Option.some.inj H
  go_enter Tryd.func30, Tryd.ntmps30
  go_wp2
  go_ret
  exact ax2
 ·
  rw [if_neg c2] at H
  have c2b0 : (a0.toList == ([] : List UInt8)) = false := beq_eq_false_iff_ne.mpr c2
  have c2b1 : (a0.toList != ([] : List UInt8)) = true := bne_iff_ne.mpr c2
  replace H := Option.bind_eq_some_iff.mp H
  obtain ⟨t122, A30, H⟩ := H
  try dsimp only at H
  have A3 := Aside0.mk A30
  clear A30
  have H' := Aside0.mk H
  clear H
  go_enter Tryd.func30, Tryd.ntmps30
  go_wp2_with (first | ((with_reducible refine gate_callee (f := 15) rfl ?_); refine goesL_ (some 9) rfl rfl Tryd.func15 (by kernel_rfl) rfl #[.string a0, .int .u8 32] rfl au24 ?_; (with_reducible refine (spec_l1Split.calls k a0 32 t122 _ A3.out).mono ?_); rintro e w4 ⟨v123, rfl, ho0, hb⟩; refine ⟨_, rfl, ?_⟩; have HO124 := Aside0.mk (Kd.R_lower ho0 (below_size au27)); replace HB := Aside0.mk (below_step au27 hb); (try clear hb); (try clear ho0)))
  go_loopg [4] k (fun kq v4 w' => ∃ (x4_1 : Int), v4 = .int .i64 x4_1 ∧ Aside0 (spec_l2Particle.l0 kq t122 x4_1 = some r) ∧ Aside0 (kq ≤ k) ∧ Aside0 (Kd.R Kd.string 9 w' w.heap.size (fun _ => True) v123 t122) ∧ Aside0 (Below w.heap.size w w'))
  case atStart => exact ⟨(0), au76, H', ⟨Nat.le_refl _⟩, ⟨by (with_reducible repeat (first | apply Kd.R_alloc | apply Kd.R_drewN | apply Kd.R_drew)); exact HO124.out⟩, ⟨by repeat (first | (with_reducible first | exact HB.out | apply below_alloc | apply pw_below_drewN | apply below_drew1) | exact HB.out)⟩⟩
  case round =>
   clear H'
   try clear c1
   try clear c2
   try clear c2b0
   try clear c2b1
   try clear p2
   try clear c3
   obtain ⟨x4_1, rfl, HA, HK1, HO_3, HB⟩ := hrel
   cases gk with
   | zero => exact absurd HA.out (by simp [spec_l2Particle.l0])
   | succ k1 =>
    have H := HA.out
    clear HA
    simp only [spec_l2Particle.l0] at H
    by_cases c5 : x4_1 < (t122.length : Int)
    ·
     rw [if_pos c5] at H
     have c5b0 : decide (x4_1 < (t122.length : Int)) = true := decide_eq_true c5
     clear c5
     by_cases c6 : 0 ≤ x4_1
     ·
      rw [if_pos c6] at H
      have c6b0 : decide (0 ≤ x4_1) = true := decide_eq_true c6
      clear c6
      replace H := Option.bind_eq_some_iff.mp H
      obtain ⟨t126, A70, H⟩ := H
      try dsimp only at H
      have A7 := Aside0.mk A70
      clear A70
      by_cases c8 : t126 = true
      ·
       subst c8
       replace H := (if_pos rfl).symm.trans H
       have H' := Aside0.mk H
       clear H
       obtain ⟨Ao9, co9, eo9⟩ := Kd.R_slice HO_3.out
       subst eo9
       have p125 : 0 ≤ (x4_1 : Int) := of_decide_eq_true au75
       have q125 : x4_1 < (t122.length : Int) := of_decide_eq_true au75
       obtain ⟨ad125, e125, hx125_0⟩ := Kd.at_string (Kd.R_reads' HO_3.out).2.2 x4_1 p125 q125
       cases e125
       replace p125 := eq_true p125
       replace q125 := eq_true q125
       go_wp2_with (first | ((with_reducible refine gate_callee (f := 28) rfl ?_); refine goesL_ (some 20) rfl rfl Tryd.func28 (by kernel_rfl) rfl #[.string (rdOf ByteArray.empty t122 x4_1)] rfl au24 ?_; (with_reducible refine (spec_l2Word.calls k1 (rdOf ByteArray.empty t122 x4_1) true _ A7.out).mono ?_); rintro e w' ⟨rfl, ⟨nd, rfl⟩⟩; refine ⟨_, rfl, ?_⟩))
       go_loopg [5] k1 (fun kq v5 w' => ∃ (x5_2 : Int), v5 = .int .i64 x5_2 ∧ Aside0 (spec_l2Particle.l1 kq t122 x4_1 x5_2 = some r) ∧ Aside0 (kq ≤ k1) ∧ Aside0 (Kd.R Kd.string 9 w' w.heap.size (fun _ => True) (.slice (some ad125) t122.length co9) t122) ∧ Aside0 (Below w.heap.size w w'))
       case atStart => exact ⟨(0), au76, H', ⟨Nat.le_refl _⟩, ⟨by (with_reducible repeat (first | apply Kd.R_alloc | apply Kd.R_drewN | apply Kd.R_drew)); exact HO_3.out⟩, ⟨by repeat (first | (with_reducible first | exact HB.out | apply below_alloc | apply pw_below_drewN | apply below_drew1) | exact HB.out)⟩⟩
       case round =>
        clear H'
        try clear c1
        try clear p1
        try clear q1
        try clear hx1
        try clear c2
        try clear c2b0
        try clear c2b1
        try clear p2
        try clear c3
        try clear c5
        try clear c5b0
        try clear c6
        try clear c6b0
        try clear c8
        try clear hx125_0
        try clear p125
        try clear p2
        try clear q125
        obtain ⟨x5_2, rfl, HA, HK2, HO_3, HB⟩ := hrel
        cases gk with
        | zero => exact absurd HA.out (by simp [spec_l2Particle.l1])
        | succ k2 =>
         have H := HA.out
         clear HA
         simp only [spec_l2Particle.l1] at H
         by_cases c10 : 0 ≤ x4_1
         ·
          rw [if_pos c10] at H
          have c10b0 : decide (0 ≤ x4_1) = true := decide_eq_true c10
          clear c10
          by_cases c11 : x4_1 < (t122.length : Int)
          ·
           rw [if_pos c11] at H
           have c11b0 : decide (x4_1 < (t122.length : Int)) = true := decide_eq_true c11
           clear c11
           by_cases c12 : x5_2 < ((rdOf ByteArray.empty t122 x4_1).size : Int)
           ·
            rw [if_pos c12] at H
            have c12b0 : decide (x5_2 < ((rdOf ByteArray.empty t122 x4_1).size : Int)) = true := decide_eq_true c12
            clear c12
            by_cases c13 : 0 ≤ x5_2
            ·
             rw [if_pos c13] at H
             have c13b0 : decide (0 ≤ x5_2) = true := decide_eq_true c13
             clear c13
             replace H := Option.bind_eq_some_iff.mp H
             obtain ⟨t129, A150, H⟩ := H
             try dsimp only at H
             have A15 := Aside0.mk A150
             clear A150
             by_cases c16 : t129 = true
             ·
              subst c16
              replace H := (if_pos rfl).symm.trans H
              have H' := Aside0.mk H
              clear H
              have p127 : 0 ≤ (x4_1 : Int) := of_decide_eq_true au75
              have q127 : x4_1 < (t122.length : Int) := of_decide_eq_true au75
              obtain ⟨ad127, e127, hx127_0⟩ := Kd.at_string (Kd.R_reads' HO_3.out).2.2 x4_1 p127 q127
              obtain rfl : ad125 = ad127 := (by injection e127)
              replace p127 := eq_true p127
              replace q127 := eq_true q127
              have p128 : 0 ≤ (x4_1 : Int) := of_decide_eq_true au75
              have q128 : x4_1 < (t122.length : Int) := of_decide_eq_true au75
              obtain ⟨ad128, e128, hx128_0⟩ := Kd.at_string (Kd.R_reads' HO_3.out).2.2 x4_1 p128 q128
              obtain rfl : ad125 = ad128 := (by injection e128)
              replace p128 := eq_true p128
              replace q128 := eq_true q128
              have p14 : 0 ≤ (x5_2 : Int) := of_decide_eq_true au75
              have q14 : x5_2 < ((rdOf ByteArray.empty t122 x4_1).size : Int) := of_decide_eq_true au75
              have hx14 := bt_at (rdOf ByteArray.empty t122 x4_1) x5_2
              replace p14 := eq_true p14
              replace q14 := eq_true q14
              go_wp2_with (first | ((with_reducible refine gate_callee (f := 46) rfl ?_); refine goesL_ (some 37) rfl rfl Tryd.func46 (by kernel_rfl) rfl #[.int .u8 (bt (rdOf ByteArray.empty t122 x4_1) x5_2)] rfl au24 ?_; (with_reducible refine (spec_l2Lower.calls (bt (rdOf ByteArray.empty t122 x4_1) x5_2) true _ A15.out).mono ?_); rintro e w' ⟨rfl, ⟨nd, rfl⟩⟩; refine ⟨_, rfl, ?_⟩))
              go_roundg k2
              case measure => have := HK1.out; have := HK2.out; omega
              case rel => exact ⟨(wrap64 (x5_2 + 1)), au76, H', ⟨by have := HK1.out; have := HK2.out; omega⟩, ⟨by (with_reducible repeat (first | apply Kd.R_alloc | apply Kd.R_drewN | apply Kd.R_drew)); exact HO_3.out⟩, ⟨by repeat (first | (with_reducible first | exact HB.out | apply below_alloc | apply pw_below_drewN | apply below_drew1) | exact HB.out)⟩⟩
             ·
              replace c16 := Bool.eq_false_iff.mpr c16
              subst c16
              replace H := (if_neg (show ¬ (false = true) by decide)).symm.trans H
              obtain rfl := Option.some.inj H
              have p127 : 0 ≤ (x4_1 : Int) := of_decide_eq_true au75
              have q127 : x4_1 < (t122.length : Int) := of_decide_eq_true au75
              obtain ⟨ad127, e127, hx127_0⟩ := Kd.at_string (Kd.R_reads' HO_3.out).2.2 x4_1 p127 q127
              obtain rfl : ad125 = ad127 := (by injection e127)
              replace p127 := eq_true p127
              replace q127 := eq_true q127
              have p128 : 0 ≤ (x4_1 : Int) := of_decide_eq_true au75
              have q128 : x4_1 < (t122.length : Int) := of_decide_eq_true au75
              obtain ⟨ad128, e128, hx128_0⟩ := Kd.at_string (Kd.R_reads' HO_3.out).2.2 x4_1 p128 q128
              obtain rfl : ad125 = ad128 := (by injection e128)
              replace p128 := eq_true p128
              replace q128 := eq_true q128
              have p14 : 0 ≤ (x5_2 : Int) := of_decide_eq_true au75
              have q14 : x5_2 < ((rdOf ByteArray.empty t122 x4_1).size : Int) := of_decide_eq_true au75
              have hx14 := bt_at (rdOf ByteArray.empty t122 x4_1) x5_2
              replace p14 := eq_true p14
              replace q14 := eq_true q14
              go_wp2_with (first | ((with_reducible refine gate_callee (f := 46) rfl ?_); refine goesL_ (some 37) rfl rfl Tryd.func46 (by kernel_rfl) rfl #[.int .u8 (bt (rdOf ByteArray.empty t122 x4_1) x5_2)] rfl au24 ?_; (with_reducible refine (spec_l2Lower.calls (bt (rdOf ByteArray.empty t122 x4_1) x5_2) false _ A15.out).mono ?_); rintro e w' ⟨rfl, ⟨nd, rfl⟩⟩; refine ⟨_, rfl, ?_⟩))
              go_ret
              exact ax2
            ·
             rw [if_neg c13] at H
             exact absurd H (by simp)
           ·
            rw [if_neg c12] at H
            have c12b0 : decide (x5_2 < ((rdOf ByteArray.empty t122 x4_1).size : Int)) = false := decide_eq_false c12
            clear c12
            have H' := Aside0.mk H
            clear H
            have p127 : 0 ≤ (x4_1 : Int) := of_decide_eq_true au75
            have q127 : x4_1 < (t122.length : Int) := of_decide_eq_true au75
            obtain ⟨ad127, e127, hx127_0⟩ := Kd.at_string (Kd.R_reads' HO_3.out).2.2 x4_1 p127 q127
            obtain rfl : ad125 = ad127 := (by injection e127)
            replace p127 := eq_true p127
            replace q127 := eq_true q127
            go_wp2
            go_roundg k2
            case measure => have := HK1.out; have := HK2.out; omega
            case rel => exact ⟨(wrap64 (x4_1 + 1)), au76, H', ⟨by have := HK1.out; have := HK2.out; omega⟩, ⟨by (with_reducible repeat (first | apply Kd.R_alloc | apply Kd.R_drewN | apply Kd.R_drew)); exact HO_3.out⟩, ⟨by repeat (first | (with_reducible first | exact HB.out | apply below_alloc | apply pw_below_drewN | apply below_drew1) | exact HB.out)⟩⟩
          ·
           rw [if_neg c11] at H
           exact absurd H (by simp)
         ·
          rw [if_neg c10] at H
          exact absurd H (by simp)
      ·
       replace c8 := Bool.eq_false_iff.mpr c8
       subst c8
       replace H := (if_neg (show ¬ (false = true) by decide)).symm.trans H
       obtain rfl := Option.some.inj H
       obtain ⟨Ao17, co17, eo17⟩ := Kd.R_slice HO_3.out
       subst eo17
       have p125 : 0 ≤ (x4_1 : Int) := of_decide_eq_true au75
       have q125 : x4_1 < (t122.length : Int) := of_decide_eq_true au75
       obtain ⟨ad125, e125, hx125_0⟩ := Kd.at_string (Kd.R_reads' HO_3.out).2.2 x4_1 p125 q125
       cases e125
       replace p125 := eq_true p125
       replace q125 := eq_true q125
       go_wp2_with (first | ((with_reducible refine gate_callee (f := 28) rfl ?_); refine goesL_ (some 20) rfl rfl Tryd.func28 (by kernel_rfl) rfl #[.string (rdOf ByteArray.empty t122 x4_1)] rfl au24 ?_; (with_reducible refine (spec_l2Word.calls k1 (rdOf ByteArray.empty t122 x4_1) false _ A7.out).mono ?_); rintro e w' ⟨rfl, ⟨nd, rfl⟩⟩; refine ⟨_, rfl, ?_⟩))
       go_ret
       exact ax2
     ·
      rw [if_neg c6] at H
      exact absurd H (by simp)
    ·
     rw [if_neg c5] at H
     have c5b0 : decide (x4_1 < (t122.length : Int)) = false := decide_eq_false c5
     clear c5
     obtain rfl := Option.some.inj H
     obtain ⟨Ao18, co18, eo18⟩ := Kd.R_slice HO_3.out
     subst eo18
     go_wp2
     go_ret
     exact ax2


/-! ### spec_l2Good: function 22 -/
def spec_l2Good.l0 : Nat → Int → List ByteArray → ByteArray → ByteArray → ByteArray → Option (Bool)
 | 0, _, _, _, _, _ => none
 | k + 1, x3, x131000, x131001, x131002, x131003 => if x3 < (x131000.length : Int) then (if 0 ≤ x3 then ((spec_l2Word.f k (rdOf ByteArray.empty x131000 x3)).bind fun t132 => (if t132 = true then (if 0 < ((rdOf ByteArray.empty x131000 x3).size : Int) then ((spec_l2Upper.f (bt (rdOf ByteArray.empty x131000 x3) 0)).bind fun t134 => (if t134 = true then (spec_l2Good.l0 k (wrap64 (x3 + 1)) x131000 x131001 x131002 x131003) else (some false))) else (none)) else (some false))) else (none)) else (if (x131000.length : Int) ≤ 3 then ((spec_l2Particle.f k x131001).bind fun t135 => (if t135 = true then ((spec_l2Word.f k x131002).bind fun t136 => (if t136 = true then (if 0 < (x131002.size : Int) then ((spec_l2Upper.f (bt x131002 0)).bind fun t137 => (if t137 = true then (if x131003.toList = ([] : List UInt8) then (some true) else ((spec_l2Word.f k x131003).bind fun t138 => (some t138))) else (some false))) else (none)) else (some false))) else (some false))) else (some false))
def spec_l2Good.f (k : Nat) (l0_0 : List ByteArray) (a0_1 : ByteArray) (a0_2 : ByteArray) (a0_3 : ByteArray) : Option (Bool) := spec_l2Good.l0 k 0 l0_0 a0_1 a0_2 a0_3
theorem spec_l2Good.mono_l : ∀ k, (∀ y0 y1 y2 y3 y4, LeO (spec_l2Good.l0 k y0 y1 y2 y3 y4) (spec_l2Good.l0 (k + 1) y0 y1 y2 y3 y4))
 | 0 => fun _ _ _ _ _ r h => by simp [spec_l2Good.l0] at h
 | k + 1 => by
  have ih0 := spec_l2Good.mono_l k
  ·
   intro y0 y1 y2 y3 y4
   unfold spec_l2Good.l0
   repeat' first
   | (with_reducible exact ih0 _ _ _ _ _)
   | (with_reducible exact spec_l2Particle.mono _ _)
   | (with_reducible exact spec_l2Word.mono _ _)
   | (with_reducible exact LeO.refl _)
   | (with_reducible exact LeO.none _)
   | (with_reducible refine LeO.ite ?_ ?_)
   | (with_reducible refine LeO.bind ?_ (fun _ => ?_))
   | exact ih0 _ _ _ _ _
   | exact spec_l2Particle.mono _ _
   | exact spec_l2Word.mono _ _
   | exact LeO.none _
   | refine LeO.ite ?_ ?_
   | refine LeO.bind ?_ (fun _ => ?_)
theorem spec_l2Good.mono : ∀ a0 a1 a2 a3 k, LeO (spec_l2Good.f k a0 a1 a2 a3) (spec_l2Good.f (k + 1) a0 a1 a2 a3) := by
 intro a0 a1 a2 a3 k
 have ih0 := spec_l2Good.mono_l k
 unfold spec_l2Good.f
 repeat' first
   | (with_reducible exact ih0 _ _ _ _ _)
   | (with_reducible exact spec_l2Particle.mono _ _)
   | (with_reducible exact spec_l2Word.mono _ _)
   | (with_reducible exact LeO.refl _)
   | (with_reducible exact LeO.none _)
   | (with_reducible refine LeO.ite ?_ ?_)
   | (with_reducible refine LeO.bind ?_ (fun _ => ?_))
   | exact ih0 _ _ _ _ _
   | exact spec_l2Particle.mono _ _
   | exact spec_l2Word.mono _ _
   | exact LeO.none _
   | refine LeO.ite ?_ ?_
   | refine LeO.bind ?_ (fun _ => ?_)
set_option maxRecDepth 100000 in
theorem spec_l2Good.L0 {P : Prop} (h : P := by
  go_wp2_with (first | ((with_reducible refine gate_callee (f := 28) rfl ?_); refine goesL_ (some 16) rfl rfl Tryd.func28 (by kernel_rfl) rfl #[.string (rdOf ByteArray.empty l0_0 x3_1)] rfl au24 ?_; (with_reducible refine (spec_l2Word.calls k1 (rdOf ByteArray.empty l0_0 x3_1) _ _ A5.out).mono ?_); rintro e w' ⟨rfl, ⟨nd, rfl⟩⟩; refine ⟨_, rfl, ?_⟩; have p133 : 0 ≤ (x3_1 : Int) := of_decide_eq_true au75; have q133 : x3_1 < (l0_0.length : Int) := of_decide_eq_true au75; obtain ⟨ad133, e133, hx133_0⟩ := Kd.at_string HR0_0.out x3_1 p133 q133; obtain rfl : ad131 = ad133 := (by injection e133); replace hx133_0 := bcl HB.out hx133_0; replace p133 := eq_true p133; replace q133 := eq_true q133; have p8 : 0 ≤ (0 : Int) := (by omega); have q8 : 0 < (rdOf ByteArray.empty l0_0 x3_1).size := (by have : (0 : Int) < ((rdOf ByteArray.empty l0_0 x3_1).size : Int) := of_decide_eq_true au75; omega); have hx8 : ∀ h : 0 < (rdOf ByteArray.empty l0_0 x3_1).size, (((rdOf ByteArray.empty l0_0 x3_1)[0]'h).toNat : Int) = bt (rdOf ByteArray.empty l0_0 x3_1) 0 := bt_at (rdOf ByteArray.empty l0_0 x3_1) 0; clear p8; have qi8 : (0 < ((rdOf ByteArray.empty l0_0 x3_1).size : Int)) = True := eq_true (of_decide_eq_true au75); replace q8 := eq_true q8) | (go_at_call 29; (with_reducible refine (spec_l2Upper.calls (bt (rdOf ByteArray.empty l0_0 x3_1) 0) _ _ A9.out).mono ?_); rintro e w' ⟨rfl, ⟨nd, rfl⟩⟩))
  go_ret
  exact ax3) : P := h
set_option maxRecDepth 100000 in
theorem spec_l2Good.L1 {P : Prop} (h : P := by
  go_wp2_with (first | (go_at_call 30; (with_reducible refine (spec_l2Particle.calls k1 a0_1 _ _ A15.out).mono ?_); rintro e w29 ⟨rfl, hb⟩; replace BK130 := Aside0.mk (blk_below (g := gb130) au45 hb); replace HB := Aside0.mk (below_step au14 hb); (try clear hb); obtain ⟨hcz30_0, hcz30_1, hcz30_2, hcz30_3, hfz30_0, hfz30_1, hfz30_2, hfz30_3⟩ := blkc4 BK130.out) | (go_at_call 28; (with_reducible refine (spec_l2Word.calls k1 a0_2 _ _ A17.out).mono ?_); rintro e w' ⟨rfl, ⟨nd, rfl⟩⟩; have p20 : 0 ≤ (0 : Int) := (by omega); have q20 : 0 < a0_2.size := (by have : (0 : Int) < (a0_2.size : Int) := of_decide_eq_true au75; omega); have hx20 : ∀ h : 0 < a0_2.size, ((a0_2[0]'h).toNat : Int) = bt a0_2 0 := bt_at a0_2 0; clear p20; have qi20 : (0 < (a0_2.size : Int)) = True := eq_true (of_decide_eq_true au75); replace q20 := eq_true q20) | (go_at_call 29; (with_reducible refine (spec_l2Upper.calls (bt a0_2 0) _ _ A21.out).mono ?_); rintro e w' ⟨rfl, ⟨nd, rfl⟩⟩) | (go_at_call 28; (with_reducible refine (spec_l2Word.calls k1 a0_3 t138 _ A27.out).mono ?_); rintro e w' ⟨rfl, ⟨nd, rfl⟩⟩))
  go_ret
  exact ax3) : P := h
set_option maxHeartbeats 8000000 in
set_option maxRecDepth 100000 in
theorem spec_l2Good.calls (k : Nat) (A0_0 : Option Addr) (c0_0 : Nat) (l0_0 : List ByteArray) (a0_1 : ByteArray) (a0_2 : ByteArray) (a0_3 : ByteArray) (r : Bool) (w : World) (hr0_0 : Kd.C Kd.string w A0_0 l0_0.length l0_0) (hc0_0 : l0_0.length ≤ c0_0) (h : spec_l2Good.f k l0_0 a0_1 a0_2 a0_3 = some r) :
  Calls Tryd.prog 22 #[.agg #[.slice A0_0 l0_0.length c0_0, .string a0_1, .string a0_2, .string a0_3]] w fun e w' => e = .returned (.bool r) ∧ Below w.heap.size w w' := by
 have hu31 := Tryd.underlying31
 have HR0_0 := Aside0.mk hr0_0
 have HC0_0 := Aside0.mk hc0_0
 clear hr0_0 hc0_0
 have HB := Aside0.mk (Below.refl w.heap.size w)
 have H : (spec_l2Good.l0 k 0 l0_0 a0_1 a0_2 a0_3) = some r := h
 clear h
 have H' := Aside0.mk H
 clear H
 go_enter Tryd.func22, Tryd.ntmps22
 go_wp2_with (first | ((with_reducible refine gate_dst (N := 1) rfl ?_); refine box_event ?hg (N := 1) ?hd (cs := #[.slice A0_0 l0_0.length c0_0, .string a0_1, .string a0_2, .string a0_3]) (t := 31) ?hr ?_; (case hd => rfl); (case hg => rfl); (case hr => first | (go_simp; done) | (go_simp; rfl)); intro gb130 hg w2 hbox hb; have BK130 := Aside0.mk (hbox); have GW130 := Aside0.mk (bsz hg au27); have GE130 := Aside0.mk (bsz hg au27); replace HB := Aside0.mk (below_step au27 hb); clear hb hbox hg))
 go_loopg [3] k (fun kq v3 w' => ∃ (x3_1 : Int), v3 = .int .i64 x3_1 ∧ Aside0 (spec_l2Good.l0 kq x3_1 l0_0 a0_1 a0_2 a0_3 = some r) ∧ Aside0 (kq ≤ k) ∧ Aside0 (w'.heap[gb130]? = some (.cells #[(.slice A0_0 l0_0.length c0_0), .string a0_1, .string a0_2, .string a0_3] 31 (0, 0))) ∧ Aside0 (Below w.heap.size w w'))
 case atStart => exact ⟨(0), au76, H', ⟨Nat.le_refl _⟩, ⟨by (with_reducible repeat (first | refine blk_drewN ?_ _ | refine blk_drew ?_ | refine blk_alloc ?_ _)); exact BK130.out⟩, ⟨by repeat (first | (with_reducible first | exact HB.out | apply below_alloc | apply pw_below_drewN | apply below_drew1 | refine below_set ?_ GE130.out) | exact HB.out)⟩⟩
 case round =>
  clear H'
  try clear c2
  try clear p2
  obtain ⟨x3_1, rfl, HA, HK1, BK130, HB⟩ := hrel
  cases gk with
  | zero => exact absurd HA.out (by simp [spec_l2Good.l0])
  | succ k1 =>
   have H := HA.out
   clear HA
   simp only [spec_l2Good.l0] at H
   by_cases c3 : x3_1 < (l0_0.length : Int)
   ·
    rw [if_pos c3] at H
    have c3b0 : decide (x3_1 < (l0_0.length : Int)) = true := decide_eq_true c3
    clear c3
    by_cases c4 : 0 ≤ x3_1
    ·
     rw [if_pos c4] at H
     have c4b0 : decide (0 ≤ x3_1) = true := decide_eq_true c4
     clear c4
     replace H := Option.bind_eq_some_iff.mp H
     obtain ⟨t132, A50, H⟩ := H
     try dsimp only at H
     have A5 := Aside0.mk A50
     clear A50
     by_cases c6 : t132 = true
     ·
      subst c6
      replace H := (if_pos rfl).symm.trans H
      by_cases c7 : 0 < ((rdOf ByteArray.empty l0_0 x3_1).size : Int)
      ·
       rw [if_pos c7] at H
       have c7b0 : decide (0 < ((rdOf ByteArray.empty l0_0 x3_1).size : Int)) = true := decide_eq_true c7
       have c7b1 : decide (0 < (rdOf ByteArray.empty l0_0 x3_1).size) = true := decide_eq_true (by omega)
       clear c7
       replace H := Option.bind_eq_some_iff.mp H
       obtain ⟨t134, A90, H⟩ := H
       try dsimp only at H
       have A9 := Aside0.mk A90
       clear A90
       by_cases c10 : t134 = true
       ·
        subst c10
        replace H := (if_pos rfl).symm.trans H
        have H' := Aside0.mk H
        clear H
        obtain ⟨hcz11_0, hcz11_1, hcz11_2, hcz11_3, hfz11_0, hfz11_1, hfz11_2, hfz11_3⟩ := blkc4 BK130.out
        have p131 : 0 ≤ (x3_1 : Int) := of_decide_eq_true au75
        have q131 : x3_1 < (l0_0.length : Int) := of_decide_eq_true au75
        obtain ⟨ad131, e131, hx131_0⟩ := Kd.at_string HR0_0.out x3_1 p131 q131
        cases e131
        replace hx131_0 := bcl HB.out hx131_0
        replace p131 := eq_true p131
        replace q131 := eq_true q131
        go_wp2_with (first | ((with_reducible refine gate_callee (f := 28) rfl ?_); refine goesL_ (some 16) rfl rfl Tryd.func28 (by kernel_rfl) rfl #[.string (rdOf ByteArray.empty l0_0 x3_1)] rfl au24 ?_; (with_reducible refine (spec_l2Word.calls k1 (rdOf ByteArray.empty l0_0 x3_1) _ _ A5.out).mono ?_); rintro e w' ⟨rfl, ⟨nd, rfl⟩⟩; refine ⟨_, rfl, ?_⟩; have p133 : 0 ≤ (x3_1 : Int) := of_decide_eq_true au75; have q133 : x3_1 < (l0_0.length : Int) := of_decide_eq_true au75; obtain ⟨ad133, e133, hx133_0⟩ := Kd.at_string HR0_0.out x3_1 p133 q133; obtain rfl : ad131 = ad133 := (by injection e133); replace hx133_0 := bcl HB.out hx133_0; replace p133 := eq_true p133; replace q133 := eq_true q133; have p8 : 0 ≤ (0 : Int) := (by omega); have q8 : 0 < (rdOf ByteArray.empty l0_0 x3_1).size := (by have : (0 : Int) < ((rdOf ByteArray.empty l0_0 x3_1).size : Int) := of_decide_eq_true au75; omega); have hx8 : ∀ h : 0 < (rdOf ByteArray.empty l0_0 x3_1).size, (((rdOf ByteArray.empty l0_0 x3_1)[0]'h).toNat : Int) = bt (rdOf ByteArray.empty l0_0 x3_1) 0 := bt_at (rdOf ByteArray.empty l0_0 x3_1) 0; clear p8; have qi8 : (0 < ((rdOf ByteArray.empty l0_0 x3_1).size : Int)) = True := eq_true (of_decide_eq_true au75); replace q8 := eq_true q8) | (go_at_call 29; (with_reducible refine (spec_l2Upper.calls (bt (rdOf ByteArray.empty l0_0 x3_1) 0) _ _ A9.out).mono ?_); rintro e w' ⟨rfl, ⟨nd, rfl⟩⟩))
        go_roundg k1
        case measure => have := HK1.out; omega
        case rel => exact ⟨(wrap64 (x3_1 + 1)), au76, H', ⟨by have := HK1.out; omega⟩, ⟨by (with_reducible repeat (first | refine blk_drewN ?_ _ | refine blk_drew ?_ | refine blk_alloc ?_ _)); exact BK130.out⟩, ⟨by repeat (first | (with_reducible first | exact HB.out | apply below_alloc | apply pw_below_drewN | apply below_drew1 | refine below_set ?_ GE130.out) | exact HB.out)⟩⟩
       ·
        replace c10 := Bool.eq_false_iff.mpr c10
        subst c10
        replace H := (if_neg (show ¬ (false = true) by decide)).symm.trans H
        obtain rfl := Option.some.inj H
        obtain ⟨hcz12_0, hcz12_1, hcz12_2, hcz12_3, hfz12_0, hfz12_1, hfz12_2, hfz12_3⟩ := blkc4 BK130.out
        have p131 : 0 ≤ (x3_1 : Int) := of_decide_eq_true au75
        have q131 : x3_1 < (l0_0.length : Int) := of_decide_eq_true au75
        obtain ⟨ad131, e131, hx131_0⟩ := Kd.at_string HR0_0.out x3_1 p131 q131
        cases e131
        replace hx131_0 := bcl HB.out hx131_0
        replace p131 := eq_true p131
        replace q131 := eq_true q131
        exact spec_l2Good.L0
      ·
       rw [if_neg c7] at H
       exact absurd H (by simp)
     ·
      replace c6 := Bool.eq_false_iff.mpr c6
      subst c6
      replace H := (if_neg (show ¬ (false = true) by decide)).symm.trans H
      obtain rfl := Option.some.inj H
      obtain ⟨hcz13_0, hcz13_1, hcz13_2, hcz13_3, hfz13_0, hfz13_1, hfz13_2, hfz13_3⟩ := blkc4 BK130.out
      have p131 : 0 ≤ (x3_1 : Int) := of_decide_eq_true au75
      have q131 : x3_1 < (l0_0.length : Int) := of_decide_eq_true au75
      obtain ⟨ad131, e131, hx131_0⟩ := Kd.at_string HR0_0.out x3_1 p131 q131
      cases e131
      replace hx131_0 := bcl HB.out hx131_0
      replace p131 := eq_true p131
      replace q131 := eq_true q131
      go_wp2_with (first | ((with_reducible refine gate_callee (f := 28) rfl ?_); refine goesL_ (some 16) rfl rfl Tryd.func28 (by kernel_rfl) rfl #[.string (rdOf ByteArray.empty l0_0 x3_1)] rfl au24 ?_; (with_reducible refine (spec_l2Word.calls k1 (rdOf ByteArray.empty l0_0 x3_1) _ _ A5.out).mono ?_); rintro e w' ⟨rfl, ⟨nd, rfl⟩⟩; refine ⟨_, rfl, ?_⟩))
      go_ret
      exact ax3
    ·
     rw [if_neg c4] at H
     exact absurd H (by simp)
   ·
    rw [if_neg c3] at H
    have c3b0 : decide (x3_1 < (l0_0.length : Int)) = false := decide_eq_false c3
    clear c3
    by_cases c14 : (l0_0.length : Int) ≤ 3
    ·
     rw [if_pos c14] at H
     have c14b0 : decide ((l0_0.length : Int) ≤ 3) = true := decide_eq_true c14
     have c14b1 : decide (l0_0.length ≤ 3) = true := decide_eq_true (by omega)
     clear c14
     replace H := Option.bind_eq_some_iff.mp H
     obtain ⟨t135, A150, H⟩ := H
     try dsimp only at H
     have A15 := Aside0.mk A150
     clear A150
     by_cases c16 : t135 = true
     ·
      subst c16
      replace H := (if_pos rfl).symm.trans H
      replace H := Option.bind_eq_some_iff.mp H
      obtain ⟨t136, A170, H⟩ := H
      try dsimp only at H
      have A17 := Aside0.mk A170
      clear A170
      by_cases c18 : t136 = true
      ·
       subst c18
       replace H := (if_pos rfl).symm.trans H
       by_cases c19 : 0 < (a0_2.size : Int)
       ·
        rw [if_pos c19] at H
        have c19b0 : decide (0 < (a0_2.size : Int)) = true := decide_eq_true c19
        have c19b1 : decide (0 < a0_2.size) = true := decide_eq_true (by omega)
        clear c19
        replace H := Option.bind_eq_some_iff.mp H
        obtain ⟨t137, A210, H⟩ := H
        try dsimp only at H
        have A21 := Aside0.mk A210
        clear A210
        by_cases c22 : t137 = true
        ·
         subst c22
         replace H := (if_pos rfl).symm.trans H
         by_cases c23 : a0_3.toList = ([] : List UInt8)
         ·
          rw [if_pos c23] at H
          have c23b0 : (a0_3.toList == ([] : List UInt8)) = true := beq_iff_eq.mpr c23
          have c23b1 : (a0_3.toList != ([] : List UInt8)) = false := bne_eq_false_iff_eq.mpr c23
          clear c23
          obtain rfl := Option.some.inj H
          obtain ⟨hcz24_0, hcz24_1, hcz24_2, hcz24_3, hfz24_0, hfz24_1, hfz24_2, hfz24_3⟩ := blkc4 BK130.out
          exact spec_l2Good.L1
         ·
          rw [if_neg c23] at H
          have c23b0 : (a0_3.toList == ([] : List UInt8)) = false := beq_eq_false_iff_ne.mpr c23
          have c23b1 : (a0_3.toList != ([] : List UInt8)) = true := bne_iff_ne.mpr c23
          replace H := Option.bind_eq_some_iff.mp H
          obtain ⟨t138, A270, H⟩ := H
          try dsimp only at H
          have A27 := Aside0.mk A270
          clear A270
          obtain rfl := Option.some.inj H
          obtain ⟨hcz28_0, hcz28_1, hcz28_2, hcz28_3, hfz28_0, hfz28_1, hfz28_2, hfz28_3⟩ := blkc4 BK130.out
          exact spec_l2Good.L1
        ·
         replace c22 := Bool.eq_false_iff.mpr c22
         subst c22
         replace H := (if_neg (show ¬ (false = true) by decide)).symm.trans H
         obtain rfl := Option.some.inj H
         obtain ⟨hcz31_0, hcz31_1, hcz31_2, hcz31_3, hfz31_0, hfz31_1, hfz31_2, hfz31_3⟩ := blkc4 BK130.out
         exact spec_l2Good.L1
       ·
        rw [if_neg c19] at H
        exact absurd H (by simp)
      ·
       replace c18 := Bool.eq_false_iff.mpr c18
       subst c18
       replace H := (if_neg (show ¬ (false = true) by decide)).symm.trans H
       obtain rfl := Option.some.inj H
       obtain ⟨hcz34_0, hcz34_1, hcz34_2, hcz34_3, hfz34_0, hfz34_1, hfz34_2, hfz34_3⟩ := blkc4 BK130.out
       go_wp2_with (first | (go_at_call 30; (with_reducible refine (spec_l2Particle.calls k1 a0_1 _ _ A15.out).mono ?_); rintro e w35 ⟨rfl, hb⟩; replace BK130 := Aside0.mk (blk_below (g := gb130) au45 hb); replace HB := Aside0.mk (below_step au14 hb); (try clear hb); obtain ⟨hcz36_0, hcz36_1, hcz36_2, hcz36_3, hfz36_0, hfz36_1, hfz36_2, hfz36_3⟩ := blkc4 BK130.out) | (go_at_call 28; (with_reducible refine (spec_l2Word.calls k1 a0_2 _ _ A17.out).mono ?_); rintro e w' ⟨rfl, ⟨nd, rfl⟩⟩))
       go_ret
       exact ax3
     ·
      replace c16 := Bool.eq_false_iff.mpr c16
      subst c16
      replace H := (if_neg (show ¬ (false = true) by decide)).symm.trans H
      obtain rfl := Option.some.inj H
      obtain ⟨hcz37_0, hcz37_1, hcz37_2, hcz37_3, hfz37_0, hfz37_1, hfz37_2, hfz37_3⟩ := blkc4 BK130.out
      go_wp2_with (first | (go_at_call 30; (with_reducible refine (spec_l2Particle.calls k1 a0_1 _ _ A15.out).mono ?_); rintro e w38 ⟨rfl, hb⟩; replace BK130 := Aside0.mk (blk_below (g := gb130) au45 hb); replace HB := Aside0.mk (below_step au14 hb); (try clear hb)))
      go_ret
      exact ax3
    ·
     rw [if_neg c14] at H
     have c14b0 : decide ((l0_0.length : Int) ≤ 3) = false := decide_eq_false c14
     have c14b1 : decide (l0_0.length ≤ 3) = false := decide_eq_false (by omega)
     clear c14
     obtain rfl := Option.some.inj H
     obtain ⟨hcz39_0, hcz39_1, hcz39_2, hcz39_3, hfz39_0, hfz39_1, hfz39_2, hfz39_3⟩ := blkc4 BK130.out
     exact spec_l2Good.L0


/-! ### spec_l2Given: function 31 -/
def spec_l2Given.f (k : Nat) (l0_0 : List ByteArray) (a0_1 : ByteArray) (a0_2 : ByteArray) (a0_3 : ByteArray) : Option (ByteArray) := (spec_l2Join.f k l0_0).bind fun t140 => (some t140)
theorem spec_l2Given.mono : ∀ a0 a1 a2 a3 k, LeO (spec_l2Given.f k a0 a1 a2 a3) (spec_l2Given.f (k + 1) a0 a1 a2 a3) := by
 intro a0 a1 a2 a3 k
 unfold spec_l2Given.f
 repeat' first
   | (with_reducible exact spec_l2Join.mono _ _)
   | (with_reducible exact LeO.refl _)
   | (with_reducible exact LeO.none _)
   | (with_reducible refine LeO.ite ?_ ?_)
   | (with_reducible refine LeO.bind ?_ (fun _ => ?_))
   | exact spec_l2Join.mono _ _
   | exact LeO.none _
   | refine LeO.ite ?_ ?_
   | refine LeO.bind ?_ (fun _ => ?_)
set_option maxHeartbeats 8000000 in
set_option maxRecDepth 100000 in
theorem spec_l2Given.calls (k : Nat) (A0_0 : Option Addr) (c0_0 : Nat) (l0_0 : List ByteArray) (a0_1 : ByteArray) (a0_2 : ByteArray) (a0_3 : ByteArray) (r : ByteArray) (w : World) (hr0_0 : Kd.C Kd.string w A0_0 l0_0.length l0_0) (hc0_0 : l0_0.length ≤ c0_0) (h : spec_l2Given.f k l0_0 a0_1 a0_2 a0_3 = some r) :
  Calls Tryd.prog 31 #[.agg #[.slice A0_0 l0_0.length c0_0, .string a0_1, .string a0_2, .string a0_3]] w fun e w' => e = .returned (.string r) ∧ Below w.heap.size w w' := by
 have hu31 := Tryd.underlying31
 have HR0_0 := Aside0.mk hr0_0
 have HC0_0 := Aside0.mk hc0_0
 clear hr0_0 hc0_0
 have HB := Aside0.mk (Below.refl w.heap.size w)
 have H : ((spec_l2Join.f k l0_0).bind fun t140 => (some t140)) = some r := h
 clear h
 replace H := Option.bind_eq_some_iff.mp H
 obtain ⟨t140, A20, H⟩ := H
 try dsimp only at H
 have A2 := Aside0.mk A20
 clear A20
 obtain rfl := Option.some.inj H
 go_enter Tryd.func31, Tryd.ntmps31
 go_wp2_with (first | ((with_reducible refine gate_dst (N := 1) rfl ?_); refine box_event ?hg (N := 1) ?hd (cs := #[.slice A0_0 l0_0.length c0_0, .string a0_1, .string a0_2, .string a0_3]) (t := 31) ?hr ?_; (case hd => rfl); (case hg => rfl); (case hr => first | (go_simp; done) | (go_simp; rfl)); intro gb139 hg w3 hbox hb; have BK139 := Aside0.mk (hbox); have GW139 := Aside0.mk (bsz hg au27); have GE139 := Aside0.mk (bsz hg au27); replace HB := Aside0.mk (below_step au27 hb); clear hb hbox hg; obtain ⟨hcz4_0, hcz4_1, hcz4_2, hcz4_3, hfz4_0, hfz4_1, hfz4_2, hfz4_3⟩ := blkc4 BK139.out) | ((with_reducible refine gate_callee (f := 21) rfl ?_); refine goesL_ (some 5) rfl rfl Tryd.func21 (by kernel_rfl) rfl #[.slice A0_0 l0_0.length c0_0] rfl au24 ?_; (with_reducible refine (spec_l2Join.calls k _ _ l0_0 t140 _ ?side1 ?side2 A2.out).mono ?_); (case side1 => repeat (first | exact (Kd.C_below HR0_0.out HB.out) | (with_reducible refine Kd.C_alloc ?_ _) | (with_reducible refine Kd.C_drewN ?_ _) | (with_reducible refine Kd.C_drew ?_))); (case side2 => exact HC0_0.out); rintro e w' ⟨rfl, ⟨nd, rfl⟩⟩; refine ⟨_, rfl, ?_⟩))
 go_ret
 exact ⟨by first | rfl | (simp [errW_none, errW_some] <;> rfl) | (simp [*, errW_none, errW_some] <;> rfl), by repeat (first | (with_reducible first | exact HB.out | apply below_alloc | apply pw_below_drewN | apply below_drew1 | refine below_set ?_ GE139.out) | exact HB.out)⟩


/-! ### spec_l2Inverse: function 23 -/
def spec_l2Inverse.j0 : Nat → ByteArray → Bool → List ByteArray → ByteArray → ByteArray → ByteArray → Option (ByteArray)
 | 0, _, _, _, _, _, _ => none
 | k + 1, x3, x18, x142000, x142001, x142002, x142003 => if x18 = true then (if x3.size + 2 ≤ 9223372036854775807 then ((spec_l2Given.f k x142000 x142001 x142002 x142003).bind fun t146 => (if (x3 ++ (⟨#[44, 32]⟩ : ByteArray)).size + t146.size ≤ 9223372036854775807 then (if x142003.toList = ([] : List UInt8) then (some ((x3 ++ (⟨#[44, 32]⟩ : ByteArray)) ++ t146)) else (if ((x3 ++ (⟨#[44, 32]⟩ : ByteArray)) ++ t146).size + 2 ≤ 9223372036854775807 then (if (((x3 ++ (⟨#[44, 32]⟩ : ByteArray)) ++ t146) ++ (⟨#[44, 32]⟩ : ByteArray)).size + x142003.size ≤ 9223372036854775807 then (some ((((x3 ++ (⟨#[44, 32]⟩ : ByteArray)) ++ t146) ++ (⟨#[44, 32]⟩ : ByteArray)) ++ x142003)) else (none)) else (none))) else (none))) else (none)) else (if x142003.toList = ([] : List UInt8) then (some x3) else (if x3.size + 2 ≤ 9223372036854775807 then (if (x3 ++ (⟨#[44, 32]⟩ : ByteArray)).size + x142003.size ≤ 9223372036854775807 then (some ((x3 ++ (⟨#[44, 32]⟩ : ByteArray)) ++ x142003)) else (none)) else (none)))
def spec_l2Inverse.f (k : Nat) (l0_0 : List ByteArray) (a0_1 : ByteArray) (a0_2 : ByteArray) (a0_3 : ByteArray) : Option (ByteArray) := (spec_l2Join.f k (([a0_1, a0_2] : List ByteArray))).bind fun t145 => (if (l0_0.length : Int) > 0 then (spec_l2Inverse.j0 k t145 true l0_0 a0_1 a0_2 a0_3) else (spec_l2Inverse.j0 k t145 (a0_3.toList != ([] : List UInt8)) l0_0 a0_1 a0_2 a0_3))
theorem spec_l2Inverse.mono_l : ∀ k, (∀ y0 y1 y2 y3 y4 y5, LeO (spec_l2Inverse.j0 k y0 y1 y2 y3 y4 y5) (spec_l2Inverse.j0 (k + 1) y0 y1 y2 y3 y4 y5))
 | 0 => fun _ _ _ _ _ _ r h => by simp [spec_l2Inverse.j0] at h
 | k + 1 => by
  have ih0 := spec_l2Inverse.mono_l k
  ·
   intro y0 y1 y2 y3 y4 y5
   unfold spec_l2Inverse.j0
   repeat' first
   | (with_reducible exact ih0 _ _ _ _ _ _)
   | (with_reducible exact spec_l2Given.mono _ _ _ _ _)
   | (with_reducible exact spec_l2Join.mono _ _)
   | (with_reducible exact LeO.refl _)
   | (with_reducible exact LeO.none _)
   | (with_reducible refine LeO.ite ?_ ?_)
   | (with_reducible refine LeO.bind ?_ (fun _ => ?_))
   | exact ih0 _ _ _ _ _ _
   | exact spec_l2Given.mono _ _ _ _ _
   | exact spec_l2Join.mono _ _
   | exact LeO.none _
   | refine LeO.ite ?_ ?_
   | refine LeO.bind ?_ (fun _ => ?_)
theorem spec_l2Inverse.mono : ∀ a0 a1 a2 a3 k, LeO (spec_l2Inverse.f k a0 a1 a2 a3) (spec_l2Inverse.f (k + 1) a0 a1 a2 a3) := by
 intro a0 a1 a2 a3 k
 have ih0 := spec_l2Inverse.mono_l k
 unfold spec_l2Inverse.f
 repeat' first
   | (with_reducible exact ih0 _ _ _ _ _ _)
   | (with_reducible exact spec_l2Given.mono _ _ _ _ _)
   | (with_reducible exact spec_l2Join.mono _ _)
   | (with_reducible exact LeO.refl _)
   | (with_reducible exact LeO.none _)
   | (with_reducible refine LeO.ite ?_ ?_)
   | (with_reducible refine LeO.bind ?_ (fun _ => ?_))
   | exact ih0 _ _ _ _ _ _
   | exact spec_l2Given.mono _ _ _ _ _
   | exact spec_l2Join.mono _ _
   | exact LeO.none _
   | refine LeO.ite ?_ ?_
   | refine LeO.bind ?_ (fun _ => ?_)
set_option maxRecDepth 100000 in
theorem spec_l2Inverse.L0 {P : Prop} (h : P := by
  go_wp2_with (first | ((with_reducible refine gate_callee (f := 31) rfl ?_); refine goesL_ (some 22) rfl rfl Tryd.func31 (by kernel_rfl) rfl #[.agg #[.slice A0_0 l0_0.length c0_0, .string a0_1, .string a0_2, .string a0_3]] rfl au24 ?_; (with_reducible refine (spec_l2Given.calls kj2 _ _ l0_0 a0_1 a0_2 a0_3 t146 _ ?side1 ?side2 A14.out).mono ?_); (case side1 => repeat (first | exact (Kd.C_below HR0_0.out HB.out) | (with_reducible refine Kd.C_alloc ?_ _) | (with_reducible refine Kd.C_drewN ?_ _) | (with_reducible refine Kd.C_drew ?_))); (case side2 => exact HC0_0.out); rintro e w18 ⟨rfl, hb⟩; refine ⟨_, rfl, ?_⟩; replace BK141 := Aside0.mk (blk_below (g := gb141) au46 hb); replace HB := Aside0.mk (below_step au15 hb); (try clear hb); obtain ⟨hcz19_0, hcz19_1, hcz19_2, hcz19_3, hfz19_0, hfz19_1, hfz19_2, hfz19_3⟩ := blkc4 BK141.out))
  go_ret
  exact ⟨by first | rfl | (simp [errW_none, errW_some] <;> rfl) | (simp [*, errW_none, errW_some] <;> rfl), by repeat (first | (with_reducible first | exact HB.out | apply below_alloc | apply pw_below_drewN | apply below_drew1 | refine below_set ?_ GE141.out) | exact HB.out)⟩) : P := h
set_option maxHeartbeats 8000000 in
set_option maxRecDepth 100000 in
theorem spec_l2Inverse.calls (k : Nat) (A0_0 : Option Addr) (c0_0 : Nat) (l0_0 : List ByteArray) (a0_1 : ByteArray) (a0_2 : ByteArray) (a0_3 : ByteArray) (r : ByteArray) (w : World) (hr0_0 : Kd.C Kd.string w A0_0 l0_0.length l0_0) (hc0_0 : l0_0.length ≤ c0_0) (h : spec_l2Inverse.f k l0_0 a0_1 a0_2 a0_3 = some r) :
  Calls Tryd.prog 23 #[.agg #[.slice A0_0 l0_0.length c0_0, .string a0_1, .string a0_2, .string a0_3]] w fun e w' => e = .returned (.string r) ∧ Below w.heap.size w w' := by
 have hu31 := Tryd.underlying31
 have HR0_0 := Aside0.mk hr0_0
 have HC0_0 := Aside0.mk hc0_0
 clear hr0_0 hc0_0
 have HB := Aside0.mk (Below.refl w.heap.size w)
 have H : ((spec_l2Join.f k (([a0_1, a0_2] : List ByteArray))).bind fun t145 => (if (l0_0.length : Int) > 0 then (spec_l2Inverse.j0 k t145 true l0_0 a0_1 a0_2 a0_3) else (spec_l2Inverse.j0 k t145 (a0_3.toList != ([] : List UInt8)) l0_0 a0_1 a0_2 a0_3))) = some r := h
 clear h
 obtain ⟨y142, hy142⟩ : ∃ y_ : List ByteArray, y_ = (([a0_1, a0_2] : List ByteArray)) := ⟨_, rfl⟩
 replace H : ((spec_l2Join.f k y142).bind fun t145 => (if (l0_0.length : Int) > 0 then (spec_l2Inverse.j0 k t145 true l0_0 a0_1 a0_2 a0_3) else (spec_l2Inverse.j0 k t145 (a0_3.toList != ([] : List UInt8)) l0_0 a0_1 a0_2 a0_3))) = some r := by first | (rw [hy142]; with_reducible exact H) | (have H2_ := (Option.bind_some _ _).symm.trans H; rw [hy142]; with_reducible exact H2_) | (have H2_ := (Option.bind_some _ _).symm.trans H; with_reducible exact H2_) | with_reducible exact H | (rw [hy142]; exact H) | exact H
 have Ny142 := Aside0.mk hy142
 clear hy142
 replace H := Option.bind_eq_some_iff.mp H
 obtain ⟨t145, A20, H⟩ := H
 try dsimp only at H
 have A2 := Aside0.mk A20
 clear A20
 have HC3 := Aside0.mk H
 clear H
 go_enter Tryd.func23, Tryd.ntmps23
 go_upto_region 2 with (first | ((with_reducible refine gate_dst (N := 1) rfl ?_); refine box_event ?hg (N := 1) ?hd (cs := #[.slice A0_0 l0_0.length c0_0, .string a0_1, .string a0_2, .string a0_3]) (t := 31) ?hr ?_; (case hd => rfl); (case hg => rfl); (case hr => first | (go_simp; done) | (go_simp; rfl)); intro gb141 hg w4 hbox hb; have BK141 := Aside0.mk (hbox); have GW141 := Aside0.mk (bsz hg au27); have GE141 := Aside0.mk (bsz hg au27); replace HB := Aside0.mk (below_step au27 hb); clear hb hbox hg; obtain ⟨hcz5_0, hcz5_1, hcz5_2, hcz5_3, hfz5_0, hfz5_1, hfz5_2, hfz5_3⟩ := blkc4 BK141.out) | ((with_reducible refine gate_dst (N := 8) rfl ?_); refine Kd.R_lit Kd.string _ 9 ?hg (N := 8) ?hd (xs := ([a0_1, a0_2] : List ByteArray)) (inner := [.string a0_1, .string a0_2]) (ok := fun _ => True) (okp := fun _ => True) ?hr ?hp (fun _ hk => hk) trivial (Below.refl _ _) (Nat.le_refl _) (by simp) ?_; (case hd => rfl); (case hg => rfl); (case hr => first | (go_simp; done) | (go_simp; rfl)); (case hp => exact (Reps.one (show Kd.M Kd.string _ _ _ a0_1 [.string a0_1] from rfl) (Reps.one (show Kd.M Kd.string _ _ _ a0_2 [.string a0_2] from rfl) (Reps.none _ _)))); intro v143 w6 ho7 hb hg_ hnew_; clear hg_ hnew_; (first | rw [← Ny142.out] at ho7 | (simp only [Int.reduceToNat] at ho7; rw [← Ny142.out] at ho7)); have HO144 := Aside0.mk (Kd.R_lower ho7 (below_size au15)); replace BK141 := Aside0.mk (blk_below (g := gb141) au46 hb); replace HB := Aside0.mk (below_step au15 hb); clear hb ho7; obtain ⟨Ao8, co8, eo8⟩ := Kd.R_slice HO144.out; subst eo8) | ((with_reducible refine gate_callee (f := 21) rfl ?_); refine goesL_ (some 9) rfl rfl Tryd.func21 (by kernel_rfl) rfl #[.slice Ao8 y142.length co8] rfl au24 ?_; (with_reducible refine (spec_l2Join.calls k _ _ y142 t145 _ ?side1 ?side2 A2.out).mono ?_); (case side1 => repeat (first | exact (Kd.R_reads' HO144.out).2.2 | (with_reducible refine Kd.C_alloc ?_ _) | (with_reducible refine Kd.C_drewN ?_ _) | (with_reducible refine Kd.C_drew ?_))); (case side2 => exact (Kd.R_reads' HO144.out).2.1); rintro e w' ⟨rfl, ⟨nd, rfl⟩⟩; refine ⟨_, rfl, ?_⟩))
 (try simp only [Act.put, List.setIfInBounds_toArray, List.set_cons_zero, List.set_cons_succ])
 go_cut [18] (fun v18 wc => ∃ (kq : Nat) (x18_2 : Bool), v18 = .bool x18_2 ∧ Aside0 (spec_l2Inverse.j0 kq t145 x18_2 l0_0 a0_1 a0_2 a0_3 = some r) ∧ Aside0 (kq ≤ k) ∧ Aside0 (wc.heap[gb141]? = some (.cells #[(.slice A0_0 l0_0.length c0_0), .string a0_1, .string a0_2, .string a0_3] 31 (0, 0))) ∧ Aside0 (Below w.heap.size w wc))
 case first =>
  have H := HC3.out
  clear HC3
  by_cases c9 : (l0_0.length : Int) > 0
  ·
   rw [if_pos c9] at H
   have c9b0 : decide (0 < (l0_0.length : Int)) = true := decide_eq_true c9
   have c9b1 : decide (0 < l0_0.length) = true := decide_eq_true (by omega)
   clear c9
   (first | rw [c9b0] | (simp only [i64_w, i32_w]; rw [c9b0]) | skip)
   have H' := Aside0.mk H
   clear H
   obtain ⟨hcz10_0, hcz10_1, hcz10_2, hcz10_3, hfz10_0, hfz10_1, hfz10_2, hfz10_3⟩ := blkc4 BK141.out
   go_wp2
   go_meet
   case rel => exact ⟨_, (true), au76, H', ⟨by first | omega | exact Nat.le_refl _⟩, ⟨by (with_reducible repeat (first | refine blk_drewN ?_ _ | refine blk_drew ?_ | refine blk_alloc ?_ _)); exact BK141.out⟩, ⟨by repeat (first | (with_reducible first | exact HB.out | apply below_alloc | apply pw_below_drewN | apply below_drew1 | refine below_set ?_ GE141.out) | exact HB.out)⟩⟩
  ·
   rw [if_neg c9] at H
   have c9b0 : decide (0 < (l0_0.length : Int)) = false := decide_eq_false c9
   have c9b1 : decide (0 < l0_0.length) = false := decide_eq_false (by omega)
   clear c9
   (first | rw [c9b0] | (simp only [i64_w, i32_w]; rw [c9b0]) | skip)
   have H' := Aside0.mk H
   clear H
   obtain ⟨hcz11_0, hcz11_1, hcz11_2, hcz11_3, hfz11_0, hfz11_1, hfz11_2, hfz11_3⟩ := blkc4 BK141.out
   go_wp2
   go_meet
   case rel => exact ⟨_, ((a0_3.toList != ([] : List UInt8))), (by first | rfl | (simp; done) | (simp [*]; done) | (simp; exact (show ∀ l_ : List UInt8, l_.isEmpty = !(l_ != ([] : List UInt8)) from fun l_ => by cases l_ <;> rfl) _)), H', ⟨by first | omega | exact Nat.le_refl _⟩, ⟨by (with_reducible repeat (first | refine blk_drewN ?_ _ | refine blk_drew ?_ | refine blk_alloc ?_ _)); exact BK141.out⟩, ⟨by repeat (first | (with_reducible first | exact HB.out | apply below_alloc | apply pw_below_drewN | apply below_drew1 | refine below_set ?_ GE141.out) | exact HB.out)⟩⟩
 case rest =>
  clear HC3
  try clear c2
  try clear p2
  try clear c9
  try clear c9b0
  try clear c9b1
  try clear hcz10_0
  try clear hcz10_1
  try clear hcz10_2
  try clear hcz10_3
  try clear hcz11_0
  try clear hcz11_1
  try clear hcz11_2
  try clear hcz11_3
  try clear hcz5_0
  try clear hcz5_1
  try clear hcz5_2
  try clear hcz5_3
  try clear hfz10_0
  try clear hfz10_1
  try clear hfz10_2
  try clear hfz10_3
  try clear hfz11_0
  try clear hfz11_1
  try clear hfz11_2
  try clear hfz11_3
  try clear hfz5_0
  try clear hfz5_1
  try clear hfz5_2
  try clear hfz5_3
  obtain ⟨kq, x18_2, rfl, HA, HJ2, BK141, HB⟩ := hcut
  cases kq with
  | zero => exact absurd HA.out (by simp [spec_l2Inverse.j0])
  | succ kj2 =>
   have H := HA.out
   clear HA
   simp only [spec_l2Inverse.j0] at H
   by_cases c12 : x18_2 = true
   ·
    subst c12
    replace H := (if_pos rfl).symm.trans H
    by_cases c13 : t145.size + 2 ≤ 9223372036854775807
    ·
     rw [if_pos c13] at H
     have c13b0 := eq_true c13
     have c13b1 : decide (t145.size + 2 ≤ 9223372036854775807) = true := decide_eq_true c13
     try have c13b2 : (9223372036854775807 < t145.size + 2) = False := eq_false (Nat.not_lt.2 c13)
     replace H := Option.bind_eq_some_iff.mp H
     obtain ⟨t146, A140, H⟩ := H
     try dsimp only at H
     have A14 := Aside0.mk A140
     clear A140
     by_cases c15 : (t145 ++ (⟨#[44, 32]⟩ : ByteArray)).size + t146.size ≤ 9223372036854775807
     ·
      rw [if_pos c15] at H
      have c15b0 := eq_true c15
      have c15b1 : decide ((t145 ++ (⟨#[44, 32]⟩ : ByteArray)).size + t146.size ≤ 9223372036854775807) = true := decide_eq_true c15
      try have c15b2 : (9223372036854775807 < (t145 ++ (⟨#[44, 32]⟩ : ByteArray)).size + t146.size) = False := eq_false (Nat.not_lt.2 c15)
      try have c15x : (9223372036854775807 < t145.size + 2 + t146.size) = False := eq_false (by have z_ := c15; simp only [ByteArray.size_append] at z_; have hl0_ : (⟨#[44, 32]⟩ : ByteArray).size = 2 := rfl; omega)
      by_cases c16 : a0_3.toList = ([] : List UInt8)
      ·
       rw [if_pos c16] at H
       have c16b0 : (a0_3.toList == ([] : List UInt8)) = true := beq_iff_eq.mpr c16
       have c16b1 : (a0_3.toList != ([] : List UInt8)) = false := bne_eq_false_iff_eq.mpr c16
       clear c16
       obtain rfl := Option.some.inj H
       obtain ⟨hcz17_0, hcz17_1, hcz17_2, hcz17_3, hfz17_0, hfz17_1, hfz17_2, hfz17_3⟩ := blkc4 BK141.out
       exact spec_l2Inverse.L0
      ·
       rw [if_neg c16] at H
       have c16b0 : (a0_3.toList == ([] : List UInt8)) = false := beq_eq_false_iff_ne.mpr c16
       have c16b1 : (a0_3.toList != ([] : List UInt8)) = true := bne_iff_ne.mpr c16
       by_cases c20 : ((t145 ++ (⟨#[44, 32]⟩ : ByteArray)) ++ t146).size + 2 ≤ 9223372036854775807
       ·
        rw [if_pos c20] at H
        have c20b0 := eq_true c20
        have c20b1 : decide (((t145 ++ (⟨#[44, 32]⟩ : ByteArray)) ++ t146).size + 2 ≤ 9223372036854775807) = true := decide_eq_true c20
        try have c20b2 : (9223372036854775807 < ((t145 ++ (⟨#[44, 32]⟩ : ByteArray)) ++ t146).size + 2) = False := eq_false (Nat.not_lt.2 c20)
        try have c20x : (9223372036854775807 < t145.size + 2 + t146.size + 2) = False := eq_false (by have z_ := c20; simp only [ByteArray.size_append] at z_; have hl0_ : (⟨#[44, 32]⟩ : ByteArray).size = 2 := rfl; omega)
        by_cases c21 : (((t145 ++ (⟨#[44, 32]⟩ : ByteArray)) ++ t146) ++ (⟨#[44, 32]⟩ : ByteArray)).size + a0_3.size ≤ 9223372036854775807
        ·
         rw [if_pos c21] at H
         have c21b0 := eq_true c21
         have c21b1 : decide ((((t145 ++ (⟨#[44, 32]⟩ : ByteArray)) ++ t146) ++ (⟨#[44, 32]⟩ : ByteArray)).size + a0_3.size ≤ 9223372036854775807) = true := decide_eq_true c21
         try have c21b2 : (9223372036854775807 < (((t145 ++ (⟨#[44, 32]⟩ : ByteArray)) ++ t146) ++ (⟨#[44, 32]⟩ : ByteArray)).size + a0_3.size) = False := eq_false (Nat.not_lt.2 c21)
         try have c21x : (9223372036854775807 < t145.size + 2 + t146.size + 2 + a0_3.size) = False := eq_false (by have z_ := c21; simp only [ByteArray.size_append] at z_; have hl0_ : (⟨#[44, 32]⟩ : ByteArray).size = 2 := rfl; omega)
         obtain rfl := Option.some.inj H
         obtain ⟨hcz22_0, hcz22_1, hcz22_2, hcz22_3, hfz22_0, hfz22_1, hfz22_2, hfz22_3⟩ := blkc4 BK141.out
         exact spec_l2Inverse.L0
        ·
         rw [if_neg c21] at H
         exact absurd H (by simp)
       ·
        rw [if_neg c20] at H
        exact absurd H (by simp)
     ·
      rw [if_neg c15] at H
      exact absurd H (by simp)
    ·
     rw [if_neg c13] at H
     exact absurd H (by simp)
   ·
    replace c12 := Bool.eq_false_iff.mpr c12
    subst c12
    replace H := (if_neg (show ¬ (false = true) by decide)).symm.trans H
    by_cases c25 : a0_3.toList = ([] : List UInt8)
    ·
     rw [if_pos c25] at H
     have c25b0 : (a0_3.toList == ([] : List UInt8)) = true := beq_iff_eq.mpr c25
     have c25b1 : (a0_3.toList != ([] : List UInt8)) = false := bne_eq_false_iff_eq.mpr c25
     clear c25
     obtain rfl := Option.some.inj H
     obtain ⟨hcz26_0, hcz26_1, hcz26_2, hcz26_3, hfz26_0, hfz26_1, hfz26_2, hfz26_3⟩ := blkc4 BK141.out
     exact spec_l2Inverse.L0
    ·
     rw [if_neg c25] at H
     have c25b0 : (a0_3.toList == ([] : List UInt8)) = false := beq_eq_false_iff_ne.mpr c25
     have c25b1 : (a0_3.toList != ([] : List UInt8)) = true := bne_iff_ne.mpr c25
     by_cases c27 : t145.size + 2 ≤ 9223372036854775807
     ·
      rw [if_pos c27] at H
      have c27b0 := eq_true c27
      have c27b1 : decide (t145.size + 2 ≤ 9223372036854775807) = true := decide_eq_true c27
      try have c27b2 : (9223372036854775807 < t145.size + 2) = False := eq_false (Nat.not_lt.2 c27)
      by_cases c28 : (t145 ++ (⟨#[44, 32]⟩ : ByteArray)).size + a0_3.size ≤ 9223372036854775807
      ·
       rw [if_pos c28] at H
       have c28b0 := eq_true c28
       have c28b1 : decide ((t145 ++ (⟨#[44, 32]⟩ : ByteArray)).size + a0_3.size ≤ 9223372036854775807) = true := decide_eq_true c28
       try have c28b2 : (9223372036854775807 < (t145 ++ (⟨#[44, 32]⟩ : ByteArray)).size + a0_3.size) = False := eq_false (Nat.not_lt.2 c28)
       try have c28x : (9223372036854775807 < t145.size + 2 + a0_3.size) = False := eq_false (by have z_ := c28; simp only [ByteArray.size_append] at z_; have hl0_ : (⟨#[44, 32]⟩ : ByteArray).size = 2 := rfl; omega)
       obtain rfl := Option.some.inj H
       obtain ⟨hcz29_0, hcz29_1, hcz29_2, hcz29_3, hfz29_0, hfz29_1, hfz29_2, hfz29_3⟩ := blkc4 BK141.out
       exact spec_l2Inverse.L0
      ·
       rw [if_neg c28] at H
       exact absurd H (by simp)
     ·
      rw [if_neg c27] at H
      exact absurd H (by simp)


/-! ### spec_l2Parse: function 16 -/
mutual
def spec_l2Parse.j0 : Nat → ByteArray → List ByteArray → Bool → ByteArray → ByteArray → ByteArray → Option (List ByteArray × ByteArray × ByteArray × ByteArray × Bool)
 | 0, _, _, _, _, _, _ => none
 | k + 1, x0, x4, x64, x162001, x162002, x162003 => if x64 = true then (some (([] : List ByteArray), (⟨#[]⟩ : ByteArray), (⟨#[]⟩ : ByteArray), (⟨#[]⟩ : ByteArray), false)) else (if (x4.length : Int) > 1 then (if 1 < (x4.length : Int) then (spec_l2Parse.j1 k x0 x4 (decide (((rdOf ByteArray.empty x4 1).size : Int) > 1)) x162001 x162002 x162003) else (none)) else (spec_l2Parse.j1 k x0 x4 false x162001 x162002 x162003))
def spec_l2Parse.j1 : Nat → ByteArray → List ByteArray → Bool → ByteArray → ByteArray → ByteArray → Option (List ByteArray × ByteArray × ByteArray × ByteArray × Bool)
 | 0, _, _, _, _, _, _ => none
 | k + 1, x0, x4, x75, x162001, x162002, x162003 => if x75 = true then (if 1 < (x4.length : Int) then (if 1 ≤ ((rdOf ByteArray.empty x4 1).size : Int) then ((spec_l1Split.f k ((rdOf ByteArray.empty x4 1).extract 1 (rdOf ByteArray.empty x4 1).size) 32).bind fun t170 => (spec_l2Parse.j2 k x0 x4 t170 x162001 x162002 x162003)) else (none)) else (none)) else (spec_l2Parse.j2 k x0 x4 ([] : List ByteArray) x162001 x162002 x162003)
def spec_l2Parse.j2 : Nat → ByteArray → List ByteArray → List ByteArray → ByteArray → ByteArray → ByteArray → Option (List ByteArray × ByteArray × ByteArray × ByteArray × Bool)
 | 0, _, _, _, _, _, _ => none
 | k + 1, x0, x4, x162000, x162001, x162002, x162003 => if (x4.length : Int) > 2 then (if 2 < (x4.length : Int) then (if 1 ≤ ((rdOf ByteArray.empty x4 2).size : Int) then (spec_l2Parse.j3 k x0 x162000 x162001 x162002 ((rdOf ByteArray.empty x4 2).extract 1 (rdOf ByteArray.empty x4 2).size)) else (none)) else (none)) else (spec_l2Parse.j3 k x0 x162000 x162001 x162002 x162003)
def spec_l2Parse.j3 : Nat → ByteArray → List ByteArray → ByteArray → ByteArray → ByteArray → Option (List ByteArray × ByteArray × ByteArray × ByteArray × Bool)
 | 0, _, _, _, _, _ => none
 | k + 1, x0, x162000, x162001, x162002, x162003 => (spec_l2Good.f k x162000 x162001 x162002 x162003).bind fun t174 => (if t174 = true then ((spec_l2Inverse.f k x162000 x162001 x162002 x162003).bind fun t175 => (if t175.toList = x0.toList then (some (x162000, x162001, x162002, x162003, true)) else (some (([] : List ByteArray), (⟨#[]⟩ : ByteArray), (⟨#[]⟩ : ByteArray), (⟨#[]⟩ : ByteArray), false)))) else (some (([] : List ByteArray), (⟨#[]⟩ : ByteArray), (⟨#[]⟩ : ByteArray), (⟨#[]⟩ : ByteArray), false)))
end
def spec_l2Parse.f (k : Nat) (a0 : ByteArray) : Option (List ByteArray × ByteArray × ByteArray × ByteArray × Bool) := (spec_l1Split.f k a0 44).bind fun t148 => (if 0 < (t148.length : Int) then ((spec_l1Split.f k (rdOf ByteArray.empty t148 0) 32).bind fun t152 => (if 0 ≤ (wrap64 ((t152.length : Int) - 1)) then (if (wrap64 ((t152.length : Int) - 1)) < (t152.length : Int) then (if (wrap64 ((t152.length : Int) - 1)) ≤ (t152.length : Int) then ((spec_l2Join.f k (t152.take ((wrap64 ((t152.length : Int) - 1)) : Int).toNat)).bind fun t160 => (if (t148.length : Int) > 3 then (spec_l2Parse.j0 k a0 t148 true t160 (rdOf ByteArray.empty t152 (wrap64 ((t152.length : Int) - 1))) (⟨#[]⟩ : ByteArray)) else (if (t148.length : Int) > 1 then (if 1 < (t148.length : Int) then (if (rdOf ByteArray.empty t148 1).toList = ([] : List UInt8) then (spec_l2Parse.j0 k a0 t148 true t160 (rdOf ByteArray.empty t152 (wrap64 ((t152.length : Int) - 1))) (⟨#[]⟩ : ByteArray)) else (if 0 < ((rdOf ByteArray.empty t148 1).size : Int) then (if (bt (rdOf ByteArray.empty t148 1) 0) = 32 then (if (t148.length : Int) > 2 then (if 2 < (t148.length : Int) then (if (rdOf ByteArray.empty t148 2).toList = ([] : List UInt8) then (spec_l2Parse.j0 k a0 t148 true t160 (rdOf ByteArray.empty t152 (wrap64 ((t152.length : Int) - 1))) (⟨#[]⟩ : ByteArray)) else (if 0 < ((rdOf ByteArray.empty t148 2).size : Int) then (spec_l2Parse.j0 k a0 t148 ((bt (rdOf ByteArray.empty t148 2) 0) != 32) t160 (rdOf ByteArray.empty t152 (wrap64 ((t152.length : Int) - 1))) (⟨#[]⟩ : ByteArray)) else (none))) else (none)) else (spec_l2Parse.j0 k a0 t148 false t160 (rdOf ByteArray.empty t152 (wrap64 ((t152.length : Int) - 1))) (⟨#[]⟩ : ByteArray))) else (spec_l2Parse.j0 k a0 t148 true t160 (rdOf ByteArray.empty t152 (wrap64 ((t152.length : Int) - 1))) (⟨#[]⟩ : ByteArray))) else (none))) else (none)) else (if (t148.length : Int) > 2 then (if 2 < (t148.length : Int) then (if (rdOf ByteArray.empty t148 2).toList = ([] : List UInt8) then (spec_l2Parse.j0 k a0 t148 true t160 (rdOf ByteArray.empty t152 (wrap64 ((t152.length : Int) - 1))) (⟨#[]⟩ : ByteArray)) else (if 0 < ((rdOf ByteArray.empty t148 2).size : Int) then (spec_l2Parse.j0 k a0 t148 ((bt (rdOf ByteArray.empty t148 2) 0) != 32) t160 (rdOf ByteArray.empty t152 (wrap64 ((t152.length : Int) - 1))) (⟨#[]⟩ : ByteArray)) else (none))) else (none)) else (spec_l2Parse.j0 k a0 t148 false t160 (rdOf ByteArray.empty t152 (wrap64 ((t152.length : Int) - 1))) (⟨#[]⟩ : ByteArray)))))) else (none)) else (none)) else (none))) else (none))
theorem spec_l2Parse.mono_l : ∀ k, (∀ y0 y1 y2 y3 y4 y5, LeO (spec_l2Parse.j0 k y0 y1 y2 y3 y4 y5) (spec_l2Parse.j0 (k + 1) y0 y1 y2 y3 y4 y5)) ∧ (∀ y0 y1 y2 y3 y4 y5, LeO (spec_l2Parse.j1 k y0 y1 y2 y3 y4 y5) (spec_l2Parse.j1 (k + 1) y0 y1 y2 y3 y4 y5)) ∧ (∀ y0 y1 y2 y3 y4 y5, LeO (spec_l2Parse.j2 k y0 y1 y2 y3 y4 y5) (spec_l2Parse.j2 (k + 1) y0 y1 y2 y3 y4 y5)) ∧ (∀ y0 y1 y2 y3 y4, LeO (spec_l2Parse.j3 k y0 y1 y2 y3 y4) (spec_l2Parse.j3 (k + 1) y0 y1 y2 y3 y4))
 | 0 => ⟨fun _ _ _ _ _ _ r h => by simp [spec_l2Parse.j0] at h, fun _ _ _ _ _ _ r h => by simp [spec_l2Parse.j1] at h, fun _ _ _ _ _ _ r h => by simp [spec_l2Parse.j2] at h, fun _ _ _ _ _ r h => by simp [spec_l2Parse.j3] at h⟩
 | k + 1 => by
  obtain ⟨ih0, ih1, ih2, ih3⟩ := spec_l2Parse.mono_l k
  refine ⟨?_, ?_, ?_, ?_⟩
  ·
   intro y0 y1 y2 y3 y4 y5
   unfold spec_l2Parse.j0
   repeat' first
   | (with_reducible exact ih0 _ _ _ _ _ _)
   | (with_reducible exact ih1 _ _ _ _ _ _)
   | (with_reducible exact ih2 _ _ _ _ _ _)
   | (with_reducible exact ih3 _ _ _ _ _)
   | (with_reducible exact spec_l1Split.mono _ _ _)
   | (with_reducible exact spec_l2Good.mono _ _ _ _ _)
   | (with_reducible exact spec_l2Inverse.mono _ _ _ _ _)
   | (with_reducible exact spec_l2Join.mono _ _)
   | (with_reducible exact LeO.refl _)
   | (with_reducible exact LeO.none _)
   | (with_reducible refine LeO.ite ?_ ?_)
   | (with_reducible refine LeO.bind ?_ (fun _ => ?_))
   | exact ih0 _ _ _ _ _ _
   | exact ih1 _ _ _ _ _ _
   | exact ih2 _ _ _ _ _ _
   | exact ih3 _ _ _ _ _
   | exact spec_l1Split.mono _ _ _
   | exact spec_l2Good.mono _ _ _ _ _
   | exact spec_l2Inverse.mono _ _ _ _ _
   | exact spec_l2Join.mono _ _
   | exact LeO.none _
   | refine LeO.ite ?_ ?_
   | refine LeO.bind ?_ (fun _ => ?_)
  ·
   intro y0 y1 y2 y3 y4 y5
   unfold spec_l2Parse.j1
   repeat' first
   | (with_reducible exact ih0 _ _ _ _ _ _)
   | (with_reducible exact ih1 _ _ _ _ _ _)
   | (with_reducible exact ih2 _ _ _ _ _ _)
   | (with_reducible exact ih3 _ _ _ _ _)
   | (with_reducible exact spec_l1Split.mono _ _ _)
   | (with_reducible exact spec_l2Good.mono _ _ _ _ _)
   | (with_reducible exact spec_l2Inverse.mono _ _ _ _ _)
   | (with_reducible exact spec_l2Join.mono _ _)
   | (with_reducible exact LeO.refl _)
   | (with_reducible exact LeO.none _)
   | (with_reducible refine LeO.ite ?_ ?_)
   | (with_reducible refine LeO.bind ?_ (fun _ => ?_))
   | exact ih0 _ _ _ _ _ _
   | exact ih1 _ _ _ _ _ _
   | exact ih2 _ _ _ _ _ _
   | exact ih3 _ _ _ _ _
   | exact spec_l1Split.mono _ _ _
   | exact spec_l2Good.mono _ _ _ _ _
   | exact spec_l2Inverse.mono _ _ _ _ _
   | exact spec_l2Join.mono _ _
   | exact LeO.none _
   | refine LeO.ite ?_ ?_
   | refine LeO.bind ?_ (fun _ => ?_)
  ·
   intro y0 y1 y2 y3 y4 y5
   unfold spec_l2Parse.j2
   repeat' first
   | (with_reducible exact ih0 _ _ _ _ _ _)
   | (with_reducible exact ih1 _ _ _ _ _ _)
   | (with_reducible exact ih2 _ _ _ _ _ _)
   | (with_reducible exact ih3 _ _ _ _ _)
   | (with_reducible exact spec_l1Split.mono _ _ _)
   | (with_reducible exact spec_l2Good.mono _ _ _ _ _)
   | (with_reducible exact spec_l2Inverse.mono _ _ _ _ _)
   | (with_reducible exact spec_l2Join.mono _ _)
   | (with_reducible exact LeO.refl _)
   | (with_reducible exact LeO.none _)
   | (with_reducible refine LeO.ite ?_ ?_)
   | (with_reducible refine LeO.bind ?_ (fun _ => ?_))
   | exact ih0 _ _ _ _ _ _
   | exact ih1 _ _ _ _ _ _
   | exact ih2 _ _ _ _ _ _
   | exact ih3 _ _ _ _ _
   | exact spec_l1Split.mono _ _ _
   | exact spec_l2Good.mono _ _ _ _ _
   | exact spec_l2Inverse.mono _ _ _ _ _
   | exact spec_l2Join.mono _ _
   | exact LeO.none _
   | refine LeO.ite ?_ ?_
   | refine LeO.bind ?_ (fun _ => ?_)
  ·
   intro y0 y1 y2 y3 y4
   unfold spec_l2Parse.j3
   repeat' first
   | (with_reducible exact ih0 _ _ _ _ _ _)
   | (with_reducible exact ih1 _ _ _ _ _ _)
   | (with_reducible exact ih2 _ _ _ _ _ _)
   | (with_reducible exact ih3 _ _ _ _ _)
   | (with_reducible exact spec_l1Split.mono _ _ _)
   | (with_reducible exact spec_l2Good.mono _ _ _ _ _)
   | (with_reducible exact spec_l2Inverse.mono _ _ _ _ _)
   | (with_reducible exact spec_l2Join.mono _ _)
   | (with_reducible exact LeO.refl _)
   | (with_reducible exact LeO.none _)
   | (with_reducible refine LeO.ite ?_ ?_)
   | (with_reducible refine LeO.bind ?_ (fun _ => ?_))
   | exact ih0 _ _ _ _ _ _
   | exact ih1 _ _ _ _ _ _
   | exact ih2 _ _ _ _ _ _
   | exact ih3 _ _ _ _ _
   | exact spec_l1Split.mono _ _ _
   | exact spec_l2Good.mono _ _ _ _ _
   | exact spec_l2Inverse.mono _ _ _ _ _
   | exact spec_l2Join.mono _ _
   | exact LeO.none _
   | refine LeO.ite ?_ ?_
   | refine LeO.bind ?_ (fun _ => ?_)
theorem spec_l2Parse.mono : ∀ a0 k, LeO (spec_l2Parse.f k a0) (spec_l2Parse.f (k + 1) a0) := by
 intro a0 k
 obtain ⟨ih0, ih1, ih2, ih3⟩ := spec_l2Parse.mono_l k
 unfold spec_l2Parse.f
 repeat' first
   | (with_reducible exact ih0 _ _ _ _ _ _)
   | (with_reducible exact ih1 _ _ _ _ _ _)
   | (with_reducible exact ih2 _ _ _ _ _ _)
   | (with_reducible exact ih3 _ _ _ _ _)
   | (with_reducible exact spec_l1Split.mono _ _ _)
   | (with_reducible exact spec_l2Good.mono _ _ _ _ _)
   | (with_reducible exact spec_l2Inverse.mono _ _ _ _ _)
   | (with_reducible exact spec_l2Join.mono _ _)
   | (with_reducible exact LeO.refl _)
   | (with_reducible exact LeO.none _)
   | (with_reducible refine LeO.ite ?_ ?_)
   | (with_reducible refine LeO.bind ?_ (fun _ => ?_))
   | exact ih0 _ _ _ _ _ _
   | exact ih1 _ _ _ _ _ _
   | exact ih2 _ _ _ _ _ _
   | exact ih3 _ _ _ _ _
   | exact spec_l1Split.mono _ _ _
   | exact spec_l2Good.mono _ _ _ _ _
   | exact spec_l2Inverse.mono _ _ _ _ _
   | exact spec_l2Join.mono _ _
   | exact LeO.none _
   | refine LeO.ite ?_ ?_
   | refine LeO.bind ?_ (fun _ => ?_)
def spec_l2Parse.T3 : Bool × List (List Nat × List Nat) := (true, [([], []), ([], []), ([1], [1]), ([2], [2]), ([0, 3], [0, 3]), ([4], [4]), ([], []), ([], []), ([7], [7]), ([8], [8]), ([6, 9], [6, 9]), ([10], [10]), ([5, 11], [5, 11]), ([], []), ([13, 12, 11, 0, 1, 2, 3, 4, 5, 6, 7, 8, 9, 10, 11, 12, 13], [12, 13])])
def spec_l2Parse.B3 : List Nat := [0, 0, 2, 6, 15, 31, 0, 0, 128, 384, 960, 1984, 4095, 0, 16383]
theorem spec_l2Parse.tab3 : rtab .any (opsOf Tryd.f16 3) = spec_l2Parse.T3 := by kernel_rfl
theorem spec_l2Parse.bits3 : waitsOk spec_l2Parse.T3.2 spec_l2Parse.B3 = true := by kernel_rfl
set_option maxRecDepth 100000 in
theorem spec_l2Parse.L0 {P : Prop} (h : P := by
  go_wp2_with (first | ((with_reducible refine gate_callee (f := 22) rfl ?_); refine goesL_ (some 91) rfl rfl Tryd.func22 (by kernel_rfl) rfl #[.agg #[.slice Ao77 x162000_47.length co77, .string t160, .string (rdOf ByteArray.empty t152 (ji5)), .string x162003_56]] rfl au13 ?_; (with_reducible refine (spec_l2Good.calls kj56 _ _ x162000_47 t160 (rdOf ByteArray.empty t152 (ji5)) x162003_56 _ _ ?side1 ?side2 A63.out).mono ?_); (case side1 => repeat (first | exact (Kd.R_reads' HO_162000.out).2.2 | (with_reducible refine Kd.C_alloc ?_ _) | (with_reducible refine Kd.C_drewN ?_ _) | (with_reducible refine Kd.C_drew ?_))); (case side2 => exact (Kd.R_reads' HO_162000.out).2.1); rintro e w78 ⟨rfl, hb⟩; refine ⟨_, rfl, ?_⟩; replace HO_162000 := Aside0.mk (Kd.R_below au57 hb); replace BK147 := Aside0.mk (blk_below (g := gb147) au47 hb); replace BK161 := Aside0.mk (blk_below (g := gb161) au48 hb); replace HB := Aside0.mk (below_step au7 hb); (try clear hb); obtain ⟨hcz79_0, hcz79_1, hcz79_2, hcz79_3, hfz79_0, hfz79_1, hfz79_2, hfz79_3⟩ := blkc4 BK161.out) | (go_at_call 23; (with_reducible refine (spec_l2Inverse.calls kj56 _ _ x162000_47 t160 (rdOf ByteArray.empty t152 (ji5)) x162003_56 t175 _ ?side1 ?side2 A65.out).mono ?_); (case side1 => repeat (first | exact (Kd.R_reads' HO_162000.out).2.2 | (with_reducible refine Kd.C_alloc ?_ _) | (with_reducible refine Kd.C_drewN ?_ _) | (with_reducible refine Kd.C_drew ?_))); (case side2 => exact (Kd.R_reads' HO_162000.out).2.1); rintro e w80 ⟨rfl, hb⟩; replace HO_162000 := Aside0.mk (Kd.R_below au57 hb); replace BK147 := Aside0.mk (blk_below (g := gb147) au47 hb); replace BK161 := Aside0.mk (blk_below (g := gb161) au48 hb); replace HB := Aside0.mk (below_step au7 hb); (try clear hb); obtain ⟨hcz81_0, hcz81_1, hcz81_2, hcz81_3, hfz81_0, hfz81_1, hfz81_2, hfz81_3⟩ := blkc4 BK147.out))
  refine bodyPost_ret (results_ct rfl _ _ gb147 31 #[.slice none 0 0, .string (⟨#[]⟩ : ByteArray), .string (⟨#[]⟩ : ByteArray), .string (⟨#[]⟩ : ByteArray)] (0, 0) _ rfl (by (with_reducible repeat (first | refine blk_drewN ?_ _ | refine blk_drew ?_ | refine blk_alloc ?_ _)); refine blk_put (cs := #[.slice none 0 0, .string (⟨#[]⟩ : ByteArray), .string (⟨#[]⟩ : ByteArray), .string (⟨#[]⟩ : ByteArray)]) ?_ 3 _ rfl; (with_reducible repeat (first | refine blk_drewN ?_ _ | refine blk_drew ?_ | refine blk_alloc ?_ _)); refine blk_put (cs := #[.slice none 0 0, .string (⟨#[]⟩ : ByteArray), .string (⟨#[]⟩ : ByteArray), .string (⟨#[]⟩ : ByteArray)]) ?_ 2 _ rfl; (with_reducible repeat (first | refine blk_drewN ?_ _ | refine blk_drew ?_ | refine blk_alloc ?_ _)); refine blk_put (cs := #[.slice none 0 0, .string (⟨#[]⟩ : ByteArray), .string (⟨#[]⟩ : ByteArray), .string (⟨#[]⟩ : ByteArray)]) ?_ 1 _ rfl; (with_reducible repeat (first | refine blk_drewN ?_ _ | refine blk_drew ?_ | refine blk_alloc ?_ _)); refine blk_put (cs := #[.slice none 0 0, .string (⟨#[]⟩ : ByteArray), .string (⟨#[]⟩ : ByteArray), .string (⟨#[]⟩ : ByteArray)]) ?_ 0 _ rfl; (with_reducible repeat (first | refine blk_drewN ?_ _ | refine blk_drew ?_ | refine blk_alloc ?_ _)); exact BK147.out) Tryd.underlying31 rfl (by kernel_rfl)) rfl ?_
  exact ⟨_, by first | rfl | (simp [errW_none, errW_some] <;> rfl) | (simp only [← hji5]; first | rfl | (simp [errW_none, errW_some] <;> rfl)) | (simp [*, errW_none, errW_some] <;> rfl), by first | exact Kd.R_nil _ _ _ _ _ | exact Kd.N_nil _ _ _ _ _ | exact Kd.V_nil _ _ _ _ _ | exact Kd.Q_nil _ _ _ _ _ | exact Kd.S_nil _ _ _ _ _, by repeat (first | (with_reducible first | exact HB.out | apply below_alloc | apply pw_below_drewN | apply below_drew1 | refine below_set ?_ GE147.out | refine below_set ?_ GE161.out) | exact HB.out)⟩) : P := h
set_option maxRecDepth 100000 in
theorem spec_l2Parse.L1 {P : Prop} (h : P := by
  go_wp2_with (first | ((with_reducible refine gate_callee (f := 15) rfl ?_); refine goesL_ (some 80) rfl rfl Tryd.func15 (by kernel_rfl) rfl #[.string ((rdOf ByteArray.empty t148 1).extract 1 (rdOf ByteArray.empty t148 1).size), .int .u8 32] rfl au24 ?_; (with_reducible refine (spec_l1Split.calls kj44 ((rdOf ByteArray.empty t148 1).extract 1 (rdOf ByteArray.empty t148 1).size) 32 t170 _ A52.out).mono ?_); rintro e w53 ⟨v171, rfl, ho0, hb⟩; refine ⟨_, rfl, ?_⟩; have HO172 := Aside0.mk (Kd.R_lower (Kd.R_new' ho0 (Kd.R_lt au70)) (below_size au7)); replace HO_4 := Aside0.mk (Kd.R_elder' au70 (Kd.R_base ho0) hb); replace BK147 := Aside0.mk (blk_below (g := gb147) au47 hb); replace BK161 := Aside0.mk (blk_below (g := gb161) au48 hb); replace HB := Aside0.mk (below_step au7 hb); (try clear hb); (try clear ho0); obtain ⟨Ao54, co54, eo54⟩ := Kd.R_slice HO172.out; subst eo54; have hnb55 := NB161_147.out; have hnc55 := NB147_161.out; obtain ⟨hcz56_0, hcz56_1, hcz56_2, hcz56_3, hfz56_0, hfz56_1, hfz56_2, hfz56_3⟩ := blkc4 BK161.out))
  go_meet
  case rel => first | (exact ⟨_, (t170), (.slice Ao54 t170.length co54), H', ⟨by have := HJ10.out; have := HJ44.out; first | omega | exact Nat.le_refl _⟩, ⟨by (with_reducible repeat (first | apply Kd.R_alloc | apply Kd.R_drewN | apply Kd.R_drew)); exact Kd.R_mono (Kd.R_far (p := ⟨gb161, 0, none⟩) (Kd.R_types HO_4.out BK161.out (by decide)) (fun _ hk => hk.2) (.slice Ao54 t170.length co54)) (fun _ hk => hk.1.2)⟩, ⟨by (with_reducible repeat (first | apply Kd.R_alloc | apply Kd.R_drewN | apply Kd.R_drew)); exact Kd.R_mono (Kd.R_far (p := ⟨gb161, 0, none⟩) (Kd.R_types HO172.out BK161.out (by decide)) (fun _ hk => hk.2) (.slice Ao54 t170.length co54)) (fun _ hk => hk.1.2)⟩, ⟨by (with_reducible repeat (first | refine blk_drewN ?_ _ | refine blk_drew ?_ | refine blk_alloc ?_ _)); refine blk_far ?_ NB147_161.out _; (with_reducible repeat (first | refine blk_drewN ?_ _ | refine blk_drew ?_ | refine blk_alloc ?_ _)); exact BK147.out⟩, ⟨by (with_reducible repeat (first | refine blk_drewN ?_ _ | refine blk_drew ?_ | refine blk_alloc ?_ _)); refine blk_put (cs := #[.slice none 0 0, .string t160, .string (rdOf ByteArray.empty t152 (ji5)), .string (⟨#[]⟩ : ByteArray)]) ?_ 0 _ rfl; (with_reducible repeat (first | refine blk_drewN ?_ _ | refine blk_drew ?_ | refine blk_alloc ?_ _)); exact BK161.out⟩, ⟨by repeat (first | (with_reducible first | exact HB.out | apply below_alloc | apply pw_below_drewN | apply below_drew1 | refine below_set ?_ GE147.out | refine below_set ?_ GE161.out) | exact HB.out)⟩⟩) | (exact ⟨_, (((bt (rdOf ByteArray.empty t148 2) 0) != 32)), au76, H', ⟨by first | omega | exact Nat.le_refl _⟩, ⟨by (with_reducible repeat (first | apply Kd.R_alloc | apply Kd.R_drewN | apply Kd.R_drew)); exact Kd.R_mono (Kd.R_far (p := ⟨gb161, 3, none⟩) (Kd.R_far (p := ⟨gb161, 2, none⟩) (Kd.R_far (p := ⟨gb161, 1, none⟩) (Kd.R_far (p := ⟨gb161, 0, none⟩) (Kd.R_types HO150.out BK161.out (by decide)) (fun _ hk => hk.2) (.slice none 0 0)) (fun _ hk => hk.2) (.string t160)) (fun _ hk => hk.2) (.string (rdOf ByteArray.empty t152 (ji5)))) (fun _ hk => hk.2) (.string (⟨#[]⟩ : ByteArray))) (fun _ hk => trivial)⟩, ⟨by (with_reducible repeat (first | refine blk_drewN ?_ _ | refine blk_drew ?_ | refine blk_alloc ?_ _)); refine blk_far ?_ NB147_161.out _; (with_reducible repeat (first | refine blk_drewN ?_ _ | refine blk_drew ?_ | refine blk_alloc ?_ _)); refine blk_far ?_ NB147_161.out _; (with_reducible repeat (first | refine blk_drewN ?_ _ | refine blk_drew ?_ | refine blk_alloc ?_ _)); refine blk_far ?_ NB147_161.out _; (with_reducible repeat (first | refine blk_drewN ?_ _ | refine blk_drew ?_ | refine blk_alloc ?_ _)); refine blk_far ?_ NB147_161.out _; (with_reducible repeat (first | refine blk_drewN ?_ _ | refine blk_drew ?_ | refine blk_alloc ?_ _)); exact BK147.out⟩, ⟨by (with_reducible repeat (first | refine blk_drewN ?_ _ | refine blk_drew ?_ | refine blk_alloc ?_ _)); refine blk_put (cs := #[.slice none 0 0, .string t160, .string (rdOf ByteArray.empty t152 (ji5)), .string (⟨#[]⟩ : ByteArray)]) ?_ 3 _ rfl; (with_reducible repeat (first | refine blk_drewN ?_ _ | refine blk_drew ?_ | refine blk_alloc ?_ _)); refine blk_put (cs := #[.slice none 0 0, .string t160, .string (⟨#[]⟩ : ByteArray), .string (⟨#[]⟩ : ByteArray)]) ?_ 2 _ rfl; (with_reducible repeat (first | refine blk_drewN ?_ _ | refine blk_drew ?_ | refine blk_alloc ?_ _)); refine blk_put (cs := #[.slice none 0 0, .string (⟨#[]⟩ : ByteArray), .string (⟨#[]⟩ : ByteArray), .string (⟨#[]⟩ : ByteArray)]) ?_ 1 _ rfl; (with_reducible repeat (first | refine blk_drewN ?_ _ | refine blk_drew ?_ | refine blk_alloc ?_ _)); refine blk_put (cs := #[.slice none 0 0, .string (⟨#[]⟩ : ByteArray), .string (⟨#[]⟩ : ByteArray), .string (⟨#[]⟩ : ByteArray)]) ?_ 0 _ rfl; (with_reducible repeat (first | refine blk_drewN ?_ _ | refine blk_drew ?_ | refine blk_alloc ?_ _)); exact BK161.out⟩, ⟨by repeat (first | (with_reducible first | exact HB.out | apply below_alloc | apply pw_below_drewN | apply below_drew1 | refine below_set ?_ GE147.out | refine below_set ?_ GE161.out) | exact HB.out)⟩⟩) | (exact ⟨_, (false), au76, H', ⟨by first | omega | exact Nat.le_refl _⟩, ⟨by (with_reducible repeat (first | apply Kd.R_alloc | apply Kd.R_drewN | apply Kd.R_drew)); exact Kd.R_mono (Kd.R_far (p := ⟨gb161, 3, none⟩) (Kd.R_far (p := ⟨gb161, 2, none⟩) (Kd.R_far (p := ⟨gb161, 1, none⟩) (Kd.R_far (p := ⟨gb161, 0, none⟩) (Kd.R_types HO150.out BK161.out (by decide)) (fun _ hk => hk.2) (.slice none 0 0)) (fun _ hk => hk.2) (.string t160)) (fun _ hk => hk.2) (.string (rdOf ByteArray.empty t152 (ji5)))) (fun _ hk => hk.2) (.string (⟨#[]⟩ : ByteArray))) (fun _ hk => trivial)⟩, ⟨by (with_reducible repeat (first | refine blk_drewN ?_ _ | refine blk_drew ?_ | refine blk_alloc ?_ _)); refine blk_far ?_ NB147_161.out _; (with_reducible repeat (first | refine blk_drewN ?_ _ | refine blk_drew ?_ | refine blk_alloc ?_ _)); refine blk_far ?_ NB147_161.out _; (with_reducible repeat (first | refine blk_drewN ?_ _ | refine blk_drew ?_ | refine blk_alloc ?_ _)); refine blk_far ?_ NB147_161.out _; (with_reducible repeat (first | refine blk_drewN ?_ _ | refine blk_drew ?_ | refine blk_alloc ?_ _)); refine blk_far ?_ NB147_161.out _; (with_reducible repeat (first | refine blk_drewN ?_ _ | refine blk_drew ?_ | refine blk_alloc ?_ _)); exact BK147.out⟩, ⟨by (with_reducible repeat (first | refine blk_drewN ?_ _ | refine blk_drew ?_ | refine blk_alloc ?_ _)); refine blk_put (cs := #[.slice none 0 0, .string t160, .string (rdOf ByteArray.empty t152 (ji5)), .string (⟨#[]⟩ : ByteArray)]) ?_ 3 _ rfl; (with_reducible repeat (first | refine blk_drewN ?_ _ | refine blk_drew ?_ | refine blk_alloc ?_ _)); refine blk_put (cs := #[.slice none 0 0, .string t160, .string (⟨#[]⟩ : ByteArray), .string (⟨#[]⟩ : ByteArray)]) ?_ 2 _ rfl; (with_reducible repeat (first | refine blk_drewN ?_ _ | refine blk_drew ?_ | refine blk_alloc ?_ _)); refine blk_put (cs := #[.slice none 0 0, .string (⟨#[]⟩ : ByteArray), .string (⟨#[]⟩ : ByteArray), .string (⟨#[]⟩ : ByteArray)]) ?_ 1 _ rfl; (with_reducible repeat (first | refine blk_drewN ?_ _ | refine blk_drew ?_ | refine blk_alloc ?_ _)); refine blk_put (cs := #[.slice none 0 0, .string (⟨#[]⟩ : ByteArray), .string (⟨#[]⟩ : ByteArray), .string (⟨#[]⟩ : ByteArray)]) ?_ 0 _ rfl; (with_reducible repeat (first | refine blk_drewN ?_ _ | refine blk_drew ?_ | refine blk_alloc ?_ _)); exact BK161.out⟩, ⟨by repeat (first | (with_reducible first | exact HB.out | apply below_alloc | apply pw_below_drewN | apply below_drew1 | refine below_set ?_ GE147.out | refine below_set ?_ GE161.out) | exact HB.out)⟩⟩) | (exact ⟨_, (true), au76, H', ⟨by first | omega | exact Nat.le_refl _⟩, ⟨by (with_reducible repeat (first | apply Kd.R_alloc | apply Kd.R_drewN | apply Kd.R_drew)); exact Kd.R_mono (Kd.R_far (p := ⟨gb161, 3, none⟩) (Kd.R_far (p := ⟨gb161, 2, none⟩) (Kd.R_far (p := ⟨gb161, 1, none⟩) (Kd.R_far (p := ⟨gb161, 0, none⟩) (Kd.R_types HO150.out BK161.out (by decide)) (fun _ hk => hk.2) (.slice none 0 0)) (fun _ hk => hk.2) (.string t160)) (fun _ hk => hk.2) (.string (rdOf ByteArray.empty t152 (ji5)))) (fun _ hk => hk.2) (.string (⟨#[]⟩ : ByteArray))) (fun _ hk => trivial)⟩, ⟨by (with_reducible repeat (first | refine blk_drewN ?_ _ | refine blk_drew ?_ | refine blk_alloc ?_ _)); refine blk_far ?_ NB147_161.out _; (with_reducible repeat (first | refine blk_drewN ?_ _ | refine blk_drew ?_ | refine blk_alloc ?_ _)); refine blk_far ?_ NB147_161.out _; (with_reducible repeat (first | refine blk_drewN ?_ _ | refine blk_drew ?_ | refine blk_alloc ?_ _)); refine blk_far ?_ NB147_161.out _; (with_reducible repeat (first | refine blk_drewN ?_ _ | refine blk_drew ?_ | refine blk_alloc ?_ _)); refine blk_far ?_ NB147_161.out _; (with_reducible repeat (first | refine blk_drewN ?_ _ | refine blk_drew ?_ | refine blk_alloc ?_ _)); exact BK147.out⟩, ⟨by (with_reducible repeat (first | refine blk_drewN ?_ _ | refine blk_drew ?_ | refine blk_alloc ?_ _)); refine blk_put (cs := #[.slice none 0 0, .string t160, .string (rdOf ByteArray.empty t152 (ji5)), .string (⟨#[]⟩ : ByteArray)]) ?_ 3 _ rfl; (with_reducible repeat (first | refine blk_drewN ?_ _ | refine blk_drew ?_ | refine blk_alloc ?_ _)); refine blk_put (cs := #[.slice none 0 0, .string t160, .string (⟨#[]⟩ : ByteArray), .string (⟨#[]⟩ : ByteArray)]) ?_ 2 _ rfl; (with_reducible repeat (first | refine blk_drewN ?_ _ | refine blk_drew ?_ | refine blk_alloc ?_ _)); refine blk_put (cs := #[.slice none 0 0, .string (⟨#[]⟩ : ByteArray), .string (⟨#[]⟩ : ByteArray), .string (⟨#[]⟩ : ByteArray)]) ?_ 1 _ rfl; (with_reducible repeat (first | refine blk_drewN ?_ _ | refine blk_drew ?_ | refine blk_alloc ?_ _)); refine blk_put (cs := #[.slice none 0 0, .string (⟨#[]⟩ : ByteArray), .string (⟨#[]⟩ : ByteArray), .string (⟨#[]⟩ : ByteArray)]) ?_ 0 _ rfl; (with_reducible repeat (first | refine blk_drewN ?_ _ | refine blk_drew ?_ | refine blk_alloc ?_ _)); exact BK161.out⟩, ⟨by repeat (first | (with_reducible first | exact HB.out | apply below_alloc | apply pw_below_drewN | apply below_drew1 | refine below_set ?_ GE147.out | refine below_set ?_ GE161.out) | exact HB.out)⟩⟩) | (exact ⟨_, ((rdOf ByteArray.empty t148 2).extract 1 (rdOf ByteArray.empty t148 2).size), H', ⟨by have := HJ10.out; have := HJ44.out; have := HJ47.out; first | omega | exact Nat.le_refl _⟩, ⟨by (with_reducible repeat (first | apply Kd.R_alloc | apply Kd.R_drewN | apply Kd.R_drew)); exact Kd.R_mono (Kd.R_far (p := ⟨gb161, 3, none⟩) (Kd.R_types HO_162000.out BK161.out (by decide)) (fun _ hk => hk.2) (.string ((rdOf ByteArray.empty t148 2).extract 1 (rdOf ByteArray.empty t148 2).size))) (fun _ hk => trivial)⟩, ⟨by (with_reducible repeat (first | refine blk_drewN ?_ _ | refine blk_drew ?_ | refine blk_alloc ?_ _)); refine blk_far ?_ NB147_161.out _; (with_reducible repeat (first | refine blk_drewN ?_ _ | refine blk_drew ?_ | refine blk_alloc ?_ _)); exact BK147.out⟩, ⟨by (with_reducible repeat (first | refine blk_drewN ?_ _ | refine blk_drew ?_ | refine blk_alloc ?_ _)); refine blk_put (cs := #[u162000, .string t160, .string (rdOf ByteArray.empty t152 (ji5)), .string (⟨#[]⟩ : ByteArray)]) ?_ 3 _ rfl; (with_reducible repeat (first | refine blk_drewN ?_ _ | refine blk_drew ?_ | refine blk_alloc ?_ _)); exact BK161.out⟩, ⟨by repeat (first | (with_reducible first | exact HB.out | apply below_alloc | apply pw_below_drewN | apply below_drew1 | refine below_set ?_ GE147.out | refine below_set ?_ GE161.out) | exact HB.out)⟩⟩) | (exact ⟨_, (([] : List ByteArray)), (.slice none 0 0), H', ⟨by have := HJ10.out; have := HJ44.out; first | omega | exact Nat.le_refl _⟩, ⟨by (with_reducible repeat (first | apply Kd.R_alloc | apply Kd.R_drewN | apply Kd.R_drew)); exact Kd.R_mono HO_4.out (fun _ hk => (by simp [Value.ownBlock]))⟩, ⟨by first | exact Kd.R_nil _ _ _ _ _ | exact Kd.N_nil _ _ _ _ _ | exact Kd.V_nil _ _ _ _ _ | exact Kd.Q_nil _ _ _ _ _ | exact Kd.S_nil _ _ _ _ _⟩, ⟨by (with_reducible repeat (first | refine blk_drewN ?_ _ | refine blk_drew ?_ | refine blk_alloc ?_ _)); exact BK147.out⟩, ⟨by (with_reducible repeat (first | refine blk_drewN ?_ _ | refine blk_drew ?_ | refine blk_alloc ?_ _)); exact BK161.out⟩, ⟨by repeat (first | (with_reducible first | exact HB.out | apply below_alloc | apply pw_below_drewN | apply below_drew1 | refine below_set ?_ GE147.out | refine below_set ?_ GE161.out) | exact HB.out)⟩⟩) | (exact ⟨_, (decide (((rdOf ByteArray.empty t148 1).size : Int) > 1)), au76, H', ⟨by have := HJ10.out; first | omega | exact Nat.le_refl _⟩, ⟨by (with_reducible repeat (first | apply Kd.R_alloc | apply Kd.R_drewN | apply Kd.R_drew)); exact HO_4.out⟩, ⟨by (with_reducible repeat (first | refine blk_drewN ?_ _ | refine blk_drew ?_ | refine blk_alloc ?_ _)); exact BK147.out⟩, ⟨by (with_reducible repeat (first | refine blk_drewN ?_ _ | refine blk_drew ?_ | refine blk_alloc ?_ _)); exact BK161.out⟩, ⟨by repeat (first | (with_reducible first | exact HB.out | apply below_alloc | apply pw_below_drewN | apply below_drew1 | refine below_set ?_ GE147.out | refine below_set ?_ GE161.out) | exact HB.out)⟩⟩) | (exact ⟨_, ((⟨#[]⟩ : ByteArray)), H', ⟨by have := HJ10.out; have := HJ44.out; have := HJ47.out; first | omega | exact Nat.le_refl _⟩, ⟨by (with_reducible repeat (first | apply Kd.R_alloc | apply Kd.R_drewN | apply Kd.R_drew)); exact Kd.R_mono HO_162000.out (fun _ hk => trivial)⟩, ⟨by (with_reducible repeat (first | refine blk_drewN ?_ _ | refine blk_drew ?_ | refine blk_alloc ?_ _)); exact BK147.out⟩, ⟨by (with_reducible repeat (first | refine blk_drewN ?_ _ | refine blk_drew ?_ | refine blk_alloc ?_ _)); exact BK161.out⟩, ⟨by repeat (first | (with_reducible first | exact HB.out | apply below_alloc | apply pw_below_drewN | apply below_drew1 | refine below_set ?_ GE147.out | refine below_set ?_ GE161.out) | exact HB.out)⟩⟩) | (exact ⟨_, (false), au76, H', ⟨by have := HJ10.out; first | omega | exact Nat.le_refl _⟩, ⟨by (with_reducible repeat (first | apply Kd.R_alloc | apply Kd.R_drewN | apply Kd.R_drew)); exact HO_4.out⟩, ⟨by (with_reducible repeat (first | refine blk_drewN ?_ _ | refine blk_drew ?_ | refine blk_alloc ?_ _)); exact BK147.out⟩, ⟨by (with_reducible repeat (first | refine blk_drewN ?_ _ | refine blk_drew ?_ | refine blk_alloc ?_ _)); exact BK161.out⟩, ⟨by repeat (first | (with_reducible first | exact HB.out | apply below_alloc | apply pw_below_drewN | apply below_drew1 | refine below_set ?_ GE147.out | refine below_set ?_ GE161.out) | exact HB.out)⟩⟩)) : P := h
set_option maxHeartbeats 8000000 in
set_option maxRecDepth 100000 in
theorem spec_l2Parse.calls (k : Nat) (a0 : ByteArray) (r1 : List ByteArray) (r2 : ByteArray) (r3 : ByteArray) (r4 : ByteArray) (r5 : Bool) (w : World) (h : spec_l2Parse.f k a0 = some (r1, r2, r3, r4, r5)) :
  Calls Tryd.prog 16 #[.string a0] w fun e w' => ∃ v0_ : Value, e = .returned (.tuple #[.agg #[v0_, .string r2, .string r3, .string r4], .bool r5]) ∧ Kd.R Kd.string 9 w' w.heap.size (fun _ => True) v0_ r1 ∧ Below w.heap.size w w' := by
 have hu31 := Tryd.underlying31
 have HB := Aside0.mk (Below.refl w.heap.size w)
 have H : ((spec_l1Split.f k a0 44).bind fun t148 => (if 0 < (t148.length : Int) then ((spec_l1Split.f k (rdOf ByteArray.empty t148 0) 32).bind fun t152 => (if 0 ≤ (wrap64 ((t152.length : Int) - 1)) then (if (wrap64 ((t152.length : Int) - 1)) < (t152.length : Int) then (if (wrap64 ((t152.length : Int) - 1)) ≤ (t152.length : Int) then ((spec_l2Join.f k (t152.take ((wrap64 ((t152.length : Int) - 1)) : Int).toNat)).bind fun t160 => (if (t148.length : Int) > 3 then (spec_l2Parse.j0 k a0 t148 true t160 (rdOf ByteArray.empty t152 (wrap64 ((t152.length : Int) - 1))) (⟨#[]⟩ : ByteArray)) else (if (t148.length : Int) > 1 then (if 1 < (t148.length : Int) then (if (rdOf ByteArray.empty t148 1).toList = ([] : List UInt8) then (spec_l2Parse.j0 k a0 t148 true t160 (rdOf ByteArray.empty t152 (wrap64 ((t152.length : Int) - 1))) (⟨#[]⟩ : ByteArray)) else (if 0 < ((rdOf ByteArray.empty t148 1).size : Int) then (if (bt (rdOf ByteArray.empty t148 1) 0) = 32 then (if (t148.length : Int) > 2 then (if 2 < (t148.length : Int) then (if (rdOf ByteArray.empty t148 2).toList = ([] : List UInt8) then (spec_l2Parse.j0 k a0 t148 true t160 (rdOf ByteArray.empty t152 (wrap64 ((t152.length : Int) - 1))) (⟨#[]⟩ : ByteArray)) else (if 0 < ((rdOf ByteArray.empty t148 2).size : Int) then (spec_l2Parse.j0 k a0 t148 ((bt (rdOf ByteArray.empty t148 2) 0) != 32) t160 (rdOf ByteArray.empty t152 (wrap64 ((t152.length : Int) - 1))) (⟨#[]⟩ : ByteArray)) else (none))) else (none)) else (spec_l2Parse.j0 k a0 t148 false t160 (rdOf ByteArray.empty t152 (wrap64 ((t152.length : Int) - 1))) (⟨#[]⟩ : ByteArray))) else (spec_l2Parse.j0 k a0 t148 true t160 (rdOf ByteArray.empty t152 (wrap64 ((t152.length : Int) - 1))) (⟨#[]⟩ : ByteArray))) else (none))) else (none)) else (if (t148.length : Int) > 2 then (if 2 < (t148.length : Int) then (if (rdOf ByteArray.empty t148 2).toList = ([] : List UInt8) then (spec_l2Parse.j0 k a0 t148 true t160 (rdOf ByteArray.empty t152 (wrap64 ((t152.length : Int) - 1))) (⟨#[]⟩ : ByteArray)) else (if 0 < ((rdOf ByteArray.empty t148 2).size : Int) then (spec_l2Parse.j0 k a0 t148 ((bt (rdOf ByteArray.empty t148 2) 0) != 32) t160 (rdOf ByteArray.empty t152 (wrap64 ((t152.length : Int) - 1))) (⟨#[]⟩ : ByteArray)) else (none))) else (none)) else (spec_l2Parse.j0 k a0 t148 false t160 (rdOf ByteArray.empty t152 (wrap64 ((t152.length : Int) - 1))) (⟨#[]⟩ : ByteArray)))))) else (none)) else (none)) else (none))) else (none))) = some (r1, r2, r3, r4, r5) := h
 clear h
 replace H := Option.bind_eq_some_iff.mp H
 obtain ⟨t148, A20, H⟩ := H
 try dsimp only at H
 have A2 := Aside0.mk A20
 clear A20
 by_cases c3 : 0 < (t148.length : Int)
 ·
  rw [if_pos c3] at H
  have c3b0 : decide (0 < (t148.length : Int)) = true := decide_eq_true c3
  have c3b1 : decide (0 < t148.length) = true := decide_eq_true (by omega)
  clear c3
  replace H := Option.bind_eq_some_iff.mp H
  obtain ⟨t152, A40, H⟩ := H
  try dsimp only at H
  have A4 := Aside0.mk A40
  clear A40
  obtain ⟨ji5, hji5⟩ : ∃ j_ : Int, (wrap64 ((t152.length : Int) - 1)) = j_ := ⟨_, rfl⟩
  replace H : (if 0 ≤ (ji5) then (if (ji5) < (t152.length : Int) then (if (ji5) ≤ (t152.length : Int) then ((spec_l2Join.f k (t152.take ((ji5) : Int).toNat)).bind fun t160 => (if (t148.length : Int) > 3 then (spec_l2Parse.j0 k a0 t148 true t160 (rdOf ByteArray.empty t152 (ji5)) (⟨#[]⟩ : ByteArray)) else (if (t148.length : Int) > 1 then (if 1 < (t148.length : Int) then (if (rdOf ByteArray.empty t148 1).toList = ([] : List UInt8) then (spec_l2Parse.j0 k a0 t148 true t160 (rdOf ByteArray.empty t152 (ji5)) (⟨#[]⟩ : ByteArray)) else (if 0 < ((rdOf ByteArray.empty t148 1).size : Int) then (if (bt (rdOf ByteArray.empty t148 1) 0) = 32 then (if (t148.length : Int) > 2 then (if 2 < (t148.length : Int) then (if (rdOf ByteArray.empty t148 2).toList = ([] : List UInt8) then (spec_l2Parse.j0 k a0 t148 true t160 (rdOf ByteArray.empty t152 (ji5)) (⟨#[]⟩ : ByteArray)) else (if 0 < ((rdOf ByteArray.empty t148 2).size : Int) then (spec_l2Parse.j0 k a0 t148 ((bt (rdOf ByteArray.empty t148 2) 0) != 32) t160 (rdOf ByteArray.empty t152 (ji5)) (⟨#[]⟩ : ByteArray)) else (none))) else (none)) else (spec_l2Parse.j0 k a0 t148 false t160 (rdOf ByteArray.empty t152 (ji5)) (⟨#[]⟩ : ByteArray))) else (spec_l2Parse.j0 k a0 t148 true t160 (rdOf ByteArray.empty t152 (ji5)) (⟨#[]⟩ : ByteArray))) else (none))) else (none)) else (if (t148.length : Int) > 2 then (if 2 < (t148.length : Int) then (if (rdOf ByteArray.empty t148 2).toList = ([] : List UInt8) then (spec_l2Parse.j0 k a0 t148 true t160 (rdOf ByteArray.empty t152 (ji5)) (⟨#[]⟩ : ByteArray)) else (if 0 < ((rdOf ByteArray.empty t148 2).size : Int) then (spec_l2Parse.j0 k a0 t148 ((bt (rdOf ByteArray.empty t148 2) 0) != 32) t160 (rdOf ByteArray.empty t152 (ji5)) (⟨#[]⟩ : ByteArray)) else (none))) else (none)) else (spec_l2Parse.j0 k a0 t148 false t160 (rdOf ByteArray.empty t152 (ji5)) (⟨#[]⟩ : ByteArray)))))) else (none)) else (none)) else (none)) = some (r1, r2, r3, r4, r5) := by first | (rw [hji5] at H; exact H) | (simp only [hji5] at H ⊢; exact H)
  (try rw [hji5] at A2)
  (try rw [hji5] at A4)
  have hji5w : (IntKind.i64.wrap ((t152.length : Int) - 1)) = ji5 := (i64_w _).trans hji5
  by_cases c6 : 0 ≤ (ji5)
  ·
   rw [if_pos c6] at H
   have c6b0 : decide (0 ≤ (ji5)) = true := decide_eq_true c6
   clear c6
   by_cases c7 : (ji5) < (t152.length : Int)
   ·
    rw [if_pos c7] at H
    have c7b0 : decide ((ji5) < (t152.length : Int)) = true := decide_eq_true c7
    clear c7
    have c8b0 := eq_true (of_decide_eq_true au75 : 0 ≤ (ji5))
    by_cases c9 : (ji5) ≤ (t152.length : Int)
    ·
     rw [if_pos c9] at H
     have c9b0 := eq_true c9
     have c9b1 : decide ((ji5) ≤ (t152.length : Int)) = true := decide_eq_true c9
     clear c9
     obtain ⟨y156, hy156⟩ : ∃ y_ : List ByteArray, y_ = (t152.take ((ji5) : Int).toNat) := ⟨_, rfl⟩
     replace H : ((spec_l2Join.f k y156).bind fun t160 => (if (t148.length : Int) > 3 then (spec_l2Parse.j0 k a0 t148 true t160 (rdOf ByteArray.empty t152 (ji5)) (⟨#[]⟩ : ByteArray)) else (if (t148.length : Int) > 1 then (if 1 < (t148.length : Int) then (if (rdOf ByteArray.empty t148 1).toList = ([] : List UInt8) then (spec_l2Parse.j0 k a0 t148 true t160 (rdOf ByteArray.empty t152 (ji5)) (⟨#[]⟩ : ByteArray)) else (if 0 < ((rdOf ByteArray.empty t148 1).size : Int) then (if (bt (rdOf ByteArray.empty t148 1) 0) = 32 then (if (t148.length : Int) > 2 then (if 2 < (t148.length : Int) then (if (rdOf ByteArray.empty t148 2).toList = ([] : List UInt8) then (spec_l2Parse.j0 k a0 t148 true t160 (rdOf ByteArray.empty t152 (ji5)) (⟨#[]⟩ : ByteArray)) else (if 0 < ((rdOf ByteArray.empty t148 2).size : Int) then (spec_l2Parse.j0 k a0 t148 ((bt (rdOf ByteArray.empty t148 2) 0) != 32) t160 (rdOf ByteArray.empty t152 (ji5)) (⟨#[]⟩ : ByteArray)) else (none))) else (none)) else (spec_l2Parse.j0 k a0 t148 false t160 (rdOf ByteArray.empty t152 (ji5)) (⟨#[]⟩ : ByteArray))) else (spec_l2Parse.j0 k a0 t148 true t160 (rdOf ByteArray.empty t152 (ji5)) (⟨#[]⟩ : ByteArray))) else (none))) else (none)) else (if (t148.length : Int) > 2 then (if 2 < (t148.length : Int) then (if (rdOf ByteArray.empty t148 2).toList = ([] : List UInt8) then (spec_l2Parse.j0 k a0 t148 true t160 (rdOf ByteArray.empty t152 (ji5)) (⟨#[]⟩ : ByteArray)) else (if 0 < ((rdOf ByteArray.empty t148 2).size : Int) then (spec_l2Parse.j0 k a0 t148 ((bt (rdOf ByteArray.empty t148 2) 0) != 32) t160 (rdOf ByteArray.empty t152 (ji5)) (⟨#[]⟩ : ByteArray)) else (none))) else (none)) else (spec_l2Parse.j0 k a0 t148 false t160 (rdOf ByteArray.empty t152 (ji5)) (⟨#[]⟩ : ByteArray)))))) = some (r1, r2, r3, r4, r5) := by first | (rw [hy156]; with_reducible exact H) | (have H2_ := (Option.bind_some _ _).symm.trans H; rw [hy156]; with_reducible exact H2_) | (have H2_ := (Option.bind_some _ _).symm.trans H; with_reducible exact H2_) | with_reducible exact H | (rw [hy156]; exact H) | exact H
     have Ny156 := Aside0.mk hy156
     clear hy156
     replace H := Option.bind_eq_some_iff.mp H
     obtain ⟨t160, A100, H⟩ := H
     try dsimp only at H
     have A10 := Aside0.mk A100
     clear A100
     have HC11 := Aside0.mk H
     clear H
     go_enter Tryd.func16, Tryd.ntmps16
     try go_wp2_with (first | ((with_reducible refine gate_dst (N := 2) rfl ?_); (try (refine gate_guard (by rfl) ?_; dsimp only)); refine box_event ?hg (N := 2) ?hd (cs := #[.slice none 0 0, .string (⟨#[]⟩ : ByteArray), .string (⟨#[]⟩ : ByteArray), .string (⟨#[]⟩ : ByteArray)]) (t := 31) ?hr ?_; (case hd => rfl); (case hg => rfl); (case hr => first | (go_simp; done) | (go_simp; rfl)); intro gb147 hg w12 hbox hb; have BK147 := Aside0.mk (hbox); have GW147 := Aside0.mk (bsz hg au27); have GE147 := Aside0.mk (bsz hg au27); replace HB := Aside0.mk (below_step au27 hb); clear hb hbox hg) | ((with_reducible refine gate_callee (f := 15) rfl ?_); refine goesL_ (some 8) rfl rfl Tryd.func15 (by kernel_rfl) rfl #[.string a0, .int .u8 44] rfl au24 ?_; (with_reducible refine (spec_l1Split.calls k a0 44 t148 _ A2.out).mono ?_); rintro e w13 ⟨v149, rfl, ho0, hb⟩; refine ⟨_, rfl, ?_⟩; have HO150 := Aside0.mk (Kd.R_lower ho0 (below_size au16)); replace BK147 := Aside0.mk (blk_below (g := gb147) au47 hb); replace HB := Aside0.mk (below_step au16 hb); (try clear hb); (try clear ho0); obtain ⟨Ao14, co14, eo14⟩ := Kd.R_slice HO150.out; subst eo14; have p151 : 0 ≤ (0 : Int) := (by omega); have q151 : 0 < (t148.length : Int) := of_decide_eq_true au75; obtain ⟨ad151, e151, hx151_0⟩ := Kd.at_string (Kd.R_reads' HO150.out).2.2 0 p151 q151; cases e151; have qi151 : (0 < t148.length) = True := eq_true (by omega); (try rw [show ((0 : Int)).toNat = 0 from rfl] at hx151_0); (try rw [Addr.add_zero'] at hx151_0); replace p151 := eq_true p151; replace q151 := eq_true q151) | ((with_reducible refine gate_callee (f := 15) rfl ?_); refine goesL_ (some 12) rfl rfl Tryd.func15 (by kernel_rfl) rfl #[.string (rdOf ByteArray.empty t148 0), .int .u8 32] rfl au24 ?_; (with_reducible refine (spec_l1Split.calls k (rdOf ByteArray.empty t148 0) 32 t152 _ A4.out).mono ?_); rintro e w15 ⟨v153, rfl, ho0, hb⟩; refine ⟨_, rfl, ?_⟩; have HO154 := Aside0.mk (Kd.R_lower (Kd.R_new' ho0 (Kd.R_lt au59)) (below_size au16)); replace HO150 := Aside0.mk (Kd.R_elder' au59 (Kd.R_base ho0) hb); replace BK147 := Aside0.mk (blk_below (g := gb147) au47 hb); replace HB := Aside0.mk (below_step au16 hb); (try clear hb); (try clear ho0)))
     replace HO150 := Aside0.mk (Kd.R_drew HO150.out)
     replace HO154 := Aside0.mk (Kd.R_drew HO154.out)
     replace BK147 := Aside0.mk (blk_drew BK147.out)
     replace HB := Aside0.mk (below_drew1 HB.out)
     obtain ⟨Ao17, co17, eo17⟩ := Kd.R_slice HO154.out
     (first | subst eo17 | (injection eo17 with f1_ f2_ f3_; have f4_ := f1_.symm; have f5_ := f3_.symm; clear f1_ f2_ f3_; subst f4_; subst f5_))
     have p155 : 0 ≤ ((ji5) : Int) := of_decide_eq_true au75
     have q155 : (ji5) < (t152.length : Int) := of_decide_eq_true au75
     obtain ⟨ad155, e155, hx155_0⟩ := Kd.at_string (Kd.R_reads' HO154.out).2.2 (ji5) p155 q155
     cases e155
     replace p155 := eq_true p155
     replace q155 := eq_true q155
     have q18 : ((ji5) : Int) ≤ ((t152.length : Int) : Int) := of_decide_eq_true au75
     obtain ⟨i018, hi018, _, hsz18, _⟩ := info_parts info9
     have hroom18 : t152.length ≤ co17 := (Kd.R_reads' HO154.out).2.1
     have hC18 : Kd.C Kd.string _ (some ad155) t152.length t152 := (Kd.R_reads' HO154.out).2.2
     have hcut18 := cut_to (P := Tryd.prog) 29 9 .i64 Tryd.underlying29 hi018 (some ad155) t152.length co17 (ji5) (of_decide_eq_true au75) q18 hroom18
     have hr18 := Kd.C_take (m := ((ji5) : Int).toNat) hC18 (by omega)
     have hy18 : y156.length = ((ji5) : Int).toNat := (by rw [Ny156.out, List.length_take]; omega)
     rw [← Ny156.out] at hr18
     rw [← hy18] at hcut18
     have HR159 := Aside0.mk hr18
     have HC159 := Aside0.mk (show y156.length ≤ co17 from by omega)
     clear hr18 hC18 hroom18 hi018 hsz18
     have KY18 := Aside0.mk hy18
     clear hy18
     have KL18 := Aside0.mk (show ((ji5) : Int).toNat ≤ t152.length from by omega)
     replace q18 := eq_true q18
     refine start_ (n := 15) (S := fun w' => w'.cell? (ad155.add ((ji5)).toNat) = some (.string (rdOf ByteArray.empty t152 (ji5)))) (ds := []) #[false, false, false, false, false, false, false, false, false, false, false, false, false, false, false] (by kernel_rfl) rfl rfl (hx155_0) (fun hHeld => ?_); refine with_tabW spec_l2Parse.tab3 spec_l2Parse.bits3 (fun HT_ HW_ => ?_)
     generalize w15.drew = w16 at HO150 HO154 BK147 HB HR159 hx155_0 hHeld ⊢
     refine pu_ 0 (some 13) #[true, false, false, false, false, false, false, false, false, false, false, false, false, false, false] HT_.out ?_
     refine pu_ 1 (some 14) #[true, true, false, false, false, false, false, false, false, false, false, false, false, false, false] HT_.out ?_
     refine pu_ 2 (some 15) #[true, true, true, false, false, false, false, false, false, false, false, false, false, false, false] HT_.out ?_
     refine pu_ 3 (some 16) #[true, true, true, true, false, false, false, false, false, false, false, false, false, false, false] HT_.out ?_
     refine pu_ 4 (some 17) #[true, true, true, true, true, false, false, false, false, false, false, false, false, false, false] HT_.out ?_
     refine pu_ 6 (some 19) #[true, true, true, true, true, false, true, false, false, false, false, false, false, false, false] HT_.out ?_
     refine pu_ 7 (some 20) #[true, true, true, true, true, false, true, true, false, false, false, false, false, false, false] HT_.out ?_
     refine pu_ 8 (some 21) #[true, true, true, true, true, false, true, true, true, false, false, false, false, false, false] HT_.out ?_
     refine pu_ 9 (some 22) #[true, true, true, true, true, false, true, true, true, true, false, false, false, false, false] HT_.out ?_
     refine pu_ 10 (some 23) #[true, true, true, true, true, false, true, true, true, true, true, false, false, false, false] HT_.out ?_
     refine take_ (i := 5) (N := some 18) (v := ?_) (a' := ?_) #[true, true, true, true, true, true, true, true, true, true, true, false, false, false, false] rfl rfl (take_ofW HT_.out HW_.out (by kernel_rfl)) (fun _ _ _ h => h) (Or.inl ⟨by rfl, ?_⟩) hHeld ?_ ?_
     rotate_left
     ·
      intro w' s0
      go_simp
      with_reducible rfl
     rotate_left
     ·
      simp only [Act.put, List.setIfInBounds_toArray, List.set_cons_zero, List.set_cons_succ, i64_w, i32_w]
      rfl
     refine join_ (σ := Nat) 1 #[true, true, true, true, true, true, true, true, true, true, true, true, true, true, false] (fun s_ => [(24, .string t160), (6, .pointer (some ⟨s_, 0, none⟩)), (25, .agg #[.slice none 0 0, .string t160, .string (rdOf ByteArray.empty t152 (ji5)), .string (⟨#[]⟩ : ByteArray)])]) (fun s_ w' => (w'.cell? (ad155.add ((ji5)).toNat) = some (.string (rdOf ByteArray.empty t152 (ji5)))) ∧ (Kd.R Kd.string 9 w' w.heap.size (fun k_ => some k_ ≠ (.slice (some ad155) t152.length co17 : Value).ownBlock) (.slice (some ad151) t148.length co14) t148) ∧ (Kd.R Kd.string 9 w' w.heap.size (fun k_ => some k_ ≠ (.slice (some ad151) t148.length co14 : Value).ownBlock) (.slice (some ad155) t152.length co17) t152) ∧ (w'.heap[gb147]? = some (.cells #[.slice none 0 0, .string (⟨#[]⟩ : ByteArray), .string (⟨#[]⟩ : ByteArray), .string (⟨#[]⟩ : ByteArray)] 31 (0, 0))) ∧ (w'.heap[s_]? = some (.cells #[.slice none 0 0, .string (⟨#[]⟩ : ByteArray), .string (⟨#[]⟩ : ByteArray), .string (⟨#[]⟩ : ByteArray)] 31 (0, 0))) ∧ (w.heap.size ≤ s_) ∧ (w.heap.size ≤ s_) ∧ (gb147 ≠ s_) ∧ (s_ ≠ gb147) ∧ (Below w.heap.size w w')) ?_ ?_
     rotate_left
     ·
      intro hCont
      refine two_ (i := 11) (j := 13) (Ni := some 24) (Nj := some 6) #[true, true, true, true, true, true, true, true, true, true, true, true, false, false, false] #[true, true, true, true, true, true, true, true, true, true, true, false, false, true, false] rfl rfl rfl rfl (two_of HT_.out (by kernel_rfl)) (by decide) (by decide) (fun K hK => ?_) (fun K hK => ?_)
      ·
       skip
       refine gs_ Tryd.func21 #[.slice (some ad155) y156.length co17] ?_
       with_reducible refine (spec_l2Join.calls k _ _ y156 t160 _ ?side1 ?side2 A10.out).mono ?_
       (case side1 => repeat (first | exact au9 | (with_reducible refine Kd.C_alloc ?_ _) | (with_reducible refine Kd.C_drewN ?_ _) | (with_reducible refine Kd.C_drew ?_)))
       (case side2 => exact HC159.out)
       rintro e w' ⟨rfl, ⟨nd, rfl⟩⟩
       refine ⟨_, rfl, ?_⟩
       refine hK.out _ _ (hHeld) (fun hHeld => ?_)
       clear hK K
       refine no_ (some 24) ?_
       refine pu_ 12 (some 25) #[true, true, true, true, true, true, true, true, true, true, true, true, true, false, false] HT_.out ?_
       refine on_ 13 (some 6) #[true, true, true, true, true, true, true, true, true, true, true, true, true, true, false] HT_.out (fun K hK => ?_)
       refine box_step ?hg (N := 6) ?hd (cs := #[.slice none 0 0, .string (⟨#[]⟩ : ByteArray), .string (⟨#[]⟩ : ByteArray), .string (⟨#[]⟩ : ByteArray)]) (t := 31) ?hr ?_; (case hd => rfl); (case hg => rfl); (case hr => first | (go_simp; done) | (go_simp; rfl))
       intro gb161 hg w19 hbox hb
       have HS0_ := (hb.cell (World.block_lt_of_cell? _ _ (hHeld))).trans (hHeld)
       replace HO150 := Aside0.mk (Kd.R_below au59 hb)
       replace HO154 := Aside0.mk (Kd.R_below au60 hb)
       replace HR159 := Aside0.mk (Kd.C_below au9 hb)
       have BK161 := Aside0.mk (hbox)
       have GW161 := Aside0.mk (bsz hg au16)
       have GE161 := Aside0.mk (bsz hg au16)
       replace HB := Aside0.mk (below_step au16 hb)
       have NB147_161 := Aside0.mk (bne (g := gb147) hg au47)
       have NB161_147 := Aside0.mk (ben (g := gb147) hg au47)
       replace BK147 := Aside0.mk (blk_below (g := gb147) au47 hb)
       clear hb hbox hg
       refine hK.out _ _ (HS0_) (fun hHeld => ?_)
       clear hK K
       refine no_ (some 6) ?_
       exact norm_ (by simp only [putAll, Act.put, List.setIfInBounds_toArray, List.set_cons_zero, List.set_cons_succ]) (hCont (gb161) _ ⟨hHeld, au25, au26, au47, au48, GW161.out, GE161.out, NB147_161.out, NB161_147.out, au7⟩)
      ·
       skip
       refine box_step ?hg (N := 6) ?hd (cs := #[.slice none 0 0, .string (⟨#[]⟩ : ByteArray), .string (⟨#[]⟩ : ByteArray), .string (⟨#[]⟩ : ByteArray)]) (t := 31) ?hr ?_; (case hd => rfl); (case hg => rfl); (case hr => first | (go_simp; done) | (go_simp; rfl))
       intro gb161 hg w19 hbox hb
       have HS0_ := (hb.cell (World.block_lt_of_cell? _ _ (hHeld))).trans (hHeld)
       replace HO150 := Aside0.mk (Kd.R_below au59 hb)
       replace HO154 := Aside0.mk (Kd.R_below au60 hb)
       replace HR159 := Aside0.mk (Kd.C_below au9 hb)
       have BK161 := Aside0.mk (hbox)
       have GW161 := Aside0.mk (bsz hg au16)
       have GE161 := Aside0.mk (bsz hg au16)
       replace HB := Aside0.mk (below_step au16 hb)
       have NB147_161 := Aside0.mk (bne (g := gb147) hg au47)
       have NB161_147 := Aside0.mk (ben (g := gb147) hg au47)
       replace BK147 := Aside0.mk (blk_below (g := gb147) au47 hb)
       clear hb hbox hg
       refine hK.out _ _ (HS0_) (fun hHeld => ?_)
       clear hK K
       refine no_ (some 6) ?_
       refine on_ 11 (some 24) #[true, true, true, true, true, true, true, true, true, true, true, true, false, true, false] HT_.out (fun K hK => ?_)
       refine gs_ Tryd.func21 #[.slice (some ad155) y156.length co17] ?_
       with_reducible refine (spec_l2Join.calls k _ _ y156 t160 _ ?side1 ?side2 A10.out).mono ?_
       (case side1 => repeat (first | exact au9 | (with_reducible refine Kd.C_alloc ?_ _) | (with_reducible refine Kd.C_drewN ?_ _) | (with_reducible refine Kd.C_drew ?_)))
       (case side2 => exact HC159.out)
       rintro e w' ⟨rfl, ⟨nd, rfl⟩⟩
       refine ⟨_, rfl, ?_⟩
       refine hK.out _ _ (hHeld) (fun hHeld => ?_)
       clear hK K
       refine no_ (some 24) ?_
       refine pu_ 12 (some 25) #[true, true, true, true, true, true, true, true, true, true, true, true, true, true, false] HT_.out ?_
       exact norm_ (by simp only [putAll, Act.put, List.setIfInBounds_toArray, List.set_cons_zero, List.set_cons_succ]) (hCont (gb161) _ ⟨hHeld, au25, au26, au47, au48, GW161.out, GE161.out, NB147_161.out, NB161_147.out, au7⟩)
     rintro gb161 w20 ⟨hS_, h0_, h1_, h2_, h3_, h4_, h5_, h6_, h7_, h8_⟩
     have n0_ : Aside0 (Kd.R Kd.string 9 w20 w.heap.size (fun k_ => some k_ ≠ (.slice (some ad155) t152.length co17 : Value).ownBlock) (.slice (some ad151) t148.length co14) t148) := ⟨h0_⟩
     have n1_ : Aside0 (Kd.R Kd.string 9 w20 w.heap.size (fun k_ => some k_ ≠ (.slice (some ad151) t148.length co14 : Value).ownBlock) (.slice (some ad155) t152.length co17) t152) := ⟨h1_⟩
     have n2_ : Aside0 (w20.heap[gb147]? = some (.cells #[.slice none 0 0, .string (⟨#[]⟩ : ByteArray), .string (⟨#[]⟩ : ByteArray), .string (⟨#[]⟩ : ByteArray)] 31 (0, 0))) := ⟨h2_⟩
     have n3_ : Aside0 (w20.heap[gb161]? = some (.cells #[.slice none 0 0, .string (⟨#[]⟩ : ByteArray), .string (⟨#[]⟩ : ByteArray), .string (⟨#[]⟩ : ByteArray)] 31 (0, 0))) := ⟨h3_⟩
     have n4_ : Aside0 (w.heap.size ≤ gb161) := ⟨h4_⟩
     have n5_ : Aside0 (w.heap.size ≤ gb161) := ⟨h5_⟩
     have n6_ : Aside0 (gb147 ≠ gb161) := ⟨h6_⟩
     have n7_ : Aside0 (gb161 ≠ gb147) := ⟨h7_⟩
     have n8_ : Aside0 (Below w.heap.size w w20) := ⟨h8_⟩
     clear HO150
     clear HO154
     clear BK147
     clear HB
     clear h0_ h1_ h2_ h3_ h4_ h5_ h6_ h7_ h8_
     have HO150 := n0_
     have HO154 := n1_
     have BK147 := n2_
     have BK161 := n3_
     have GW161 := n4_
     have GE161 := n5_
     have NB147_161 := n6_
     have NB161_147 := n7_
     have HB := n8_
     clear n0_ n1_ n2_ n3_ n4_ n5_ n6_ n7_ n8_
     have hHeld : w20.cell? (ad155.add ((ji5)).toNat) = some (.string (rdOf ByteArray.empty t152 (ji5))) := hS_
     refine norm_ (a' := ?_) ?_ ?_
     rotate_left
     ·
      simp only [putAll, Act.put, List.setIfInBounds_toArray, List.set_cons_zero, List.set_cons_succ]
      rfl
     refine on_ 14 (none) #[true, true, true, true, true, true, true, true, true, true, true, true, true, true, true] HT_.out (fun K hK => ?_)
     have hs21 : w20.cell? ⟨gb161, 0, none⟩ = some (.slice none 0 0) := (blk_cell BK161.out 0).trans rfl
     have hfs21 := blk_frozen BK161.out 0
     have hns21_0 := NB147_161.out
     have hms21_0 := NB161_147.out
     have hs22 : w20.cell? ⟨gb161, 1, none⟩ = some (.string (⟨#[]⟩ : ByteArray)) := (blk_cell BK161.out 1).trans rfl
     have hfs22 := blk_frozen BK161.out 1
     have hns22_0 := NB147_161.out
     have hms22_0 := NB161_147.out
     have hs23 : w20.cell? ⟨gb161, 2, none⟩ = some (.string (⟨#[]⟩ : ByteArray)) := (blk_cell BK161.out 2).trans rfl
     have hfs23 := blk_frozen BK161.out 2
     have hns23_0 := NB147_161.out
     have hms23_0 := NB161_147.out
     have hs24 : w20.cell? ⟨gb161, 3, none⟩ = some (.string (⟨#[]⟩ : ByteArray)) := (blk_cell BK161.out 3).trans rfl
     have hfs24 := blk_frozen BK161.out 3
     have hns24_0 := NB147_161.out
     have hms24_0 := NB161_147.out
     refine skip_ (w1 := ?_) (by rfl) rfl ?_ ?_
     rotate_left
     ·
      go_simp
      rfl
     refine hK.out _ _ (((cell_far (p := ⟨gb161, _, none⟩) au5 _).trans (((cell_far (p := ⟨gb161, _, none⟩) au5 _).trans (((cell_far (p := ⟨gb161, _, none⟩) au5 _).trans (((cell_far (p := ⟨gb161, _, none⟩) au5 _).trans (hHeld))))))))) (fun hHeld => ?_)
     clear hK K
     refine done_ (done_of HT_.out (by kernel_rfl)) ?_
     go_upto_region 4 with (fail)
     go_cut [64] (fun v64 wc => ∃ (kq : Nat) (x64_10 : Bool), v64 = .bool x64_10 ∧ Aside0 (spec_l2Parse.j0 kq a0 t148 x64_10 t160 (rdOf ByteArray.empty t152 (ji5)) (⟨#[]⟩ : ByteArray) = some (r1, r2, r3, r4, r5)) ∧ Aside0 (kq ≤ k) ∧ Aside0 (Kd.R Kd.string 9 wc w.heap.size (fun _ => True) (.slice (some ad151) t148.length co14) t148) ∧ Aside0 (wc.heap[gb147]? = some (.cells #[(.slice none 0 0), .string (⟨#[]⟩ : ByteArray), .string (⟨#[]⟩ : ByteArray), .string (⟨#[]⟩ : ByteArray)] 31 (0, 0))) ∧ Aside0 (wc.heap[gb161]? = some (.cells #[(.slice none 0 0), .string t160, .string (rdOf ByteArray.empty t152 (ji5)), .string (⟨#[]⟩ : ByteArray)] 31 (0, 0))) ∧ Aside0 (Below w.heap.size w wc))
     case first =>
      have H := HC11.out
      clear HC11
      by_cases c25 : (t148.length : Int) > 3
      ·
       rw [if_pos c25] at H
       have c25b0 : decide (3 < (t148.length : Int)) = true := decide_eq_true c25
       have c25b1 : decide (3 < t148.length) = true := decide_eq_true (by omega)
       clear c25
       (first | rw [c25b0] | (simp only [i64_w, i32_w]; rw [c25b0]) | skip)
       have H' := Aside0.mk H
       clear H
       exact spec_l2Parse.L1
      ·
       rw [if_neg c25] at H
       have c25b0 : decide (3 < (t148.length : Int)) = false := decide_eq_false c25
       have c25b1 : decide (3 < t148.length) = false := decide_eq_false (by omega)
       clear c25
       (first | rw [c25b0] | (simp only [i64_w, i32_w]; rw [c25b0]) | skip)
       by_cases c26 : (t148.length : Int) > 1
       ·
        rw [if_pos c26] at H
        have c26b0 : decide (1 < (t148.length : Int)) = true := decide_eq_true c26
        have c26b1 : decide (1 < t148.length) = true := decide_eq_true (by omega)
        clear c26
        by_cases c27 : 1 < (t148.length : Int)
        ·
         rw [if_pos c27] at H
         have c27b0 : decide (1 < (t148.length : Int)) = true := decide_eq_true c27
         have c27b1 : decide (1 < t148.length) = true := decide_eq_true (by omega)
         clear c27
         by_cases c28 : (rdOf ByteArray.empty t148 1).toList = ([] : List UInt8)
         ·
          rw [if_pos c28] at H
          have c28b0 : ((rdOf ByteArray.empty t148 1).toList == ([] : List UInt8)) = true := beq_iff_eq.mpr c28
          have c28b1 : ((rdOf ByteArray.empty t148 1).toList != ([] : List UInt8)) = false := bne_eq_false_iff_eq.mpr c28
          clear c28
          have H' := Aside0.mk H
          clear H
          have p162 : 0 ≤ (1 : Int) := (by omega)
          have q162 : 1 < (t148.length : Int) := of_decide_eq_true au75
          obtain ⟨ad162, e162, hx162_0⟩ := Kd.at_string (Kd.R_reads' HO150.out).2.2 1 p162 q162
          obtain rfl : ad151 = ad162 := (by injection e162)
          (try simp only [show (1 : Int).toNat = 1 from rfl, Nat.reduceMul, Nat.reduceEqDiff, Go.Addr.add, ↓reduceIte] at hx162_0)
          have qi162 : (1 < t148.length) = True := eq_true (by omega)
          (try rw [show ((1 : Int)).toNat = 1 from rfl] at hx162_0)
          have hn162_0 : ad151.block ≠ gb161 := Kd.own_blk (Kd.R_ne HO150.out BK161.out (by decide))
          have hn162_1 : ad151.block ≠ gb161 := Kd.own_blk (Kd.R_ne HO150.out BK161.out (by decide))
          have hn162_2 : ad151.block ≠ gb161 := Kd.own_blk (Kd.R_ne HO150.out BK161.out (by decide))
          have hn162_3 : ad151.block ≠ gb161 := Kd.own_blk (Kd.R_ne HO150.out BK161.out (by decide))
          replace hx162_0 := (cell_far (p := ⟨gb161, 0, none⟩) au29 (.slice none 0 0)).trans hx162_0
          replace hx162_0 := (cell_far (p := ⟨gb161, 1, none⟩) au30 (.string t160)).trans hx162_0
          replace hx162_0 := (cell_far (p := ⟨gb161, 2, none⟩) au31 (.string (rdOf ByteArray.empty t152 (ji5)))).trans hx162_0
          replace hx162_0 := (cell_far (p := ⟨gb161, 3, none⟩) au32 (.string (⟨#[]⟩ : ByteArray))).trans hx162_0
          clear hn162_0
          clear hn162_1
          clear hn162_2
          clear hn162_3
          replace p162 := eq_true p162
          replace q162 := eq_true q162
          exact spec_l2Parse.L1
         ·
          rw [if_neg c28] at H
          have c28b0 : ((rdOf ByteArray.empty t148 1).toList == ([] : List UInt8)) = false := beq_eq_false_iff_ne.mpr c28
          have c28b1 : ((rdOf ByteArray.empty t148 1).toList != ([] : List UInt8)) = true := bne_iff_ne.mpr c28
          by_cases c29 : 0 < ((rdOf ByteArray.empty t148 1).size : Int)
          ·
           rw [if_pos c29] at H
           have c29b0 : decide (0 < ((rdOf ByteArray.empty t148 1).size : Int)) = true := decide_eq_true c29
           have c29b1 : decide (0 < (rdOf ByteArray.empty t148 1).size) = true := decide_eq_true (by omega)
           clear c29
           by_cases c31 : (bt (rdOf ByteArray.empty t148 1) 0) = 32
           ·
            rw [if_pos c31] at H
            have c31b0 : ((bt (rdOf ByteArray.empty t148 1) 0) == 32) = true := beq_iff_eq.mpr c31
            have c31b1 : ((bt (rdOf ByteArray.empty t148 1) 0) != 32) = false := bne_eq_false_iff_eq.mpr c31
            clear c31
            by_cases c32 : (t148.length : Int) > 2
            ·
             rw [if_pos c32] at H
             have c32b0 : decide (2 < (t148.length : Int)) = true := decide_eq_true c32
             have c32b1 : decide (2 < t148.length) = true := decide_eq_true (by omega)
             clear c32
             by_cases c33 : 2 < (t148.length : Int)
             ·
              rw [if_pos c33] at H
              have c33b0 : decide (2 < (t148.length : Int)) = true := decide_eq_true c33
              have c33b1 : decide (2 < t148.length) = true := decide_eq_true (by omega)
              clear c33
              by_cases c34 : (rdOf ByteArray.empty t148 2).toList = ([] : List UInt8)
              ·
               rw [if_pos c34] at H
               have c34b0 : ((rdOf ByteArray.empty t148 2).toList == ([] : List UInt8)) = true := beq_iff_eq.mpr c34
               have c34b1 : ((rdOf ByteArray.empty t148 2).toList != ([] : List UInt8)) = false := bne_eq_false_iff_eq.mpr c34
               clear c34
               have H' := Aside0.mk H
               clear H
               have p162 : 0 ≤ (1 : Int) := (by omega)
               have q162 : 1 < (t148.length : Int) := of_decide_eq_true au75
               obtain ⟨ad162, e162, hx162_0⟩ := Kd.at_string (Kd.R_reads' HO150.out).2.2 1 p162 q162
               obtain rfl : ad151 = ad162 := (by injection e162)
               (try simp only [show (1 : Int).toNat = 1 from rfl, Nat.reduceMul, Nat.reduceEqDiff, Go.Addr.add, ↓reduceIte] at hx162_0)
               have qi162 : (1 < t148.length) = True := eq_true (by omega)
               (try rw [show ((1 : Int)).toNat = 1 from rfl] at hx162_0)
               have hn162_0 : ad151.block ≠ gb161 := Kd.own_blk (Kd.R_ne HO150.out BK161.out (by decide))
               have hn162_1 : ad151.block ≠ gb161 := Kd.own_blk (Kd.R_ne HO150.out BK161.out (by decide))
               have hn162_2 : ad151.block ≠ gb161 := Kd.own_blk (Kd.R_ne HO150.out BK161.out (by decide))
               have hn162_3 : ad151.block ≠ gb161 := Kd.own_blk (Kd.R_ne HO150.out BK161.out (by decide))
               replace hx162_0 := (cell_far (p := ⟨gb161, 0, none⟩) au29 (.slice none 0 0)).trans hx162_0
               replace hx162_0 := (cell_far (p := ⟨gb161, 1, none⟩) au30 (.string t160)).trans hx162_0
               replace hx162_0 := (cell_far (p := ⟨gb161, 2, none⟩) au31 (.string (rdOf ByteArray.empty t152 (ji5)))).trans hx162_0
               replace hx162_0 := (cell_far (p := ⟨gb161, 3, none⟩) au32 (.string (⟨#[]⟩ : ByteArray))).trans hx162_0
               clear hn162_0
               clear hn162_1
               clear hn162_2
               clear hn162_3
               replace p162 := eq_true p162
               replace q162 := eq_true q162
               have p163 : 0 ≤ (1 : Int) := (by omega)
               have q163 : 1 < (t148.length : Int) := of_decide_eq_true au75
               obtain ⟨ad163, e163, hx163_0⟩ := Kd.at_string (Kd.R_reads' HO150.out).2.2 1 p163 q163
               obtain rfl : ad151 = ad163 := (by injection e163)
               (try simp only [show (1 : Int).toNat = 1 from rfl, Nat.reduceMul, Nat.reduceEqDiff, Go.Addr.add, ↓reduceIte] at hx163_0)
               have qi163 : (1 < t148.length) = True := eq_true (by omega)
               (try rw [show ((1 : Int)).toNat = 1 from rfl] at hx163_0)
               have hn163_0 : ad151.block ≠ gb161 := Kd.own_blk (Kd.R_ne HO150.out BK161.out (by decide))
               have hn163_1 : ad151.block ≠ gb161 := Kd.own_blk (Kd.R_ne HO150.out BK161.out (by decide))
               have hn163_2 : ad151.block ≠ gb161 := Kd.own_blk (Kd.R_ne HO150.out BK161.out (by decide))
               have hn163_3 : ad151.block ≠ gb161 := Kd.own_blk (Kd.R_ne HO150.out BK161.out (by decide))
               replace hx163_0 := (cell_far (p := ⟨gb161, 0, none⟩) au33 (.slice none 0 0)).trans hx163_0
               replace hx163_0 := (cell_far (p := ⟨gb161, 1, none⟩) au34 (.string t160)).trans hx163_0
               replace hx163_0 := (cell_far (p := ⟨gb161, 2, none⟩) au35 (.string (rdOf ByteArray.empty t152 (ji5)))).trans hx163_0
               replace hx163_0 := (cell_far (p := ⟨gb161, 3, none⟩) au36 (.string (⟨#[]⟩ : ByteArray))).trans hx163_0
               clear hn163_0
               clear hn163_1
               clear hn163_2
               clear hn163_3
               replace p163 := eq_true p163
               replace q163 := eq_true q163
               have p30 : 0 ≤ (0 : Int) := (by omega)
               have q30 : 0 < (rdOf ByteArray.empty t148 1).size := (by have : (0 : Int) < ((rdOf ByteArray.empty t148 1).size : Int) := of_decide_eq_true au75; omega)
               have hx30 : ∀ h : 0 < (rdOf ByteArray.empty t148 1).size, (((rdOf ByteArray.empty t148 1)[0]'h).toNat : Int) = bt (rdOf ByteArray.empty t148 1) 0 := bt_at (rdOf ByteArray.empty t148 1) 0
               clear p30
               have qi30 : (0 < ((rdOf ByteArray.empty t148 1).size : Int)) = True := eq_true (of_decide_eq_true au75)
               replace q30 := eq_true q30
               have p164 : 0 ≤ (2 : Int) := (by omega)
               have q164 : 2 < (t148.length : Int) := of_decide_eq_true au75
               obtain ⟨ad164, e164, hx164_0⟩ := Kd.at_string (Kd.R_reads' HO150.out).2.2 2 p164 q164
               obtain rfl : ad151 = ad164 := (by injection e164)
               (try simp only [show (2 : Int).toNat = 2 from rfl, Nat.reduceMul, Nat.reduceEqDiff, Go.Addr.add, ↓reduceIte] at hx164_0)
               have qi164 : (2 < t148.length) = True := eq_true (by omega)
               (try rw [show ((2 : Int)).toNat = 2 from rfl] at hx164_0)
               have hn164_0 : ad151.block ≠ gb161 := Kd.own_blk (Kd.R_ne HO150.out BK161.out (by decide))
               have hn164_1 : ad151.block ≠ gb161 := Kd.own_blk (Kd.R_ne HO150.out BK161.out (by decide))
               have hn164_2 : ad151.block ≠ gb161 := Kd.own_blk (Kd.R_ne HO150.out BK161.out (by decide))
               have hn164_3 : ad151.block ≠ gb161 := Kd.own_blk (Kd.R_ne HO150.out BK161.out (by decide))
               replace hx164_0 := (cell_far (p := ⟨gb161, 0, none⟩) au37 (.slice none 0 0)).trans hx164_0
               replace hx164_0 := (cell_far (p := ⟨gb161, 1, none⟩) au38 (.string t160)).trans hx164_0
               replace hx164_0 := (cell_far (p := ⟨gb161, 2, none⟩) au39 (.string (rdOf ByteArray.empty t152 (ji5)))).trans hx164_0
               replace hx164_0 := (cell_far (p := ⟨gb161, 3, none⟩) au40 (.string (⟨#[]⟩ : ByteArray))).trans hx164_0
               clear hn164_0
               clear hn164_1
               clear hn164_2
               clear hn164_3
               replace p164 := eq_true p164
               replace q164 := eq_true q164
               exact spec_l2Parse.L1
              ·
               rw [if_neg c34] at H
               have c34b0 : ((rdOf ByteArray.empty t148 2).toList == ([] : List UInt8)) = false := beq_eq_false_iff_ne.mpr c34
               have c34b1 : ((rdOf ByteArray.empty t148 2).toList != ([] : List UInt8)) = true := bne_iff_ne.mpr c34
               by_cases c35 : 0 < ((rdOf ByteArray.empty t148 2).size : Int)
               ·
                rw [if_pos c35] at H
                have c35b0 : decide (0 < ((rdOf ByteArray.empty t148 2).size : Int)) = true := decide_eq_true c35
                have c35b1 : decide (0 < (rdOf ByteArray.empty t148 2).size) = true := decide_eq_true (by omega)
                clear c35
                have H' := Aside0.mk H
                clear H
                have p162 : 0 ≤ (1 : Int) := (by omega)
                have q162 : 1 < (t148.length : Int) := of_decide_eq_true au75
                obtain ⟨ad162, e162, hx162_0⟩ := Kd.at_string (Kd.R_reads' HO150.out).2.2 1 p162 q162
                obtain rfl : ad151 = ad162 := (by injection e162)
                (try simp only [show (1 : Int).toNat = 1 from rfl, Nat.reduceMul, Nat.reduceEqDiff, Go.Addr.add, ↓reduceIte] at hx162_0)
                have qi162 : (1 < t148.length) = True := eq_true (by omega)
                (try rw [show ((1 : Int)).toNat = 1 from rfl] at hx162_0)
                have hn162_0 : ad151.block ≠ gb161 := Kd.own_blk (Kd.R_ne HO150.out BK161.out (by decide))
                have hn162_1 : ad151.block ≠ gb161 := Kd.own_blk (Kd.R_ne HO150.out BK161.out (by decide))
                have hn162_2 : ad151.block ≠ gb161 := Kd.own_blk (Kd.R_ne HO150.out BK161.out (by decide))
                have hn162_3 : ad151.block ≠ gb161 := Kd.own_blk (Kd.R_ne HO150.out BK161.out (by decide))
                replace hx162_0 := (cell_far (p := ⟨gb161, 0, none⟩) au29 (.slice none 0 0)).trans hx162_0
                replace hx162_0 := (cell_far (p := ⟨gb161, 1, none⟩) au30 (.string t160)).trans hx162_0
                replace hx162_0 := (cell_far (p := ⟨gb161, 2, none⟩) au31 (.string (rdOf ByteArray.empty t152 (ji5)))).trans hx162_0
                replace hx162_0 := (cell_far (p := ⟨gb161, 3, none⟩) au32 (.string (⟨#[]⟩ : ByteArray))).trans hx162_0
                clear hn162_0
                clear hn162_1
                clear hn162_2
                clear hn162_3
                replace p162 := eq_true p162
                replace q162 := eq_true q162
                have p163 : 0 ≤ (1 : Int) := (by omega)
                have q163 : 1 < (t148.length : Int) := of_decide_eq_true au75
                obtain ⟨ad163, e163, hx163_0⟩ := Kd.at_string (Kd.R_reads' HO150.out).2.2 1 p163 q163
                obtain rfl : ad151 = ad163 := (by injection e163)
                (try simp only [show (1 : Int).toNat = 1 from rfl, Nat.reduceMul, Nat.reduceEqDiff, Go.Addr.add, ↓reduceIte] at hx163_0)
                have qi163 : (1 < t148.length) = True := eq_true (by omega)
                (try rw [show ((1 : Int)).toNat = 1 from rfl] at hx163_0)
                have hn163_0 : ad151.block ≠ gb161 := Kd.own_blk (Kd.R_ne HO150.out BK161.out (by decide))
                have hn163_1 : ad151.block ≠ gb161 := Kd.own_blk (Kd.R_ne HO150.out BK161.out (by decide))
                have hn163_2 : ad151.block ≠ gb161 := Kd.own_blk (Kd.R_ne HO150.out BK161.out (by decide))
                have hn163_3 : ad151.block ≠ gb161 := Kd.own_blk (Kd.R_ne HO150.out BK161.out (by decide))
                replace hx163_0 := (cell_far (p := ⟨gb161, 0, none⟩) au33 (.slice none 0 0)).trans hx163_0
                replace hx163_0 := (cell_far (p := ⟨gb161, 1, none⟩) au34 (.string t160)).trans hx163_0
                replace hx163_0 := (cell_far (p := ⟨gb161, 2, none⟩) au35 (.string (rdOf ByteArray.empty t152 (ji5)))).trans hx163_0
                replace hx163_0 := (cell_far (p := ⟨gb161, 3, none⟩) au36 (.string (⟨#[]⟩ : ByteArray))).trans hx163_0
                clear hn163_0
                clear hn163_1
                clear hn163_2
                clear hn163_3
                replace p163 := eq_true p163
                replace q163 := eq_true q163
                have p30 : 0 ≤ (0 : Int) := (by omega)
                have q30 : 0 < (rdOf ByteArray.empty t148 1).size := (by have : (0 : Int) < ((rdOf ByteArray.empty t148 1).size : Int) := of_decide_eq_true au75; omega)
                have hx30 : ∀ h : 0 < (rdOf ByteArray.empty t148 1).size, (((rdOf ByteArray.empty t148 1)[0]'h).toNat : Int) = bt (rdOf ByteArray.empty t148 1) 0 := bt_at (rdOf ByteArray.empty t148 1) 0
                clear p30
                have qi30 : (0 < ((rdOf ByteArray.empty t148 1).size : Int)) = True := eq_true (of_decide_eq_true au75)
                replace q30 := eq_true q30
                have p164 : 0 ≤ (2 : Int) := (by omega)
                have q164 : 2 < (t148.length : Int) := of_decide_eq_true au75
                obtain ⟨ad164, e164, hx164_0⟩ := Kd.at_string (Kd.R_reads' HO150.out).2.2 2 p164 q164
                obtain rfl : ad151 = ad164 := (by injection e164)
                (try simp only [show (2 : Int).toNat = 2 from rfl, Nat.reduceMul, Nat.reduceEqDiff, Go.Addr.add, ↓reduceIte] at hx164_0)
                have qi164 : (2 < t148.length) = True := eq_true (by omega)
                (try rw [show ((2 : Int)).toNat = 2 from rfl] at hx164_0)
                have hn164_0 : ad151.block ≠ gb161 := Kd.own_blk (Kd.R_ne HO150.out BK161.out (by decide))
                have hn164_1 : ad151.block ≠ gb161 := Kd.own_blk (Kd.R_ne HO150.out BK161.out (by decide))
                have hn164_2 : ad151.block ≠ gb161 := Kd.own_blk (Kd.R_ne HO150.out BK161.out (by decide))
                have hn164_3 : ad151.block ≠ gb161 := Kd.own_blk (Kd.R_ne HO150.out BK161.out (by decide))
                replace hx164_0 := (cell_far (p := ⟨gb161, 0, none⟩) au37 (.slice none 0 0)).trans hx164_0
                replace hx164_0 := (cell_far (p := ⟨gb161, 1, none⟩) au38 (.string t160)).trans hx164_0
                replace hx164_0 := (cell_far (p := ⟨gb161, 2, none⟩) au39 (.string (rdOf ByteArray.empty t152 (ji5)))).trans hx164_0
                replace hx164_0 := (cell_far (p := ⟨gb161, 3, none⟩) au40 (.string (⟨#[]⟩ : ByteArray))).trans hx164_0
                clear hn164_0
                clear hn164_1
                clear hn164_2
                clear hn164_3
                replace p164 := eq_true p164
                replace q164 := eq_true q164
                have p165 : 0 ≤ (2 : Int) := (by omega)
                have q165 : 2 < (t148.length : Int) := of_decide_eq_true au75
                obtain ⟨ad165, e165, hx165_0⟩ := Kd.at_string (Kd.R_reads' HO150.out).2.2 2 p165 q165
                obtain rfl : ad151 = ad165 := (by injection e165)
                (try simp only [show (2 : Int).toNat = 2 from rfl, Nat.reduceMul, Nat.reduceEqDiff, Go.Addr.add, ↓reduceIte] at hx165_0)
                have qi165 : (2 < t148.length) = True := eq_true (by omega)
                (try rw [show ((2 : Int)).toNat = 2 from rfl] at hx165_0)
                have hn165_0 : ad151.block ≠ gb161 := Kd.own_blk (Kd.R_ne HO150.out BK161.out (by decide))
                have hn165_1 : ad151.block ≠ gb161 := Kd.own_blk (Kd.R_ne HO150.out BK161.out (by decide))
                have hn165_2 : ad151.block ≠ gb161 := Kd.own_blk (Kd.R_ne HO150.out BK161.out (by decide))
                have hn165_3 : ad151.block ≠ gb161 := Kd.own_blk (Kd.R_ne HO150.out BK161.out (by decide))
                replace hx165_0 := (cell_far (p := ⟨gb161, 0, none⟩) (by first | (rw [add_block]; exact hn165_0) | (show (Addr.add _ _).block ≠ _; rw [add_block]; exact hn165_0) | exact hn165_0) (.slice none 0 0)).trans hx165_0
                replace hx165_0 := (cell_far (p := ⟨gb161, 1, none⟩) (by first | (rw [add_block]; exact hn165_1) | (show (Addr.add _ _).block ≠ _; rw [add_block]; exact hn165_1) | exact hn165_1) (.string t160)).trans hx165_0
                replace hx165_0 := (cell_far (p := ⟨gb161, 2, none⟩) (by first | (rw [add_block]; exact hn165_2) | (show (Addr.add _ _).block ≠ _; rw [add_block]; exact hn165_2) | exact hn165_2) (.string (rdOf ByteArray.empty t152 (ji5)))).trans hx165_0
                replace hx165_0 := (cell_far (p := ⟨gb161, 3, none⟩) (by first | (rw [add_block]; exact hn165_3) | (show (Addr.add _ _).block ≠ _; rw [add_block]; exact hn165_3) | exact hn165_3) (.string (⟨#[]⟩ : ByteArray))).trans hx165_0
                clear hn165_0
                clear hn165_1
                clear hn165_2
                clear hn165_3
                replace p165 := eq_true p165
                replace q165 := eq_true q165
                have p36 : 0 ≤ (0 : Int) := (by omega)
                have q36 : 0 < (rdOf ByteArray.empty t148 2).size := (by have : (0 : Int) < ((rdOf ByteArray.empty t148 2).size : Int) := of_decide_eq_true au75; omega)
                have hx36 : ∀ h : 0 < (rdOf ByteArray.empty t148 2).size, (((rdOf ByteArray.empty t148 2)[0]'h).toNat : Int) = bt (rdOf ByteArray.empty t148 2) 0 := bt_at (rdOf ByteArray.empty t148 2) 0
                clear p36
                have qi36 : (0 < ((rdOf ByteArray.empty t148 2).size : Int)) = True := eq_true (of_decide_eq_true au75)
                replace q36 := eq_true q36
                exact spec_l2Parse.L1
               ·
                rw [if_neg c35] at H
                exact absurd H (by simp)
             ·
              rw [if_neg c33] at H
              exact absurd H (by simp)
            ·
             rw [if_neg c32] at H
             have c32b0 : decide (2 < (t148.length : Int)) = false := decide_eq_false c32
             have c32b1 : decide (2 < t148.length) = false := decide_eq_false (by omega)
             clear c32
             have H' := Aside0.mk H
             clear H
             have p162 : 0 ≤ (1 : Int) := (by omega)
             have q162 : 1 < (t148.length : Int) := of_decide_eq_true au75
             obtain ⟨ad162, e162, hx162_0⟩ := Kd.at_string (Kd.R_reads' HO150.out).2.2 1 p162 q162
             obtain rfl : ad151 = ad162 := (by injection e162)
             (try simp only [show (1 : Int).toNat = 1 from rfl, Nat.reduceMul, Nat.reduceEqDiff, Go.Addr.add, ↓reduceIte] at hx162_0)
             have qi162 : (1 < t148.length) = True := eq_true (by omega)
             (try rw [show ((1 : Int)).toNat = 1 from rfl] at hx162_0)
             have hn162_0 : ad151.block ≠ gb161 := Kd.own_blk (Kd.R_ne HO150.out BK161.out (by decide))
             have hn162_1 : ad151.block ≠ gb161 := Kd.own_blk (Kd.R_ne HO150.out BK161.out (by decide))
             have hn162_2 : ad151.block ≠ gb161 := Kd.own_blk (Kd.R_ne HO150.out BK161.out (by decide))
             have hn162_3 : ad151.block ≠ gb161 := Kd.own_blk (Kd.R_ne HO150.out BK161.out (by decide))
             replace hx162_0 := (cell_far (p := ⟨gb161, 0, none⟩) au29 (.slice none 0 0)).trans hx162_0
             replace hx162_0 := (cell_far (p := ⟨gb161, 1, none⟩) au30 (.string t160)).trans hx162_0
             replace hx162_0 := (cell_far (p := ⟨gb161, 2, none⟩) au31 (.string (rdOf ByteArray.empty t152 (ji5)))).trans hx162_0
             replace hx162_0 := (cell_far (p := ⟨gb161, 3, none⟩) au32 (.string (⟨#[]⟩ : ByteArray))).trans hx162_0
             clear hn162_0
             clear hn162_1
             clear hn162_2
             clear hn162_3
             replace p162 := eq_true p162
             replace q162 := eq_true q162
             have p163 : 0 ≤ (1 : Int) := (by omega)
             have q163 : 1 < (t148.length : Int) := of_decide_eq_true au75
             obtain ⟨ad163, e163, hx163_0⟩ := Kd.at_string (Kd.R_reads' HO150.out).2.2 1 p163 q163
             obtain rfl : ad151 = ad163 := (by injection e163)
             (try simp only [show (1 : Int).toNat = 1 from rfl, Nat.reduceMul, Nat.reduceEqDiff, Go.Addr.add, ↓reduceIte] at hx163_0)
             have qi163 : (1 < t148.length) = True := eq_true (by omega)
             (try rw [show ((1 : Int)).toNat = 1 from rfl] at hx163_0)
             have hn163_0 : ad151.block ≠ gb161 := Kd.own_blk (Kd.R_ne HO150.out BK161.out (by decide))
             have hn163_1 : ad151.block ≠ gb161 := Kd.own_blk (Kd.R_ne HO150.out BK161.out (by decide))
             have hn163_2 : ad151.block ≠ gb161 := Kd.own_blk (Kd.R_ne HO150.out BK161.out (by decide))
             have hn163_3 : ad151.block ≠ gb161 := Kd.own_blk (Kd.R_ne HO150.out BK161.out (by decide))
             replace hx163_0 := (cell_far (p := ⟨gb161, 0, none⟩) au33 (.slice none 0 0)).trans hx163_0
             replace hx163_0 := (cell_far (p := ⟨gb161, 1, none⟩) au34 (.string t160)).trans hx163_0
             replace hx163_0 := (cell_far (p := ⟨gb161, 2, none⟩) au35 (.string (rdOf ByteArray.empty t152 (ji5)))).trans hx163_0
             replace hx163_0 := (cell_far (p := ⟨gb161, 3, none⟩) au36 (.string (⟨#[]⟩ : ByteArray))).trans hx163_0
             clear hn163_0
             clear hn163_1
             clear hn163_2
             clear hn163_3
             replace p163 := eq_true p163
             replace q163 := eq_true q163
             have p30 : 0 ≤ (0 : Int) := (by omega)
             have q30 : 0 < (rdOf ByteArray.empty t148 1).size := (by have : (0 : Int) < ((rdOf ByteArray.empty t148 1).size : Int) := of_decide_eq_true au75; omega)
             have hx30 : ∀ h : 0 < (rdOf ByteArray.empty t148 1).size, (((rdOf ByteArray.empty t148 1)[0]'h).toNat : Int) = bt (rdOf ByteArray.empty t148 1) 0 := bt_at (rdOf ByteArray.empty t148 1) 0
             clear p30
             have qi30 : (0 < ((rdOf ByteArray.empty t148 1).size : Int)) = True := eq_true (of_decide_eq_true au75)
             replace q30 := eq_true q30
             exact spec_l2Parse.L1
           ·
            rw [if_neg c31] at H
            have c31b0 : ((bt (rdOf ByteArray.empty t148 1) 0) == 32) = false := beq_eq_false_iff_ne.mpr c31
            have c31b1 : ((bt (rdOf ByteArray.empty t148 1) 0) != 32) = true := bne_iff_ne.mpr c31
            have H' := Aside0.mk H
            clear H
            have p162 : 0 ≤ (1 : Int) := (by omega)
            have q162 : 1 < (t148.length : Int) := of_decide_eq_true au75
            obtain ⟨ad162, e162, hx162_0⟩ := Kd.at_string (Kd.R_reads' HO150.out).2.2 1 p162 q162
            obtain rfl : ad151 = ad162 := (by injection e162)
            (try simp only [show (1 : Int).toNat = 1 from rfl, Nat.reduceMul, Nat.reduceEqDiff, Go.Addr.add, ↓reduceIte] at hx162_0)
            have qi162 : (1 < t148.length) = True := eq_true (by omega)
            (try rw [show ((1 : Int)).toNat = 1 from rfl] at hx162_0)
            have hn162_0 : ad151.block ≠ gb161 := Kd.own_blk (Kd.R_ne HO150.out BK161.out (by decide))
            have hn162_1 : ad151.block ≠ gb161 := Kd.own_blk (Kd.R_ne HO150.out BK161.out (by decide))
            have hn162_2 : ad151.block ≠ gb161 := Kd.own_blk (Kd.R_ne HO150.out BK161.out (by decide))
            have hn162_3 : ad151.block ≠ gb161 := Kd.own_blk (Kd.R_ne HO150.out BK161.out (by decide))
            replace hx162_0 := (cell_far (p := ⟨gb161, 0, none⟩) au29 (.slice none 0 0)).trans hx162_0
            replace hx162_0 := (cell_far (p := ⟨gb161, 1, none⟩) au30 (.string t160)).trans hx162_0
            replace hx162_0 := (cell_far (p := ⟨gb161, 2, none⟩) au31 (.string (rdOf ByteArray.empty t152 (ji5)))).trans hx162_0
            replace hx162_0 := (cell_far (p := ⟨gb161, 3, none⟩) au32 (.string (⟨#[]⟩ : ByteArray))).trans hx162_0
            clear hn162_0
            clear hn162_1
            clear hn162_2
            clear hn162_3
            replace p162 := eq_true p162
            replace q162 := eq_true q162
            have p163 : 0 ≤ (1 : Int) := (by omega)
            have q163 : 1 < (t148.length : Int) := of_decide_eq_true au75
            obtain ⟨ad163, e163, hx163_0⟩ := Kd.at_string (Kd.R_reads' HO150.out).2.2 1 p163 q163
            obtain rfl : ad151 = ad163 := (by injection e163)
            (try simp only [show (1 : Int).toNat = 1 from rfl, Nat.reduceMul, Nat.reduceEqDiff, Go.Addr.add, ↓reduceIte] at hx163_0)
            have qi163 : (1 < t148.length) = True := eq_true (by omega)
            (try rw [show ((1 : Int)).toNat = 1 from rfl] at hx163_0)
            have hn163_0 : ad151.block ≠ gb161 := Kd.own_blk (Kd.R_ne HO150.out BK161.out (by decide))
            have hn163_1 : ad151.block ≠ gb161 := Kd.own_blk (Kd.R_ne HO150.out BK161.out (by decide))
            have hn163_2 : ad151.block ≠ gb161 := Kd.own_blk (Kd.R_ne HO150.out BK161.out (by decide))
            have hn163_3 : ad151.block ≠ gb161 := Kd.own_blk (Kd.R_ne HO150.out BK161.out (by decide))
            replace hx163_0 := (cell_far (p := ⟨gb161, 0, none⟩) au33 (.slice none 0 0)).trans hx163_0
            replace hx163_0 := (cell_far (p := ⟨gb161, 1, none⟩) au34 (.string t160)).trans hx163_0
            replace hx163_0 := (cell_far (p := ⟨gb161, 2, none⟩) au35 (.string (rdOf ByteArray.empty t152 (ji5)))).trans hx163_0
            replace hx163_0 := (cell_far (p := ⟨gb161, 3, none⟩) au36 (.string (⟨#[]⟩ : ByteArray))).trans hx163_0
            clear hn163_0
            clear hn163_1
            clear hn163_2
            clear hn163_3
            replace p163 := eq_true p163
            replace q163 := eq_true q163
            have p30 : 0 ≤ (0 : Int) := (by omega)
            have q30 : 0 < (rdOf ByteArray.empty t148 1).size := (by have : (0 : Int) < ((rdOf ByteArray.empty t148 1).size : Int) := of_decide_eq_true au75; omega)
            have hx30 : ∀ h : 0 < (rdOf ByteArray.empty t148 1).size, (((rdOf ByteArray.empty t148 1)[0]'h).toNat : Int) = bt (rdOf ByteArray.empty t148 1) 0 := bt_at (rdOf ByteArray.empty t148 1) 0
            clear p30
            have qi30 : (0 < ((rdOf ByteArray.empty t148 1).size : Int)) = True := eq_true (of_decide_eq_true au75)
            replace q30 := eq_true q30
            exact spec_l2Parse.L1
          ·
           rw [if_neg c29] at H
           exact absurd H (by simp)
        ·
         rw [if_neg c27] at H
         exact absurd H (by simp)
       ·
        rw [if_neg c26] at H
        have c26b0 : decide (1 < (t148.length : Int)) = false := decide_eq_false c26
        have c26b1 : decide (1 < t148.length) = false := decide_eq_false (by omega)
        clear c26
        by_cases c37 : (t148.length : Int) > 2
        ·
         rw [if_pos c37] at H
         have c37b0 : decide (2 < (t148.length : Int)) = true := decide_eq_true c37
         have c37b1 : decide (2 < t148.length) = true := decide_eq_true (by omega)
         clear c37
         by_cases c38 : 2 < (t148.length : Int)
         ·
          rw [if_pos c38] at H
          have c38b0 : decide (2 < (t148.length : Int)) = true := decide_eq_true c38
          have c38b1 : decide (2 < t148.length) = true := decide_eq_true (by omega)
          clear c38
          by_cases c39 : (rdOf ByteArray.empty t148 2).toList = ([] : List UInt8)
          ·
           rw [if_pos c39] at H
           have c39b0 : ((rdOf ByteArray.empty t148 2).toList == ([] : List UInt8)) = true := beq_iff_eq.mpr c39
           have c39b1 : ((rdOf ByteArray.empty t148 2).toList != ([] : List UInt8)) = false := bne_eq_false_iff_eq.mpr c39
           clear c39
           have H' := Aside0.mk H
           clear H
           have p166 : 0 ≤ (2 : Int) := (by omega)
           have q166 : 2 < (t148.length : Int) := of_decide_eq_true au75
           obtain ⟨ad166, e166, hx166_0⟩ := Kd.at_string (Kd.R_reads' HO150.out).2.2 2 p166 q166
           obtain rfl : ad151 = ad166 := (by injection e166)
           (try simp only [show (2 : Int).toNat = 2 from rfl, Nat.reduceMul, Nat.reduceEqDiff, Go.Addr.add, ↓reduceIte] at hx166_0)
           have qi166 : (2 < t148.length) = True := eq_true (by omega)
           (try rw [show ((2 : Int)).toNat = 2 from rfl] at hx166_0)
           have hn166_0 : ad151.block ≠ gb161 := Kd.own_blk (Kd.R_ne HO150.out BK161.out (by decide))
           have hn166_1 : ad151.block ≠ gb161 := Kd.own_blk (Kd.R_ne HO150.out BK161.out (by decide))
           have hn166_2 : ad151.block ≠ gb161 := Kd.own_blk (Kd.R_ne HO150.out BK161.out (by decide))
           have hn166_3 : ad151.block ≠ gb161 := Kd.own_blk (Kd.R_ne HO150.out BK161.out (by decide))
           replace hx166_0 := (cell_far (p := ⟨gb161, 0, none⟩) au41 (.slice none 0 0)).trans hx166_0
           replace hx166_0 := (cell_far (p := ⟨gb161, 1, none⟩) au42 (.string t160)).trans hx166_0
           replace hx166_0 := (cell_far (p := ⟨gb161, 2, none⟩) au43 (.string (rdOf ByteArray.empty t152 (ji5)))).trans hx166_0
           replace hx166_0 := (cell_far (p := ⟨gb161, 3, none⟩) au44 (.string (⟨#[]⟩ : ByteArray))).trans hx166_0
           clear hn166_0
           clear hn166_1
           clear hn166_2
           clear hn166_3
           replace p166 := eq_true p166
           replace q166 := eq_true q166
           exact spec_l2Parse.L1
          ·
           rw [if_neg c39] at H
           have c39b0 : ((rdOf ByteArray.empty t148 2).toList == ([] : List UInt8)) = false := beq_eq_false_iff_ne.mpr c39
           have c39b1 : ((rdOf ByteArray.empty t148 2).toList != ([] : List UInt8)) = true := bne_iff_ne.mpr c39
           by_cases c40 : 0 < ((rdOf ByteArray.empty t148 2).size : Int)
           ·
            rw [if_pos c40] at H
            have c40b0 : decide (0 < ((rdOf ByteArray.empty t148 2).size : Int)) = true := decide_eq_true c40
            have c40b1 : decide (0 < (rdOf ByteArray.empty t148 2).size) = true := decide_eq_true (by omega)
            clear c40
            have H' := Aside0.mk H
            clear H
            have p166 : 0 ≤ (2 : Int) := (by omega)
            have q166 : 2 < (t148.length : Int) := of_decide_eq_true au75
            obtain ⟨ad166, e166, hx166_0⟩ := Kd.at_string (Kd.R_reads' HO150.out).2.2 2 p166 q166
            obtain rfl : ad151 = ad166 := (by injection e166)
            (try simp only [show (2 : Int).toNat = 2 from rfl, Nat.reduceMul, Nat.reduceEqDiff, Go.Addr.add, ↓reduceIte] at hx166_0)
            have qi166 : (2 < t148.length) = True := eq_true (by omega)
            (try rw [show ((2 : Int)).toNat = 2 from rfl] at hx166_0)
            have hn166_0 : ad151.block ≠ gb161 := Kd.own_blk (Kd.R_ne HO150.out BK161.out (by decide))
            have hn166_1 : ad151.block ≠ gb161 := Kd.own_blk (Kd.R_ne HO150.out BK161.out (by decide))
            have hn166_2 : ad151.block ≠ gb161 := Kd.own_blk (Kd.R_ne HO150.out BK161.out (by decide))
            have hn166_3 : ad151.block ≠ gb161 := Kd.own_blk (Kd.R_ne HO150.out BK161.out (by decide))
            replace hx166_0 := (cell_far (p := ⟨gb161, 0, none⟩) au41 (.slice none 0 0)).trans hx166_0
            replace hx166_0 := (cell_far (p := ⟨gb161, 1, none⟩) au42 (.string t160)).trans hx166_0
            replace hx166_0 := (cell_far (p := ⟨gb161, 2, none⟩) au43 (.string (rdOf ByteArray.empty t152 (ji5)))).trans hx166_0
            replace hx166_0 := (cell_far (p := ⟨gb161, 3, none⟩) au44 (.string (⟨#[]⟩ : ByteArray))).trans hx166_0
            clear hn166_0
            clear hn166_1
            clear hn166_2
            clear hn166_3
            replace p166 := eq_true p166
            replace q166 := eq_true q166
            have p167 : 0 ≤ (2 : Int) := (by omega)
            have q167 : 2 < (t148.length : Int) := of_decide_eq_true au75
            obtain ⟨ad167, e167, hx167_0⟩ := Kd.at_string (Kd.R_reads' HO150.out).2.2 2 p167 q167
            obtain rfl : ad151 = ad167 := (by injection e167)
            (try simp only [show (2 : Int).toNat = 2 from rfl, Nat.reduceMul, Nat.reduceEqDiff, Go.Addr.add, ↓reduceIte] at hx167_0)
            have qi167 : (2 < t148.length) = True := eq_true (by omega)
            (try rw [show ((2 : Int)).toNat = 2 from rfl] at hx167_0)
            have hn167_0 : ad151.block ≠ gb161 := Kd.own_blk (Kd.R_ne HO150.out BK161.out (by decide))
            have hn167_1 : ad151.block ≠ gb161 := Kd.own_blk (Kd.R_ne HO150.out BK161.out (by decide))
            have hn167_2 : ad151.block ≠ gb161 := Kd.own_blk (Kd.R_ne HO150.out BK161.out (by decide))
            have hn167_3 : ad151.block ≠ gb161 := Kd.own_blk (Kd.R_ne HO150.out BK161.out (by decide))
            replace hx167_0 := (cell_far (p := ⟨gb161, 0, none⟩) (by first | (rw [add_block]; exact hn167_0) | (show (Addr.add _ _).block ≠ _; rw [add_block]; exact hn167_0) | exact hn167_0) (.slice none 0 0)).trans hx167_0
            replace hx167_0 := (cell_far (p := ⟨gb161, 1, none⟩) (by first | (rw [add_block]; exact hn167_1) | (show (Addr.add _ _).block ≠ _; rw [add_block]; exact hn167_1) | exact hn167_1) (.string t160)).trans hx167_0
            replace hx167_0 := (cell_far (p := ⟨gb161, 2, none⟩) (by first | (rw [add_block]; exact hn167_2) | (show (Addr.add _ _).block ≠ _; rw [add_block]; exact hn167_2) | exact hn167_2) (.string (rdOf ByteArray.empty t152 (ji5)))).trans hx167_0
            replace hx167_0 := (cell_far (p := ⟨gb161, 3, none⟩) (by first | (rw [add_block]; exact hn167_3) | (show (Addr.add _ _).block ≠ _; rw [add_block]; exact hn167_3) | exact hn167_3) (.string (⟨#[]⟩ : ByteArray))).trans hx167_0
            clear hn167_0
            clear hn167_1
            clear hn167_2
            clear hn167_3
            replace p167 := eq_true p167
            replace q167 := eq_true q167
            have p41 : 0 ≤ (0 : Int) := (by omega)
            have q41 : 0 < (rdOf ByteArray.empty t148 2).size := (by have : (0 : Int) < ((rdOf ByteArray.empty t148 2).size : Int) := of_decide_eq_true au75; omega)
            have hx41 : ∀ h : 0 < (rdOf ByteArray.empty t148 2).size, (((rdOf ByteArray.empty t148 2)[0]'h).toNat : Int) = bt (rdOf ByteArray.empty t148 2) 0 := bt_at (rdOf ByteArray.empty t148 2) 0
            clear p41
            have qi41 : (0 < ((rdOf ByteArray.empty t148 2).size : Int)) = True := eq_true (of_decide_eq_true au75)
            replace q41 := eq_true q41
            exact spec_l2Parse.L1
           ·
            rw [if_neg c40] at H
            exact absurd H (by simp)
         ·
          rw [if_neg c38] at H
          exact absurd H (by simp)
        ·
         rw [if_neg c37] at H
         have c37b0 : decide (2 < (t148.length : Int)) = false := decide_eq_false c37
         have c37b1 : decide (2 < t148.length) = false := decide_eq_false (by omega)
         clear c37
         have H' := Aside0.mk H
         clear H
         exact spec_l2Parse.L1
     case rest =>
      clear HC11
      try clear p1
      try clear q1
      try clear hx1
      try clear qi1
      try clear c2
      try clear p2
      try clear c3
      try clear p3
      try clear q3
      try clear hx3
      try clear qi3
      try clear c4
      try clear p4
      try clear q4
      try clear hx4
      try clear qi4
      try clear p16
      try clear q16
      try clear hx16
      try clear qi16
      try clear c21
      try clear c25
      try clear c25b0
      try clear c25b1
      try clear c26
      try clear c26b0
      try clear c26b1
      try clear c27
      try clear c27b0
      try clear c27b1
      try clear c28
      try clear c28b0
      try clear c28b1
      try clear c29
      try clear c29b0
      try clear c29b1
      try clear p30
      try clear q30
      try clear hx30
      try clear qi30
      try clear c31
      try clear c31b0
      try clear c31b1
      try clear c32
      try clear c32b0
      try clear c32b1
      try clear c33
      try clear c33b0
      try clear c33b1
      try clear c34
      try clear c34b0
      try clear c34b1
      try clear c35
      try clear c35b0
      try clear c35b1
      try clear p36
      try clear q36
      try clear hx36
      try clear qi36
      try clear c37
      try clear c37b0
      try clear c37b1
      try clear c38
      try clear c38b0
      try clear c38b1
      try clear c39
      try clear c39b0
      try clear c39b1
      try clear c40
      try clear c40b0
      try clear c40b1
      try clear p41
      try clear q41
      try clear hx41
      try clear qi41
      try clear hx162_0
      try clear hx163_0
      try clear hx164_0
      try clear hx165_0
      try clear hx166_0
      try clear hx167_0
      try clear p162
      try clear p163
      try clear p164
      try clear p165
      try clear p166
      try clear p167
      try clear p30
      try clear p36
      try clear p41
      try clear q162
      try clear q163
      try clear q164
      try clear q165
      try clear q166
      try clear q167
      try clear q30
      try clear q36
      try clear q41
      obtain ⟨kq, x64_10, rfl, HA, HJ10, HO_4, BK147, BK161, HB⟩ := hcut
      cases kq with
      | zero => exact absurd HA.out (by simp [spec_l2Parse.j0])
      | succ kj10 =>
       have H := HA.out
       clear HA
       simp only [spec_l2Parse.j0] at H
       by_cases c42 : x64_10 = true
       ·
        subst c42
        replace H := (if_pos rfl).symm.trans H
        simp only [Option.some.injEq, Prod.mk.injEq] at H
        obtain ⟨rfl, rfl, rfl, rfl, rfl⟩ := H
        have hnb43 := NB147_161.out
        have hnc43 := NB161_147.out
        obtain ⟨hcz44_0, hcz44_1, hcz44_2, hcz44_3, hfz44_0, hfz44_1, hfz44_2, hfz44_3⟩ := blkc4 BK147.out
        exact spec_l2Parse.L0
       ·
        replace c42 := Bool.eq_false_iff.mpr c42
        subst c42
        replace H := (if_neg (show ¬ (false = true) by decide)).symm.trans H
        have HC45 := Aside0.mk H
        clear H
        go_upto_region 6 with (fail)
        go_cut [75] (fun v75 wc => ∃ (kq : Nat) (x75_44 : Bool), v75 = .bool x75_44 ∧ Aside0 (spec_l2Parse.j1 kq a0 t148 x75_44 t160 (rdOf ByteArray.empty t152 (ji5)) (⟨#[]⟩ : ByteArray) = some (r1, r2, r3, r4, r5)) ∧ Aside0 (kq ≤ kj10) ∧ Aside0 (Kd.R Kd.string 9 wc w.heap.size (fun _ => True) (.slice (some ad151) t148.length co14) t148) ∧ Aside0 (wc.heap[gb147]? = some (.cells #[(.slice none 0 0), .string (⟨#[]⟩ : ByteArray), .string (⟨#[]⟩ : ByteArray), .string (⟨#[]⟩ : ByteArray)] 31 (0, 0))) ∧ Aside0 (wc.heap[gb161]? = some (.cells #[(.slice none 0 0), .string t160, .string (rdOf ByteArray.empty t152 (ji5)), .string (⟨#[]⟩ : ByteArray)] 31 (0, 0))) ∧ Aside0 (Below w.heap.size w wc))
        case first =>
         have H := HC45.out
         clear HC45
         by_cases c46 : (t148.length : Int) > 1
         ·
          rw [if_pos c46] at H
          have c46b0 : decide (1 < (t148.length : Int)) = true := decide_eq_true c46
          have c46b1 : decide (1 < t148.length) = true := decide_eq_true (by omega)
          clear c46
          (first | rw [c46b0] | (simp only [i64_w, i32_w]; rw [c46b0]) | skip)
          by_cases c47 : 1 < (t148.length : Int)
          ·
           rw [if_pos c47] at H
           have c47b0 : decide (1 < (t148.length : Int)) = true := decide_eq_true c47
           have c47b1 : decide (1 < t148.length) = true := decide_eq_true (by omega)
           clear c47
           have H' := Aside0.mk H
           clear H
           have p168 : 0 ≤ (1 : Int) := (by omega)
           have q168 : 1 < (t148.length : Int) := of_decide_eq_true au75
           obtain ⟨ad168, e168, hx168_0⟩ := Kd.at_string (Kd.R_reads' HO_4.out).2.2 1 p168 q168
           obtain rfl : ad151 = ad168 := (by injection e168)
           (try simp only [show (1 : Int).toNat = 1 from rfl, Nat.reduceMul, Nat.reduceEqDiff, Go.Addr.add, ↓reduceIte] at hx168_0)
           have qi168 : (1 < t148.length) = True := eq_true (by omega)
           (try rw [show ((1 : Int)).toNat = 1 from rfl] at hx168_0)
           replace p168 := eq_true p168
           replace q168 := eq_true q168
           exact spec_l2Parse.L1
          ·
           rw [if_neg c47] at H
           exact absurd H (by simp)
         ·
          rw [if_neg c46] at H
          have c46b0 : decide (1 < (t148.length : Int)) = false := decide_eq_false c46
          have c46b1 : decide (1 < t148.length) = false := decide_eq_false (by omega)
          clear c46
          (first | rw [c46b0] | (simp only [i64_w, i32_w]; rw [c46b0]) | skip)
          have H' := Aside0.mk H
          clear H
          exact spec_l2Parse.L1
        case rest =>
         clear HC45
         try clear p1
         try clear q1
         try clear hx1
         try clear qi1
         try clear c2
         try clear p2
         try clear c3
         try clear p3
         try clear q3
         try clear hx3
         try clear qi3
         try clear c4
         try clear p4
         try clear q4
         try clear hx4
         try clear qi4
         try clear p16
         try clear q16
         try clear hx16
         try clear qi16
         try clear c21
         try clear c25
         try clear c25b0
         try clear c25b1
         try clear c26
         try clear c26b0
         try clear c26b1
         try clear c27
         try clear c27b0
         try clear c27b1
         try clear c28
         try clear c28b0
         try clear c28b1
         try clear c29
         try clear c29b0
         try clear c29b1
         try clear p30
         try clear q30
         try clear hx30
         try clear qi30
         try clear c31
         try clear c31b0
         try clear c31b1
         try clear c32
         try clear c32b0
         try clear c32b1
         try clear c33
         try clear c33b0
         try clear c33b1
         try clear c34
         try clear c34b0
         try clear c34b1
         try clear c35
         try clear c35b0
         try clear c35b1
         try clear p36
         try clear q36
         try clear hx36
         try clear qi36
         try clear c37
         try clear c37b0
         try clear c37b1
         try clear c38
         try clear c38b0
         try clear c38b1
         try clear c39
         try clear c39b0
         try clear c39b1
         try clear c40
         try clear c40b0
         try clear c40b1
         try clear p41
         try clear q41
         try clear hx41
         try clear qi41
         try clear c42
         try clear c43
         try clear c46
         try clear c46b0
         try clear c46b1
         try clear c47
         try clear c47b0
         try clear c47b1
         try clear hcz44_0
         try clear hcz44_1
         try clear hcz44_2
         try clear hcz44_3
         try clear hfz44_0
         try clear hfz44_1
         try clear hfz44_2
         try clear hfz44_3
         try clear hx162_0
         try clear hx163_0
         try clear hx164_0
         try clear hx165_0
         try clear hx166_0
         try clear hx167_0
         try clear hx168_0
         try clear p1
         try clear p16
         try clear p162
         try clear p163
         try clear p164
         try clear p165
         try clear p166
         try clear p167
         try clear p168
         try clear p2
         try clear p3
         try clear p30
         try clear p36
         try clear p4
         try clear p41
         try clear q1
         try clear q16
         try clear q162
         try clear q163
         try clear q164
         try clear q165
         try clear q166
         try clear q167
         try clear q168
         try clear q3
         try clear q30
         try clear q36
         try clear q4
         try clear q41
         obtain ⟨kq, x75_44, rfl, HA, HJ44, HO_4, BK147, BK161, HB⟩ := hcut
         cases kq with
         | zero => exact absurd HA.out (by simp [spec_l2Parse.j1])
         | succ kj44 =>
          have H := HA.out
          clear HA
          simp only [spec_l2Parse.j1] at H
          have HC48 := Aside0.mk H
          clear H
          go_upto_if 75 with (fail)
          go_cut [] (fun wc => ∃ (kq : Nat) (x162000_47 : List ByteArray) (u162000 : Value), Aside0 (spec_l2Parse.j2 kq a0 t148 x162000_47 t160 (rdOf ByteArray.empty t152 (ji5)) (⟨#[]⟩ : ByteArray) = some (r1, r2, r3, r4, r5)) ∧ Aside0 (kq ≤ kj44) ∧ Aside0 (Kd.R Kd.string 9 wc w.heap.size (fun k_ => some k_ ≠ (u162000 : Value).ownBlock) (.slice (some ad151) t148.length co14) t148) ∧ Aside0 (Kd.R Kd.string 9 wc w.heap.size (fun k_ => some k_ ≠ ((.slice (some ad151) t148.length co14) : Value).ownBlock) u162000 x162000_47) ∧ Aside0 (wc.heap[gb147]? = some (.cells #[(.slice none 0 0), .string (⟨#[]⟩ : ByteArray), .string (⟨#[]⟩ : ByteArray), .string (⟨#[]⟩ : ByteArray)] 31 (0, 0))) ∧ Aside0 (wc.heap[gb161]? = some (.cells #[u162000, .string t160, .string (rdOf ByteArray.empty t152 (ji5)), .string (⟨#[]⟩ : ByteArray)] 31 (0, 0))) ∧ Aside0 (Below w.heap.size w wc))
          case first =>
           have H := HC48.out
           clear HC48
           by_cases c49 : x75_44 = true
           ·
            subst c49
            replace H := (if_pos rfl).symm.trans H
            by_cases c50 : 1 < (t148.length : Int)
            ·
             rw [if_pos c50] at H
             have c50b0 : decide (1 < (t148.length : Int)) = true := decide_eq_true c50
             have c50b1 : decide (1 < t148.length) = true := decide_eq_true (by omega)
             clear c50
             (first | rw [c50b0] | (simp only [i64_w, i32_w]; rw [c50b0]) | skip)
             by_cases c51 : 1 ≤ ((rdOf ByteArray.empty t148 1).size : Int)
             ·
              rw [if_pos c51] at H
              have c51b0 := eq_true c51
              have c51b1 : decide (1 ≤ ((rdOf ByteArray.empty t148 1).size : Int)) = true := decide_eq_true c51
              clear c51
              replace H := Option.bind_eq_some_iff.mp H
              obtain ⟨t170, A520, H⟩ := H
              try dsimp only at H
              have A52 := Aside0.mk A520
              clear A520
              have H' := Aside0.mk H
              clear H
              have p169 : 0 ≤ (1 : Int) := (by omega)
              have q169 : 1 < (t148.length : Int) := of_decide_eq_true au75
              obtain ⟨ad169, e169, hx169_0⟩ := Kd.at_string (Kd.R_reads' HO_4.out).2.2 1 p169 q169
              obtain rfl : ad151 = ad169 := (by injection e169)
              (try simp only [show (1 : Int).toNat = 1 from rfl, Nat.reduceMul, Nat.reduceEqDiff, Go.Addr.add, ↓reduceIte] at hx169_0)
              have qi169 : (1 < t148.length) = True := eq_true (by omega)
              (try rw [show ((1 : Int)).toNat = 1 from rfl] at hx169_0)
              replace p169 := eq_true p169
              replace q169 := eq_true q169
              exact spec_l2Parse.L1
             ·
              rw [if_neg c51] at H
              exact absurd H (by simp)
            ·
             rw [if_neg c50] at H
             exact absurd H (by simp)
           ·
            replace c49 := Bool.eq_false_iff.mpr c49
            subst c49
            replace H := (if_neg (show ¬ (false = true) by decide)).symm.trans H
            have H' := Aside0.mk H
            clear H
            exact spec_l2Parse.L1
          case rest =>
           clear HC48
           try clear c1
           try clear p1
           try clear q1
           try clear hx1
           try clear qi1
           try clear c2
           try clear p2
           try clear c3
           try clear p3
           try clear q3
           try clear hx3
           try clear qi3
           try clear c4
           try clear p4
           try clear q4
           try clear hx4
           try clear qi4
           try clear c5
           try clear c15
           try clear p16
           try clear q16
           try clear hx16
           try clear qi16
           try clear c21
           try clear c25
           try clear c25b0
           try clear c25b1
           try clear c26
           try clear c26b0
           try clear c26b1
           try clear c27
           try clear c27b0
           try clear c27b1
           try clear c28
           try clear c28b0
           try clear c28b1
           try clear c29
           try clear c29b0
           try clear c29b1
           try clear p30
           try clear q30
           try clear hx30
           try clear qi30
           try clear c31
           try clear c31b0
           try clear c31b1
           try clear c32
           try clear c32b0
           try clear c32b1
           try clear c33
           try clear c33b0
           try clear c33b1
           try clear c34
           try clear c34b0
           try clear c34b1
           try clear c35
           try clear c35b0
           try clear c35b1
           try clear p36
           try clear q36
           try clear hx36
           try clear qi36
           try clear c37
           try clear c37b0
           try clear c37b1
           try clear c38
           try clear c38b0
           try clear c38b1
           try clear c39
           try clear c39b0
           try clear c39b1
           try clear c40
           try clear c40b0
           try clear c40b1
           try clear p41
           try clear q41
           try clear hx41
           try clear qi41
           try clear c42
           try clear c43
           try clear c46
           try clear c46b0
           try clear c46b1
           try clear c47
           try clear c47b0
           try clear c47b1
           try clear c49
           try clear c50
           try clear c50b0
           try clear c50b1
           try clear c51
           try clear c51b0
           try clear c51b1
           try clear c55
           try clear hcz44_0
           try clear hcz44_1
           try clear hcz44_2
           try clear hcz44_3
           try clear hcz56_0
           try clear hcz56_1
           try clear hcz56_2
           try clear hcz56_3
           try clear hfz44_0
           try clear hfz44_1
           try clear hfz44_2
           try clear hfz44_3
           try clear hfz56_0
           try clear hfz56_1
           try clear hfz56_2
           try clear hfz56_3
           try clear hx162_0
           try clear hx163_0
           try clear hx164_0
           try clear hx165_0
           try clear hx166_0
           try clear hx167_0
           try clear hx168_0
           try clear hx169_0
           try clear p1
           try clear p16
           try clear p162
           try clear p163
           try clear p164
           try clear p165
           try clear p166
           try clear p167
           try clear p168
           try clear p169
           try clear p2
           try clear p3
           try clear p30
           try clear p36
           try clear p4
           try clear p41
           try clear q1
           try clear q16
           try clear q162
           try clear q163
           try clear q164
           try clear q165
           try clear q166
           try clear q167
           try clear q168
           try clear q169
           try clear q3
           try clear q30
           try clear q36
           try clear q4
           try clear q41
           obtain ⟨kq, x162000_47, u162000, HA, HJ47, HO_4, HO_162000, BK147, BK161, HB⟩ := hcut
           cases kq with
           | zero => exact absurd HA.out (by simp [spec_l2Parse.j2])
           | succ kj47 =>
            have H := HA.out
            clear HA
            simp only [spec_l2Parse.j2] at H
            have HC57 := Aside0.mk H
            clear H
            go_upto_if 84 with (fail)
            go_cut [] (fun wc => ∃ (kq : Nat) (x162003_56 : ByteArray), Aside0 (spec_l2Parse.j3 kq a0 x162000_47 t160 (rdOf ByteArray.empty t152 (ji5)) x162003_56 = some (r1, r2, r3, r4, r5)) ∧ Aside0 (kq ≤ kj47) ∧ Aside0 (Kd.R Kd.string 9 wc w.heap.size (fun _ => True) u162000 x162000_47) ∧ Aside0 (wc.heap[gb147]? = some (.cells #[(.slice none 0 0), .string (⟨#[]⟩ : ByteArray), .string (⟨#[]⟩ : ByteArray), .string (⟨#[]⟩ : ByteArray)] 31 (0, 0))) ∧ Aside0 (wc.heap[gb161]? = some (.cells #[u162000, .string t160, .string (rdOf ByteArray.empty t152 (ji5)), .string x162003_56] 31 (0, 0))) ∧ Aside0 (Below w.heap.size w wc))
            case first =>
             have H := HC57.out
             clear HC57
             by_cases c58 : (t148.length : Int) > 2
             ·
              rw [if_pos c58] at H
              have c58b0 : decide (2 < (t148.length : Int)) = true := decide_eq_true c58
              have c58b1 : decide (2 < t148.length) = true := decide_eq_true (by omega)
              clear c58
              (first | rw [c58b0] | (simp only [i64_w, i32_w]; rw [c58b0]) | skip)
              by_cases c59 : 2 < (t148.length : Int)
              ·
               rw [if_pos c59] at H
               have c59b0 : decide (2 < (t148.length : Int)) = true := decide_eq_true c59
               have c59b1 : decide (2 < t148.length) = true := decide_eq_true (by omega)
               clear c59
               by_cases c60 : 1 ≤ ((rdOf ByteArray.empty t148 2).size : Int)
               ·
                rw [if_pos c60] at H
                have c60b0 := eq_true c60
                have c60b1 : decide (1 ≤ ((rdOf ByteArray.empty t148 2).size : Int)) = true := decide_eq_true c60
                clear c60
                have H' := Aside0.mk H
                clear H
                have p173 : 0 ≤ (2 : Int) := (by omega)
                have q173 : 2 < (t148.length : Int) := of_decide_eq_true au75
                obtain ⟨ad173, e173, hx173_0⟩ := Kd.at_string (Kd.R_reads' HO_4.out).2.2 2 p173 q173
                obtain rfl : ad151 = ad173 := (by injection e173)
                (try simp only [show (2 : Int).toNat = 2 from rfl, Nat.reduceMul, Nat.reduceEqDiff, Go.Addr.add, ↓reduceIte] at hx173_0)
                have qi173 : (2 < t148.length) = True := eq_true (by omega)
                (try rw [show ((2 : Int)).toNat = 2 from rfl] at hx173_0)
                replace p173 := eq_true p173
                replace q173 := eq_true q173
                have hnb61 := NB161_147.out
                have hnc61 := NB147_161.out
                obtain ⟨hcz62_0, hcz62_1, hcz62_2, hcz62_3, hfz62_0, hfz62_1, hfz62_2, hfz62_3⟩ := blkc4 BK161.out
                exact spec_l2Parse.L1
               ·
                rw [if_neg c60] at H
                exact absurd H (by simp)
              ·
               rw [if_neg c59] at H
               exact absurd H (by simp)
             ·
              rw [if_neg c58] at H
              have c58b0 : decide (2 < (t148.length : Int)) = false := decide_eq_false c58
              have c58b1 : decide (2 < t148.length) = false := decide_eq_false (by omega)
              clear c58
              (first | rw [c58b0] | (simp only [i64_w, i32_w]; rw [c58b0]) | skip)
              have H' := Aside0.mk H
              clear H
              exact spec_l2Parse.L1
            case rest =>
             clear HC57
             try clear c1
             try clear p1
             try clear q1
             try clear hx1
             try clear qi1
             try clear c2
             try clear p2
             try clear c3
             try clear p3
             try clear q3
             try clear hx3
             try clear qi3
             try clear c4
             try clear p4
             try clear q4
             try clear hx4
             try clear qi4
             try clear c5
             try clear c6
             try clear c15
             try clear p16
             try clear q16
             try clear hx16
             try clear qi16
             try clear p17
             try clear q17
             try clear hx17
             try clear qi17
             try clear c21
             try clear c25
             try clear c25b0
             try clear c25b1
             try clear c26
             try clear c26b0
             try clear c26b1
             try clear c27
             try clear c27b0
             try clear c27b1
             try clear c28
             try clear c28b0
             try clear c28b1
             try clear c29
             try clear c29b0
             try clear c29b1
             try clear p30
             try clear q30
             try clear hx30
             try clear qi30
             try clear c31
             try clear c31b0
             try clear c31b1
             try clear c32
             try clear c32b0
             try clear c32b1
             try clear c33
             try clear c33b0
             try clear c33b1
             try clear c34
             try clear c34b0
             try clear c34b1
             try clear c35
             try clear c35b0
             try clear c35b1
             try clear p36
             try clear q36
             try clear hx36
             try clear qi36
             try clear c37
             try clear c37b0
             try clear c37b1
             try clear c38
             try clear c38b0
             try clear c38b1
             try clear c39
             try clear c39b0
             try clear c39b1
             try clear c40
             try clear c40b0
             try clear c40b1
             try clear p41
             try clear q41
             try clear hx41
             try clear qi41
             try clear c42
             try clear c43
             try clear c46
             try clear c46b0
             try clear c46b1
             try clear c47
             try clear c47b0
             try clear c47b1
             try clear c49
             try clear c50
             try clear c50b0
             try clear c50b1
             try clear c51
             try clear c51b0
             try clear c51b1
             try clear c55
             try clear c58
             try clear c58b0
             try clear c58b1
             try clear c59
             try clear c59b0
             try clear c59b1
             try clear c60
             try clear c60b0
             try clear c60b1
             try clear c61
             try clear hcz44_0
             try clear hcz44_1
             try clear hcz44_2
             try clear hcz44_3
             try clear hcz56_0
             try clear hcz56_1
             try clear hcz56_2
             try clear hcz56_3
             try clear hcz62_0
             try clear hcz62_1
             try clear hcz62_2
             try clear hcz62_3
             try clear hfz44_0
             try clear hfz44_1
             try clear hfz44_2
             try clear hfz44_3
             try clear hfz56_0
             try clear hfz56_1
             try clear hfz56_2
             try clear hfz56_3
             try clear hfz62_0
             try clear hfz62_1
             try clear hfz62_2
             try clear hfz62_3
             try clear hx162_0
             try clear hx163_0
             try clear hx164_0
             try clear hx165_0
             try clear hx166_0
             try clear hx167_0
             try clear hx168_0
             try clear hx169_0
             try clear hx173_0
             try clear p1
             try clear p16
             try clear p162
             try clear p163
             try clear p164
             try clear p165
             try clear p166
             try clear p167
             try clear p168
             try clear p169
             try clear p173
             try clear p2
             try clear p3
             try clear p30
             try clear p36
             try clear p4
             try clear p41
             try clear q1
             try clear q16
             try clear q162
             try clear q163
             try clear q164
             try clear q165
             try clear q166
             try clear q167
             try clear q168
             try clear q169
             try clear q173
             try clear q3
             try clear q30
             try clear q36
             try clear q4
             try clear q41
             obtain ⟨kq, x162003_56, HA, HJ56, HO_162000, BK147, BK161, HB⟩ := hcut
             cases kq with
             | zero => exact absurd HA.out (by simp [spec_l2Parse.j3])
             | succ kj56 =>
              have H := HA.out
              clear HA
              simp only [spec_l2Parse.j3] at H
              replace H := Option.bind_eq_some_iff.mp H
              obtain ⟨t174, A630, H⟩ := H
              try dsimp only at H
              have A63 := Aside0.mk A630
              clear A630
              by_cases c64 : t174 = true
              ·
               subst c64
               replace H := (if_pos rfl).symm.trans H
               replace H := Option.bind_eq_some_iff.mp H
               obtain ⟨t175, A650, H⟩ := H
               try dsimp only at H
               have A65 := Aside0.mk A650
               clear A650
               by_cases c66 : t175.toList = a0.toList
               ·
                rw [if_pos c66] at H
                have c66b0 : (t175.toList == a0.toList) = true := beq_iff_eq.mpr c66
                have c66b1 : (t175.toList != a0.toList) = false := bne_eq_false_iff_eq.mpr c66
                clear c66
                simp only [Option.some.injEq, Prod.mk.injEq] at H
                obtain ⟨rfl, rfl, rfl, rfl, rfl⟩ := H
                have hnb67 := NB161_147.out
                have hnc67 := NB147_161.out
                obtain ⟨hcz68_0, hcz68_1, hcz68_2, hcz68_3, hfz68_0, hfz68_1, hfz68_2, hfz68_3⟩ := blkc4 BK161.out
                obtain ⟨Ao69, co69, eo69⟩ := Kd.R_slice HO_162000.out
                subst eo69
                go_wp2_with (first | ((with_reducible refine gate_callee (f := 22) rfl ?_); refine goesL_ (some 91) rfl rfl Tryd.func22 (by kernel_rfl) rfl #[.agg #[.slice Ao69 x162000_47.length co69, .string t160, .string (rdOf ByteArray.empty t152 (ji5)), .string x162003_56]] rfl au13 ?_; (with_reducible refine (spec_l2Good.calls kj56 _ _ x162000_47 t160 (rdOf ByteArray.empty t152 (ji5)) x162003_56 _ _ ?side1 ?side2 A63.out).mono ?_); (case side1 => repeat (first | exact (Kd.R_reads' HO_162000.out).2.2 | (with_reducible refine Kd.C_alloc ?_ _) | (with_reducible refine Kd.C_drewN ?_ _) | (with_reducible refine Kd.C_drew ?_))); (case side2 => exact (Kd.R_reads' HO_162000.out).2.1); rintro e w70 ⟨rfl, hb⟩; refine ⟨_, rfl, ?_⟩; replace HO_162000 := Aside0.mk (Kd.R_below au57 hb); replace BK147 := Aside0.mk (blk_below (g := gb147) au47 hb); replace BK161 := Aside0.mk (blk_below (g := gb161) au48 hb); replace HB := Aside0.mk (below_step au7 hb); (try clear hb); obtain ⟨hcz71_0, hcz71_1, hcz71_2, hcz71_3, hfz71_0, hfz71_1, hfz71_2, hfz71_3⟩ := blkc4 BK161.out) | (go_at_call 23; (with_reducible refine (spec_l2Inverse.calls kj56 _ _ x162000_47 t160 (rdOf ByteArray.empty t152 (ji5)) x162003_56 t175 _ ?side1 ?side2 A65.out).mono ?_); (case side1 => repeat (first | exact (Kd.R_reads' HO_162000.out).2.2 | (with_reducible refine Kd.C_alloc ?_ _) | (with_reducible refine Kd.C_drewN ?_ _) | (with_reducible refine Kd.C_drew ?_))); (case side2 => exact (Kd.R_reads' HO_162000.out).2.1); rintro e w72 ⟨rfl, hb⟩; replace HO_162000 := Aside0.mk (Kd.R_below au57 hb); replace BK147 := Aside0.mk (blk_below (g := gb147) au47 hb); replace BK161 := Aside0.mk (blk_below (g := gb161) au48 hb); replace HB := Aside0.mk (below_step au7 hb); (try clear hb); obtain ⟨hcz73_0, hcz73_1, hcz73_2, hcz73_3, hfz73_0, hfz73_1, hfz73_2, hfz73_3⟩ := blkc4 BK161.out; obtain ⟨hcz74_0, hcz74_1, hcz74_2, hcz74_3, hfz74_0, hfz74_1, hfz74_2, hfz74_3⟩ := blkc4 BK147.out))
                refine bodyPost_ret (results_ct rfl _ _ gb147 31 #[.slice Ao69 x162000_47.length co69, .string t160, .string (rdOf ByteArray.empty t152 (ji5)), .string x162003_56] (0, 0) _ rfl (by (with_reducible repeat (first | refine blk_drewN ?_ _ | refine blk_drew ?_ | refine blk_alloc ?_ _)); refine blk_put (cs := #[.slice Ao69 x162000_47.length co69, .string t160, .string (rdOf ByteArray.empty t152 (ji5)), .string (⟨#[]⟩ : ByteArray)]) ?_ 3 _ rfl; (with_reducible repeat (first | refine blk_drewN ?_ _ | refine blk_drew ?_ | refine blk_alloc ?_ _)); refine blk_put (cs := #[.slice Ao69 x162000_47.length co69, .string t160, .string (⟨#[]⟩ : ByteArray), .string (⟨#[]⟩ : ByteArray)]) ?_ 2 _ rfl; (with_reducible repeat (first | refine blk_drewN ?_ _ | refine blk_drew ?_ | refine blk_alloc ?_ _)); refine blk_put (cs := #[.slice Ao69 x162000_47.length co69, .string (⟨#[]⟩ : ByteArray), .string (⟨#[]⟩ : ByteArray), .string (⟨#[]⟩ : ByteArray)]) ?_ 1 _ rfl; (with_reducible repeat (first | refine blk_drewN ?_ _ | refine blk_drew ?_ | refine blk_alloc ?_ _)); refine blk_put (cs := #[.slice none 0 0, .string (⟨#[]⟩ : ByteArray), .string (⟨#[]⟩ : ByteArray), .string (⟨#[]⟩ : ByteArray)]) ?_ 0 _ rfl; (with_reducible repeat (first | refine blk_drewN ?_ _ | refine blk_drew ?_ | refine blk_alloc ?_ _)); exact BK147.out) Tryd.underlying31 rfl (by kernel_rfl)) rfl ?_
                exact ⟨_, by first | rfl | (simp [errW_none, errW_some] <;> rfl) | (simp only [← hji5]; first | rfl | (simp [errW_none, errW_some] <;> rfl)) | (simp [*, errW_none, errW_some] <;> rfl), by (with_reducible repeat (first | apply Kd.R_alloc | apply Kd.R_drewN | apply Kd.R_drew)); exact Kd.R_mono (Kd.R_far (p := ⟨gb147, 3, none⟩) (Kd.R_far (p := ⟨gb147, 2, none⟩) (Kd.R_far (p := ⟨gb147, 1, none⟩) (Kd.R_far (p := ⟨gb147, 0, none⟩) (Kd.R_types HO_162000.out BK147.out (by decide)) (fun _ hk => hk.2) (.slice Ao69 x162000_47.length co69)) (fun _ hk => hk.2) (.string t160)) (fun _ hk => hk.2) (.string (rdOf ByteArray.empty t152 (ji5)))) (fun _ hk => hk.2) (.string x162003_56)) (fun _ hk => trivial), by repeat (first | (with_reducible first | exact HB.out | apply below_alloc | apply pw_below_drewN | apply below_drew1 | refine below_set ?_ GE147.out | refine below_set ?_ GE161.out) | exact HB.out)⟩
               ·
                rw [if_neg c66] at H
                have c66b0 : (t175.toList == a0.toList) = false := beq_eq_false_iff_ne.mpr c66
                have c66b1 : (t175.toList != a0.toList) = true := bne_iff_ne.mpr c66
                simp only [Option.some.injEq, Prod.mk.injEq] at H
                obtain ⟨rfl, rfl, rfl, rfl, rfl⟩ := H
                have hnb75 := NB161_147.out
                have hnc75 := NB147_161.out
                obtain ⟨hcz76_0, hcz76_1, hcz76_2, hcz76_3, hfz76_0, hfz76_1, hfz76_2, hfz76_3⟩ := blkc4 BK161.out
                obtain ⟨Ao77, co77, eo77⟩ := Kd.R_slice HO_162000.out
                subst eo77
                exact spec_l2Parse.L0
              ·
               replace c64 := Bool.eq_false_iff.mpr c64
               subst c64
               replace H := (if_neg (show ¬ (false = true) by decide)).symm.trans H
               simp only [Option.some.injEq, Prod.mk.injEq] at H
               obtain ⟨rfl, rfl, rfl, rfl, rfl⟩ := H
               have hnb82 := NB161_147.out
               have hnc82 := NB147_161.out
               obtain ⟨hcz83_0, hcz83_1, hcz83_2, hcz83_3, hfz83_0, hfz83_1, hfz83_2, hfz83_3⟩ := blkc4 BK161.out
               obtain ⟨Ao84, co84, eo84⟩ := Kd.R_slice HO_162000.out
               subst eo84
               go_wp2_with (first | ((with_reducible refine gate_callee (f := 22) rfl ?_); refine goesL_ (some 91) rfl rfl Tryd.func22 (by kernel_rfl) rfl #[.agg #[.slice Ao84 x162000_47.length co84, .string t160, .string (rdOf ByteArray.empty t152 (ji5)), .string x162003_56]] rfl au13 ?_; (with_reducible refine (spec_l2Good.calls kj56 _ _ x162000_47 t160 (rdOf ByteArray.empty t152 (ji5)) x162003_56 _ _ ?side1 ?side2 A63.out).mono ?_); (case side1 => repeat (first | exact (Kd.R_reads' HO_162000.out).2.2 | (with_reducible refine Kd.C_alloc ?_ _) | (with_reducible refine Kd.C_drewN ?_ _) | (with_reducible refine Kd.C_drew ?_))); (case side2 => exact (Kd.R_reads' HO_162000.out).2.1); rintro e w85 ⟨rfl, hb⟩; refine ⟨_, rfl, ?_⟩; replace HO_162000 := Aside0.mk (Kd.R_below au57 hb); replace BK147 := Aside0.mk (blk_below (g := gb147) au47 hb); replace BK161 := Aside0.mk (blk_below (g := gb161) au48 hb); replace HB := Aside0.mk (below_step au7 hb); (try clear hb); obtain ⟨hcz86_0, hcz86_1, hcz86_2, hcz86_3, hfz86_0, hfz86_1, hfz86_2, hfz86_3⟩ := blkc4 BK147.out))
               refine bodyPost_ret (results_ct rfl _ _ gb147 31 #[.slice none 0 0, .string (⟨#[]⟩ : ByteArray), .string (⟨#[]⟩ : ByteArray), .string (⟨#[]⟩ : ByteArray)] (0, 0) _ rfl (by (with_reducible repeat (first | refine blk_drewN ?_ _ | refine blk_drew ?_ | refine blk_alloc ?_ _)); refine blk_put (cs := #[.slice none 0 0, .string (⟨#[]⟩ : ByteArray), .string (⟨#[]⟩ : ByteArray), .string (⟨#[]⟩ : ByteArray)]) ?_ 3 _ rfl; (with_reducible repeat (first | refine blk_drewN ?_ _ | refine blk_drew ?_ | refine blk_alloc ?_ _)); refine blk_put (cs := #[.slice none 0 0, .string (⟨#[]⟩ : ByteArray), .string (⟨#[]⟩ : ByteArray), .string (⟨#[]⟩ : ByteArray)]) ?_ 2 _ rfl; (with_reducible repeat (first | refine blk_drewN ?_ _ | refine blk_drew ?_ | refine blk_alloc ?_ _)); refine blk_put (cs := #[.slice none 0 0, .string (⟨#[]⟩ : ByteArray), .string (⟨#[]⟩ : ByteArray), .string (⟨#[]⟩ : ByteArray)]) ?_ 1 _ rfl; (with_reducible repeat (first | refine blk_drewN ?_ _ | refine blk_drew ?_ | refine blk_alloc ?_ _)); refine blk_put (cs := #[.slice none 0 0, .string (⟨#[]⟩ : ByteArray), .string (⟨#[]⟩ : ByteArray), .string (⟨#[]⟩ : ByteArray)]) ?_ 0 _ rfl; (with_reducible repeat (first | refine blk_drewN ?_ _ | refine blk_drew ?_ | refine blk_alloc ?_ _)); exact BK147.out) Tryd.underlying31 rfl (by kernel_rfl)) rfl ?_
               exact ⟨_, by first | rfl | (simp [errW_none, errW_some] <;> rfl) | (simp only [← hji5]; first | rfl | (simp [errW_none, errW_some] <;> rfl)) | (simp [*, errW_none, errW_some] <;> rfl), by first | exact Kd.R_nil _ _ _ _ _ | exact Kd.N_nil _ _ _ _ _ | exact Kd.V_nil _ _ _ _ _ | exact Kd.Q_nil _ _ _ _ _ | exact Kd.S_nil _ _ _ _ _, by repeat (first | (with_reducible first | exact HB.out | apply below_alloc | apply pw_below_drewN | apply below_drew1 | refine below_set ?_ GE147.out | refine below_set ?_ GE161.out) | exact HB.out)⟩
    ·
     rw [if_neg c9] at H
     exact absurd H (by simp)
   ·
    rw [if_neg c7] at H
    exact absurd H (by simp)
  ·
   rw [if_neg c6] at H
   exact absurd H (by simp)
 ·
  rw [if_neg c3] at H
  exact absurd H (by simp)

end Go.Proofs.YtefoiofododliaaDoor.G
