/- Texts of this session for the law FnExactChangedFields, put together by a program (merge.py): each ends with its namespace; conditions stand with each theorem. -/
import Derived.Handed
import Derived.SizedLaws
import Derived.Lib.LaidTab
import Derived.Test.YthfbogcpjfledaaGreatDoorKFnExactChangedFields1
import Derived.Test.YthfbogcpjfledaaGreatDoorProg
import Derived.Shelf.Strconv.Itoa3
import Derived.Below
import Derived.Deep.Draws
import Derived.Deep.AppendLies
import Derived.Maps.AppendAt
import Derived.OwnWalk
import Derived.Laws.BytesArg
import Derived.Laws.MakeOwn
import Derived.Laws.OwnMore
import Derived.Deep.OwnRows
import Derived.Tactics
import Derived.Lib.ConvBytes
import Derived.Laws.Slices
import Derived.WalkKit
import Derived.KernelRfl
import Derived.RowKit3
import Derived.Deep.LoopGhost
import Derived.Deep.QuietTactic
import Derived.BigQuiet
import Derived.WideLaws
import Derived.Deep.DeepCutAuto
import Derived.Deep.CutBlock
import Derived.Deep.RegionHeld3
import Derived.Laws.Rows
import Derived.Lib.AppendStr
import Derived.ArgAppend
import Derived.Laws.IdiomCopy
import Derived.OrdersHeld
import Derived.Laws.BitsLemmas
import Derived.RowKit
import Derived.Lib.Strings
namespace Go.Proofs.YthfbogcpjfledaaGreatDoor.Crd
open Go
variable {H : Type} {enc : TypeId × Value → H}
theorem wrap_and_shaped {a : Assume} {C : Checked} {os : Os} {f : FuncId} {fn : Func} {s : ChangeSpec} {conds : List PathCond} {apart fresh handsOn again : Bool} {X : World → Array Value → Prop}
    (hX : ∀ (w w' : World) (args : Array Value), w.heap = w'.heap → X w args → X w' args)
    (own : ownKnob C.prog.godebug = none) (started : os.Started) (noInit : C.prog.inits.idxOf? f = none) (hfn : C.prog.funcs[f]? = some fn)
    (witness : ∃ (w : World) (tape : Tape) (i : Input), w.os = os ∧ (w.forCall tape i).Shaped C.prog ∧ i.vars = [] ∧ Input.okWide C.prog (w.forCall tape i) .any w.heap.size f i ∧
      ((s.pre enc C.prog fn conds apart (w.forCall tape i).memory i.args ∧ X (w.forCall tape i).memory i.args) ∧ sizedMet enc C.prog fn (OpenSpec.ofChange s) apart (w.forCall tape i).memory i.args) ∧ a.holds C.prog (lone (Frame.enter C.prog f i.args .normal) [] (w.forCall tape i)))
    (contract : ∀ (W : World) (base : Nat) (args : Array Value) (ds gs : List (DataW H)) (before : List MemPlace),
      (∀ (j : Nat) t v, fn.params[j]? = some t → args[j]? = some v → Value.okWide C.prog W .any base t v) →
      DataW.Whole enc C.prog fn.params.toList s.vars apart W args.toList ds gs before →
      conds.all (PathCond.test C.prog ⟨fn.params.toList, ds, s.plain.varTypes C.prog, gs⟩) = true →
      (DataW.weightsEach C.prog (fn.params.toList ++ s.plain.varTypes C.prog) (ds ++ gs)).all (· ≤ reachBytes) = true → X W args → W.ShapedOpen C.prog →
      Calls C.prog f args W fun e W' => ∃ v, e = .returned v ∧ s.post enc C.prog fn apart fresh handsOn again W args v W') :
    ReturnsInHanded a C os f .any (fun w args => (s.pre enc C.prog fn conds apart w args ∧ X w args) ∧ sizedMet enc C.prog fn (OpenSpec.ofChange s) apart w args) (s.post enc C.prog fn apart fresh handsOn again) := by
  refine returnsInHanded_of_calls own started noInit witness ?_;intro w tape i _ hsh _ hok hpre hholds;obtain ⟨_, _, _, fn', hfn', _, _, _, _, hval⟩ := hok;have e : fn' = fn := ojz (hfn'.symm.trans hfn);subst e;obtain ⟨⟨⟨ds, gs, before, hw, hc⟩, hx⟩, hz⟩ := hpre;have hw' := DataW.Whole.of_heap (w' := w.forCall tape i) (by rfl) hw
  refine (contract (w.forCall tape i) w.heap.size i.args ds gs before hval hw' hc (hz.weights hw) (hX _ _ _ (by rfl) hx) hsh).mono fun e W' ⟨v, he, hp⟩ => ?_
  subst he;exact ChangeSpec.post_blind hp
end Go.Proofs.YthfbogcpjfledaaGreatDoor.Crd

namespace Go.Proofs.YthfbogcpjfledaaGreatDoor.LTab
open Go Go.Lib
def textData {H : Type} (ss : List ByteArray) : DataW H := .agg (ss.map fun s => .lit (.string s.data.toList))
theorem cells_of_text {H : Type} {enc : TypeId × Value → H} {P : Program} {w : World} {base : Nat} {sp : Nat → Bool} {held : Bool} {fuel : Nat} {t e : TypeId} {n : Nat} {cs : List Value} {ss : List ByteArray} {p : List MemPlace}
    (ht : P.underlying t = some (.array n e)) (he : P.underlying e = some .string) (hce : P.cellsOf e = 1) (hct : P.cellsOf t = n)
    (h : DataW.trod enc P w base sp held fuel t cs = some (textData ss, p)) : cs = ss.map Value.string := by
  cases fuel with
  | zero => simp [DataW.trod] at h
  | succ fuel =>
    simp only [DataW.trod, ht, hce, hct, Nat.mul_one] at h
    split at h
    · rename_i hl
      obtain ⟨xs, hm, hx⟩ := Option.map_eq_some_iff.1 h
      have hxs : xs.map (·.1) = ss.map fun s => (DataW.lit (.string s.data.toList) : DataW H) := by
        have := congrArg Prod.fst hx
        simpa [textData] using this
      have hxl : xs.length = n := by simpa using mapM_length hm
      have hzl : ss.length = n := by
        have := congrArg List.length hxs;simp at this;omega
      apply List.ext_getElem?;intro i;by_cases hi : i < n
      · obtain ⟨b, hb, hf⟩ := mapM_at hm i i (by simp [hi])
        obtain ⟨s, hc, rfl, _⟩ := DataW.trod_string he hf
        have h1 : cs[i]? = some (.string s) := by
          have := congrArg (·[0]?) hc
          simpa [List.getElem?_take, List.getElem?_drop] using this
        have h2 : (xs.map (·.1))[i]? = some (DataW.lit (.string s.data.toList) : DataW H) := by simp [hb]
        rw [hxs] at h2;simp only [List.getElem?_map, Option.map_eq_some_iff, DataW.lit.injEq, Lit.string.injEq] at h2;obtain ⟨s', hs', e'⟩ := h2
        have : s' = s := by cases s; cases s'; simp at e'; simp [e']
        subst this;simp [h1, hs']
      · rw [List.getElem?_eq_none (by omega), List.getElem?_eq_none (by simp; omega)]
    · cases h
theorem text_of_head {P : Program} {W : World} {name : String} {ss : List ByteArray} {rest : List (String × DataW Unit)} {g : Nat} {t e : TypeId} {n : Nat}
    (hg : P.globalNamed name = some g) (hty : (P.globals[g]?).map (·.type) = some t) (ht : P.underlying t = some (.array n e)) (he : P.underlying e = some .string) (hce : P.cellsOf e = 1) (hct : P.cellsOf t = n)
    (h : laidMet P ((name, textData ss) :: rest) W) (i : Nat) (s : ByteArray) (hi : ss[i]? = some s) : W.cell? ⟨g, i, none⟩ = some (.string s) := by
  obtain ⟨ps, ⟨g', t', cs, fuel, p, q, hg', ht', hvar, hd, _, _⟩, _⟩ := h;obtain rfl := ojz (hg.symm.trans hg');obtain rfl := ojz (hty.symm.trans ht');have hc := cells_of_text ht he hce hct hd;have := World.var?_cell hg hvar i
  have e : cs[i]? = some (Value.string s) := by rw [← Array.getElem?_toList, hc, List.getElem?_map, hi]; rfl
  rw [e] at this;exact this
end Go.Proofs.YthfbogcpjfledaaGreatDoor.LTab

namespace Go.Proofs.YthfbogcpjfledaaGreatDoor.Ext
open Go.RowKit Go.Proofs.YthfbogcpjfledaaGreatDoorW.PrintWords Go.Proofs.YthfbogcpjfledaaGreatDoorW.PrintLast
set_option linter.unusedVariables false
set_option linter.unusedSimpArgs false
theorem cell_lt {w : World} {a : Addr} {v : Value} (h : w.cell? a = some v) : a.block < w.heap.size := by
  unfold World.cell? at h;by_cases hb : a.block < w.heap.size
  · exact hb
  · rw [Array.getElem?_eq_none (by omega)] at h; cases h
theorem cell_spot {w : World} {a : Addr} {v : Value} (h : w.cell? a = some v) : a.spot = none := by
  unfold World.cell? at h
  split at h
  · by_cases hs : a.spot.isSome = true
    · rw [if_pos hs] at h; cases h
    · simpa using hs
  · cases h
theorem add_zero (a : Addr) : a.add 0 = a := rfl
theorem plain_add (b o j : Nat) : (⟨b, o, none⟩ : Addr).add j = ⟨b, o + j, none⟩ := by
  unfold Addr.add
  by_cases h : j = 0 <;> simp [h]
theorem strs_read {w : World} {A : Option Addr} {xs : List ByteArray} (h : Kd.C Kd.string w A xs.length xs) (hn : 0 < xs.length) :
    ∃ b o, A = some ⟨b, o, none⟩ ∧ b < w.heap.size ∧ ∀ (j : Nat) y, xs[j]? = some y → w.cell? ⟨b, o + j, none⟩ = some (.string y) := by
  obtain ⟨ad, rfl, hc⟩ := h.2.2 hn
  have hcell : ∀ (j : Nat) y, xs[j]? = some y → w.cell? (ad.add j) = some (.string y) := by
    intro j y hj;obtain ⟨c, _, hk, hcc⟩ := hc j y hj;have := hcc 0 (.string y) (by rw [hk]; rfl)
    simpa [Kd.string, Kd.scalar] using this
  have h0 := hcell 0 xs[0] (List.getElem?_eq_getElem hn);rw [add_zero] at h0;obtain ⟨b, o, s⟩ := ad;have hs : s = none := cell_spot h0;subst hs;exact ⟨b, o, rfl, cell_lt h0, fun j y hj => by have := hcell j y hj; rwa [plain_add] at this⟩
theorem cell_below {w w' : World} {a : Addr} {v : Value} (hb : Below w.heap.size w w') (h : w.cell? a = some v) : w'.cell? a = some v := (hb.cell (cell_lt h)).trans h
theorem var_below {P : Program} {n : String} {cs : Array Value} {w w' : World} (hb : Below w.heap.size w w') (h : w.var? P n = some cs) : w'.var? P n = some cs := by
  unfold World.var? at h ⊢
  cases hg : P.globalNamed n with
  | none => simp [hg] at h
  | some g =>
    simp only [hg, Option.bind_some] at h ⊢;by_cases hlt : g < w.heap.size
    · rw [hb.block g hlt]; exact h
    · rw [Array.getElem?_eq_none (by omega)] at h; simp at h
theorem gate_tmp {P : Program} {ops : Array Oper} {rest : List Oper} {o : Oper} {a : Act} {Q : Exit → Act → World → Prop} {W : World} {t : Tmp} {ars : Array Operand} {ts : Array TypeId} (_ho : o.op = .call { callee := .value (.tmp t), args := ars, argTypes := ts })
    (h : wpList P ops Q (o :: rest) a W) : wpList P ops Q (o :: rest) a W := h
theorem goesLt_ {P : Program} {ops : Array Oper} {Q : Exit → Act → World → Prop} {rest : List Oper} {oi : Oper} {a : Act} {w : World} {t : Tmp} {f : FuncId} (ht : a.tmps.getD t undef = Value.func (.func f) #[] #[]) (N : Option Tmp) (hd : oi.dst = N) (hg : oi.guard = none) {fn : Func} {ars : Array Operand} {ts : Array TypeId}
    (hf : P.funcs[f]? = some fn) (hname : (fn.name == "runtime.NumGoroutine") = false) (hb : fn.body.isSome = true) (args : Array Value)
    (hop : oi.op = .call { callee := .value (.tmp t), args := ars, argTypes := ts }) (hargs : ars.map a.eval = args)
    (h : Calls P f args w fun e w' => ∃ v, e = .returned v ∧ wpList P ops Q rest (a.put N v) w') : wpList P ops Q (oi :: rest) a w := by
  refine wpList_plain hg fun K hK => ?_
  have he := Go.Proofs.YthfbogcpjfledaaGreatDoorW.PrintLast.enters_ hf hname hb args w
  have hrun : (execOp a.eval oi).run P w = .ok (.enter f args) w := by
    unfold execOp;have hv : a.eval (.tmp t) = Value.func (.func f) #[] #[] := ht;simp [hop, resolve, Deferred.ofValue, invoke, hv, hargs, he]
  unfold Oper.wp;rw [hrun, Oper.upon_enter]
  refine h.mono fun e w'' hh => ?_
  obtain ⟨v, rfl, hk⟩ := hh;subst hd;exact hK _ _ hk
end Go.Proofs.YthfbogcpjfledaaGreatDoor.Ext

namespace Go.Proofs.YthfbogcpjfledaaGreatDoor.Gl
open Go.RowKit Go.Proofs.YthfbogcpjfledaaGreatDoorW.PrintWords Go.Proofs.YthfbogcpjfledaaGreatDoor.Ext
def fieldsL : List ByteArray := [(⟨#[97, 117, 116, 104, 111, 114, 115]⟩ : ByteArray), (⟨#[101, 100, 105, 116, 111, 114, 115]⟩ : ByteArray), (⟨#[116, 105, 116, 108, 101]⟩ : ByteArray), (⟨#[99, 111, 110, 116, 97, 105, 110, 101, 114]⟩ : ByteArray), (⟨#[112, 117, 98, 108, 105, 115, 104, 101, 114]⟩ : ByteArray), (⟨#[100, 97, 116, 101]⟩ : ByteArray), (⟨#[118, 111, 108, 117, 109, 101]⟩ : ByteArray), (⟨#[112, 97, 103, 101, 115]⟩ : ByteArray)]
structure GL (gF1 gF2 gF3 : Bool) (w : World) : Prop where
  mx : ∃ m, w.cell? ⟨4, 0, none⟩ = some (.int .i64 m)
  tab : gF1 = true → Lib.TabIs Tryz.prog w "internal/strconv.uint64pow10" .u64 Lib.pow10Tab
  fields : gF3 = true → ∀ (i : Nat) s, fieldsL[i]? = some s → w.cell? ⟨0, i, none⟩ = some (.string s)
theorem GL.below {gF1 gF2 gF3 : Bool} {w w' : World} (h : GL gF1 gF2 gF3 w) (hb : Below w.heap.size w w') : GL gF1 gF2 gF3 w' where
  mx := by obtain ⟨m, hm⟩ := h.mx; exact ⟨m, cell_below hb hm⟩
  tab := fun e => var_below hb (h.tab e)
  fields := fun e i s hi => cell_below hb (h.fields e i s hi)
theorem GL.drawn {gF1 gF2 gF3 : Bool} {w w' : World} (h : GL gF1 gF2 gF3 w) (hd : Drawn0 w w') : GL gF1 gF2 gF3 w' := h.below hd.below
end Go.Proofs.YthfbogcpjfledaaGreatDoor.Gl

namespace Go.Proofs.YthfbogcpjfledaaGreatDoor.G
open Go.RowKit Go.Proofs.YthfbogcpjfledaaGreatDoorW.PrintWords Go.Proofs.YthfbogcpjfledaaGreatDoorW.PrintLast Go.Proofs.YthfbogcpjfledaaGreatDoorW.PrintMore
open Go.Proofs.YthfbogcpjfledaaGreatDoor.Gl Go.Proofs.YthfbogcpjfledaaGreatDoor.Ext
attribute [local go_sem] max2_int min2_int max_two min_two max_three min_three max_four min_four   -- for this text's walks alone
set_option linter.unusedVariables false
set_option linter.unusedSimpArgs false
def errW : Option Int → Value
  | none => .nilIface
  | some c => .iface 0 (.int .i64 c)
theorem errW_none : errW none = .nilIface := rfl
theorem errW_some (c : Int) : errW (some c) = .iface 0 (.int .i64 c) := rfl
open Go.Proofs.YthfbogcpjfledaaGreatDoor.Gl in
theorem C_fields {gF1 gF2 : Bool} {w : World} (h : GL gF1 gF2 true w) : Kd.C Kd.string w (some ⟨0, 0, none⟩) 8 fieldsL := by
  refine ⟨rfl, by decide, fun _ => ⟨_, rfl, fun j p hp => ⟨[.string p], rfl, rfl, fun i u hu => ?_⟩⟩⟩
  match i, hu with
  | 0, hu =>
    obtain rfl : Value.string p = u := by simpa using hu
    have := h.fields rfl j p hp;by_cases e : j = 0
    · subst e; simpa [Addr.add, Kd.string, Kd.scalar] using this
    · simpa [Addr.add, Kd.string, Kd.scalar, e] using this
  | i + 1, hu => simp at hu
theorem at_tab {w : World} {g n : Nat} {xs : List ByteArray} (h : Kd.C Kd.string w (some ⟨g, 0, none⟩) n xs) (i : Int) (h0 : 0 ≤ i) (h1 : i < n) : ∃ ad, (some ⟨g, 0, none⟩ : Option Addr) = some ad ∧ w.cell? ⟨g, i.toNat, none⟩ = some (.string (rdOf ByteArray.empty xs i)) := by
  obtain ⟨ad, e, hc⟩ := Kd.at_string h i h0 h1
  cases e
  refine ⟨_, rfl, ?_⟩;by_cases e : i.toNat = 0
  · simpa [Addr.add, e] using hc
  · simpa [Addr.add, e] using hc
section
variable {P : Program} {ops : Array Oper} {rest : List Oper} {o : Oper} {a : Act} {Q : Exit → Act → World → Prop} {W : World}
theorem tab_event (hgd : o.guard = none) {N : Tmp} (hN : o.dst = some N) {v : Value} (hrun : (execOp a.eval o).run P W = .ok (.value v) W) (h : wpList P ops Q rest (a.put (some N) v) W) : wpList P ops Q (o :: rest) a W := by
  refine wpList_plain hgd fun K hK => ?_
  unfold Oper.wp;rw [hrun]
  show K (a.put o.dst v) W
  rw [hN];exact hK _ _ h
end
def fieldsA : Array Value := #[.string Go.Proofs.YthfbogcpjfledaaGreatDoor.Gl.fieldsL[0], .string Go.Proofs.YthfbogcpjfledaaGreatDoor.Gl.fieldsL[1], .string Go.Proofs.YthfbogcpjfledaaGreatDoor.Gl.fieldsL[2], .string Go.Proofs.YthfbogcpjfledaaGreatDoor.Gl.fieldsL[3], .string Go.Proofs.YthfbogcpjfledaaGreatDoor.Gl.fieldsL[4], .string Go.Proofs.YthfbogcpjfledaaGreatDoor.Gl.fieldsL[5], .string Go.Proofs.YthfbogcpjfledaaGreatDoor.Gl.fieldsL[6], .string Go.Proofs.YthfbogcpjfledaaGreatDoor.Gl.fieldsL[7]]
theorem tab_load0 {W : World} (h : Kd.C Kd.string W (some ⟨0, 0, none⟩) 8 Go.Proofs.YthfbogcpjfledaaGreatDoor.Gl.fieldsL) {o : Oper} (ho : o.op = .load 65 (.global 0)) {a : Act} : (execOp a.eval o).run Tryz.prog W = .ok (.value (.agg fieldsA)) W := by
  have hc : ∀ (i : Nat) (hi : i < 8), W.cell? ⟨0, i, none⟩ = some (.string Go.Proofs.YthfbogcpjfledaaGreatDoor.Gl.fieldsL[i]) := fun i hi => by
    obtain ⟨ad, _, hc⟩ := at_tab h (i : Int) (by omega) (by omega);rw [show ((i : Int)).toNat = i from rfl] at hc;rw [hc]
    congr 2
    unfold rdOf;rw [show ((i : Int)).toNat = i from rfl, List.getD_eq_getElem?_getD, List.getElem?_eq_getElem (show i < Go.Proofs.YthfbogcpjfledaaGreatDoor.Gl.fieldsL.length from hi)]; rfl
  have h0 := hc 0 (by omega);have h1 := hc 1 (by omega);have h2 := hc 2 (by omega);have h3 := hc 3 (by omega);have h4 := hc 4 (by omega);have h5 := hc 5 (by omega);have h6 := hc 6 (by omega);have h7 := hc 7 (by omega);clear h hc;unfold execOp;rw [ho];unfold fieldsA;generalize (Go.Proofs.YthfbogcpjfledaaGreatDoor.Gl.fieldsL[0] : ByteArray) = s0 at *;generalize (Go.Proofs.YthfbogcpjfledaaGreatDoor.Gl.fieldsL[1] : ByteArray) = s1 at *;generalize (Go.Proofs.YthfbogcpjfledaaGreatDoor.Gl.fieldsL[2] : ByteArray) = s2 at *;generalize (Go.Proofs.YthfbogcpjfledaaGreatDoor.Gl.fieldsL[3] : ByteArray) = s3 at *;generalize (Go.Proofs.YthfbogcpjfledaaGreatDoor.Gl.fieldsL[4] : ByteArray) = s4 at *;generalize (Go.Proofs.YthfbogcpjfledaaGreatDoor.Gl.fieldsL[5] : ByteArray) = s5 at *;generalize (Go.Proofs.YthfbogcpjfledaaGreatDoor.Gl.fieldsL[6] : ByteArray) = s6 at *;generalize (Go.Proofs.YthfbogcpjfledaaGreatDoor.Gl.fieldsL[7] : ByteArray) = s7 at *
  go_simp
theorem tab_index0 {W : World} {o : Oper} {x y : Operand} (ho : o.op = .index 65 x y) {a : Act} {i : Int} (hx : a.eval x = .agg fieldsA) (hy : a.eval y = .int .i64 i) (h0 : 0 ≤ i) (h1 : i < 8) : (execOp a.eval o).run Tryz.prog W = .ok (.value (.string (rdOf ByteArray.empty Go.Proofs.YthfbogcpjfledaaGreatDoor.Gl.fieldsL i))) W := by
  obtain ⟨n, rfl⟩ : ∃ n : Nat, i = n := ⟨i.toNat, by omega⟩
  have hn : n < 8 := by omega
  unfold execOp;rw [ho];simp only [hx, hy]
  have hor : n = 0 ∨ n = 1 ∨ n = 2 ∨ n = 3 ∨ n = 4 ∨ n = 5 ∨ n = 6 ∨ n = 7 := by omega
  have key : ∀ n : Nat, (n = 0 ∨ n = 1 ∨ n = 2 ∨ n = 3 ∨ n = 4 ∨ n = 5 ∨ n = 6 ∨ n = 7) → (Instr.index 65 (.agg fieldsA) (.int .i64 (n : Int))).run Tryz.prog W = .ok (.string (rdOf ByteArray.empty Go.Proofs.YthfbogcpjfledaaGreatDoor.Gl.fieldsL (n : Int))) W := by
    rintro n (rfl | rfl | rfl | rfl | rfl | rfl | rfl | rfl) <;> kernel_rfl
  have hk := key n hor;rw [Sem.run_bind, hk];rfl
theorem info9 : (Tryz.prog.info? 9).map (fun i => (i.zero, i.size, i.bytes)) = some (some (.string ⟨#[]⟩), 1, 16) := by kernel_rfl
theorem info62 : (Tryz.prog.info? 62).map (fun i => (i.zero, i.size, i.bytes)) = some (some (.agg #[(.slice none 0 0), (.string ⟨#[]⟩), (.string ⟨#[]⟩), (.string ⟨#[]⟩)]), 4, 72) := by kernel_rfl
-- the values' own types
structure S55 where
  f0 : (List ByteArray)
  f1 : ByteArray
  f2 : ByteArray
  f3 : ByteArray
def z55 : S55 := ⟨([] : List ByteArray), (⟨#[]⟩ : ByteArray), (⟨#[]⟩ : ByteArray), (⟨#[]⟩ : ByteArray)⟩
def k55 : Kd S55 := Kd.iso (Kd.pair (Kd.slice 9 Kd.string) (Kd.pair Kd.string (Kd.pair Kd.string Kd.string))) (fun x : S55 => (x.f0, x.f1, x.f2, x.f3))
theorem k55_open {w : World} {x : S55} {cs : List Value} (h : k55.K w x cs) : ∃ A0 c0, cs = [.slice A0 x.f0.length c0, .string x.f1, .string x.f2, .string x.f3] ∧ x.f0.length ≤ c0 ∧ Kd.string.C w A0 x.f0.length x.f0 := by
  obtain ⟨_, _, rfl, ⟨A0, c0, rfl, l0, g0⟩, ⟨_, _, rfl, rfl, ⟨_, _, rfl, rfl, rfl⟩⟩⟩ := h;exact ⟨A0, c0, rfl, l0, g0⟩
def rd_T55 (xs : List S55) (i : Int) : S55 := xs.getD i.toNat z55
theorem at_T55 {w : World} {A : Option Addr} {n : Nat} {xs : List S55} (h : Kd.C k55 w A n xs) (i : Int) (h0 : 0 ≤ i) (h1 : i < n) : ∃ ad A0 c0, A = some ad ∧ w.cell? (ad.add (i.toNat * 4)) = some (.slice A0 (rd_T55 xs i).f0.length c0) ∧ w.cell? ⟨(ad.add (i.toNat * 4)).block, (ad.add (i.toNat * 4)).off + 1, none⟩ = some (.string (rd_T55 xs i).f1) ∧ w.cell? ⟨(ad.add (i.toNat * 4)).block, (ad.add (i.toNat * 4)).off + 2, none⟩ = some (.string (rd_T55 xs i).f2) ∧ w.cell? ⟨(ad.add (i.toNat * 4)).block, (ad.add (i.toNat * 4)).off + 3, none⟩ = some (.string (rd_T55 xs i).f3) ∧ (rd_T55 xs i).f0.length ≤ c0 ∧ Kd.string.C w A0 (rd_T55 xs i).f0.length (rd_T55 xs i).f0 := by
  obtain ⟨ad, c, e, _, hK, d5⟩ := Kd.C_get h z55 i h0 h1;have hc : ∀ j u, c[j]? = some u → w.cell? (ad.add (i.toNat * 4 + j)) = some u := d5;obtain ⟨A0, c0, rfl, l0, g0⟩ := k55_open hK;exact ⟨ad, A0, c0, e, hc 0 _ rfl, by rw [← add_field _ _ 1 (by omega)]; exact hc 1 _ rfl, by rw [← add_field _ _ 2 (by omega)]; exact hc 2 _ rfl, by rw [← add_field _ _ 3 (by omega)]; exact hc 3 _ rfl, l0, g0⟩
structure S62 where
  f0 : (List ByteArray)
  f1 : ByteArray
  f2 : ByteArray
  f3 : ByteArray
def z62 : S62 := ⟨([] : List ByteArray), (⟨#[]⟩ : ByteArray), (⟨#[]⟩ : ByteArray), (⟨#[]⟩ : ByteArray)⟩
def k62 : Kd S62 := Kd.iso (Kd.pair (Kd.slice 9 Kd.string) (Kd.pair Kd.string (Kd.pair Kd.string Kd.string))) (fun x : S62 => (x.f0, x.f1, x.f2, x.f3))
theorem k62_open {w : World} {x : S62} {cs : List Value} (h : k62.K w x cs) : ∃ A0 c0, cs = [.slice A0 x.f0.length c0, .string x.f1, .string x.f2, .string x.f3] ∧ x.f0.length ≤ c0 ∧ Kd.string.C w A0 x.f0.length x.f0 := by
  obtain ⟨_, _, rfl, ⟨A0, c0, rfl, l0, g0⟩, ⟨_, _, rfl, rfl, ⟨_, _, rfl, rfl, rfl⟩⟩⟩ := h;exact ⟨A0, c0, rfl, l0, g0⟩
theorem k62_openM {w : World} {base : Nat} {ok : Nat → Prop} {x : S62} {cs : List Value} (h : k62.M w base ok x cs) : ∃ v0, cs = [v0, .string x.f1, .string x.f2, .string x.f3] ∧ Kd.string.R 9 w base ok v0 x.f0 := by
  obtain ⟨_, _, rfl, ⟨v0, rfl, g0⟩, ⟨_, _, rfl, rfl, ⟨_, _, rfl, rfl, rfl⟩⟩⟩ := h;exact ⟨v0, rfl, g0⟩
theorem k62_mkM (w : World) (base : Nat) (ok : Nat → Prop) (x : S62) {v0 : Value} (g0 : Kd.string.R 9 w base ok v0 x.f0) : k62.M w base ok x [v0, .string x.f1, .string x.f2, .string x.f3] := ⟨[v0], [.string x.f1, .string x.f2, .string x.f3], rfl, ⟨v0, rfl, g0⟩, ⟨[.string x.f1], [.string x.f2, .string x.f3], rfl, rfl, ⟨[.string x.f2], [.string x.f3], rfl, rfl, rfl⟩⟩⟩
def rd_T62 (xs : List S62) (i : Int) : S62 := xs.getD i.toNat z62
theorem at_T62 {w : World} {A : Option Addr} {n : Nat} {xs : List S62} (h : Kd.C k62 w A n xs) (i : Int) (h0 : 0 ≤ i) (h1 : i < n) : ∃ ad A0 c0, A = some ad ∧ w.cell? (ad.add (i.toNat * 4)) = some (.slice A0 (rd_T62 xs i).f0.length c0) ∧ w.cell? ⟨(ad.add (i.toNat * 4)).block, (ad.add (i.toNat * 4)).off + 1, none⟩ = some (.string (rd_T62 xs i).f1) ∧ w.cell? ⟨(ad.add (i.toNat * 4)).block, (ad.add (i.toNat * 4)).off + 2, none⟩ = some (.string (rd_T62 xs i).f2) ∧ w.cell? ⟨(ad.add (i.toNat * 4)).block, (ad.add (i.toNat * 4)).off + 3, none⟩ = some (.string (rd_T62 xs i).f3) ∧ (rd_T62 xs i).f0.length ≤ c0 ∧ Kd.string.C w A0 (rd_T62 xs i).f0.length (rd_T62 xs i).f0 := by
  obtain ⟨ad, c, e, _, hK, d5⟩ := Kd.C_get h z62 i h0 h1;have hc : ∀ j u, c[j]? = some u → w.cell? (ad.add (i.toNat * 4 + j)) = some u := d5;obtain ⟨A0, c0, rfl, l0, g0⟩ := k62_open hK;exact ⟨ad, A0, c0, e, hc 0 _ rfl, by rw [← add_field _ _ 1 (by omega)]; exact hc 1 _ rfl, by rw [← add_field _ _ 2 (by omega)]; exact hc 2 _ rfl, by rw [← add_field _ _ 3 (by omega)]; exact hc 3 _ rfl, l0, g0⟩
structure S32 where
  f0 : Int
  f1 : Int
  f2 : Int
  f3 : Bool
structure S34 where
  f0 : ByteArray
  f1 : Int
  f2 : (List S62)
  f3 : (List S62)
  f4 : ByteArray
  f5 : ByteArray
  f6 : ByteArray
  f7 : S32
  f8 : Int
  f9 : ByteArray
  f10 : ByteArray
structure S24 where
  f0 : Int
  f1 : Int
  f2 : Int
  f3 : Bool
def k24 : Kd S24 := Kd.iso (Kd.pair (Kd.int .i64) (Kd.pair (Kd.int .i64) (Kd.pair (Kd.int .i64) Kd.bool))) (fun x : S24 => (x.f0, x.f1, x.f2, x.f3))
theorem k24_open {w : World} {x : S24} {cs : List Value} (h : k24.K w x cs) : cs = [.int .i64 x.f0, .int .i64 x.f1, .int .i64 x.f2, .bool x.f3] := by
  obtain ⟨_, _, rfl, rfl, ⟨_, _, rfl, rfl, ⟨_, _, rfl, rfl, rfl⟩⟩⟩ := h;exact rfl
structure S26 where
  f0 : ByteArray
  f1 : Int
  f2 : (List S55)
  f3 : (List S55)
  f4 : ByteArray
  f5 : ByteArray
  f6 : ByteArray
  f7 : S24
  f8 : Int
  f9 : ByteArray
  f10 : ByteArray
def k26 : Kd S26 := Kd.iso (Kd.pair Kd.string (Kd.pair (Kd.int .i64) (Kd.pair (Kd.slice 55 k55) (Kd.pair (Kd.slice 55 k55) (Kd.pair Kd.string (Kd.pair Kd.string (Kd.pair Kd.string (Kd.pair k24 (Kd.pair (Kd.int .i64) (Kd.pair Kd.string Kd.string)))))))))) (fun x : S26 => (x.f0, x.f1, x.f2, x.f3, x.f4, x.f5, x.f6, x.f7, x.f8, x.f9, x.f10))
theorem k26_open {w : World} {x : S26} {cs : List Value} (h : k26.K w x cs) : ∃ A2 c2 A3 c3, cs = [.string x.f0, .int .i64 x.f1, .slice A2 x.f2.length c2, .slice A3 x.f3.length c3, .string x.f4, .string x.f5, .string x.f6, .int .i64 x.f7.f0, .int .i64 x.f7.f1, .int .i64 x.f7.f2, .bool x.f7.f3, .int .i64 x.f8, .string x.f9, .string x.f10] ∧ x.f2.length ≤ c2 ∧ k55.C w A2 x.f2.length x.f2 ∧ x.f3.length ≤ c3 ∧ k55.C w A3 x.f3.length x.f3 := by
  obtain ⟨_, _, rfl, rfl, ⟨_, _, rfl, rfl, ⟨_, _, rfl, ⟨A2, c2, rfl, l2, g2⟩, ⟨_, _, rfl, ⟨A3, c3, rfl, l3, g3⟩, ⟨_, _, rfl, rfl, ⟨_, _, rfl, rfl, ⟨_, _, rfl, rfl, ⟨_, _, rfl, s7, ⟨_, _, rfl, rfl, ⟨_, _, rfl, rfl, rfl⟩⟩⟩⟩⟩⟩⟩⟩⟩⟩ := h;obtain rfl := k24_open s7;exact ⟨A2, c2, A3, c3, rfl, l2, g2, l3, g3⟩
theorem bcl {w w' : World} {a : Addr} {v : Value} (hb : Below w.heap.size w w') (h : w.cell? a = some v) : w'.cell? a = some v := (hb.cell (World.block_lt_of_cell? w _ h)).trans h
theorem bsz {w0 w : World} {g : Nat} (hg : g = w.heap.size) (hb : Below w0.heap.size w0 w) : w0.heap.size ≤ g := hg ▸ hb.size
theorem bne {w : World} {g g' : Nat} {o : Obj} (hg : g' = w.heap.size) (h : w.heap[g]? = some o) : g ≠ g' := hg ▸ Nat.ne_of_lt (blk_lt h)
theorem ben {w : World} {g g' : Nat} {o : Obj} (hg : g' = w.heap.size) (h : w.heap[g]? = some o) : g' ≠ g := hg ▸ Nat.ne_of_gt (blk_lt h)
theorem pu_ {P : Program} {ops : Array Oper} {Q : Exit → Act → World → Prop} {md : Region.Mode} {S : World → Prop} {ds : List Nat} (i : Nat) (N : Option Tmp) {oi : Oper} {v : Value} {fuel : Nat} {l : Array Bool} {a : Act} {w : World} (l' : Array Bool) {T : Bool × List (List Nat × List Nat)} (hT : rtab md ops = T) {a' : Act}
    (h : wpAnyLast P md ops Q S ds fuel l' a' w) (hi : ops[i]? = some oi := by rfl) (hN : oi.dst = N := by rfl) (hc : anyT T l.toList l'.toList i = true := by kernel_rfl)
    (hQ : ∀ c a w, Q (.panic c) (a.put oi.dst v) w → Q (.panic c) a w := by exact fun _ _ _ h => h) (hy : Yields P ops oi v a := by exact Or.inl ⟨by rfl, by intro w'; go_simp; with_reducible rfl⟩) (ha : a.put N v = a' := by simp only [Act.put, List.setIfInBounds_toArray, List.set_cons_zero, List.set_cons_succ, i64_w, i32_w]; rfl) :
    wpAnyLast P md ops Q S ds (fuel + 1) l a w := pure_ l' hi hN (any_of hT hc) hQ hy ha h
theorem no_ {P : Program} {ops : Array Oper} {Q : Exit → Act → World → Prop} {md : Region.Mode} {S : World → Prop} {ds : List Nat} (N : Option Tmp) {v : Value} {fuel : Nat} {l : Array Bool} {a a' : Act} {w : World} (h : wpAnyLast P md ops Q S ds fuel l a' w) (ha : a.put N v = a' := by simp only [Act.put, List.setIfInBounds_toArray, List.set_cons_zero, List.set_cons_succ, i64_w, i32_w]; rfl) :
    wpAnyLast P md ops Q S ds fuel l (a.put N v) w := norm_ ha h
theorem on_ {P : Program} {ops : Array Oper} {Q : Exit → Act → World → Prop} {md : Region.Mode} {S : World → Prop} {ds : List Nat} (i : Nat) (N : Option Tmp) {oi : Oper} {fuel : Nat} {l : Array Bool} {a : Act} {w : World} (l' : Array Bool) {T : Bool × List (List Nat × List Nat)} (hT : rtab md ops = T)
    (h : ∀ K : Act → World → Prop, Shut (∀ a' w', S w' → (S w' → wpAnyLast P md ops Q S ds fuel l' a' w') → K a' w') → if Region.wanted oi (yielded ops a.tmps) = true then Oper.wp P oi a w K Q else K (a.put N undef) w)
    (hi : ops[i]? = some oi := by rfl) (hN : oi.dst = N := by rfl) (hc : (readyT T.2 l.toList == [i] && l.toList.set i true == l'.toList) = true := by kernel_rfl) (hd : i ∉ ds := by decide) :
    wpAnyLast P md ops Q S ds (fuel + 1) l a w := one_ l' hi hN (one_of hT hc) hd h
theorem gs_ {P : Program} {ops : Array Oper} {Q : Exit → Act → World → Prop} {oi : Oper} {N : Option Tmp} {a : Act} {w : World} {K : Act → World → Prop} {f : FuncId} {fn : Func} {as_ : Array Operand} {ts : Array TypeId} (hf : P.funcs[f]? = some fn) (args : Array Value)
    (h : Calls P f args w fun e w' => ∃ v, e = .returned v ∧ K (a.put N v) w') (hname : (fn.name == "runtime.NumGoroutine") = false := by kernel_rfl) (hb : fn.body.isSome = true := by rfl)
    (hw : Region.wanted oi (yielded ops a.tmps) = true := by rfl) (hN : oi.dst = N := by rfl) (hop : oi.op = .call { callee := .value (.func f), args := as_, argTypes := ts } := by rfl)
    (hargs : as_.map a.eval = args := by (try simp only [List.map_toArray, List.map_cons, List.map_nil]); first | done | rfl | (simp only [List.length_drop, List.length_take]; rfl)) : if Region.wanted oi (yielded ops a.tmps) = true then Oper.wp P oi a w K Q else K (a.put N undef) w :=
  goes_ hf hname hb args hw hN hop hargs h
theorem blkc4 {w : World} {g : Nat} {t : TypeId} {a0 a1 a2 a3 : Value} (h : w.heap[g]? = some (.cells #[a0, a1, a2, a3] t (0, 0))) : w.cell? ⟨g, 0, none⟩ = some a0 ∧ w.cell? ⟨g, 1, none⟩ = some a1 ∧ w.cell? ⟨g, 2, none⟩ = some a2 ∧ w.cell? ⟨g, 3, none⟩ = some a3 ∧ w.frozen? ⟨g, 0, none⟩ = false ∧ w.frozen? ⟨g, 1, none⟩ = false ∧ w.frozen? ⟨g, 2, none⟩ = false ∧ w.frozen? ⟨g, 3, none⟩ = false := ⟨blk_cell h 0, blk_cell h 1, blk_cell h 2, blk_cell h 3, blk_frozen h 0, blk_frozen h 1, blk_frozen h 2, blk_frozen h 3⟩
theorem blkc14 {w : World} {g : Nat} {t : TypeId} {a0 a1 a2 a3 a4 a5 a6 a7 a8 a9 cP cQ cR cS : Value} (h : w.heap[g]? = some (.cells #[a0, a1, a2, a3, a4, a5, a6, a7, a8, a9, cP, cQ, cR, cS] t (0, 0))) : w.cell? ⟨g, 0, none⟩ = some a0 ∧ w.cell? ⟨g, 1, none⟩ = some a1 ∧ w.cell? ⟨g, 2, none⟩ = some a2 ∧ w.cell? ⟨g, 3, none⟩ = some a3 ∧ w.cell? ⟨g, 4, none⟩ = some a4 ∧ w.cell? ⟨g, 5, none⟩ = some a5 ∧ w.cell? ⟨g, 6, none⟩ = some a6 ∧ w.cell? ⟨g, 7, none⟩ = some a7 ∧ w.cell? ⟨g, 8, none⟩ = some a8 ∧ w.cell? ⟨g, 9, none⟩ = some a9 ∧ w.cell? ⟨g, 10, none⟩ = some cP ∧ w.cell? ⟨g, 11, none⟩ = some cQ ∧ w.cell? ⟨g, 12, none⟩ = some cR ∧ w.cell? ⟨g, 13, none⟩ = some cS ∧ w.frozen? ⟨g, 0, none⟩ = false ∧ w.frozen? ⟨g, 1, none⟩ = false ∧ w.frozen? ⟨g, 2, none⟩ = false ∧ w.frozen? ⟨g, 3, none⟩ = false ∧ w.frozen? ⟨g, 4, none⟩ = false ∧ w.frozen? ⟨g, 5, none⟩ = false ∧ w.frozen? ⟨g, 6, none⟩ = false ∧ w.frozen? ⟨g, 7, none⟩ = false ∧ w.frozen? ⟨g, 8, none⟩ = false ∧ w.frozen? ⟨g, 9, none⟩ = false ∧ w.frozen? ⟨g, 10, none⟩ = false ∧ w.frozen? ⟨g, 11, none⟩ = false ∧ w.frozen? ⟨g, 12, none⟩ = false ∧ w.frozen? ⟨g, 13, none⟩ = false := ⟨blk_cell h 0, blk_cell h 1, blk_cell h 2, blk_cell h 3, blk_cell h 4, blk_cell h 5, blk_cell h 6, blk_cell h 7, blk_cell h 8, blk_cell h 9, blk_cell h 10, blk_cell h 11, blk_cell h 12, blk_cell h 13, blk_frozen h 0, blk_frozen h 1, blk_frozen h 2, blk_frozen h 3, blk_frozen h 4, blk_frozen h 5, blk_frozen h 6, blk_frozen h 7, blk_frozen h 8, blk_frozen h 9, blk_frozen h 10, blk_frozen h 11, blk_frozen h 12, blk_frozen h 13⟩
theorem ta0_ {P : Program} {ops : Array Oper} {Q : Exit → Act → World → Prop} {md : Region.Mode} {S : World → Prop} {ds : List Nat} (i : Nat) (N : Option Tmp) {oi : Oper} {v : Value} {fuel : Nat} {l : Array Bool} {a : Act} {w : World} (l' : Array Bool) {T : Bool × List (List Nat × List Nat)} {B : List Nat} (hT : rtab md ops = T) (hB : waitsOk T.2 B = true) (hS : S w) {a' : Act}
    (h : wpAnyLast P md ops Q S ds fuel l' a' w) (hi : ops[i]? = some oi := by rfl) (hN : oi.dst = N := by rfl) (hc : takeW T B ds l.toList l'.toList i = true := by kernel_rfl)
    (hQ : ∀ c a w, Q (.panic c) (a.put oi.dst v) w → Q (.panic c) a w := by exact fun _ _ _ h => h) (hy : YieldsIf P ops S oi v a := by exact Or.inl ⟨by rfl, by rintro w' ⟨s0, s1, s2, s3, s4, s5, s6, s7, s8, s9, Ad, Ae, Af, Ag, Ah⟩; go_simp; with_reducible rfl⟩) (ha : a.put N v = a' := by simp only [Act.put, List.setIfInBounds_toArray, List.set_cons_zero, List.set_cons_succ, i64_w, i32_w]; rfl) :
    wpAnyLast P md ops Q S ds (fuel + 1) l a w := take_ l' hi hN (take_ofW hT hB hc) hQ hy hS ha h
theorem ta1_ {P : Program} {ops : Array Oper} {Q : Exit → Act → World → Prop} {md : Region.Mode} {S : World → Prop} {ds : List Nat} (i : Nat) (N : Option Tmp) {oi : Oper} {v : Value} {fuel : Nat} {l : Array Bool} {a : Act} {w : World} (l' : Array Bool) {T : Bool × List (List Nat × List Nat)} {B : List Nat} (hT : rtab md ops = T) (hB : waitsOk T.2 B = true) (hS : S w) {a' : Act}
    (h : wpAnyLast P md ops Q S ds fuel l' a' w) (hi : ops[i]? = some oi := by rfl) (hN : oi.dst = N := by rfl) (hc : takeW T B ds l.toList l'.toList i = true := by kernel_rfl)
    (hQ : ∀ c a w, Q (.panic c) (a.put oi.dst v) w → Q (.panic c) a w := by exact fun _ _ _ h => h) (hy : YieldsIf P ops S oi v a := by exact Or.inl ⟨by rfl, by rintro w' ⟨s0, s1, s2, s3, s4, s5, s6, s7⟩; go_simp; with_reducible rfl⟩) (ha : a.put N v = a' := by simp only [Act.put, List.setIfInBounds_toArray, List.set_cons_zero, List.set_cons_succ, i64_w, i32_w]; rfl) :
    wpAnyLast P md ops Q S ds (fuel + 1) l a w := take_ l' hi hN (take_ofW hT hB hc) hQ hy hS ha h
theorem ta2_ {P : Program} {ops : Array Oper} {Q : Exit → Act → World → Prop} {md : Region.Mode} {S : World → Prop} {ds : List Nat} (i : Nat) (N : Option Tmp) {oi : Oper} {v : Value} {fuel : Nat} {l : Array Bool} {a : Act} {w : World} (l' : Array Bool) {T : Bool × List (List Nat × List Nat)} {B : List Nat} (hT : rtab md ops = T) (hB : waitsOk T.2 B = true) (hS : S w) {a' : Act}
    (h : wpAnyLast P md ops Q S ds fuel l' a' w) (hi : ops[i]? = some oi := by rfl) (hN : oi.dst = N := by rfl) (hc : takeW T B ds l.toList l'.toList i = true := by kernel_rfl)
    (hQ : ∀ c a w, Q (.panic c) (a.put oi.dst v) w → Q (.panic c) a w := by exact fun _ _ _ h => h) (hy : YieldsIf P ops S oi v a := by exact Or.inl ⟨by rfl, by rintro w' ⟨s0, s1, s2, s3, s4, s5, s6, s7, s8, s9, Ad, Ae, Af, Ag, Ah, EO, EP, EQ, ER, ES, ET, EU, EV, EW, EX, EY, EZ, F0⟩; go_simp; with_reducible rfl⟩) (ha : a.put N v = a' := by simp only [Act.put, List.setIfInBounds_toArray, List.set_cons_zero, List.set_cons_succ, i64_w, i32_w]; rfl) :
    wpAnyLast P md ops Q S ds (fuel + 1) l a w := take_ l' hi hN (take_ofW hT hB hc) hQ hy hS ha h
theorem au0 {P : Prop} (h : P := by (with_reducible repeat (first | apply Kd.S_alloc | apply Kd.S_drewN | apply Kd.S_drew)); exact (Kd.S_mono (Kd.S_far (p := ⟨bc, 13, none⟩) (Kd.S_far (p := ⟨bc, 12, none⟩) (Kd.S_far (p := ⟨bc, 11, none⟩) (Kd.S_far (p := ⟨bc, 10, none⟩) (Kd.S_far (p := ⟨bc, 9, none⟩) (Kd.S_far (p := ⟨bc, 8, none⟩) (Kd.S_far (p := ⟨bc, 7, none⟩) (Kd.S_far (p := ⟨bc, 6, none⟩) (Kd.S_far (p := ⟨bc, 5, none⟩) (Kd.S_far (p := ⟨bc, 4, none⟩) (Kd.S_far (p := ⟨bc, 3, none⟩) (Kd.S_far (p := ⟨bc, 2, none⟩) (Kd.S_far (p := ⟨bc, 1, none⟩) (Kd.S_far (p := ⟨bc, 0, none⟩) (Kd.S_types iA.out bo.out (by decide)) (fun _ hk => hk.2) (.string cF)) (fun _ hk => hk.2) (.int .i64 cJ)) (fun _ hk => hk.2) (.slice cv bQ.length cq)) (fun _ hk => hk.2) (.slice cy bR.length cw)) (fun _ hk => hk.2) (.string cU)) (fun _ hk => hk.2) (.string cX)) (fun _ hk => hk.2) (.string d1)) (fun _ hk => hk.2) (.int .i64 d3)) (fun _ hk => hk.2) (.int .i64 d7)) (fun _ hk => hk.2) (.int .i64 d9)) (fun _ hk => hk.2) (.bool dj)) (fun _ hk => hk.2) (.int .i64 dv)) (fun _ hk => hk.2) (.string dB)) (fun _ hk => hk.2) (.string dE)) (fun _ h_ => h_.1))) : P := h
theorem au1 {P : Prop} (h : P := by (with_reducible repeat (first | apply Kd.S_alloc | apply Kd.S_drewN | apply Kd.S_drew)); exact (Kd.S_mono (Kd.S_far (p := ⟨bc, 13, none⟩) (Kd.S_far (p := ⟨bc, 12, none⟩) (Kd.S_far (p := ⟨bc, 11, none⟩) (Kd.S_far (p := ⟨bc, 10, none⟩) (Kd.S_far (p := ⟨bc, 9, none⟩) (Kd.S_far (p := ⟨bc, 8, none⟩) (Kd.S_far (p := ⟨bc, 7, none⟩) (Kd.S_far (p := ⟨bc, 6, none⟩) (Kd.S_far (p := ⟨bc, 5, none⟩) (Kd.S_far (p := ⟨bc, 4, none⟩) (Kd.S_far (p := ⟨bc, 3, none⟩) (Kd.S_far (p := ⟨bc, 2, none⟩) (Kd.S_far (p := ⟨bc, 1, none⟩) (Kd.S_far (p := ⟨bc, 0, none⟩) (Kd.S_types iB.out bo.out (by decide)) (fun _ hk => hk.2) (.string cF)) (fun _ hk => hk.2) (.int .i64 cJ)) (fun _ hk => hk.2) (.slice cv bQ.length cq)) (fun _ hk => hk.2) (.slice cy bR.length cw)) (fun _ hk => hk.2) (.string cU)) (fun _ hk => hk.2) (.string cX)) (fun _ hk => hk.2) (.string d1)) (fun _ hk => hk.2) (.int .i64 d3)) (fun _ hk => hk.2) (.int .i64 d7)) (fun _ hk => hk.2) (.int .i64 d9)) (fun _ hk => hk.2) (.bool dj)) (fun _ hk => hk.2) (.int .i64 dv)) (fun _ hk => hk.2) (.string dB)) (fun _ hk => hk.2) (.string dE)) (fun _ h_ => h_.1))) : P := h
theorem au2 {P : Prop} (h : P := by (with_reducible repeat (first | apply Kd.S_alloc | apply Kd.S_drewN | apply Kd.S_drew)); exact (Kd.S_mono (Kd.S_far (p := ⟨bc, 13, none⟩) (Kd.S_far (p := ⟨bc, 12, none⟩) (Kd.S_far (p := ⟨bc, 11, none⟩) (Kd.S_far (p := ⟨bc, 10, none⟩) (Kd.S_far (p := ⟨bc, 9, none⟩) (Kd.S_far (p := ⟨bc, 8, none⟩) (Kd.S_far (p := ⟨bc, 7, none⟩) (Kd.S_far (p := ⟨bc, 6, none⟩) (Kd.S_far (p := ⟨bc, 5, none⟩) (Kd.S_far (p := ⟨bc, 4, none⟩) (Kd.S_far (p := ⟨bc, 3, none⟩) (Kd.S_far (p := ⟨bc, 2, none⟩) (Kd.S_far (p := ⟨bc, 1, none⟩) (Kd.S_far (p := ⟨bc, 0, none⟩) (Kd.S_types ju.out bo.out (by decide)) (fun _ hk => hk.2) (.string cF)) (fun _ hk => hk.2) (.int .i64 cJ)) (fun _ hk => hk.2) (.slice cv bQ.length cq)) (fun _ hk => hk.2) (.slice cy bR.length cw)) (fun _ hk => hk.2) (.string cU)) (fun _ hk => hk.2) (.string cX)) (fun _ hk => hk.2) (.string d1)) (fun _ hk => hk.2) (.int .i64 d3)) (fun _ hk => hk.2) (.int .i64 d7)) (fun _ hk => hk.2) (.int .i64 d9)) (fun _ hk => hk.2) (.bool dj)) (fun _ hk => hk.2) (.int .i64 dv)) (fun _ hk => hk.2) (.string dB)) (fun _ hk => hk.2) (.string dE)) (fun _ h_ => h_.1))) : P := h
theorem au3 {P : Prop} (h : P := by (with_reducible repeat (first | apply Kd.S_alloc | apply Kd.S_drewN | apply Kd.S_drew)); exact (Kd.S_mono (Kd.S_far (p := ⟨bc, 13, none⟩) (Kd.S_far (p := ⟨bc, 12, none⟩) (Kd.S_far (p := ⟨bc, 11, none⟩) (Kd.S_far (p := ⟨bc, 10, none⟩) (Kd.S_far (p := ⟨bc, 9, none⟩) (Kd.S_far (p := ⟨bc, 8, none⟩) (Kd.S_far (p := ⟨bc, 7, none⟩) (Kd.S_far (p := ⟨bc, 6, none⟩) (Kd.S_far (p := ⟨bc, 5, none⟩) (Kd.S_far (p := ⟨bc, 4, none⟩) (Kd.S_far (p := ⟨bc, 3, none⟩) (Kd.S_far (p := ⟨bc, 2, none⟩) (Kd.S_far (p := ⟨bc, 1, none⟩) (Kd.S_far (p := ⟨bc, 0, none⟩) (Kd.S_types jv.out bo.out (by decide)) (fun _ hk => hk.2) (.string cF)) (fun _ hk => hk.2) (.int .i64 cJ)) (fun _ hk => hk.2) (.slice cv bQ.length cq)) (fun _ hk => hk.2) (.slice cy bR.length cw)) (fun _ hk => hk.2) (.string cU)) (fun _ hk => hk.2) (.string cX)) (fun _ hk => hk.2) (.string d1)) (fun _ hk => hk.2) (.int .i64 d3)) (fun _ hk => hk.2) (.int .i64 d7)) (fun _ hk => hk.2) (.int .i64 d9)) (fun _ hk => hk.2) (.bool dj)) (fun _ hk => hk.2) (.int .i64 dv)) (fun _ hk => hk.2) (.string dB)) (fun _ hk => hk.2) (.string dE)) (fun _ h_ => h_.1))) : P := h
theorem au4 {P : Prop} (h : P := by (with_reducible repeat (first | apply Kd.R_alloc | apply Kd.R_drewN | apply Kd.R_drew)); exact (Kd.R_mono (Kd.R_far (p := ⟨bc, 13, none⟩) (Kd.R_far (p := ⟨bc, 12, none⟩) (Kd.R_far (p := ⟨bc, 11, none⟩) (Kd.R_far (p := ⟨bc, 10, none⟩) (Kd.R_far (p := ⟨bc, 9, none⟩) (Kd.R_far (p := ⟨bc, 8, none⟩) (Kd.R_far (p := ⟨bc, 7, none⟩) (Kd.R_far (p := ⟨bc, 6, none⟩) (Kd.R_far (p := ⟨bc, 5, none⟩) (Kd.R_far (p := ⟨bc, 4, none⟩) (Kd.R_far (p := ⟨bc, 3, none⟩) (Kd.R_far (p := ⟨bc, 2, none⟩) (Kd.R_far (p := ⟨bc, 1, none⟩) (Kd.R_far (p := ⟨bc, 0, none⟩) (Kd.R_types fN.out bo.out (by decide)) (fun _ hk => hk.2) (.string cF)) (fun _ hk => hk.2) (.int .i64 cJ)) (fun _ hk => hk.2) (.slice cv bQ.length cq)) (fun _ hk => hk.2) (.slice cy bR.length cw)) (fun _ hk => hk.2) (.string cU)) (fun _ hk => hk.2) (.string cX)) (fun _ hk => hk.2) (.string d1)) (fun _ hk => hk.2) (.int .i64 d3)) (fun _ hk => hk.2) (.int .i64 d7)) (fun _ hk => hk.2) (.int .i64 d9)) (fun _ hk => hk.2) (.bool dj)) (fun _ hk => hk.2) (.int .i64 dv)) (fun _ hk => hk.2) (.string dB)) (fun _ hk => hk.2) (.string dE)) (fun _ h_ => h_.1))) : P := h
theorem au5 {P : Prop} (h : P := by (with_reducible repeat (first | apply Kd.S_alloc | apply Kd.S_drewN | apply Kd.S_drew)); exact (Kd.S_mono (Kd.S_far (p := ⟨bc, 13, none⟩) (Kd.S_far (p := ⟨bc, 12, none⟩) (Kd.S_far (p := ⟨bc, 11, none⟩) (Kd.S_far (p := ⟨bc, 10, none⟩) (Kd.S_far (p := ⟨bc, 9, none⟩) (Kd.S_far (p := ⟨bc, 8, none⟩) (Kd.S_far (p := ⟨bc, 7, none⟩) (Kd.S_far (p := ⟨bc, 6, none⟩) (Kd.S_far (p := ⟨bc, 5, none⟩) (Kd.S_far (p := ⟨bc, 4, none⟩) (Kd.S_far (p := ⟨bc, 3, none⟩) (Kd.S_far (p := ⟨bc, 2, none⟩) (Kd.S_far (p := ⟨bc, 1, none⟩) (Kd.S_far (p := ⟨bc, 0, none⟩) (Kd.S_types kM.out bo.out (by decide)) (fun _ hk => hk.2) (.string cF)) (fun _ hk => hk.2) (.int .i64 cJ)) (fun _ hk => hk.2) (.slice cv bQ.length cq)) (fun _ hk => hk.2) (.slice cy bR.length cw)) (fun _ hk => hk.2) (.string cU)) (fun _ hk => hk.2) (.string cX)) (fun _ hk => hk.2) (.string d1)) (fun _ hk => hk.2) (.int .i64 d3)) (fun _ hk => hk.2) (.int .i64 d7)) (fun _ hk => hk.2) (.int .i64 d9)) (fun _ hk => hk.2) (.bool dj)) (fun _ hk => hk.2) (.int .i64 dv)) (fun _ hk => hk.2) (.string dB)) (fun _ hk => hk.2) (.string dE)) (fun _ h_ => h_.1))) : P := h
theorem au6 {P : Prop} (h : P := by (with_reducible repeat (first | apply Kd.S_alloc | apply Kd.S_drewN | apply Kd.S_drew)); exact (Kd.S_mono (Kd.S_far (p := ⟨bc, 13, none⟩) (Kd.S_far (p := ⟨bc, 12, none⟩) (Kd.S_far (p := ⟨bc, 11, none⟩) (Kd.S_far (p := ⟨bc, 10, none⟩) (Kd.S_far (p := ⟨bc, 9, none⟩) (Kd.S_far (p := ⟨bc, 8, none⟩) (Kd.S_far (p := ⟨bc, 7, none⟩) (Kd.S_far (p := ⟨bc, 6, none⟩) (Kd.S_far (p := ⟨bc, 5, none⟩) (Kd.S_far (p := ⟨bc, 4, none⟩) (Kd.S_far (p := ⟨bc, 3, none⟩) (Kd.S_far (p := ⟨bc, 2, none⟩) (Kd.S_far (p := ⟨bc, 1, none⟩) (Kd.S_far (p := ⟨bc, 0, none⟩) (Kd.S_types kN.out bo.out (by decide)) (fun _ hk => hk.2) (.string cF)) (fun _ hk => hk.2) (.int .i64 cJ)) (fun _ hk => hk.2) (.slice cv bQ.length cq)) (fun _ hk => hk.2) (.slice cy bR.length cw)) (fun _ hk => hk.2) (.string cU)) (fun _ hk => hk.2) (.string cX)) (fun _ hk => hk.2) (.string d1)) (fun _ hk => hk.2) (.int .i64 d3)) (fun _ hk => hk.2) (.int .i64 d7)) (fun _ hk => hk.2) (.int .i64 d9)) (fun _ hk => hk.2) (.bool dj)) (fun _ hk => hk.2) (.int .i64 dv)) (fun _ hk => hk.2) (.string dB)) (fun _ hk => hk.2) (.string dE)) (fun _ h_ => h_.1))) : P := h
theorem au7 {P : Prop} (h : P := by (with_reducible repeat (first | apply Kd.S_alloc | apply Kd.S_drewN | apply Kd.S_drew)); exact (Kd.S_mono (Kd.S_far (p := ⟨aK, 13, none⟩) (Kd.S_far (p := ⟨aK, 12, none⟩) (Kd.S_far (p := ⟨aK, 11, none⟩) (Kd.S_far (p := ⟨aK, 10, none⟩) (Kd.S_far (p := ⟨aK, 9, none⟩) (Kd.S_far (p := ⟨aK, 8, none⟩) (Kd.S_far (p := ⟨aK, 7, none⟩) (Kd.S_far (p := ⟨aK, 6, none⟩) (Kd.S_far (p := ⟨aK, 5, none⟩) (Kd.S_far (p := ⟨aK, 4, none⟩) (Kd.S_far (p := ⟨aK, 3, none⟩) (Kd.S_far (p := ⟨aK, 2, none⟩) (Kd.S_far (p := ⟨aK, 1, none⟩) (Kd.S_far (p := ⟨aK, 0, none⟩) (Kd.S_types kM.out bq.out (by decide)) (fun _ hk => hk.2) (.string cK)) (fun _ hk => hk.2) (.int .i64 cN)) (fun _ hk => hk.2) (.slice cr bS.length co)) (fun _ hk => hk.2) (.slice cx bU.length ct)) (fun _ hk => hk.2) (.string cY)) (fun _ hk => hk.2) (.string d2)) (fun _ hk => hk.2) (.string d4)) (fun _ hk => hk.2) (.int .i64 d8)) (fun _ hk => hk.2) (.int .i64 da)) (fun _ hk => hk.2) (.int .i64 dl)) (fun _ hk => hk.2) (.bool dw)) (fun _ hk => hk.2) (.int .i64 dC)) (fun _ hk => hk.2) (.string dF)) (fun _ hk => hk.2) (.string dK)) (fun _ h_ => h_.1))) : P := h
theorem au8 {P : Prop} (h : P := by (with_reducible repeat (first | apply Kd.S_alloc | apply Kd.S_drewN | apply Kd.S_drew)); exact (Kd.S_mono (Kd.S_far (p := ⟨aK, 13, none⟩) (Kd.S_far (p := ⟨aK, 12, none⟩) (Kd.S_far (p := ⟨aK, 11, none⟩) (Kd.S_far (p := ⟨aK, 10, none⟩) (Kd.S_far (p := ⟨aK, 9, none⟩) (Kd.S_far (p := ⟨aK, 8, none⟩) (Kd.S_far (p := ⟨aK, 7, none⟩) (Kd.S_far (p := ⟨aK, 6, none⟩) (Kd.S_far (p := ⟨aK, 5, none⟩) (Kd.S_far (p := ⟨aK, 4, none⟩) (Kd.S_far (p := ⟨aK, 3, none⟩) (Kd.S_far (p := ⟨aK, 2, none⟩) (Kd.S_far (p := ⟨aK, 1, none⟩) (Kd.S_far (p := ⟨aK, 0, none⟩) (Kd.S_types kN.out bq.out (by decide)) (fun _ hk => hk.2) (.string cK)) (fun _ hk => hk.2) (.int .i64 cN)) (fun _ hk => hk.2) (.slice cr bS.length co)) (fun _ hk => hk.2) (.slice cx bU.length ct)) (fun _ hk => hk.2) (.string cY)) (fun _ hk => hk.2) (.string d2)) (fun _ hk => hk.2) (.string d4)) (fun _ hk => hk.2) (.int .i64 d8)) (fun _ hk => hk.2) (.int .i64 da)) (fun _ hk => hk.2) (.int .i64 dl)) (fun _ hk => hk.2) (.bool dw)) (fun _ hk => hk.2) (.int .i64 dC)) (fun _ hk => hk.2) (.string dF)) (fun _ hk => hk.2) (.string dK)) (fun _ h_ => h_.1))) : P := h
theorem au9 {P : Prop} (h : P := by (with_reducible repeat (first | apply Kd.S_alloc | apply Kd.S_drewN | apply Kd.S_drew)); exact (Kd.S_mono (Kd.S_far (p := ⟨aK, 13, none⟩) (Kd.S_far (p := ⟨aK, 12, none⟩) (Kd.S_far (p := ⟨aK, 11, none⟩) (Kd.S_far (p := ⟨aK, 10, none⟩) (Kd.S_far (p := ⟨aK, 9, none⟩) (Kd.S_far (p := ⟨aK, 8, none⟩) (Kd.S_far (p := ⟨aK, 7, none⟩) (Kd.S_far (p := ⟨aK, 6, none⟩) (Kd.S_far (p := ⟨aK, 5, none⟩) (Kd.S_far (p := ⟨aK, 4, none⟩) (Kd.S_far (p := ⟨aK, 3, none⟩) (Kd.S_far (p := ⟨aK, 2, none⟩) (Kd.S_far (p := ⟨aK, 1, none⟩) (Kd.S_far (p := ⟨aK, 0, none⟩) (Kd.S_types pV.out bq.out (by decide)) (fun _ hk => hk.2) (.string cK)) (fun _ hk => hk.2) (.int .i64 cN)) (fun _ hk => hk.2) (.slice cr bS.length co)) (fun _ hk => hk.2) (.slice cx bU.length ct)) (fun _ hk => hk.2) (.string cY)) (fun _ hk => hk.2) (.string d2)) (fun _ hk => hk.2) (.string d4)) (fun _ hk => hk.2) (.int .i64 d8)) (fun _ hk => hk.2) (.int .i64 da)) (fun _ hk => hk.2) (.int .i64 dl)) (fun _ hk => hk.2) (.bool dw)) (fun _ hk => hk.2) (.int .i64 dC)) (fun _ hk => hk.2) (.string dF)) (fun _ hk => hk.2) (.string dK)) (fun _ h_ => h_.1))) : P := h
theorem au10 {P : Prop} (h : P := by (with_reducible repeat (first | apply Kd.S_alloc | apply Kd.S_drewN | apply Kd.S_drew)); exact (Kd.S_mono (Kd.S_far (p := ⟨aK, 13, none⟩) (Kd.S_far (p := ⟨aK, 12, none⟩) (Kd.S_far (p := ⟨aK, 11, none⟩) (Kd.S_far (p := ⟨aK, 10, none⟩) (Kd.S_far (p := ⟨aK, 9, none⟩) (Kd.S_far (p := ⟨aK, 8, none⟩) (Kd.S_far (p := ⟨aK, 7, none⟩) (Kd.S_far (p := ⟨aK, 6, none⟩) (Kd.S_far (p := ⟨aK, 5, none⟩) (Kd.S_far (p := ⟨aK, 4, none⟩) (Kd.S_far (p := ⟨aK, 3, none⟩) (Kd.S_far (p := ⟨aK, 2, none⟩) (Kd.S_far (p := ⟨aK, 1, none⟩) (Kd.S_far (p := ⟨aK, 0, none⟩) (Kd.S_types pW.out bq.out (by decide)) (fun _ hk => hk.2) (.string cK)) (fun _ hk => hk.2) (.int .i64 cN)) (fun _ hk => hk.2) (.slice cr bS.length co)) (fun _ hk => hk.2) (.slice cx bU.length ct)) (fun _ hk => hk.2) (.string cY)) (fun _ hk => hk.2) (.string d2)) (fun _ hk => hk.2) (.string d4)) (fun _ hk => hk.2) (.int .i64 d8)) (fun _ hk => hk.2) (.int .i64 da)) (fun _ hk => hk.2) (.int .i64 dl)) (fun _ hk => hk.2) (.bool dw)) (fun _ hk => hk.2) (.int .i64 dC)) (fun _ hk => hk.2) (.string dF)) (fun _ hk => hk.2) (.string dK)) (fun _ h_ => h_.1))) : P := h
theorem au11 {P : Prop} (h : P := by (with_reducible repeat (first | apply Kd.R_alloc | apply Kd.R_drewN | apply Kd.R_drew)); exact (Kd.R_mono (Kd.R_far (p := ⟨aK, 13, none⟩) (Kd.R_far (p := ⟨aK, 12, none⟩) (Kd.R_far (p := ⟨aK, 11, none⟩) (Kd.R_far (p := ⟨aK, 10, none⟩) (Kd.R_far (p := ⟨aK, 9, none⟩) (Kd.R_far (p := ⟨aK, 8, none⟩) (Kd.R_far (p := ⟨aK, 7, none⟩) (Kd.R_far (p := ⟨aK, 6, none⟩) (Kd.R_far (p := ⟨aK, 5, none⟩) (Kd.R_far (p := ⟨aK, 4, none⟩) (Kd.R_far (p := ⟨aK, 3, none⟩) (Kd.R_far (p := ⟨aK, 2, none⟩) (Kd.R_far (p := ⟨aK, 1, none⟩) (Kd.R_far (p := ⟨aK, 0, none⟩) (Kd.R_types fN.out bq.out (by decide)) (fun _ hk => hk.2) (.string cK)) (fun _ hk => hk.2) (.int .i64 cN)) (fun _ hk => hk.2) (.slice cr bS.length co)) (fun _ hk => hk.2) (.slice cx bU.length ct)) (fun _ hk => hk.2) (.string cY)) (fun _ hk => hk.2) (.string d2)) (fun _ hk => hk.2) (.string d4)) (fun _ hk => hk.2) (.int .i64 d8)) (fun _ hk => hk.2) (.int .i64 da)) (fun _ hk => hk.2) (.int .i64 dl)) (fun _ hk => hk.2) (.bool dw)) (fun _ hk => hk.2) (.int .i64 dC)) (fun _ hk => hk.2) (.string dF)) (fun _ hk => hk.2) (.string dK)) (fun _ h_ => h_.1))) : P := h
theorem au12 {P : Prop} (h : P := by first | exact HG.out | (refine HG.out.drawn ?_; (repeat (first | exact Drawn0.refl _ | apply Drawn0.step)); done) | (refine HG.out.below ?_; (repeat (first | (with_reducible first | exact HB.out | apply below_alloc | apply pw_below_drewN | apply below_drew1 | refine below_set ?_ (by first | assumption | exact Aside0.out (by assumption))) | exact HB.out)); done)) : P := h
theorem au13 {P : Prop} (h : P := by repeat (first | (with_reducible first | exact HB.out | apply below_alloc | apply pw_below_drewN | apply below_drew1 | refine below_set ?_ eY.out | refine below_set ?_ fB.out | refine below_set ?_ iC.out | refine below_set ?_ jw.out) | exact HB.out)) : P := h
theorem au14 {P : Prop} (h : P := by (with_reducible repeat (first | apply Kd.S_alloc | apply Kd.S_drewN | apply Kd.S_drew)); exact (Kd.S_mono (Kd.S_far (p := ⟨dL, 2, none⟩) (Kd.S_types vC.out gD.out (by decide)) (fun _ hk => hk.2) (.slice eS ej.length eT)) (fun _ h_ => h_.1))) : P := h
theorem au15 {P : Prop} (h : P := by repeat (first | (with_reducible first | exact HB.out | apply below_alloc | apply pw_below_drewN | apply below_drew1 | refine below_set ?_ F9.out | refine below_set ?_ Mf.out | refine below_set ?_ Re.out) | exact HB.out)) : P := h
theorem au16 {P : Prop} (h : P := by repeat (first | (with_reducible first | exact HB.out | apply below_alloc | apply pw_below_drewN | apply below_drew1 | refine below_set ?_ Fa.out | refine below_set ?_ Mg.out | refine below_set ?_ Rf.out) | exact HB.out)) : P := h
theorem au17 {P : Prop} (h : P := by repeat (first | (with_reducible first | exact HB.out | apply below_alloc | apply pw_below_drewN | apply below_drew1 | refine below_set ?_ eY.out | refine below_set ?_ fB.out | refine below_set ?_ iC.out) | exact HB.out)) : P := h
theorem au18 {P : Prop} (h : P := by (try simp only [List.map_toArray, List.map_cons, List.map_nil]); first | done | (rw [show ff.length = cG.length from (Kd.R_reads' bF.out).1.symm] <;> rfl) | rfl | (simp only [List.length_drop, List.length_take]; rfl)) : P := h
theorem au19 {P : Prop} (h : P := by repeat (first | (with_reducible first | exact HB.out | apply below_alloc | apply pw_below_drewN | apply below_drew1 | refine below_set ?_ iE.out | refine below_set ?_ jx.out) | exact HB.out)) : P := h
theorem au20 {P : Prop} (h : P := by repeat (first | (with_reducible first | exact HB.out | apply below_alloc | apply pw_below_drewN | apply below_drew1 | refine below_set ?_ F9.out | refine below_set ?_ Mf.out) | exact HB.out)) : P := h
theorem au21 {P : Prop} (h : P := by repeat (first | (with_reducible first | exact HB.out | apply below_alloc | apply pw_below_drewN | apply below_drew1 | refine below_set ?_ Mh.out | refine below_set ?_ Rh.out) | exact HB.out)) : P := h
theorem au22 {P : Prop} (h : P := by repeat (first | (with_reducible first | exact HB.out | apply below_alloc | apply pw_below_drewN | apply below_drew1 | refine below_set ?_ Fa.out | refine below_set ?_ Mg.out) | exact HB.out)) : P := h
theorem au23 {P : Prop} (h : P := by repeat (first | (with_reducible first | exact HB.out | apply below_alloc | apply pw_below_drewN | apply below_drew1 | refine below_set ?_ kO.out | refine below_set ?_ mE.out) | exact HB.out)) : P := h
theorem au24 {P : Prop} (h : P := by repeat (first | (with_reducible first | exact HB.out | apply below_alloc | apply pw_below_drewN | apply below_drew1 | refine below_set ?_ tu.out | refine below_set ?_ vD.out) | exact HB.out)) : P := h
theorem au25 {P : Prop} (h : P := by repeat (first | (with_reducible first | exact HB.out | apply below_alloc | apply pw_below_drewN | apply below_drew1 | refine below_set ?_ vE.out | refine below_set ?_ Ai.out) | exact HB.out)) : P := h
theorem au26 {P : Prop} (h : P := by repeat (first | (with_reducible first | exact HB.out | apply below_alloc | apply pw_below_drewN | apply below_drew1 | refine below_set ?_ eY.out | refine below_set ?_ fB.out) | exact HB.out)) : P := h
theorem au27 {P : Prop} (h : P := by repeat (first | (with_reducible first | exact HB.out | apply below_alloc | apply pw_below_drewN | apply below_drew1 | refine below_set ?_ Fb.out) | exact HB.out)) : P := h
theorem au28 {P : Prop} (h : P := by repeat (first | (with_reducible first | exact HB.out | apply below_alloc | apply pw_below_drewN | apply below_drew1 | refine below_set ?_ Fc.out) | exact HB.out)) : P := h
theorem au29 {P : Prop} (h : P := by repeat (first | (with_reducible first | exact HB.out | apply below_alloc | apply pw_below_drewN | apply below_drew1 | refine below_set ?_ pX.out) | exact HB.out)) : P := h
theorem au30 {P : Prop} (h : P := by repeat (first | (with_reducible first | exact HB.out | apply below_alloc | apply pw_below_drewN | apply below_drew1 | refine below_set ?_ Fe.out) | exact HB.out)) : P := h
theorem au31 {P : Prop} (h : P := by repeat (first | (with_reducible first | exact HB.out | apply below_alloc | apply pw_below_drewN | apply below_drew1 | refine below_set ?_ vF.out) | exact HB.out)) : P := h
theorem au32 {P : Prop} (h : P := by repeat (first | (with_reducible first | exact HB.out | apply below_alloc | apply pw_below_drewN | apply below_drew1 | refine below_set ?_ vG.out) | exact HB.out)) : P := h
theorem au33 {P : Prop} (h : P := by repeat (first | (with_reducible first | exact HB.out | apply below_alloc | apply pw_below_drewN | apply below_drew1 | refine below_set ?_ iE.out) | exact HB.out)) : P := h
theorem au34 {P : Prop} (h : P := by repeat (first | (with_reducible first | exact HB.out | apply below_alloc | apply pw_below_drewN | apply below_drew1 | refine below_set ?_ F9.out) | exact HB.out)) : P := h
theorem au35 {P : Prop} (h : P := by repeat (first | (with_reducible first | exact HB.out | apply below_alloc | apply pw_below_drewN | apply below_drew1 | refine below_set ?_ Mh.out) | exact HB.out)) : P := h
theorem au36 {P : Prop} (h : P := by repeat (first | (with_reducible first | exact HB.out | apply below_alloc | apply pw_below_drewN | apply below_drew1 | refine below_set ?_ Fa.out) | exact HB.out)) : P := h
theorem au37 {P : Prop} (h : P := by repeat (first | (with_reducible first | exact HB.out | apply below_alloc | apply pw_below_drewN | apply below_drew1 | refine below_set ?_ Aj.out) | exact HB.out)) : P := h
theorem au38 {P : Prop} (h : P := by repeat (first | (with_reducible first | exact HB.out | apply below_alloc | apply pw_below_drewN | apply below_drew1 | refine below_set ?_ tv.out) | exact HB.out)) : P := h
theorem au39 {P : Prop} (h : P := by repeat (first | (with_reducible first | exact HB.out | apply below_alloc | apply pw_below_drewN | apply below_drew1 | refine below_set ?_ Ak.out) | exact HB.out)) : P := h
theorem au40 {P : Prop} (h : P := by repeat (first | (with_reducible first | exact HB.out | apply below_alloc | apply pw_below_drewN | apply below_drew1 | refine below_set ?_ Ri.out) | exact HB.out)) : P := h
theorem au41 {P : Prop} (h : P := by repeat (first | (with_reducible first | exact HB.out | apply below_alloc | apply pw_below_drewN | apply below_drew1 | refine below_set ?_ Al.out) | exact HB.out)) : P := h
theorem au42 {P : Prop} (h : P := by repeat (first | (with_reducible first | exact HB.out | apply below_alloc | apply pw_below_drewN | apply below_drew1 | refine below_set ?_ vH.out) | exact HB.out)) : P := h
theorem au43 {P : Prop} (h : P := by repeat (first | (with_reducible first | exact HB.out | apply below_alloc | apply pw_below_drewN | apply below_drew1 | refine below_set ?_ kO.out) | exact HB.out)) : P := h
theorem au44 {P : Prop} (h : P := by repeat (first | (with_reducible first | exact HB.out | apply below_alloc | apply pw_below_drewN | apply below_drew1 | refine below_set ?_ tu.out) | exact HB.out)) : P := h
theorem au45 {P : Prop} (h : P := by repeat (first | (with_reducible first | exact HB.out | apply below_alloc | apply pw_below_drewN | apply below_drew1 | refine below_set ?_ Rj.out) | exact HB.out)) : P := h
theorem au46 {P : Prop} (h : P := by repeat (first | (with_reducible first | exact HB.out | apply below_alloc | apply pw_below_drewN | apply below_drew1 | refine below_set ?_ Rk.out) | exact HB.out)) : P := h
theorem au47 {P : Prop} (h : P := by repeat (first | (with_reducible first | exact HB.out | apply below_alloc | apply pw_below_drewN | apply below_drew1 | refine below_set ?_ vE.out) | exact HB.out)) : P := h
theorem au48 {P : Prop} (h : P := by repeat (first | (with_reducible first | exact HB.out | apply below_alloc | apply pw_below_drewN | apply below_drew1 | refine below_set ?_ eY.out) | exact HB.out)) : P := h
theorem au49 {P : Prop} (h : P := by (with_reducible repeat (first | apply Kd.R_alloc | apply Kd.R_drewN | apply Kd.R_drew)); exact Kd.R_mono dR.out (fun _ hk => ⟨trivial, hk⟩)) : P := h
theorem au50 {P : Prop} (h : P := by (try simp only [List.map_toArray, List.map_cons, List.map_nil]); first | done | rfl | (simp only [List.length_drop, List.length_take]; rfl)) : P := h
theorem au51 {P : Prop} (h : P := by repeat (first | (with_reducible first | exact HB.out | apply below_alloc | apply pw_below_drewN | apply below_drew1) | exact HB.out)) : P := h
theorem au52 {P : Prop} (h : P := by repeat (first | (with_reducible first | exact HK.out | apply Kept.alloc | apply Kept.drewN | apply Kept.drew) | exact HK.out)) : P := h
theorem au53 {P : Prop} (h : P := by (with_reducible repeat (first | refine blk_drewN ?_ _ | refine blk_drew ?_ | refine blk_alloc ?_ _)); exact hV.out) : P := h
theorem au54 {P : Prop} (h : P := by (with_reducible repeat (first | refine blk_drewN ?_ _ | refine blk_drew ?_ | refine blk_alloc ?_ _)); exact eZ.out) : P := h
theorem au55 {P : Prop} (h : P := by (with_reducible repeat (first | refine blk_drewN ?_ _ | refine blk_drew ?_ | refine blk_alloc ?_ _)); exact dz.out) : P := h
theorem au56 {P : Prop} (h : P := by (with_reducible repeat (first | refine blk_drewN ?_ _ | refine blk_drew ?_ | refine blk_alloc ?_ _)); exact hY.out) : P := h
theorem au57 {P : Prop} (h : P := by (with_reducible repeat (first | refine blk_drewN ?_ _ | refine blk_drew ?_ | refine blk_alloc ?_ _)); exact fC.out) : P := h
theorem au58 {P : Prop} (h : P := by (with_reducible repeat (first | refine blk_drewN ?_ _ | refine blk_drew ?_ | refine blk_alloc ?_ _)); exact iG.out) : P := h
theorem au59 {P : Prop} (h : P := by (with_reducible repeat (first | refine blk_drewN ?_ _ | refine blk_drew ?_ | refine blk_alloc ?_ _)); exact bg.out) : P := h
theorem au60 {P : Prop} (h : P := by (with_reducible repeat (first | refine blk_drewN ?_ _ | refine blk_drew ?_ | refine blk_alloc ?_ _)); exact bh.out) : P := h
theorem au61 {P : Prop} (h : P := by (with_reducible repeat (first | refine blk_drewN ?_ _ | refine blk_drew ?_ | refine blk_alloc ?_ _)); exact vI.out) : P := h
theorem au62 {P : Prop} (h : P := by (with_reducible repeat (first | refine blk_drewN ?_ _ | refine blk_drew ?_ | refine blk_alloc ?_ _)); exact vJ.out) : P := h
theorem au63 {P : Prop} (h : P := by (with_reducible repeat (first | refine blk_drewN ?_ _ | refine blk_drew ?_ | refine blk_alloc ?_ _)); exact Ff.out) : P := h
theorem au64 {P : Prop} (h : P := by (with_reducible repeat (first | refine blk_drewN ?_ _ | refine blk_drew ?_ | refine blk_alloc ?_ _)); exact Fg.out) : P := h
theorem au65 {P : Prop} (h : P := by (with_reducible repeat (first | refine blk_drewN ?_ _ | refine blk_drew ?_ | refine blk_alloc ?_ _)); exact iH.out) : P := h
theorem au66 {P : Prop} (h : P := by (with_reducible repeat (first | refine blk_drewN ?_ _ | refine blk_drew ?_ | refine blk_alloc ?_ _)); exact jy.out) : P := h
theorem au67 {P : Prop} (h : P := by (with_reducible repeat (first | refine blk_drewN ?_ _ | refine blk_drew ?_ | refine blk_alloc ?_ _)); exact iI.out) : P := h
theorem au68 {P : Prop} (h : P := by (with_reducible repeat (first | refine blk_drewN ?_ _ | refine blk_drew ?_ | refine blk_alloc ?_ _)); exact bN.out) : P := h
theorem au69 {P : Prop} (h : P := by (with_reducible repeat (first | refine blk_drewN ?_ _ | refine blk_drew ?_ | refine blk_alloc ?_ _)); exact fD.out) : P := h
theorem au70 {P : Prop} (h : P := by (with_reducible repeat (first | refine blk_drewN ?_ _ | refine blk_drew ?_ | refine blk_alloc ?_ _)); exact fE.out) : P := h
theorem au71 {P : Prop} (h : P := by (with_reducible repeat (first | refine blk_drewN ?_ _ | refine blk_drew ?_ | refine blk_alloc ?_ _)); exact iJ.out) : P := h
theorem au72 {P : Prop} (h : P := by (with_reducible repeat (first | refine blk_drewN ?_ _ | refine blk_drew ?_ | refine blk_alloc ?_ _)); exact bd.out) : P := h
theorem au73 {P : Prop} (h : P := by (with_reducible repeat (first | refine blk_drewN ?_ _ | refine blk_drew ?_ | refine blk_alloc ?_ _)); exact be.out) : P := h
theorem au74 {P : Prop} (h : P := by (with_reducible repeat (first | refine blk_drewN ?_ _ | refine blk_drew ?_ | refine blk_alloc ?_ _)); exact fO.out) : P := h
theorem au75 {P : Prop} (h : P := by (with_reducible repeat (first | refine blk_drewN ?_ _ | refine blk_drew ?_ | refine blk_alloc ?_ _)); exact jz.out) : P := h
theorem au76 {P : Prop} (h : P := by (with_reducible repeat (first | refine blk_drewN ?_ _ | refine blk_drew ?_ | refine blk_alloc ?_ _)); exact Mi.out) : P := h
theorem au77 {P : Prop} (h : P := by (with_reducible repeat (first | refine blk_drewN ?_ _ | refine blk_drew ?_ | refine blk_alloc ?_ _)); exact Mj.out) : P := h
theorem au78 {P : Prop} (h : P := by (with_reducible repeat (first | refine blk_drewN ?_ _ | refine blk_drew ?_ | refine blk_alloc ?_ _)); exact dG.out) : P := h
theorem au79 {P : Prop} (h : P := by (with_reducible repeat (first | refine blk_drewN ?_ _ | refine blk_drew ?_ | refine blk_alloc ?_ _)); exact e4.out) : P := h
theorem au80 {P : Prop} (h : P := by (with_reducible repeat (first | refine blk_drewN ?_ _ | refine blk_drew ?_ | refine blk_alloc ?_ _)); exact al.out) : P := h
theorem au81 {P : Prop} (h : P := by (with_reducible repeat (first | refine blk_drewN ?_ _ | refine blk_drew ?_ | refine blk_alloc ?_ _)); exact ao.out) : P := h
theorem au82 {P : Prop} (h : P := by (with_reducible repeat (first | refine blk_drewN ?_ _ | refine blk_drew ?_ | refine blk_alloc ?_ _)); exact bo.out) : P := h
theorem au83 {P : Prop} (h : P := by (with_reducible repeat (first | refine blk_drewN ?_ _ | refine blk_drew ?_ | refine blk_alloc ?_ _)); exact bq.out) : P := h
theorem au84 {P : Prop} (h : P := by (with_reducible repeat (first | apply Kd.S_alloc | apply Kd.S_drewN | apply Kd.S_drew)); exact bv.out) : P := h
theorem au85 {P : Prop} (h : P := by (with_reducible repeat (first | apply Kd.S_alloc | apply Kd.S_drewN | apply Kd.S_drew)); exact bw.out) : P := h
theorem au86 {P : Prop} (h : P := by (with_reducible repeat (first | apply Kd.S_alloc | apply Kd.S_drewN | apply Kd.S_drew)); exact bz.out) : P := h
theorem au87 {P : Prop} (h : P := by (with_reducible repeat (first | apply Kd.S_alloc | apply Kd.S_drewN | apply Kd.S_drew)); exact bB.out) : P := h
theorem au88 {P : Prop} (h : P := by (with_reducible repeat (first | apply Kd.R_alloc | apply Kd.R_drewN | apply Kd.R_drew)); exact vK.out) : P := h
theorem au89 {P : Prop} (h : P := by (with_reducible repeat (first | apply Kd.R_alloc | apply Kd.R_drewN | apply Kd.R_drew)); exact bF.out) : P := h
theorem au90 {P : Prop} (h : P := by (with_reducible repeat (first | apply Kd.S_alloc | apply Kd.S_drewN | apply Kd.S_drew)); exact iA.out) : P := h
theorem au91 {P : Prop} (h : P := by (with_reducible repeat (first | apply Kd.S_alloc | apply Kd.S_drewN | apply Kd.S_drew)); exact iB.out) : P := h
theorem au92 {P : Prop} (h : P := by (with_reducible repeat (first | apply Kd.S_alloc | apply Kd.S_drewN | apply Kd.S_drew)); exact ju.out) : P := h
theorem au93 {P : Prop} (h : P := by (with_reducible repeat (first | apply Kd.S_alloc | apply Kd.S_drewN | apply Kd.S_drew)); exact jv.out) : P := h
theorem au94 {P : Prop} (h : P := by (with_reducible repeat (first | apply Kd.R_alloc | apply Kd.R_drewN | apply Kd.R_drew)); exact fN.out) : P := h
theorem au95 {P : Prop} (h : P := by (with_reducible repeat (first | apply Kd.S_alloc | apply Kd.S_drewN | apply Kd.S_drew)); exact kM.out) : P := h
theorem au96 {P : Prop} (h : P := by (with_reducible repeat (first | apply Kd.S_alloc | apply Kd.S_drewN | apply Kd.S_drew)); exact kN.out) : P := h
theorem au97 {P : Prop} (h : P := by (with_reducible repeat (first | apply Kd.S_alloc | apply Kd.S_drewN | apply Kd.S_drew)); exact jA.out) : P := h
theorem au98 {P : Prop} (h : P := by (with_reducible repeat (first | apply Kd.S_alloc | apply Kd.S_drewN | apply Kd.S_drew)); exact jB.out) : P := h
theorem au99 {P : Prop} (h : P := by (with_reducible repeat (first | apply Kd.S_alloc | apply Kd.S_drewN | apply Kd.S_drew)); exact vL.out) : P := h
theorem au100 {P : Prop} (h : P := by (with_reducible repeat (first | apply Kd.S_alloc | apply Kd.S_drewN | apply Kd.S_drew)); exact vM.out) : P := h
theorem au101 {P : Prop} (h : P := by (with_reducible repeat (first | apply Kd.R_alloc | apply Kd.R_drewN | apply Kd.R_drew)); exact dH.out) : P := h
theorem au102 {P : Prop} (h : P := by (with_reducible repeat (first | apply Kd.R_alloc | apply Kd.R_drewN | apply Kd.R_drew)); exact dR.out) : P := h
theorem au103 {P : Prop} (h : P := by (with_reducible repeat (first | apply Kd.R_alloc | apply Kd.R_drewN | apply Kd.R_drew)); exact bD.out) : P := h
theorem au104 {P : Prop} (h : P := by (with_reducible repeat (first | apply Kd.R_alloc | apply Kd.R_drewN | apply Kd.R_drew)); exact cj.out) : P := h
theorem au106 {P : Prop} (h : P := by first | (with_reducible assumption) | assumption) : P := h
theorem au107 {P : Prop} (h : P := by first | rfl | (simp; done) | (simp [*]; done)) : P := h
theorem ax0 {P : Prop} (h : P := by exact ⟨by first | rfl | (simp; done) | (simp [*]; done), by repeat (first | exact Drawn0.refl _ | apply Drawn0.step)⟩) : P := h
theorem ax1 {P : Prop} (h : P := by exact ⟨by first | rfl | (simp [errW_none, errW_some] <;> rfl) | (simp [*, errW_none, errW_some] <;> rfl), by repeat (first | (with_reducible first | exact HB.out | apply below_alloc | apply pw_below_drewN | apply below_drew1) | exact HB.out)⟩) : P := h
theorem ax2 {P : Prop} (h : P := by exact ⟨by first | rfl | (simp [errW_none, errW_some] <;> rfl) | (simp [*, errW_none, errW_some] <;> rfl), by repeat (first | (with_reducible first | exact HB.out | apply below_alloc | apply pw_below_drewN | apply below_drew1 | refine below_set ?_ Fb.out) | exact HB.out)⟩) : P := h
theorem ax3 {P : Prop} (h : P := by exact ⟨by first | rfl | (simp; done) | (simp only [← mF] <;> (first | rfl | simp)) | (simp [*]; done), by repeat (first | exact Drawn0.refl _ | apply Drawn0.step)⟩) : P := h
theorem ax4 {P : Prop} (h : P := by exact ⟨by first | rfl | (simp [errW_none, errW_some] <;> rfl) | (simp [*, errW_none, errW_some] <;> rfl), by repeat (first | (with_reducible first | exact HB.out | apply below_alloc | apply pw_below_drewN | apply below_drew1 | refine below_set ?_ Fc.out) | exact HB.out)⟩) : P := h
theorem ax5 {P : Prop} (h : P := by exact ⟨by first | rfl | (simp [errW_none, errW_some] <;> rfl) | (simp [*, errW_none, errW_some] <;> rfl), by repeat (first | (with_reducible first | exact HB.out | apply below_alloc | apply pw_below_drewN | apply below_drew1 | refine below_set ?_ pY.out) | exact HB.out)⟩) : P := h
theorem ax6 {P : Prop} (h : P := by exact ⟨by first | rfl | (simp [errW_none, errW_some] <;> rfl) | (simp [*, errW_none, errW_some] <;> rfl), by repeat (first | (with_reducible first | exact HB.out | apply below_alloc | apply pw_below_drewN | apply below_drew1 | refine below_set ?_ vG.out) | exact HB.out)⟩) : P := h
theorem ax7 {P : Prop} (h : P := by exact ⟨by first | rfl | (simp [errW_none, errW_some] <;> rfl) | (simp [*, errW_none, errW_some] <;> rfl), by repeat (first | (with_reducible first | exact HB.out | apply below_alloc | apply pw_below_drewN | apply below_drew1 | refine below_set ?_ mG.out) | exact HB.out)⟩) : P := h
theorem ax8 {P : Prop} (h : P := by exact ⟨by first | rfl | (simp [errW_none, errW_some] <;> rfl) | (simp [*, errW_none, errW_some] <;> rfl), by repeat (first | (with_reducible first | exact HB.out | apply below_alloc | apply pw_below_drewN | apply below_drew1 | refine below_set ?_ tv.out) | exact HB.out)⟩) : P := h
theorem ax9 {P : Prop} (h : P := by exact ⟨by first | rfl | (simp [errW_none, errW_some] <;> rfl) | (simp [*, errW_none, errW_some] <;> rfl), by repeat (first | (with_reducible first | exact HB.out | apply below_alloc | apply pw_below_drewN | apply below_drew1 | refine below_set ?_ Al.out) | exact HB.out)⟩) : P := h
theorem ax10 {P : Prop} (h : P := by exact ⟨by first | rfl | (simp [errW_none, errW_some] <;> rfl) | (simp [*, errW_none, errW_some] <;> rfl), by repeat (first | (with_reducible first | exact HB.out | apply below_alloc | apply pw_below_drewN | apply below_drew1 | refine below_set ?_ vH.out) | exact HB.out)⟩) : P := h
theorem ax11 {P : Prop} (h : P := by exact ⟨by first | rfl | (simp [errW_none, errW_some] <;> rfl) | (simp [*, errW_none, errW_some] <;> rfl), by repeat (first | (with_reducible first | exact HB.out | apply below_alloc | apply pw_below_drewN | apply below_drew1 | refine below_set ?_ vE.out | refine below_set ?_ Ai.out) | exact HB.out)⟩) : P := h
theorem ax12 {P : Prop} (h : P := by exact ⟨by first | rfl | (simp [errW_none, errW_some] <;> rfl) | (simp [*, errW_none, errW_some] <;> rfl), by repeat (first | (with_reducible first | exact HB.out | apply below_alloc | apply pw_below_drewN | apply below_drew1 | refine below_set ?_ eY.out | refine below_set ?_ fB.out) | exact HB.out)⟩) : P := h
end Go.Proofs.YthfbogcpjfledaaGreatDoor.G

namespace Go.Proofs.YthfbogcpjfledaaGreatDoor.B
open Go.RowKit Go.Proofs.YthfbogcpjfledaaGreatDoorW.PrintWords Go.Proofs.YthfbogcpjfledaaGreatDoorW.PrintLast
set_option linter.unusedVariables false
set_option linter.unusedSimpArgs false
theorem w64 {x : Int} (h : -9223372036854775808 ≤ x) (h' : x ≤ 9223372036854775807) : wrap64 x = x := by unfold wrap64; omega
theorem ev_pos {α : Type} {c : Prop} [Decidable c] {g f : Nat → Option α} {r : α} (h : c) (e : Ev g r) : Ev (fun k => if c then g k else f k) r := Ev.congr (fun _ => if_pos h) e
theorem ev_neg {α : Type} {c : Prop} [Decidable c] {g f : Nat → Option α} {r : α} (h : ¬ c) (e : Ev f r) : Ev (fun k => if c then g k else f k) r := Ev.congr (fun _ => if_neg h) e
theorem ev_bind0 {α β : Type} {o : Option α} {f : Nat → α → Option β} {a : α} {r : β} (h : o = some a) (k : Ev (fun n => f n a) r) : Ev (fun n => o.bind (f n)) r := Ev.congr (fun _ => by rw [h]; rfl) k
theorem ev_eq {α : Type} {g : Nat → Option α} {a b : α} (h : Ev g a) (e : a = b) : Ev g b := e ▸ h
abbrev L (s : ByteArray) : List UInt8 := s.data.toList
def mkB (l : List UInt8) : ByteArray := ⟨l.toArray⟩
theorem L_mk (l : List UInt8) : L (mkB l) = l := by simp [mkB]
theorem mk_L (s : ByteArray) : mkB (L s) = s := by cases s; simp [mkB, L]
theorem L_inj {a b : ByteArray} (h : L a = L b) : a = b := by rw [← mk_L a, h, mk_L]
theorem L_iff {a b : ByteArray} : a = b ↔ L a = L b := ⟨fun h => by rw [h], L_inj⟩
theorem L_len (s : ByteArray) : (L s).length = s.size := (Lib.size_eq s).symm
theorem size_mk (l : List UInt8) : (mkB l).size = l.length := by rw [← L_len, L_mk]
theorem toList_L (s : ByteArray) : s.toList = L s := Lib.toList_data s
theorem L_extract (s : ByteArray) (a b : Nat) : L (s.extract a b) = ((L s).drop a).take (b - a) := Lib.extract_data s a b
theorem L_append (a b : ByteArray) : L (a ++ b) = L a ++ L b := by simp [L, ByteArray.data_append]
theorem size_append (a b : ByteArray) : (a ++ b).size = a.size + b.size := by rw [← L_len, L_append, List.length_append, L_len, L_len]
theorem mk_append (a b : List UInt8) : mkB a ++ mkB b = mkB (a ++ b) := L_inj (by rw [L_append, L_mk, L_mk, L_mk])
theorem bt_get (s : ByteArray) (i : Nat) (h : i < s.size) : bt s (i : Int) = (((L s)[i]'(by rw [L_len]; exact h)).toNat : Int) := by
  unfold bt;simp only [Int.toNat_natCast, h, dif_pos];rfl
theorem size_pos_iff (s : ByteArray) : s.size = 0 ↔ L s = [] := by rw [← L_len, List.length_eq_zero_iff]
theorem u8_inj {a b : UInt8} (h : (a.toNat : Int) = (b.toNat : Int)) : a = b := UInt8.toNat_inj.1 (by omega)
theorem toList_eq_iff {a b : ByteArray} : a.toList = b.toList ↔ a = b := by rw [toList_L, toList_L, L_iff]
end Go.Proofs.YthfbogcpjfledaaGreatDoor.B

namespace Go.Proofs.YthfbogcpjfledaaGreatDoor.G
open Go.RowKit Go.Proofs.YthfbogcpjfledaaGreatDoorW.PrintWords Go.Proofs.YthfbogcpjfledaaGreatDoorW.PrintLast Go.Proofs.YthfbogcpjfledaaGreatDoor.B
set_option linter.unusedVariables false
set_option linter.unusedSimpArgs false
def SimV (v v' : Value) : Prop := v' = v ∨ (∃ a b, v = .string a ∧ v' = .string b) ∨ (∃ k a b, v = .int k a ∧ v' = .int k b) ∨ ∃ a b, v = .bool a ∧ v' = .bool b
def SimC (l l' : List Value) : Prop := l'.length = l.length ∧ ∀ (i : Nat) (v v' : Value), l[i]? = some v → l'[i]? = some v' → SimV v v'
def SimO (o o' : Option Obj) : Prop := o' = o ∨ ∃ (cs cs' : Array Value) (t : TypeId), o = some (.cells cs t (0, 0)) ∧ o' = some (.cells cs' t (0, 0)) ∧ SimC cs.toList cs'.toList
def Sim (P : Nat → Prop) (w w' : World) : Prop := w.heap.size ≤ w'.heap.size ∧ ∀ k, k < w.heap.size → SimO w.heap[k]? w'.heap[k]? ∧ (¬ P k → w'.heap[k]? = w.heap[k]?)
theorem SimV.trans {a b c : Value} (h : SimV a b) (h' : SimV b c) : SimV a c := by
  rcases h with rfl | ⟨x, y, rfl, rfl⟩ | ⟨k, x, y, rfl, rfl⟩ | ⟨x, y, rfl, rfl⟩
  · exact h'
  · rcases h' with rfl | ⟨p, q, e, rfl⟩ | ⟨k, p, q, e, rfl⟩ | ⟨p, q, e, rfl⟩
    · exact .inr (.inl ⟨_, _, rfl, rfl⟩)
    · exact .inr (.inl ⟨_, _, rfl, rfl⟩)
    · cases e
    · cases e
  · rcases h' with rfl | ⟨p, q, e, rfl⟩ | ⟨k', p, q, e, rfl⟩ | ⟨p, q, e, rfl⟩
    · exact .inr (.inr (.inl ⟨_, _, _, rfl, rfl⟩))
    · cases e
    · injection e with e1 e2
      subst e1;exact .inr (.inr (.inl ⟨_, _, _, rfl, rfl⟩))
    · cases e
  · rcases h' with rfl | ⟨p, q, e, rfl⟩ | ⟨k', p, q, e, rfl⟩ | ⟨p, q, e, rfl⟩
    · exact .inr (.inr (.inr ⟨_, _, rfl, rfl⟩))
    · cases e
    · cases e
    · exact .inr (.inr (.inr ⟨_, _, rfl, rfl⟩))
theorem SimC.refl (l : List Value) : SimC l l := ⟨rfl, fun i v v' h h' => .inl (by rw [h] at h'; exact (ojz h').symm)⟩
theorem SimC.trans {a b c : List Value} (h : SimC a b) (h' : SimC b c) : SimC a c := by
  refine ⟨h'.1.trans h.1, fun i v v' hv hv' => ?_⟩
  have hi : i < b.length := by
    rw [h.1];exact (List.getElem?_eq_some_iff.1 hv).1
  exact (h.2 i v _ hv (List.getElem?_eq_getElem hi)).trans (h'.2 i _ v' (List.getElem?_eq_getElem hi) hv')
theorem SimC.take {a b : List Value} (h : SimC a b) (n : Nat) : SimC (a.take n) (b.take n) := by
  refine ⟨by rw [List.length_take, List.length_take, h.1], fun i v v' hv hv' => ?_⟩;rw [List.getElem?_take] at hv hv';by_cases c : i < n
  · rw [if_pos c] at hv hv'; exact h.2 i v v' hv hv'
  · rw [if_neg c] at hv; cases hv
theorem SimC.drop {a b : List Value} (h : SimC a b) (n : Nat) : SimC (a.drop n) (b.drop n) := by
  refine ⟨by rw [List.length_drop, List.length_drop, h.1], fun i v v' hv hv' => ?_⟩;rw [List.getElem?_drop] at hv hv';exact h.2 _ v v' hv hv'
theorem SimC.one {v : Value} {l : List Value} (h : SimC [v] l) : ∃ v', l = [v'] ∧ SimV v v' := by
  obtain ⟨hl, hv⟩ := h
  match l, hl with
  | [v'], _ => exact ⟨v', rfl, hv 0 v v' rfl rfl⟩
theorem SimO.trans {a b c : Option Obj} (h : SimO a b) (h' : SimO b c) : SimO a c := by
  rcases h with rfl | ⟨cs, cs', t, rfl, rfl, hc⟩
  · exact h'
  · rcases h' with rfl | ⟨ds, ds', t', e, rfl, hd⟩
    · exact .inr ⟨cs, cs', t, rfl, rfl, hc⟩
    · injection e with e
      injection e with e1 e2
      subst e1 e2;exact .inr ⟨cs, ds', _, rfl, rfl, hc.trans hd⟩
theorem Sim.refl (P : Nat → Prop) (w : World) : Sim P w w := ⟨Nat.le_refl _, fun k _ => ⟨.inl rfl, fun _ => rfl⟩⟩
theorem Sim.trans {P : Nat → Prop} {a b c : World} (h : Sim P a b) (h' : Sim P b c) : Sim P a c :=
  ⟨Nat.le_trans h.1 h'.1, fun k hk => ⟨(h.2 k hk).1.trans (h'.2 k (Nat.lt_of_lt_of_le hk h.1)).1, fun hp => ((h'.2 k (Nat.lt_of_lt_of_le hk h.1)).2 hp).trans ((h.2 k hk).2 hp)⟩⟩
theorem Sim.mono {P Q : Nat → Prop} {a b : World} (h : Sim P a b) (hq : ∀ k, P k → Q k) : Sim Q a b := ⟨h.1, fun k hk => ⟨(h.2 k hk).1, fun hn => (h.2 k hk).2 (fun hp => hn (hq k hp))⟩⟩
theorem Sim.below {P : Nat → Prop} {a b c : World} (h : Sim P a b) (hb : Below b.heap.size b c) : Sim P a c :=
  h.trans ⟨hb.size, fun k hk => ⟨.inl (hb.block k hk), fun _ => hb.block k hk⟩⟩
theorem Sim.alloc {P : Nat → Prop} {a b : World} (h : Sim P a b) (o : Obj) : Sim P a (b.alloc o) := h.below (below_alloc (Below.refl _ _) o)
theorem Sim.drewN {P : Nat → Prop} {a b : World} (h : Sim P a b) (m : Nat) : Sim P a (b.drewN m) := h.below (pw_below_drewN (Below.refl _ _) m)
theorem Sim.drew {P : Nat → Prop} {a b : World} (h : Sim P a b) : Sim P a b.drew := h.below (below_drew1 (Below.refl _ _))
theorem Sim.kept {P : Nat → Prop} {a b : World} (h : Sim P a b) : Kept a b P := ⟨h.1, fun i hi hn => (h.2 i hi).2 hn⟩
theorem heap_set_row {w : World} {g j : Nat} {cs : Array Value} {t : TypeId} (hb : w.heap[g]? = some (.cells cs t (0, 0))) (u : Value) : (w.setCell ⟨g, j, none⟩ u).heap[g]? = some (.cells (cs.setIfInBounds j u) t (0, 0)) := by
  simp [World.setCell, Array.getElem?_modify, hb]
theorem Sim.store {P : Nat → Prop} {a b : World} {g j : Nat} {cs : Array Value} {t : TypeId} {old u : Value} (h : Sim P a b) (hP : P g) (hb : b.heap[g]? = some (.cells cs t (0, 0))) (hc : b.cell? ⟨g, j, none⟩ = some old) (hv : SimV old u) : Sim P a (b.setCell ⟨g, j, none⟩ u) := by
  refine h.trans ⟨by simp [World.setCell], fun k hk => ?_⟩;by_cases e : k = g
  · subst e
    refine ⟨?_, fun hn => absurd hP hn⟩;rw [heap_set_row hb, hb];refine .inr ⟨cs, _, t, rfl, rfl, by simp, fun i v v' hi hi' => ?_⟩;rw [cell_of_row b k j cs t _ hb] at hc;rw [Array.getElem?_toList] at hi hi';by_cases ei : i = j
    · subst ei
      rw [hc] at hi;obtain rfl := ojz hi;have hlt : i < cs.size := (Array.getElem?_eq_some_iff.1 hc).1;rw [Array.getElem?_setIfInBounds_self_of_lt hlt] at hi';obtain rfl := ojz hi';exact hv
    · rw [Array.getElem?_setIfInBounds_ne (Ne.symm ei), hi] at hi'
      exact .inl (ojz hi').symm
  · have := Below.heap_setCell b ⟨g, j, none⟩ u k e
    exact ⟨.inl this, fun _ => this⟩
def SimK {α β : Type} (d : Kd α) (sh : α → β) : Prop := ∀ (P : Nat → Prop) (w w' : World) (base : Nat) (ok : Nat → Prop) (x : α) (cs cs' : List Value), Sim P w w' → d.M w base ok x cs → SimC cs cs' → True → ∃ x', d.M w' base ok x' cs' ∧ sh x' = sh x
theorem simK_string : SimK Kd.string (fun _ => ()) := by
  intro P w w' base ok x cs cs' _ h hc _;obtain rfl : cs = [.string x] := h;obtain ⟨v', rfl, hv⟩ := hc.one
  rcases hv with rfl | ⟨a, b, e, rfl⟩ | ⟨k, a, b, e, rfl⟩ | ⟨a, b, e, rfl⟩
  · exact ⟨x, rfl, rfl⟩
  · exact ⟨b, rfl, rfl⟩
  · cases e
  · cases e
theorem simK_pair {α β γ δ : Type} {a : Kd α} {b : Kd β} {f : α → γ} {g : β → δ} (ha : SimK a f) (hb : SimK b g) : SimK (Kd.pair a b) (fun x => (f x.1, g x.2)) := by
  intro P w w' base ok x cs cs' hs h hc ht;obtain ⟨c0, c1, rfl, h0, h1⟩ := h
  have e0 : SimC c0 (cs'.take c0.length) := by have := hc.take c0.length; rwa [List.take_left] at this
  have e1 : SimC c1 (cs'.drop c0.length) := by have := hc.drop c0.length; rwa [List.drop_left] at this
  obtain ⟨y, hy, ey⟩ := ha P w w' base ok x.1 c0 _ hs h0 e0 ht;obtain ⟨z, hz, ez⟩ := hb P w w' base ok x.2 c1 _ hs h1 e1 ht;exact ⟨(y, z), ⟨_, _, (List.take_append_drop _ _).symm, hy, hz⟩, by show (f y, g z) = (f x.1, g x.2); rw [ey, ez]⟩
theorem simK_iso {α β γ : Type} {d : Kd α} {f : β → α} {sh : α → γ} (g : α → β) (hg : ∀ y, f (g y) = y) (h : SimK d sh) : SimK (Kd.iso d f) (fun x => sh (f x)) := by
  intro P w w' base ok x cs cs' hs hm hc ht;obtain ⟨y, hy, ey⟩ := h P w w' base ok (f x) cs cs' hs hm hc ht;exact ⟨g y, by show d.M w' base ok (f (g y)) cs'; rw [hg]; exact hy, by show sh (f (g y)) = _; rw [hg]; exact ey⟩
theorem R_sim {α β : Type} {d : Kd α} {sh : α → β} (hd : SimK d sh) {P : Nat → Prop} {w w' : World} {base e : Nat} {ok : Nat → Prop} {v : Value} {xs : List α} (h : d.R e w base ok v xs) (hs : Sim P w w') : ∃ xs', d.R e w' base ok v xs' ∧ xs'.map sh = xs.map sh := by
  obtain ⟨h0, inner, ho, hr⟩ := h
  rcases ho.2 with ⟨rfl, hn⟩ | ⟨g, cap, cur, rfl, hg, hh, r1, r2, r3, r4⟩
  · have hx : xs = [] := List.length_eq_zero_iff.1 hn
    subst hx;have hi : inner = [] := List.length_eq_zero_iff.1 (by rw [ho.1]; simp);subst hi;exact ⟨[], ⟨h0, [], ⟨by simp, .inl ⟨rfl, rfl⟩⟩, Reps.none _ _⟩, rfl⟩
  · have hlt : g < w.heap.size := by
      rcases Nat.lt_or_ge g w.heap.size with q | q
      · exact q
      · rw [Array.getElem?_eq_none q] at hh; cases hh
    obtain ⟨cur', hh', hC⟩ : ∃ cur' : Array Value, w'.heap[g]? = some (.cells cur' e (0, 0)) ∧ SimC cur.toList cur'.toList := by
      rcases (hs.2 g hlt).1 with q | ⟨cs, cs', t, q1, q2, q3⟩
      · exact ⟨cur, q.trans hh, SimC.refl _⟩
      · rw [hh] at q1
        injection q1 with q1
        injection q1 with e1 e2
        subst e1 e2;exact ⟨cs', q2, q3⟩
    have hsz : cur'.size = cur.size := by have := hC.1; simpa using this
    have hI : SimC inner (cur'.toList.take (xs.length * d.sz)) := by rw [← r4]; exact hC.take _
    have hM : ∀ j (hj : j < xs.length), ∃ x', d.M w' base (fun k => ok k ∧ some k ≠ (Value.slice (some ⟨g, 0, none⟩) xs.length cap).ownBlock) x' (((cur'.toList.take (xs.length * d.sz)).drop (j * d.sz)).take d.sz) ∧ sh x' = sh xs[j] := fun j hj =>
      hd P w w' base _ _ _ _ hs (hr.2 j xs[j] (List.getElem?_eq_getElem hj)) ((hI.drop _).take _) trivial
    let F : Fin xs.length → α := fun j => Classical.choose (hM j.1 j.2)
    have hF : ∀ j : Fin xs.length, d.M w' base (fun k => ok k ∧ some k ≠ (Value.slice (some ⟨g, 0, none⟩) xs.length cap).ownBlock) (F j) (((cur'.toList.take (xs.length * d.sz)).drop (j.1 * d.sz)).take d.sz) ∧ sh (F j) = sh xs[j.1] := fun j => Classical.choose_spec (hM j.1 j.2)
    have hl : (List.ofFn F).length = xs.length := List.length_ofFn;refine ⟨List.ofFn F, ⟨h0, cur'.toList.take (xs.length * d.sz), ⟨by rw [hl, hI.1, ho.1], .inr ⟨g, cap, cur', by rw [hl], hg, hh', by rw [hl]; exact r1, r2, by rw [hsz]; exact r3, by rw [hl]⟩⟩, by rw [hl, hI.1, ho.1], fun j p hp => ?_⟩, ?_⟩
    · have hj : j < xs.length := by have := (List.getElem?_eq_some_iff.1 hp).1; omega
      have e1 := (List.getElem?_eq_some_iff.1 hp).2;rw [List.getElem_ofFn] at e1;rw [← e1];exact (hF ⟨j, hj⟩).1
    · apply List.ext_getElem
      · rw [List.length_map, List.length_map, hl]
      · intro j h1 h2
        rw [List.getElem_map, List.getElem_map, List.getElem_ofFn];exact (hF ⟨j, by simpa using h2⟩).2
theorem simK_slice {α β : Type} {d : Kd α} {sh : α → β} (e : Nat) (hd : SimK d sh) : SimK (Kd.slice e d) (fun l => l.map sh) := by
  intro P w w' base ok x cs cs' hs h hc _;obtain ⟨v, rfl, hR⟩ := h;obtain ⟨v', rfl, hv⟩ := hc.one;obtain ⟨A, c, rfl⟩ := Kd.R_slice hR
  obtain rfl : v' = .slice A x.length c := by
    rcases hv with q | ⟨a, b, q, _⟩ | ⟨k, a, b, q, _⟩ | ⟨a, b, q, _⟩
    · exact q
    · cases q
    · cases q
    · cases q
  obtain ⟨xs', h1, h2⟩ := R_sim hd hR hs;exact ⟨xs', ⟨_, rfl, h1⟩, h2⟩
end Go.Proofs.YthfbogcpjfledaaGreatDoor.G

namespace Go.Proofs.YthfbogcpjfledaaGreatDoor.G
open Go.RowKit Go.Proofs.YthfbogcpjfledaaGreatDoorW.PrintWords Go.Proofs.YthfbogcpjfledaaGreatDoorW.PrintLast Go.Proofs.YthfbogcpjfledaaGreatDoorW.PrintMore
open Go.Proofs.YthfbogcpjfledaaGreatDoor.Gl Go.Proofs.YthfbogcpjfledaaGreatDoor.Ext
attribute [local go_sem] max2_int min2_int max_two min_two max_three min_three max_four min_four   -- for this text's walks alone
set_option linter.unusedVariables false
set_option linter.unusedSimpArgs false
def laws_eqStringS.l0 : Nat → List ByteArray → List ByteArray → Int → Option (Bool)
 | 0, _, _, _ => none
 | k + 1, x0, x1, x5 => if x5 < (x0.length : Int) then (if 0 ≤ x5 then (if x5 < (x1.length : Int) then (if (rdOf ByteArray.empty x0 x5).toList = (rdOf ByteArray.empty x1 x5).toList then (laws_eqStringS.l0 k x0 x1 (wrap64 (x5 + 1))) else (some false)) else (none)) else (none)) else (some true)
def laws_eqStringS.f (k : Nat) (l0 : List ByteArray) (l1 : List ByteArray) : Option (Bool) := if (l0.length : Int) = (l1.length : Int) then (laws_eqStringS.l0 k l0 l1 0) else (some false)
theorem laws_eqStringS.mono_l : ∀ k, (∀ y0 y1 y2, LeO (laws_eqStringS.l0 k y0 y1 y2) (laws_eqStringS.l0 (k + 1) y0 y1 y2))
 | 0 => fun _ _ _ r h => by simp [laws_eqStringS.l0] at h
 | k + 1 => by
  have ih0 := laws_eqStringS.mono_l k
  ·
   intro y0 y1 y2;unfold laws_eqStringS.l0
   repeat' first
   | (with_reducible exact ih0 _ _ _)
   | (with_reducible exact LeO.refl _)
   | (with_reducible exact LeO.none _)
   | (with_reducible refine LeO.ite ?_ ?_)
   | (with_reducible refine LeO.bind ?_ (fun _ => ?_))
   | exact ih0 _ _ _
   | exact LeO.none _
   | refine LeO.ite ?_ ?_
   | refine LeO.bind ?_ (fun _ => ?_)
theorem laws_eqStringS.mono : ∀ a0 a1 k, LeO (laws_eqStringS.f k a0 a1) (laws_eqStringS.f (k + 1) a0 a1) := by
 intro a0 a1 k;have ih0 := laws_eqStringS.mono_l k;unfold laws_eqStringS.f
 repeat' first
   | (with_reducible exact ih0 _ _ _)
   | (with_reducible exact LeO.refl _)
   | (with_reducible exact LeO.none _)
   | (with_reducible refine LeO.ite ?_ ?_)
   | (with_reducible refine LeO.bind ?_ (fun _ => ?_))
   | exact ih0 _ _ _
   | exact LeO.none _
   | refine LeO.ite ?_ ?_
   | refine LeO.bind ?_ (fun _ => ?_)
set_option maxHeartbeats 8000000 in
set_option maxRecDepth 100000 in
theorem laws_eqStringS.calls (k : Nat) (A0 : Option Addr) (c0 : Nat) (l0 : List ByteArray) (A1 : Option Addr) (c1 : Nat) (l1 : List ByteArray) (r : Bool) (w : World) (dn : Kd.C Kd.string w A0 l0.length l0) (d5 : l0.length ≤ c0) (NR : Kd.C Kd.string w A1 l1.length l1) (NS : l1.length ≤ c1) (h : laws_eqStringS.f k l0 l1 = some r) :
  Calls Tryz.prog 8 #[.slice A0 l0.length c0, .slice A1 l1.length c1] w fun e w' => e = .returned (.bool r) ∧ Drawn0 w w' := by
 have dM := am dn;have lr := am d5;clear dn d5;have NT := am NR;have HC1 := am NS;clear NR NS;have H : (if (l0.length : Int) = (l1.length : Int) then (laws_eqStringS.l0 k l0 l1 0) else (some false)) = some r := h;clear h;by_cases c3 : (l0.length : Int) = (l1.length : Int)
 ·
  rw [if_pos c3] at H;have c3b0 := qt c3;have c3b1 := bf c3
  have c3b2 : (l0.length == l1.length) = true := by first | simpa using c3 | (simp at c3 ⊢; omega)
  clear c3;have H' := am H;clear H;go_enter Tryz.func8, Tryz.ntmps8;go_wp2
  repeat (go_quiet (fail); try go_wp2)
  go_loopg [5] k (fun kq v5 w' => ∃ (az : Int), v5 = .int .i64 az ∧ Aside0 (laws_eqStringS.l0 kq l0 l1 az = some r) ∧ Aside0 (kq ≤ k) ∧ Drawn0 w w')
  case atStart => exact ⟨(0), au107, H', ⟨Nat.le_refl _⟩, by repeat (first | exact Drawn0.refl _ | apply Drawn0.step)⟩
  case round =>
   clear H'
   try clear c1
   try clear p2
   try clear c3
   try clear c3b0
   try clear c3b1
   try clear c3b2
   obtain ⟨az, rfl, HA, HK1, ⟨m1, rfl⟩⟩ := hrel
   cases gk with
   | zero => exact absurd HA.out (by simp [laws_eqStringS.l0])
   | succ k1 =>
    have H := HA.out;clear HA;simp only [laws_eqStringS.l0] at H;by_cases c4 : az < (l0.length : Int)
    ·
     rw [if_pos c4] at H;have c4b0 := dt c4;clear c4;by_cases c5 : 0 ≤ az
     ·
      rw [if_pos c5] at H;have c5b0 := dt c5;clear c5;by_cases c6 : az < (l1.length : Int)
      ·
       rw [if_pos c6] at H;have c6b0 := dt c6;clear c6;by_cases c7 : (rdOf ByteArray.empty l0 az).toList = (rdOf ByteArray.empty l1 az).toList
       ·
        rw [if_pos c7] at H;have c7b0 := qt c7;have c7b1 := bf c7;clear c7;have H' := am H;clear H;have xJ : 0 ≤ (az : Int) := od au106;have xK : az < (l0.length : Int) := od au106;obtain ⟨Zi, OA, Sp⟩ := Kd.at_string dM.out az xJ xK
        cases OA
        replace xJ := eq_true xJ;replace xK := eq_true xK;have xL : 0 ≤ (az : Int) := od au106;have xM : az < (l1.length : Int) := od au106;obtain ⟨Zj, OB, Sq⟩ := Kd.at_string NT.out az xL xM
        cases OB
        replace xL := eq_true xL;replace xM := eq_true xM;go_wp2
        repeat (go_quiet (fail); try go_wp2)
        go_roundg k1
        case measure => have := HK1.out; omega
        case rel => exact ⟨(wrap64 (az + 1)), au107, H', ⟨by have := HK1.out; omega⟩, by repeat (first | exact Drawn0.refl _ | apply Drawn0.step)⟩
       ·
        rw [if_neg c7] at H;have c7b0 := qf c7;have c7b1 := bu c7;obtain rfl := ojz H;have xJ : 0 ≤ (az : Int) := od au106;have xK : az < (l0.length : Int) := od au106;obtain ⟨Zi, OA, Sp⟩ := Kd.at_string dM.out az xJ xK
        cases OA
        replace xJ := eq_true xJ;replace xK := eq_true xK;have xL : 0 ≤ (az : Int) := od au106;have xM : az < (l1.length : Int) := od au106;obtain ⟨Zj, OB, Sq⟩ := Kd.at_string NT.out az xL xM
        cases OB
        replace xL := eq_true xL;replace xM := eq_true xM;go_wp2
        repeat (go_quiet (fail); try go_wp2)
        go_ret;exact ax0
      · rw [if_neg c6] at H;exact absurd H (by simp)
     · rw [if_neg c5] at H;exact absurd H (by simp)
    ·
     rw [if_neg c4] at H;have c4b0 := df c4;clear c4;obtain rfl := ojz H;go_wp2
     repeat (go_quiet (fail); try go_wp2)
     go_ret;exact ax0
 ·
  rw [if_neg c3] at H;have c3b0 := qf c3;have c3b1 := bu c3
  have c3b2 : (l0.length == l1.length) = false := by first | simpa using c3 | (simp at c3 ⊢; omega)
  obtain rfl := ojz H;go_enter Tryz.func8, Tryz.ntmps8;go_wp2
  repeat (go_quiet (fail); try go_wp2)
  go_ret;exact ax0
def laws_markText.l0 : Nat → Int → ByteArray → Option (ByteArray)
 | 0, _, _ => none
 | k + 1, x0, x3 => if x0 > 0 then ((some (([(wrap64 (48 + (Int.tmod x0 10))) % 256] : List Int) : List Int)).bind fun uA => (if (strOfNums uA).size + x3.size ≤ 9223372036854775807 then (laws_markText.l0 k (wrap64 (Int.tdiv x0 10)) ((strOfNums uA) ++ x3)) else (none))) else (if 1 + x3.size ≤ 9223372036854775807 then (some ((⟨#[109]⟩ : ByteArray) ++ x3)) else (none))
def laws_markText.f (k : Nat) (a0 : Int) : Option (ByteArray) := if a0 ≤ 0 then (some (⟨#[109, 48]⟩ : ByteArray)) else (laws_markText.l0 k a0 (⟨#[]⟩ : ByteArray))
theorem laws_markText.mono_l : ∀ k, (∀ y0 y1, LeO (laws_markText.l0 k y0 y1) (laws_markText.l0 (k + 1) y0 y1))
 | 0 => fun _ _ r h => by simp [laws_markText.l0] at h
 | k + 1 => by
  have ih0 := laws_markText.mono_l k
  ·
   intro y0 y1;unfold laws_markText.l0
   repeat' first
   | (with_reducible exact ih0 _ _)
   | (with_reducible exact LeO.refl _)
   | (with_reducible exact LeO.none _)
   | (with_reducible refine LeO.ite ?_ ?_)
   | (with_reducible refine LeO.bind ?_ (fun _ => ?_))
   | exact ih0 _ _
   | exact LeO.none _
   | refine LeO.ite ?_ ?_
   | refine LeO.bind ?_ (fun _ => ?_)
theorem laws_markText.mono : ∀ a0 k, LeO (laws_markText.f k a0) (laws_markText.f (k + 1) a0) := by
 intro a0 k;have ih0 := laws_markText.mono_l k;unfold laws_markText.f
 repeat' first
   | (with_reducible exact ih0 _ _)
   | (with_reducible exact LeO.refl _)
   | (with_reducible exact LeO.none _)
   | (with_reducible refine LeO.ite ?_ ?_)
   | (with_reducible refine LeO.bind ?_ (fun _ => ?_))
   | exact ih0 _ _
   | exact LeO.none _
   | refine LeO.ite ?_ ?_
   | refine LeO.bind ?_ (fun _ => ?_)
set_option maxHeartbeats 8000000 in
set_option maxRecDepth 100000 in
theorem laws_markText.calls (k : Nat) (a0 : Int) (r : ByteArray) (w : World) (h : laws_markText.f k a0 = some r) :
  Calls Tryz.prog 24 #[.int .i64 a0] w fun e w' => e = .returned (.string r) ∧ Below w.heap.size w w' := by
 have HB := am (Below.refl w.heap.size w);have H : (if a0 ≤ 0 then (some (⟨#[109, 48]⟩ : ByteArray)) else (laws_markText.l0 k a0 (⟨#[]⟩ : ByteArray))) = some r := h;clear h;by_cases c2 : a0 ≤ 0
 · rw [if_pos c2] at H;have c2b0 := dt c2;clear c2;obtain rfl := ojz H;go_enter Tryz.func24, Tryz.ntmps24;go_wp2;go_ret;exact ax1
 ·
  rw [if_neg c2] at H;have c2b0 := df c2;clear c2;have H' := am H;clear H;go_enter Tryz.func24, Tryz.ntmps24;go_wp2
  go_loopg [0, 3] k (fun kq v0 v3 w' => ∃ (bO : Int) (aJ : ByteArray), v0 = .int .i64 bO ∧ v3 = .string aJ ∧ Aside0 (laws_markText.l0 kq bO aJ = some r) ∧ Aside0 (kq ≤ k) ∧ Aside0 (Below w.heap.size w w'))
  case atStart => exact ⟨(a0), ((⟨#[]⟩ : ByteArray)), au107, au107, H', ⟨Nat.le_refl _⟩, ⟨by repeat (first | (with_reducible first | exact HB.out | apply below_alloc | apply pw_below_drewN | apply below_drew1) | exact HB.out)⟩⟩
  case round =>
   clear H'
   try clear c2
   try clear c2b0
   try clear p2
   obtain ⟨bO, aJ, rfl, rfl, HA, HK1, HB⟩ := hrel
   cases gk with
   | zero => exact absurd HA.out (by simp [laws_markText.l0])
   | succ k1 =>
    have H := HA.out;clear HA;simp only [laws_markText.l0] at H;by_cases c3 : bO > 0
    ·
     rw [if_pos c3] at H;have c3b0 := dt c3;clear c3
     obtain ⟨uA, Am⟩ : ∃ y_ : List Int, y_ = (([(wrap64 (48 + (Int.tmod bO 10))) % 256] : List Int)) := ⟨_, rfl⟩
     replace H : (if (strOfNums uA).size + aJ.size ≤ 9223372036854775807 then (laws_markText.l0 k1 (wrap64 (Int.tdiv bO 10)) ((strOfNums uA) ++ aJ)) else (none)) = some r := by first | (rw [Am]; with_reducible exact H) | (have H2_ := (Option.bind_some _ _).symm.trans H; rw [Am]; with_reducible exact H2_) | (have H2_ := (Option.bind_some _ _).symm.trans H; with_reducible exact H2_) | with_reducible exact H | (rw [Am]; exact H) | exact H
     have Rl := am Am;clear Am;by_cases c4 : (strOfNums uA).size + aJ.size ≤ 9223372036854775807
     ·
      rw [if_pos c4] at H;have c4b0 := eq_true c4;have c4b1 := dt c4
      try have c4b2 : (9223372036854775807 < (strOfNums uA).size + aJ.size) = False := eq_false (Nat.not_lt.2 c4)
      have H' := am H;clear H;go_wp2_with (first | ((with_reducible refine gate_dst (N := 12) rfl ?_); refine Kd.R_lit (Kd.int .u8) _ 5 ?hg (N := 12) ?hd (xs := ([(wrap64 (48 + (Int.tmod bO 10))) % 256] : List Int)) (inner := [.int .u8 ((wrap64 (48 + (Int.tmod bO 10))) % 256)]) (ok := fun _ => True) (okp := fun _ => True) ?hr ?hp (fun _ hk => hk) trivial (Below.refl _ _) (Nat.le_refl _) (by simp) ?_; (case hd => rfl); (case hg => rfl); (case hr => first | (go_simp; done) | (go_simp; rfl)); (case hp => exact (Reps.one (show Kd.M (Kd.int .u8) _ _ _ ((wrap64 (48 + (Int.tmod bO 10))) % 256) [.int .u8 ((wrap64 (48 + (Int.tmod bO 10))) % 256)] from rfl) (Reps.none _ _))); intro anm w5 ho6 hb hg_ hnew_; clear hg_ hnew_; (first | rw [← Rl.out] at ho6 | (simp only [Int.reduceToNat] at ho6; rw [← Rl.out] at ho6)); have Zk := am (Kd.R_lower ho6 (below_size au51)); replace HB := am (below_step au51 hb); clear hb ho6; have hcv7 := own_string (P := Tryz.prog) Tryz.underlying68 Tryz.underlying5 Tryz.underlying9 (Kd.own_of_R Zk.out)))
      go_roundg k1
      case measure => have := HK1.out; omega
      case rel => exact ⟨(wrap64 (Int.tdiv bO 10)), ((strOfNums uA) ++ aJ), au107, au107, H', ⟨by have := HK1.out; omega⟩, ⟨by repeat (first | (with_reducible first | exact HB.out | apply below_alloc | apply pw_below_drewN | apply below_drew1) | exact HB.out)⟩⟩
     · rw [if_neg c4] at H;exact absurd H (by simp)
    ·
     rw [if_neg c3] at H;have c3b0 := df c3;clear c3;by_cases c8 : 1 + aJ.size ≤ 9223372036854775807
     ·
      rw [if_pos c8] at H;have c8b0 := eq_true c8;have c8b1 := dt c8
      try have c8b2 : (9223372036854775807 < 1 + aJ.size) = False := eq_false (Nat.not_lt.2 c8)
      obtain rfl := ojz H;go_wp2;go_ret;exact ax1
     · rw [if_neg c8] at H;exact absurd H (by simp)
def laws_markStringS.l0 : Nat → List ByteArray → Int → Int → Option (Int × List ByteArray)
 | 0, _, _, _ => none
 | k + 1, x0, x1, x5 => if x5 < (x0.length : Int) then ((laws_markText.f k x1).bind fun Be => (if 0 ≤ x5 then (laws_markStringS.l0 k (x0.set (x5 : Int).toNat Be) (wrap64 (x1 + 1)) (wrap64 (x5 + 1))) else (none))) else (some (x1, x0))
def laws_markStringS.f (k : Nat) (l0 : List ByteArray) (a1 : Int) : Option (Int × List ByteArray) := laws_markStringS.l0 k l0 a1 0
theorem laws_markStringS.mono_l : ∀ k, (∀ y0 y1 y2, LeO (laws_markStringS.l0 k y0 y1 y2) (laws_markStringS.l0 (k + 1) y0 y1 y2))
 | 0 => fun _ _ _ r h => by simp [laws_markStringS.l0] at h
 | k + 1 => by
  have ih0 := laws_markStringS.mono_l k
  ·
   intro y0 y1 y2;unfold laws_markStringS.l0
   repeat' first
   | (with_reducible exact ih0 _ _ _)
   | (with_reducible exact laws_markText.mono _ _)
   | (with_reducible exact LeO.refl _)
   | (with_reducible exact LeO.none _)
   | (with_reducible refine LeO.ite ?_ ?_)
   | (with_reducible refine LeO.bind ?_ (fun _ => ?_))
   | exact ih0 _ _ _
   | exact laws_markText.mono _ _
   | exact LeO.none _
   | refine LeO.ite ?_ ?_
   | refine LeO.bind ?_ (fun _ => ?_)
theorem laws_markStringS.mono : ∀ a0 a1 k, LeO (laws_markStringS.f k a0 a1) (laws_markStringS.f (k + 1) a0 a1) := by
 intro a0 a1 k;have ih0 := laws_markStringS.mono_l k;unfold laws_markStringS.f
 repeat' first
   | (with_reducible exact ih0 _ _ _)
   | (with_reducible exact laws_markText.mono _ _)
   | (with_reducible exact LeO.refl _)
   | (with_reducible exact LeO.none _)
   | (with_reducible refine LeO.ite ?_ ?_)
   | (with_reducible refine LeO.bind ?_ (fun _ => ?_))
   | exact ih0 _ _ _
   | exact laws_markText.mono _ _
   | exact LeO.none _
   | refine LeO.ite ?_ ?_
   | refine LeO.bind ?_ (fun _ => ?_)
set_option maxHeartbeats 8000000 in
set_option maxRecDepth 100000 in
theorem laws_markStringS.calls (k : Nat) (P0_ : Nat → Prop) (uB : Value) (l0 : List ByteArray) (a1 : Int) (r1 : Int) (r2 : List ByteArray) (w0 w : World) (hB : Below w0.heap.size w0 w) (ho0 : Kd.R Kd.string 9 w w0.heap.size P0_ uB l0) (h : laws_markStringS.f k l0 a1 = some (r1, r2)) :
  Calls Tryz.prog 11 #[uB, .int .i64 a1] w fun e w' => e = .returned (.int .i64 r1) ∧ Kd.R Kd.string 9 w' w0.heap.size (fun k_ => (P0_ k_ ∨ w.heap.size ≤ k_)) uB r2 ∧ Below w0.heap.size w0 w' ∧ Kept w w' (fun k_ => P0_ k_) := by
 have HO0 := am (show Kd.R Kd.string 9 w w0.heap.size (fun k_ => (P0_ k_ ∨ w.heap.size ≤ k_)) uB l0 from Kd.R_mono ho0 (fun k_ hk => (.inl hk)));have HK := am (Kept.refl w (fun k_ => P0_ k_));have HW0 := am hB.size;have HB := am hB;clear hB;have H : (laws_markStringS.l0 k l0 a1 0) = some (r1, r2) := h;clear h;have H' := am H;clear H;go_enter Tryz.func11, Tryz.ntmps11;go_wp2
 go_loopg [1, 5] k (fun kq v1 v5 w' => ∃ (bO : List ByteArray) (dX : Int) (az : Int), v1 = .int .i64 dX ∧ v5 = .int .i64 az ∧ Aside0 (laws_markStringS.l0 kq bO dX az = some (r1, r2)) ∧ Aside0 (kq ≤ k) ∧ Aside0 (Kd.R Kd.string 9 w' w0.heap.size (fun k_ => (P0_ k_ ∨ w.heap.size ≤ k_)) uB bO) ∧ Aside0 (Kept w w' (fun k_ => P0_ k_)) ∧ Aside0 (Below w0.heap.size w0 w'))
 case atStart => exact ⟨(l0), (a1), (0), au107, au107, H', ⟨Nat.le_refl _⟩, ⟨by (with_reducible repeat (first | apply Kd.R_alloc | apply Kd.R_drewN | apply Kd.R_drew)); exact HO0.out⟩, ⟨by repeat (first | (with_reducible first | exact HK.out | apply Kept.alloc | apply Kept.drewN | apply Kept.drew) | exact HK.out)⟩, ⟨by repeat (first | (with_reducible first | exact HB.out | apply below_alloc | apply pw_below_drewN | apply below_drew1) | exact HB.out)⟩⟩
 case round =>
  clear H'
  try clear c1
  try clear p2
  obtain ⟨bO, dX, az, rfl, rfl, HA, HK1, lw, HK, HB⟩ := hrel
  cases gk with
  | zero => exact absurd HA.out (by simp [laws_markStringS.l0])
  | succ k1 =>
   have H := HA.out;clear HA;simp only [laws_markStringS.l0] at H;by_cases c3 : az < (bO.length : Int)
   ·
    rw [if_pos c3] at H;have c3b0 := dt c3;clear c3;replace H := ob H;obtain ⟨Be, i8, H⟩ := H
    try dsimp only at H
    have A4 := am i8;clear i8;by_cases c5 : 0 ≤ az
    ·
     rw [if_pos c5] at H;have c5b0 := dt c5;clear c5
     obtain ⟨OC, An⟩ : ∃ y_ : List ByteArray, y_ = (bO.set (az : Int).toNat Be) := ⟨_, rfl⟩
     replace H : (laws_markStringS.l0 k1 OC (wrap64 (dX + 1)) (wrap64 (az + 1))) = some (r1, r2) := by first | (rw [An]; with_reducible exact H) | (have H2_ := (Option.bind_some _ _).symm.trans H; rw [An]; with_reducible exact H2_) | (have H2_ := (Option.bind_some _ _).symm.trans H; with_reducible exact H2_) | with_reducible exact H | (rw [An]; exact H) | exact H
     have Zl := am An;clear An;have H' := am H;clear H;obtain ⟨Ao7, co7, eo7⟩ := Kd.R_slice lw.out;subst eo7;go_wp2_with (first | ((with_reducible refine gate_callee (f := 24) rfl ?_); refine goesL_ (some 15) rfl rfl Tryz.func24 (by kernel_rfl) rfl #[.int .i64 dX] rfl au50 ?_; (with_reducible refine (laws_markText.calls k1 dX Be _ A4.out).mono ?_); rintro e w8 ⟨rfl, hb⟩; refine ⟨_, rfl, ?_⟩; replace lw := am (Kd.R_below (by (with_reducible repeat (first | apply Kd.R_alloc | apply Kd.R_drewN | apply Kd.R_drew)); exact lw.out) hb); replace HK := am (Kept.below (S := (fun k_ => P0_ k_)) au52 hb); replace HB := am (below_step au51 hb); (try clear hb); have p6 : 0 ≤ (az : Int) := od au106; have q6 : (az : Int) < ((bO.length : Int) : Int) := od au106; obtain ⟨go6, co6, eo6, gb6, gl6, cl6, HG6⟩ := Kd.R_form lw.out (by omega); (first | cases eo6 | (injection eo6 with ea_ en_ ec_; (first | subst ea_ | (injection ea_ with ea_; subst ea_)); subst ec_; clear en_)); have GB6 := am gb6; have GG6 := am HG6; clear gb6 gl6 HG6; have HMgo6 := am (show (P0_ go6 ∨ w.heap.size ≤ go6) from (lw.out.1 _ rfl)); obtain ⟨alD, alE⟩ := Kd.R_celln (⟨#[]⟩ : ByteArray) lw.out (az : Int) p6 q6; replace p6 := eq_true p6; replace q6 := eq_true q6; obtain ⟨ann, ano⟩ := Kd.R_celln (⟨#[]⟩ : ByteArray) lw.out (az : Int) (od au106) (od au106); have WE := Kd.R_putg lw.out (az : Int) Be) | ((with_reducible refine gate_store (t := 9) (p := 16) rfl ?_); refine store_event (t := 9) (p := 16) (v := ?vo_w10) (w1 := (w8.setCell ⟨go6, (az : Int).toNat, none⟩ (.string Be))) ?hg ?ho ?hn ?hr ?_; (case ho => rfl); (case hg => rfl); (case hn => rfl); (case hr => first | (go_simp; done) | (go_simp; rfl)); intro uw hw; have hg : w8.grownBy uw (some go6) := (by rw [hw]; exact WE.2); have hp_ : Kd.R Kd.string 9 uw w0.heap.size (fun k_ => (P0_ k_ ∨ w.heap.size ≤ k_)) (.slice (some ⟨go6, 0, none⟩) bO.length co7) OC := (by rw [hw, Zl.out]; exact WE.1); clear WE; replace HB := am ((by rw [hw]; exact below_set (HB.out) GB6.out : Below w0.heap.size w0 uw)); replace HK := am (Kept.of_grown (S := (fun k_ => P0_ k_)) hg au52 (fun k_ e_ => (lw.out.1 k_ e_))); replace lw := am (hp_); clear hg hw hp_))
     go_roundg k1
     case measure => have := HK1.out; omega
     case rel => exact ⟨(OC), (wrap64 (dX + 1)), (wrap64 (az + 1)), au107, au107, H', ⟨by have := HK1.out; omega⟩, ⟨by (with_reducible repeat (first | apply Kd.R_alloc | apply Kd.R_drewN | apply Kd.R_drew)); exact lw.out⟩, ⟨by repeat (first | (with_reducible first | exact HK.out | apply Kept.alloc | apply Kept.drewN | apply Kept.drew) | exact HK.out)⟩, ⟨by repeat (first | (with_reducible first | exact HB.out | apply below_alloc | apply pw_below_drewN | apply below_drew1) | exact HB.out)⟩⟩
    · rw [if_neg c5] at H;exact absurd H (by simp)
   · rw [if_neg c3] at H;have c3b0 := df c3;clear c3;simp only [Option.some.injEq, Prod.mk.injEq] at H;obtain ⟨rfl, rfl⟩ := H;obtain ⟨anp, anq, a3a⟩ := Kd.R_slice lw.out;subst a3a;go_wp2;go_ret;exact ⟨by first | rfl | (simp [errW_none, errW_some] <;> rfl) | (simp [*, errW_none, errW_some] <;> rfl), by (with_reducible repeat (first | apply Kd.R_alloc | apply Kd.R_drewN | apply Kd.R_drew)); exact lw.out, by repeat (first | (with_reducible first | exact HB.out | apply below_alloc | apply pw_below_drewN | apply below_drew1) | exact HB.out), by repeat (first | (with_reducible first | exact HK.out | apply Kept.alloc | apply Kept.drewN | apply Kept.drew) | exact HK.out)⟩
def laws_heldStringS.l0 : Nat → List ByteArray → Int → Int → Option (Int)
 | 0, _, _, _ => none
 | k + 1, x0, x1, x5 => if x5 < (x0.length : Int) then (if 0 ≤ x5 then ((laws_markText.f k x1).bind fun FF => (if (rdOf ByteArray.empty x0 x5).toList = FF.toList then (laws_heldStringS.l0 k x0 (wrap64 (x1 + 1)) (wrap64 (x5 + 1))) else (some (-1)))) else (none)) else (some x1)
def laws_heldStringS.f (k : Nat) (l0 : List ByteArray) (a1 : Int) : Option (Int) := laws_heldStringS.l0 k l0 a1 0
theorem laws_heldStringS.mono_l : ∀ k, (∀ y0 y1 y2, LeO (laws_heldStringS.l0 k y0 y1 y2) (laws_heldStringS.l0 (k + 1) y0 y1 y2))
 | 0 => fun _ _ _ r h => by simp [laws_heldStringS.l0] at h
 | k + 1 => by
  have ih0 := laws_heldStringS.mono_l k
  ·
   intro y0 y1 y2;unfold laws_heldStringS.l0
   repeat' first
   | (with_reducible exact ih0 _ _ _)
   | (with_reducible exact laws_markText.mono _ _)
   | (with_reducible exact LeO.refl _)
   | (with_reducible exact LeO.none _)
   | (with_reducible refine LeO.ite ?_ ?_)
   | (with_reducible refine LeO.bind ?_ (fun _ => ?_))
   | exact ih0 _ _ _
   | exact laws_markText.mono _ _
   | exact LeO.none _
   | refine LeO.ite ?_ ?_
   | refine LeO.bind ?_ (fun _ => ?_)
theorem laws_heldStringS.mono : ∀ a0 a1 k, LeO (laws_heldStringS.f k a0 a1) (laws_heldStringS.f (k + 1) a0 a1) := by
 intro a0 a1 k;have ih0 := laws_heldStringS.mono_l k;unfold laws_heldStringS.f
 repeat' first
   | (with_reducible exact ih0 _ _ _)
   | (with_reducible exact laws_markText.mono _ _)
   | (with_reducible exact LeO.refl _)
   | (with_reducible exact LeO.none _)
   | (with_reducible refine LeO.ite ?_ ?_)
   | (with_reducible refine LeO.bind ?_ (fun _ => ?_))
   | exact ih0 _ _ _
   | exact laws_markText.mono _ _
   | exact LeO.none _
   | refine LeO.ite ?_ ?_
   | refine LeO.bind ?_ (fun _ => ?_)
set_option maxHeartbeats 8000000 in
set_option maxRecDepth 100000 in
theorem laws_heldStringS.calls (k : Nat) (A0 : Option Addr) (c0 : Nat) (l0 : List ByteArray) (a1 : Int) (r : Int) (w : World) (dn : Kd.C Kd.string w A0 l0.length l0) (d5 : l0.length ≤ c0) (h : laws_heldStringS.f k l0 a1 = some r) :
  Calls Tryz.prog 12 #[.slice A0 l0.length c0, .int .i64 a1] w fun e w' => e = .returned (.int .i64 r) ∧ Below w.heap.size w w' := by
 have dM := am dn;have lr := am d5;clear dn d5;have HB := am (Below.refl w.heap.size w);have H : (laws_heldStringS.l0 k l0 a1 0) = some r := h;clear h;have H' := am H;clear H;go_enter Tryz.func12, Tryz.ntmps12;go_wp2
 go_loopg [1, 5] k (fun kq v1 v5 w' => ∃ (dX : Int) (az : Int), v1 = .int .i64 dX ∧ v5 = .int .i64 az ∧ Aside0 (laws_heldStringS.l0 kq l0 dX az = some r) ∧ Aside0 (kq ≤ k) ∧ Aside0 (Below w.heap.size w w'))
 case atStart => exact ⟨(a1), (0), au107, au107, H', ⟨Nat.le_refl _⟩, ⟨by repeat (first | (with_reducible first | exact HB.out | apply below_alloc | apply pw_below_drewN | apply below_drew1) | exact HB.out)⟩⟩
 case round =>
  clear H'
  try clear c1
  try clear p2
  obtain ⟨dX, az, rfl, rfl, HA, HK1, HB⟩ := hrel
  cases gk with
  | zero => exact absurd HA.out (by simp [laws_heldStringS.l0])
  | succ k1 =>
   have H := HA.out;clear HA;simp only [laws_heldStringS.l0] at H;by_cases c3 : az < (l0.length : Int)
   ·
    rw [if_pos c3] at H;have c3b0 := dt c3;clear c3;by_cases c4 : 0 ≤ az
    ·
     rw [if_pos c4] at H;have c4b0 := dt c4;clear c4;replace H := ob H;obtain ⟨FF, mJ, H⟩ := H
     try dsimp only at H
     have A5 := am mJ;clear mJ;by_cases c6 : (rdOf ByteArray.empty l0 az).toList = FF.toList
     ·
      rw [if_pos c6] at H;have c6b0 := qt c6;have c6b1 := bf c6;clear c6;have H' := am H;clear H
      try go_wp2
      replace HB := am (below_drew1 HB.out);have xN : 0 ≤ (az : Int) := od au106;have xO : az < (l0.length : Int) := od au106;obtain ⟨Mk, OD, iK⟩ := Kd.at_string dM.out az xN xO;have qp := iK
      cases OD
      replace iK := bcl HB.out iK;replace xN := eq_true xN;replace xO := eq_true xO;refine start_ (n := 7) (S := fun w' => w'.cell? (Mk.add (az).toNat) = some (.string (rdOf ByteArray.empty l0 az))) (ds := []) #[false, false, false, false, false, false, false] (by kernel_rfl) rfl rfl ((bcl HB.out qp)) (fun hHeld => ?_);generalize wr.drew = w7 at HB iK hHeld ⊢;refine pure_ (i := 0) (N := some 12) (v := ?_) (a' := ?_) #[true, false, false, false, false, false, false] rfl rfl (by kernel_rfl) (fun _ _ _ h => h) (Or.inl ⟨by rfl, ?_⟩) ?_ ?_
      rotate_left
      ·
       intro w'
       go_simp
       with_reducible rfl
      rotate_left
      · simp only [Act.put, List.setIfInBounds_toArray, List.set_cons_zero, List.set_cons_succ, i64_w, i32_w];rfl
      refine pure_ (i := 1) (N := some 13) (v := ?_) (a' := ?_) #[true, true, false, false, false, false, false] rfl rfl (by kernel_rfl) (fun _ _ _ h => h) (Or.inl ⟨by rfl, ?_⟩) ?_ ?_
      rotate_left
      ·
       intro w'
       go_simp
       with_reducible rfl
      rotate_left
      · simp only [Act.put, List.setIfInBounds_toArray, List.set_cons_zero, List.set_cons_succ, i64_w, i32_w];rfl
      refine pure_ (i := 2) (N := some 14) (v := ?_) (a' := ?_) #[true, true, true, false, false, false, false] rfl rfl (by kernel_rfl) (fun _ _ _ h => h) (Or.inl ⟨by rfl, ?_⟩) ?_ ?_
      rotate_left
      ·
       intro w'
       go_simp
       with_reducible rfl
      rotate_left
      · simp only [Act.put, List.setIfInBounds_toArray, List.set_cons_zero, List.set_cons_succ, i64_w, i32_w];rfl
      refine pure_ (i := 4) (N := some 16) (v := ?_) (a' := ?_) #[true, true, true, false, true, false, false] rfl rfl (by kernel_rfl) (fun _ _ _ h => h) (Or.inl ⟨by rfl, ?_⟩) ?_ ?_
      rotate_left
      ·
       intro w'
       go_simp
       with_reducible rfl
      rotate_left
      · simp only [Act.put, List.setIfInBounds_toArray, List.set_cons_zero, List.set_cons_succ, i64_w, i32_w];rfl
      refine take_ (i := 3) (N := some 15) (v := ?_) (a' := ?_) #[true, true, true, true, true, false, false] rfl rfl (by kernel_rfl) (fun _ _ _ h => h) (Or.inl ⟨by rfl, ?_⟩) hHeld ?_ ?_
      rotate_left
      ·
       intro w' s0
       go_simp
       with_reducible rfl
      rotate_left
      · simp only [Act.put, List.setIfInBounds_toArray, List.set_cons_zero, List.set_cons_succ, i64_w, i32_w];rfl
      refine one_ (i := 5) (N := some 17) #[true, true, true, true, true, true, false] rfl rfl (by kernel_rfl) (by decide) (fun K hK => ?_);refine gs_ Tryz.func24 #[.int .i64 dX] ?_
      with_reducible refine (laws_markText.calls k1 dX FF _ A5.out).mono ?_
      rintro e w8 ⟨rfl, hb⟩;refine ⟨_, rfl, ?_⟩;replace HB := am (below_step au51 hb)
      (try clear hb)
      refine hK.out _ _ ((bcl HB.out qp)) (fun hHeld => ?_);clear hK K;refine no_ (some 17) ?_;refine pure_ (i := 6) (N := some 18) (v := ?_) (a' := ?_) #[true, true, true, true, true, true, true] rfl rfl (by kernel_rfl) (fun _ _ _ h => h) (Or.inl ⟨by rfl, ?_⟩) ?_ ?_
      rotate_left
      ·
       intro w'
       go_simp
       with_reducible rfl
      rotate_left
      · simp only [Act.put, List.setIfInBounds_toArray, List.set_cons_zero, List.set_cons_succ, i64_w, i32_w];rfl
      refine done_ (by kernel_rfl) ?_
      try go_wp2
      go_roundg k1
      case measure => have := HK1.out; omega
      case rel => exact ⟨(wrap64 (dX + 1)), (wrap64 (az + 1)), au107, au107, H', ⟨by have := HK1.out; omega⟩, ⟨by repeat (first | (with_reducible first | exact HB.out | apply below_alloc | apply pw_below_drewN | apply below_drew1) | exact HB.out)⟩⟩
     ·
      rw [if_neg c6] at H;have c6b0 := qf c6;have c6b1 := bu c6;obtain rfl := ojz H
      try go_wp2
      replace HB := am (below_drew1 HB.out);have xN : 0 ≤ (az : Int) := od au106;have xO : az < (l0.length : Int) := od au106;obtain ⟨Mk, OD, iK⟩ := Kd.at_string dM.out az xN xO;have qp := iK
      cases OD
      replace iK := bcl HB.out iK;replace xN := eq_true xN;replace xO := eq_true xO;refine start_ (n := 7) (S := fun w' => w'.cell? (Mk.add (az).toNat) = some (.string (rdOf ByteArray.empty l0 az))) (ds := []) #[false, false, false, false, false, false, false] (by kernel_rfl) rfl rfl ((bcl HB.out qp)) (fun hHeld => ?_);generalize wr.drew = w9 at HB iK hHeld ⊢;refine pure_ (i := 0) (N := some 12) (v := ?_) (a' := ?_) #[true, false, false, false, false, false, false] rfl rfl (by kernel_rfl) (fun _ _ _ h => h) (Or.inl ⟨by rfl, ?_⟩) ?_ ?_
      rotate_left
      ·
       intro w'
       go_simp
       with_reducible rfl
      rotate_left
      · simp only [Act.put, List.setIfInBounds_toArray, List.set_cons_zero, List.set_cons_succ, i64_w, i32_w];rfl
      refine pure_ (i := 1) (N := some 13) (v := ?_) (a' := ?_) #[true, true, false, false, false, false, false] rfl rfl (by kernel_rfl) (fun _ _ _ h => h) (Or.inl ⟨by rfl, ?_⟩) ?_ ?_
      rotate_left
      ·
       intro w'
       go_simp
       with_reducible rfl
      rotate_left
      · simp only [Act.put, List.setIfInBounds_toArray, List.set_cons_zero, List.set_cons_succ, i64_w, i32_w];rfl
      refine pure_ (i := 2) (N := some 14) (v := ?_) (a' := ?_) #[true, true, true, false, false, false, false] rfl rfl (by kernel_rfl) (fun _ _ _ h => h) (Or.inl ⟨by rfl, ?_⟩) ?_ ?_
      rotate_left
      ·
       intro w'
       go_simp
       with_reducible rfl
      rotate_left
      · simp only [Act.put, List.setIfInBounds_toArray, List.set_cons_zero, List.set_cons_succ, i64_w, i32_w];rfl
      refine pure_ (i := 4) (N := some 16) (v := ?_) (a' := ?_) #[true, true, true, false, true, false, false] rfl rfl (by kernel_rfl) (fun _ _ _ h => h) (Or.inl ⟨by rfl, ?_⟩) ?_ ?_
      rotate_left
      ·
       intro w'
       go_simp
       with_reducible rfl
      rotate_left
      · simp only [Act.put, List.setIfInBounds_toArray, List.set_cons_zero, List.set_cons_succ, i64_w, i32_w];rfl
      refine take_ (i := 3) (N := some 15) (v := ?_) (a' := ?_) #[true, true, true, true, true, false, false] rfl rfl (by kernel_rfl) (fun _ _ _ h => h) (Or.inl ⟨by rfl, ?_⟩) hHeld ?_ ?_
      rotate_left
      ·
       intro w' s0
       go_simp
       with_reducible rfl
      rotate_left
      · simp only [Act.put, List.setIfInBounds_toArray, List.set_cons_zero, List.set_cons_succ, i64_w, i32_w];rfl
      refine one_ (i := 5) (N := some 17) #[true, true, true, true, true, true, false] rfl rfl (by kernel_rfl) (by decide) (fun K hK => ?_);refine gs_ Tryz.func24 #[.int .i64 dX] ?_
      with_reducible refine (laws_markText.calls k1 dX FF _ A5.out).mono ?_
      rintro e uw ⟨rfl, hb⟩;refine ⟨_, rfl, ?_⟩;replace HB := am (below_step au51 hb)
      (try clear hb)
      refine hK.out _ _ ((bcl HB.out qp)) (fun hHeld => ?_);clear hK K;refine no_ (some 17) ?_;refine pure_ (i := 6) (N := some 18) (v := ?_) (a' := ?_) #[true, true, true, true, true, true, true] rfl rfl (by kernel_rfl) (fun _ _ _ h => h) (Or.inl ⟨by rfl, ?_⟩) ?_ ?_
      rotate_left
      ·
       intro w'
       go_simp
       with_reducible rfl
      rotate_left
      · simp only [Act.put, List.setIfInBounds_toArray, List.set_cons_zero, List.set_cons_succ, i64_w, i32_w];rfl
      refine done_ (by kernel_rfl) ?_
      try go_wp2
      go_ret;exact ax1
    · rw [if_neg c4] at H;exact absurd H (by simp)
   · rw [if_neg c3] at H;have c3b0 := df c3;clear c3;obtain rfl := ojz H;go_wp2;go_ret;exact ax1
end Go.Proofs.YthfbogcpjfledaaGreatDoor.G

namespace Go.Proofs.YthfbogcpjfledaaGreatDoor.G
open Go.RowKit Go.Proofs.YthfbogcpjfledaaGreatDoorW.PrintWords Go.Proofs.YthfbogcpjfledaaGreatDoorW.PrintLast Go.Proofs.YthfbogcpjfledaaGreatDoor.B
set_option linter.unusedVariables false
set_option linter.unusedSimpArgs false
theorem eqS_loop (d : Nat) : ∀ (a b : List ByteArray) (i : Nat), a.length = b.length → a.length < 4611686018427387904 → a.length - i = d → i ≤ a.length →
    Ev (fun k => laws_eqStringS.l0 k a b i) (decide (a.drop i = b.drop i)) := by
  induction d with
  | zero =>
    intro a b i hl hm hd hi;refine Ev.step (f := fun _ => some (decide (a.drop i = b.drop i))) (fun k => ?_) (Ev.now _);simp only [laws_eqStringS.l0];rw [if_neg (by omega), List.drop_of_length_le (by omega), List.drop_of_length_le (by omega)];simp
  | succ d ih =>
    intro a b i hl hm hd hi
    have hlt : i < a.length := by omega
    have hlt' : i < b.length := by omega
    have hw : wrap64 ((i : Int) + 1) = ((i + 1 : Nat) : Int) := by rw [w64 (by omega) (by omega)]; rfl
    by_cases e : a[i] = b[i]
    · refine Ev.step (f := fun k => laws_eqStringS.l0 k a b ((i + 1 : Nat) : Int)) (fun k => ?_) (ev_eq (ih a b (i + 1) hl hm (by omega) (by omega)) ?_)
      · simp only [laws_eqStringS.l0]
        rw [if_pos (by omega), if_pos (by omega), if_pos (by omega), if_pos (by simp [rdOf, hlt, hlt', e]), hw]
      · simp only [List.drop_eq_getElem_cons hlt, List.drop_eq_getElem_cons hlt', e, List.cons.injEq, true_and]
    · refine Ev.step (f := fun _ => some (decide (a.drop i = b.drop i))) (fun k => ?_) (Ev.now _)
      simp only [laws_eqStringS.l0];rw [if_pos (by omega), if_pos (by omega), if_pos (by omega), if_neg (by simp [rdOf, hlt, hlt', toList_eq_iff, e])];simp only [List.drop_eq_getElem_cons hlt, List.drop_eq_getElem_cons hlt', List.cons.injEq, e, false_and, decide_false]
theorem eqS_ev (a b : List ByteArray) (ha : a.length < 4611686018427387904) (hb : b.length < 4611686018427387904) : Ev (fun k => laws_eqStringS.f k a b) (decide (a = b)) := by
  unfold laws_eqStringS.f;by_cases h : a.length = b.length
  · exact ev_pos (by omega) (ev_eq (eqS_loop a.length a b 0 h ha rfl (by omega)) (by simp))
  · exact ev_neg (by omega) (ev_eq (Ev.now false) (by rw [eq_comm, decide_eq_false_iff_not]; rintro rfl; exact h rfl))
theorem markText_loop (d : Nat) : ∀ (n : Int) (s : ByteArray), 0 ≤ n → n.toNat < 10 ^ d → s.size + d + 1 ≤ 9223372036854775807 → n ≤ 4611686018427387904 → ∃ r, Ev (fun k => laws_markText.l0 k n s) r := by
  have done : ∀ (n : Int) (s : ByteArray), ¬ n > 0 → s.size + 1 ≤ 9223372036854775807 → ∃ r, Ev (fun k => laws_markText.l0 k n s) r := fun n s hn h =>
    ⟨_, Ev.step (f := fun _ => some ((⟨#[109]⟩ : ByteArray) ++ s)) (fun k => by simp only [laws_markText.l0]; rw [if_neg hn, if_pos (by omega)]) (Ev.now _)⟩
  induction d with
  | zero => intro n s h0 h1 h2 h3; exact done n s (by simp at h1; omega) (by omega)
  | succ d ih =>
    intro n s h0 h1 h2 h3;by_cases hn : n > 0
    · have hq : wrap64 (Int.tdiv n 10) = n / 10 := by rw [Int.tdiv_eq_ediv_of_nonneg h0, w64 (by omega) (by omega)]
      have hs : (strOfNums [(wrap64 (48 + (Int.tmod n 10))) % 256]).size = 1 := by simp [strOfNums, ByteArray.size]
      obtain ⟨r, hr⟩ := ih (wrap64 (Int.tdiv n 10)) (strOfNums [(wrap64 (48 + (Int.tmod n 10))) % 256] ++ s) (by rw [hq]; omega) (by rw [hq]; rw [Nat.pow_succ] at h1; omega) (by rw [size_append, hs]; omega) (by rw [hq]; omega);refine ⟨r, Ev.step (fun k => ?_) hr⟩;simp only [laws_markText.l0];rw [if_pos hn];simp only [Option.bind_some];rw [if_pos (by rw [hs]; omega)]
    · exact done n s hn (by omega)
theorem markText_ex (n : Int) (h0 : 0 ≤ n) (h : n ≤ 4611686018427387904) : ∃ r, Ev (fun k => laws_markText.f k n) r := by
  unfold laws_markText.f;by_cases hn : n ≤ 0
  · exact ⟨_, ev_pos hn (Ev.now _)⟩
  · have e1 : (10 : Nat) ^ 20 = 100000000000000000000 := by decide
    have e2 : (⟨#[]⟩ : ByteArray).size = 0 := rfl;obtain ⟨r, hr⟩ := markText_loop 20 n ⟨#[]⟩ h0 (by rw [e1]; omega) (by rw [e2]; omega) h;exact ⟨r, ev_neg hn hr⟩
noncomputable def mt (n : Int) : ByteArray := open Classical in if h : ∃ r, Ev (fun k => laws_markText.f k n) r then h.choose else ⟨#[]⟩
theorem mt_ev (n : Int) (h0 : 0 ≤ n) (h : n ≤ 4611686018427387904) : Ev (fun k => laws_markText.f k n) (mt n) := by
  unfold mt;rw [dif_pos (markText_ex n h0 h)];exact (markText_ex n h0 h).choose_spec
noncomputable def mts (m : Int) (n : Nat) : List ByteArray := (List.range n).map fun i => mt (m + (i : Nat))
theorem mts_len (m : Int) (n : Nat) : (mts m n).length = n := by simp [mts]
theorem markS_loop (d : Nat) : ∀ (a : List ByteArray) (m : Int) (i : Nat), 0 ≤ m → m + a.length ≤ 4611686018427387904 → a.length - i = d → i ≤ a.length →
    Ev (fun k => laws_markStringS.l0 k (mts m i ++ a.drop i) (m + i) i) (m + a.length, mts m a.length) := by
  induction d with
  | zero =>
    intro a m i h0 h1 hd hi
    have e : i = a.length := by omega
    subst e;refine Ev.step (f := fun _ => some (m + (a.length : Nat), mts m a.length)) (fun k => ?_) (Ev.now _);simp only [laws_markStringS.l0];rw [if_neg (by simp [mts_len]), List.drop_of_length_le (by omega), List.append_nil]
  | succ d ih =>
    intro a m i h0 h1 hd hi
    have hlt : i < a.length := by omega
    refine Ev.step (f := fun k => (laws_markText.f k (m + i)).bind fun t => laws_markStringS.l0 k ((mts m i ++ a.drop i).set i t) (m + ((i + 1 : Nat) : Int)) ((i + 1 : Nat) : Int)) (fun k => ?_) ?_
    · simp only [laws_markStringS.l0]
      rw [if_pos (by simp [mts_len]; omega)]
      congr 1
      funext t
      rw [if_pos (by omega), w64 (by omega) (by omega), w64 (by omega) (by omega)]
      congr 1
      omega
    · refine Ev.bind (mt_ev (m + i) (by omega) (by omega)) ?_
      have e : (mts m i ++ a.drop i).set i (mt (m + (i : Nat))) = mts m (i + 1) ++ a.drop (i + 1) := by
        rw [List.drop_eq_getElem_cons hlt];have hl : (mts m i).length = i := mts_len m i;rw [List.set_append_right _ _ (by omega), hl, Nat.sub_self, List.set_cons_zero];unfold mts;rw [List.range_succ, List.map_append];simp
      rw [e];exact ih a m (i + 1) h0 h1 (by omega) (by omega)
theorem markS_ev (a : List ByteArray) (m : Int) (h0 : 0 ≤ m) (h1 : m + a.length ≤ 4611686018427387904) : Ev (fun k => laws_markStringS.f k a m) (m + a.length, mts m a.length) := by
  have := markS_loop a.length a m 0 h0 h1 rfl (by omega)
  simpa [laws_markStringS.f, mts] using this
theorem heldS_loop (d : Nat) : ∀ (m : Int) (n i : Nat), 0 ≤ m → m + n ≤ 4611686018427387904 → n - i = d → i ≤ n →
    Ev (fun k => laws_heldStringS.l0 k (mts m n) (m + i) i) (m + n) := by
  induction d with
  | zero =>
    intro m n i h0 h1 hd hi
    have e : i = n := by omega
    subst e;refine Ev.step (f := fun _ => some (m + (i : Nat))) (fun k => ?_) (Ev.now _);simp only [laws_heldStringS.l0];rw [if_neg (by simp [mts_len])]
  | succ d ih =>
    intro m n i h0 h1 hd hi
    have hlt : i < n := by omega
    refine Ev.step (f := fun k => (laws_markText.f k (m + i)).bind fun t => if (rdOf ByteArray.empty (mts m n) i).toList = t.toList then laws_heldStringS.l0 k (mts m n) (m + ((i + 1 : Nat) : Int)) ((i + 1 : Nat) : Int) else some (-1)) (fun k => ?_) ?_
    · simp only [laws_heldStringS.l0]
      rw [if_pos (by rw [mts_len]; omega), if_pos (by omega)]
      congr 1
      funext t
      rw [w64 (by omega) (by omega), w64 (by omega) (by omega)]
      have e1 : m + (i : Int) + 1 = m + ((i + 1 : Nat) : Int) := by omega
      rw [e1];rfl
    · refine Ev.bind (mt_ev (m + i) (by omega) (by omega)) (ev_pos ?_ (ih m n (i + 1) h0 h1 (by omega) (by omega)))
      simp [rdOf, mts, hlt]
theorem heldS_ev (m : Int) (n : Nat) (h0 : 0 ≤ m) (h1 : m + n ≤ 4611686018427387904) : Ev (fun k => laws_heldStringS.f k (mts m n) m) (m + n) := by
  have := heldS_loop n m n 0 h0 h1 rfl (by omega)
  simpa [laws_heldStringS.f] using this
end Go.Proofs.YthfbogcpjfledaaGreatDoor.G

namespace Go.Proofs.YthfbogcpjfledaaGreatDoor.G
open Go.RowKit Go.Proofs.YthfbogcpjfledaaGreatDoorW.PrintWords Go.Proofs.YthfbogcpjfledaaGreatDoorW.PrintLast Go.Proofs.YthfbogcpjfledaaGreatDoorW.PrintMore Go.Proofs.YthfbogcpjfledaaGreatDoor.B
set_option linter.unusedVariables false
set_option linter.unusedSimpArgs false
theorem mk_w1 (x : Int) (h0 : 0 ≤ x) (h1 : x ≤ 4611686018427387904) : wrap64 (x + 1) = x + 1 := w64 (by omega) (by omega)
theorem mk_add (a : Int) (i : Nat) : a + (i : Int) + 1 = a + ((i + 1 : Nat) : Int) := by omega
theorem mk_i (i : Nat) (h : i ≤ 4611686018427387904) : wrap64 ((i : Int) + 1) = ((i + 1 : Nat) : Int) := by rw [w64 (by omega) (by omega)]; rfl
theorem sim_str (s t : ByteArray) : SimV (.string s) (.string t) := .inr (.inl ⟨_, _, rfl, rfl⟩)
set_option maxHeartbeats 8000000 in
set_option maxRecDepth 100000 in
theorem markS_w (base : Nat) (P : Nat → Prop) (u : Value) (l : List ByteArray) (a1 : Int) (w : World) (h0 : 0 ≤ a1) (h1 : a1 + (l.length : Int) ≤ 4611686018427387904) (ho : Kd.R Kd.string 9 w base P u l) :
    Calls Tryz.prog 11 #[u, .int .i64 a1] w fun e w' => e = .returned (.int .i64 (a1 + (l.length : Int))) ∧ Sim P w w' ∧ Below base w w' := by
  have HL := am (And.intro h0 h1);have HR := am ho;have HS := am (Sim.refl P w);have HB := am (Below.refl base w)
  obtain ⟨kk, hkk⟩ : ∃ kk, kk = l.length + 1 := ⟨_, rfl⟩
  have HKK := am hkk;obtain ⟨A, c, rfl⟩ := Kd.R_slice ho;clear ho hkk h0 h1;go_enter Tryz.func11, Tryz.ntmps11;go_wp2
  go_loopg [1, 5] kk (fun kq v1 v5 w' => ∃ (i : Nat), v1 = .int .i64 (a1 + (i : Int)) ∧ v5 = .int .i64 (i : Int) ∧ Aside0 (i ≤ l.length ∧ l.length - i < kq) ∧ Aside0 (kq ≤ kk) ∧ Aside0 (Sim P w w') ∧ Aside0 (Below base w w'))
  case atStart => exact ⟨0, (by simp), (by first | rfl | simp), ⟨Nat.zero_le _, by have := HKK.out; omega⟩, ⟨Nat.le_refl _⟩, ⟨by repeat (first | exact HS.out | apply Sim.drewN | apply Sim.drew | apply Sim.alloc)⟩, ⟨by repeat (first | exact HB.out | apply pw_below_drewN | apply below_drew1 | apply below_alloc)⟩⟩
  case round =>
    clear HS HB;obtain ⟨i, rfl, rfl, HI, HK1, HS, HB⟩ := hrel
    cases gk with
    | zero => exact absurd HI.out.2 (Nat.not_lt_zero _)
    | succ k1 =>
      by_cases ci : i < l.length
      · have c0 : decide ((i : Int) < (l.length : Int)) = true := dt (by omega)
        have c1 : decide ((0 : Int) ≤ (i : Int)) = true := dt (by omega);have HW1 := am (mk_w1 (a1 + (i : Int)) (by have := HL.out; omega) (by have := HL.out; omega));have HW2 := am (mk_i i (by have := HL.out; omega))
        obtain ⟨kt, hkt⟩ := (mt_ev (a1 + (i : Int)) (by have := HL.out; omega) (by have := HL.out; omega))
        have HT := am (hkt kt (Nat.le_refl _));clear hkt;obtain ⟨g, cap, eo, gb, gl, cl, HG⟩ := Kd.R_form HR.out (by omega)
        cases eo
        have GB := am gb;have HBS := am (show base ≤ w.heap.size by omega);have PG := am (HR.out.1 g rfl);clear gb gl HG;have CI := am ci
        go_wp2_with (first
          | ((with_reducible refine gate_callee (f := 24) rfl ?_); refine goesL_ (some 15) rfl rfl Tryz.func24 (by kernel_rfl) rfl #[.int .i64 (a1 + (i : Int))] rfl (by (try simp only [List.map_toArray, List.map_cons, List.map_nil]); first | done | rfl) ?_; (refine (laws_markText.calls kt (a1 + (i : Int)) (mt (a1 + (i : Int))) _ HT.out).mono ?_); rintro e w8 ⟨rfl, hb⟩; refine ⟨_, rfl, ?_⟩; have HS2 := am ((show Sim P w _ by repeat (first | exact HS.out | apply Sim.drewN | apply Sim.drew | apply Sim.alloc)).below hb); have HB2 := am (Below.trans (show Below base w _ by repeat (first | exact HB.out | apply pw_below_drewN | apply below_drew1 | apply below_alloc)) (hb.mono (Nat.le_trans HBS.out (Below.size (show Below base w _ by repeat (first | exact HB.out | apply pw_below_drewN | apply below_drew1 | apply below_alloc)))))); clear HS HB hb; have HS := HS2; have HB := HB2; clear HS2 HB2; obtain ⟨l2, WF, Rm⟩ := R_sim simK_string HR.out HS.out; have hlen := congrArg List.length Rm; rw [List.length_map, List.length_map] at hlen; obtain ⟨hx0, hf0⟩ := Kd.R_celln (⟨#[]⟩ : ByteArray) WF (i : Int) (by omega) (by have := CI.out; omega); simp only [Int.toNat_natCast] at hx0 hf0; obtain ⟨cl2, hG2⟩ : ∃ cl2, w8.heap[g]? = some (.cells cl2 9 (0, 0)) := Kd.R_typed WF g rfl; have ST := am (Sim.store (u := .string (mt (a1 + (i : Int)))) HS.out PG.out hG2 hx0 (sim_str _ _)); clear WF Rm hlen hG2)
          | ((with_reducible refine gate_store (t := 9) (p := 16) rfl ?_); refine store_event (t := 9) (p := 16) (v := ?vo_w10) (w1 := (w8.setCell ⟨g, i, none⟩ (.string (mt (a1 + (i : Int)))))) ?hg ?ho ?hn ?hr ?_; (case ho => rfl); (case hg => rfl); (case hn => rfl); (case hr => first | (go_simp; done) | (go_simp; rfl)); intro uw hw; have HS2 := am (show Sim P w uw by rw [hw]; exact ST.out); have HB2 := am (show Below base w uw by rw [hw]; exact HB.out.setCell GB.out _); clear HS HB ST hw; have HS := HS2; have HB := HB2; clear HS2 HB2))
        go_roundg k1
        case rel => exact ⟨i + 1, (by (try simp only [i64_w]); rw [HW1.out, mk_add]), (by (try simp only [i64_w]); rw [HW2.out]), ⟨by have := HI.out; have := CI.out; omega⟩, ⟨by have := HK1.out; omega⟩, ⟨by repeat (first | exact HS.out | apply Sim.drewN | apply Sim.drew | apply Sim.alloc)⟩, ⟨by repeat (first | exact HB.out | apply pw_below_drewN | apply below_drew1 | apply below_alloc)⟩⟩
        case measure => have := HK1.out; omega
      · have c0 : decide ((i : Int) < (l.length : Int)) = false := df (by omega)
        have HE := am (show i = l.length by have := HI.out; omega);go_wp2;go_ret;exact ⟨by first | (rw [HE.out]; rfl) | rfl, by repeat (first | exact HS.out | apply Sim.drewN | apply Sim.drew | apply Sim.alloc), by repeat (first | exact HB.out | apply pw_below_drewN | apply below_drew1 | apply below_alloc)⟩
def elN (x : S62) : Int := (x.f0.length : Int) + 3
theorem elN_eq (x : S62) : elN x = (x.f0.length : Int) + 3 := rfl
def cntN : List S62 → Int
  | [] => 0
  | x :: l => elN x + cntN l
theorem cntN_len (l : List S62) : (l.length : Int) ≤ cntN l := by
  induction l with
  | nil => exact Int.le_refl _
  | cons x l ih => simp only [cntN, elN, List.length_cons]; omega
theorem cntN_nonneg (l : List S62) : 0 ≤ cntN l := Int.le_trans (Int.natCast_nonneg _) (cntN_len l)
theorem cntN_step (l : List S62) : ∀ i (h : i < l.length), cntN (l.take (i + 1)) = cntN (l.take i) + elN l[i] ∧ cntN (l.take (i + 1)) ≤ cntN l := by
  induction l with
  | nil => intro i h; simp at h
  | cons x l ih =>
    intro i h
    cases i with
    | zero => have := cntN_nonneg l; simp [cntN]; omega
    | succ i =>
      have := ih i (by simpa using h);simp only [List.take_succ_cons, cntN, List.getElem_cons_succ];omega
theorem cntN_at {l : List S62} {a n : Int} {i : Nat} (h : n = a + cntN (l.take i)) (hl : 0 ≤ a ∧ a + cntN l ≤ 4611686018427387904) (hi : i < l.length) : (0 ≤ n ∧ n + elN l[i] ≤ 4611686018427387904) ∧ n + elN l[i] = a + cntN (l.take (i + 1)) := by
  have h1 := cntN_step l i hi;have h2 := cntN_nonneg (l.take i);omega
def shN (x : S62) := (x.f0.map (fun _ : ByteArray => ()), (), (), ())
theorem simK_name : SimK k62 shN :=
  simK_iso (f := fun x : S62 => (x.f0, x.f1, x.f2, x.f3)) (fun y => ⟨y.1, y.2.1, y.2.2.1, y.2.2.2⟩) (fun _ => rfl) (simK_pair (simK_slice 9 simK_string) (simK_pair simK_string (simK_pair simK_string simK_string)))
theorem shN_elN {x y : S62} (h : shN x = shN y) : x.f0.length = y.f0.length := by
  have := congrArg (fun z => z.1.length) h
  simpa [shN] using this
theorem shN_cnt (l : List S62) : ∀ l', l'.map shN = l.map shN → cntN l' = cntN l := by
  induction l with
  | nil => intro l' h; cases l' with | nil => rfl | cons x r => simp at h
  | cons x l ih =>
    intro l' h
    cases l' with
    | nil => simp at h
    | cons y r =>
      simp only [List.map_cons, List.cons.injEq] at h;have := shN_elN h.1;simp only [cntN, elN, this, ih r h.2]
theorem sh_at {α β : Type} {sh : α → β} {l l' : List α} (h : l'.map sh = l.map sh) (z : α) (i : Nat) (hi : i < l.length) : l'.length = l.length ∧ sh (l'.getD i z) = sh l[i] := by
  have hl : l'.length = l.length := by have := congrArg List.length h; simpa using this
  refine ⟨hl, ?_⟩;have := congrArg (fun q => q[i]?) h;simp only [List.getElem?_map] at this;rw [List.getElem?_eq_getElem (show i < l'.length by omega), List.getElem?_eq_getElem hi] at this;rw [List.getD_eq_getElem?_getD, List.getElem?_eq_getElem (show i < l'.length by omega)];exact ojz this
theorem rowN_at {w W : World} {P : Nat → Prop} {base g cap : Nat} {l : List S62} (HR : Kd.R k62 62 w base P (.slice (some ⟨g, 0, none⟩) l.length cap) l) (HS : Sim P w W) (i : Nat) (hi : i < l.length) :
    ∃ (A : Option Addr) (c : Nat) (xs : List ByteArray) (s1 s2 s3 : ByteArray) (cl : Array Value), W.cell? ⟨g, i * 4, none⟩ = some (.slice A xs.length c) ∧ W.cell? ⟨g, i * 4 + 1, none⟩ = some (.string s1) ∧ W.cell? ⟨g, i * 4 + 2, none⟩ = some (.string s2) ∧ W.cell? ⟨g, i * 4 + 3, none⟩ = some (.string s3) ∧
      W.frozen? ⟨g, i * 4, none⟩ = false ∧ W.frozen? ⟨g, i * 4 + 1, none⟩ = false ∧ W.frozen? ⟨g, i * 4 + 2, none⟩ = false ∧ W.frozen? ⟨g, i * 4 + 3, none⟩ = false ∧
      (xs.length : Int) = (l[i].f0.length : Int) ∧ Kd.R Kd.string 9 W base P (.slice A xs.length c) xs ∧ W.heap[g]? = some (.cells cl 62 (0, 0)) := by
  obtain ⟨l', hR', hm⟩ := R_sim simK_name HR HS;obtain ⟨hl, hs⟩ := sh_at hm (⟨[], ⟨#[]⟩, ⟨#[]⟩, ⟨#[]⟩⟩ : S62) i hi;obtain ⟨c, hcl, hM, hc, hf⟩ := Kd.R_elem hR' (⟨[], ⟨#[]⟩, ⟨#[]⟩, ⟨#[]⟩⟩ : S62) (i : Int) (by omega) (by omega);obtain ⟨_, _, rfl, ⟨v, rfl, hRs⟩, _, _, rfl, rfl, _, _, rfl, rfl, rfl⟩ := hM;obtain ⟨A, cc, rfl⟩ := Kd.R_slice hRs;obtain ⟨cl, hG⟩ := Kd.R_typed hR' g rfl;exact ⟨A, cc, _, _, _, _, cl, hc 0 _ rfl, hc 1 _ rfl, hc 2 _ rfl, hc 3 _ rfl, hf 0, hf 1, hf 2, hf 3, by exact_mod_cast shN_elN hs, Kd.R_mono hRs (fun _ hk => hk.1), hG⟩
set_option maxHeartbeats 8000000 in
set_option maxRecDepth 100000 in
theorem markN_w (base : Nat) (P : Nat → Prop) (u : Value) (l : List S62) (a1 : Int) (w : World) (h0 : 0 ≤ a1) (h1 : a1 + cntN l ≤ 4611686018427387904) (ho : Kd.R k62 62 w base P u l) :
    Calls Tryz.prog 23 #[u, .int .i64 a1] w fun e w' => e = .returned (.int .i64 (a1 + cntN l)) ∧ Sim P w w' ∧ Below base w w' := by
  have HL := am (And.intro h0 h1);have HZ := am (show (l.length : Int) ≤ 4611686018427387904 from Int.le_trans (cntN_len l) (by omega));have HR := am ho;have HS := am (Sim.refl P w);have HB := am (Below.refl base w)
  obtain ⟨kk, hkk⟩ : ∃ kk, kk = l.length + 1 := ⟨_, rfl⟩
  have HKK := am hkk;obtain ⟨A, c, rfl⟩ := Kd.R_slice ho;have hu1 := Tryz.underlying62;clear ho hkk h0 h1;go_enter Tryz.func23, Tryz.ntmps23;go_wp2
  go_loopg [1, 5] kk (fun kq v1 v5 w' => ∃ (i : Nat) (n : Int), v1 = .int .i64 n ∧ v5 = .int .i64 (i : Int) ∧ Aside0 (n = a1 + cntN (l.take i)) ∧ Aside0 (i ≤ l.length ∧ l.length - i < kq) ∧ Aside0 (kq ≤ kk) ∧ Aside0 (Sim P w w') ∧ Aside0 (Below base w w'))
  case atStart => exact ⟨0, a1, rfl, (by first | rfl | simp), ⟨by simp [cntN]⟩, ⟨Nat.zero_le _, by have := HKK.out; omega⟩, ⟨Nat.le_refl _⟩, ⟨by repeat (first | exact HS.out | apply Sim.drewN | apply Sim.drew | apply Sim.alloc)⟩, ⟨by repeat (first | exact HB.out | apply pw_below_drewN | apply below_drew1 | apply below_alloc)⟩⟩
  case round =>
    clear HS HB;obtain ⟨i, n, rfl, rfl, HN, HI, HK1, HS, HB⟩ := hrel
    cases gk with
    | zero => exact absurd HI.out.2 (Nat.not_lt_zero _)
    | succ k1 =>
      by_cases ci : i < l.length
      · have c0 : decide ((i : Int) < (l.length : Int)) = true := dt (by omega)
        have c1 : decide ((0 : Int) ≤ (i : Int)) = true := dt (by omega);have CI := am ci;have HW2 := am (mk_i i (by have := HZ.out; omega));have HQ := am (show (0 ≤ n ∧ n + elN l[i] ≤ 4611686018427387904) ∧ n + elN l[i] = a1 + cntN (l.take (i + 1)) from cntN_at HN.out HL.out ci)
        obtain ⟨q0, hq0⟩ : ∃ q : Int, q = (l[i].f0.length : Int) := ⟨_, rfl⟩
        have HQ0 := am hq0;have HQN := am (show 0 ≤ n ∧ n + (q0 + 3) ≤ 4611686018427387904 from by have h_ := HQ.out.1; rw [show elN l[i] = q0 + 3 from by rw [hq0]; exact elN_eq _] at h_; exact h_);have HQP := am (show 0 ≤ q0 ∧ True from by rw [hq0]; exact ⟨by first | exact Int.natCast_nonneg _ | exact cntN_nonneg _, trivial⟩);clear hq0;obtain ⟨g, cap, eo, gb, gl, cl, HG⟩ := Kd.R_form HR.out (by omega)
        cases eo
        have GB := am gb;have HBS := am (show base ≤ w.heap.size by omega);have PG := am (HR.out.1 g rfl);clear gb gl HG;have OE := am (rfl : n = n);obtain ⟨cC, cD, ec, anr, ans, ant, cl0, dA, Zm, cL, cM, Zn, Zo, Zp, Zq, Rn, Ro, hG0⟩ := rowN_at HR.out HS.out i CI.out;have HRS0 := am Ro;have HLS0 := am (Rn.trans HQ0.out.symm);clear Ro Rn;clear Zm cL cM Zo Zp Zq hG0
        go_wp2_with (first
          | ((with_reducible refine gate_callee (f := 11) rfl ?_); refine goesL_ (some 18) rfl rfl Tryz.func11 (by kernel_rfl) rfl #[.slice cC ec.length cD, .int .i64 n] rfl (by (try simp only [List.map_toArray, List.map_cons, List.map_nil]); first | done | rfl) ?_; (refine (markS_w base P _ ec n _ (by rw [OE.out]; have qq := HQN.out; have qs := HQP.out; omega) (by rw [OE.out, HLS0.out]; have qq := HQN.out; have qs := HQP.out; omega) (by (with_reducible repeat (first | apply Kd.R_alloc | apply Kd.R_drewN | apply Kd.R_drew)); exact HRS0.out)).mono ?_); rintro e anu ⟨rfl, hs, hb⟩; refine ⟨_, rfl, ?_⟩; have HS2 := am ((show Sim P w _ from by repeat (first | exact HS.out | apply Sim.drewN | apply Sim.drew | apply Sim.alloc)).trans hs); have HB2 := am ((show Below base w _ from by repeat (first | exact HB.out | apply pw_below_drewN | apply below_drew1 | apply below_alloc)).trans hb); clear HS HB hs hb; have HS := HS2; have HB := HB2; clear HS2 HB2; have OF := am (show (n + (ec.length : Int)) = (n + q0) from by rw [OE.out, HLS0.out]); clear HRS0 dA Zn)
          | ((with_reducible refine gate_callee (f := 24) rfl ?_); refine goesL_ (some 22) rfl rfl Tryz.func24 (by kernel_rfl) rfl #[.int .i64 (n + (ec.length : Int))] rfl (by (try simp only [List.map_toArray, List.map_cons, List.map_nil]); first | done | rfl) ?_; obtain ⟨kt1, WG⟩ := (mt_ev (n + (ec.length : Int)) (by rw [OF.out]; have qq := HQN.out; have qs := HQP.out; omega) (by rw [OF.out]; have qq := HQN.out; have qs := HQP.out; omega)); (refine (laws_markText.calls kt1 (n + (ec.length : Int)) (mt (n + (ec.length : Int))) _ (WG kt1 (Nat.le_refl _))).mono ?_); rintro e a3b ⟨rfl, hb⟩; refine ⟨_, rfl, ?_⟩; clear WG; have HS2 := am ((show Sim P w _ from by repeat (first | exact HS.out | apply Sim.drewN | apply Sim.drew | apply Sim.alloc)).below hb); have HB2 := am (Below.trans (show Below base w _ from by repeat (first | exact HB.out | apply pw_below_drewN | apply below_drew1 | apply below_alloc)) (hb.mono (Nat.le_trans HBS.out (Below.size (show Below base w _ from by repeat (first | exact HB.out | apply pw_below_drewN | apply below_drew1 | apply below_alloc)))))); clear HS HB hb; have HS := HS2; have HB := HB2; clear HS2 HB2; obtain ⟨FG, FH, alF, anv, anw, anx, cl1, Fh, Rp, fa, fb, Zr, Zs, Zt, Zu, Zv, Zw, hG1⟩ := rowN_at HR.out HS.out i CI.out; have ST1 := am (fun (u : Value) (hv : SimV _ u) => Sim.store HS.out PG.out hG1 Rp hv); clear Fh fa fb Zr Zt Zu Zv Zw hG1)
          | ((with_reducible refine gate_store (t := 9) (p := 24) rfl ?_); refine store_event (t := 9) (p := 24) (v := ?vo_w201) (w1 := (a3b.setCell ⟨g, i * 4 + 1, none⟩ (.string (mt (n + (ec.length : Int)))))) ?hg ?ho ?hn ?hr ?_; (case ho => rfl); (case hg => rfl); (case hn => rfl); (case hr => first | (go_simp; done) | (go_simp; rfl)); intro WH hw; have HS2 := am (show Sim P w WH by rw [hw]; exact ST1.out _ (sim_str _ _)); have HB2 := am (show Below base w WH by rw [hw]; exact HB.out.setCell GB.out _); clear HS HB ST1 hw; have HS := HS2; have HB := HB2; clear HS2 HB2; clear Rp Zs; have OG := am (show (wrap64 ((n + (ec.length : Int)) + 1)) = ((n + q0) + 1) from by rw [OF.out]; exact mk_w1 _ (by have qq := HQN.out; have qs := HQP.out; omega) (by have qq := HQN.out; have qs := HQP.out; omega)))
          | ((with_reducible refine gate_callee (f := 24) rfl ?_); refine goesL_ (some 30) rfl rfl Tryz.func24 (by kernel_rfl) rfl #[.int .i64 (wrap64 ((n + (ec.length : Int)) + 1))] rfl (by (try simp only [List.map_toArray, List.map_cons, List.map_nil]); first | done | rfl) ?_; obtain ⟨kt2, WI⟩ := (mt_ev (wrap64 ((n + (ec.length : Int)) + 1)) (by rw [OG.out]; have qq := HQN.out; have qs := HQP.out; omega) (by rw [OG.out]; have qq := HQN.out; have qs := HQP.out; omega)); (refine (laws_markText.calls kt2 (wrap64 ((n + (ec.length : Int)) + 1)) (mt (wrap64 ((n + (ec.length : Int)) + 1))) _ (WI kt2 (Nat.le_refl _))).mono ?_); rintro e a3c ⟨rfl, hb⟩; refine ⟨_, rfl, ?_⟩; clear WI; have HS2 := am ((show Sim P w _ from by repeat (first | exact HS.out | apply Sim.drewN | apply Sim.drew | apply Sim.alloc)).below hb); have HB2 := am (Below.trans (show Below base w _ from by repeat (first | exact HB.out | apply pw_below_drewN | apply below_drew1 | apply below_alloc)) (hb.mono (Nat.le_trans HBS.out (Below.size (show Below base w _ from by repeat (first | exact HB.out | apply pw_below_drewN | apply below_drew1 | apply below_alloc)))))); clear HS HB hb; have HS := HS2; have HB := HB2; clear HS2 HB2; obtain ⟨anz, anA, alG, anB, anC, anD, cl2, Zx, Zy, Rq, Zz, ZA, ZB, ZC, ZD, ZE, ZF, hG2⟩ := rowN_at HR.out HS.out i CI.out; have ST2 := am (fun (u : Value) (hv : SimV _ u) => Sim.store HS.out PG.out hG2 Rq hv); clear Zx Zy Zz ZA ZB ZD ZE ZF hG2)
          | ((with_reducible refine gate_store (t := 9) (p := 32) rfl ?_); refine store_event (t := 9) (p := 32) (v := ?vo_w202) (w1 := (a3c.setCell ⟨g, i * 4 + 2, none⟩ (.string (mt (wrap64 ((n + (ec.length : Int)) + 1)))))) ?hg ?ho ?hn ?hr ?_; (case ho => rfl); (case hg => rfl); (case hn => rfl); (case hr => first | (go_simp; done) | (go_simp; rfl)); intro WJ hw; have HS2 := am (show Sim P w WJ by rw [hw]; exact ST2.out _ (sim_str _ _)); have HB2 := am (show Below base w WJ by rw [hw]; exact HB.out.setCell GB.out _); clear HS HB ST2 hw; have HS := HS2; have HB := HB2; clear HS2 HB2; clear Rq ZC; have OH := am (show (wrap64 ((wrap64 ((n + (ec.length : Int)) + 1)) + 1)) = (((n + q0) + 1) + 1) from by rw [OG.out]; exact mk_w1 _ (by have qq := HQN.out; have qs := HQP.out; omega) (by have qq := HQN.out; have qs := HQP.out; omega)))
          | ((with_reducible refine gate_callee (f := 24) rfl ?_); refine goesL_ (some 38) rfl rfl Tryz.func24 (by kernel_rfl) rfl #[.int .i64 (wrap64 ((wrap64 ((n + (ec.length : Int)) + 1)) + 1))] rfl (by (try simp only [List.map_toArray, List.map_cons, List.map_nil]); first | done | rfl) ?_; obtain ⟨kt3, WK⟩ := (mt_ev (wrap64 ((wrap64 ((n + (ec.length : Int)) + 1)) + 1)) (by rw [OH.out]; have qq := HQN.out; have qs := HQP.out; omega) (by rw [OH.out]; have qq := HQN.out; have qs := HQP.out; omega)); (refine (laws_markText.calls kt3 (wrap64 ((wrap64 ((n + (ec.length : Int)) + 1)) + 1)) (mt (wrap64 ((wrap64 ((n + (ec.length : Int)) + 1)) + 1))) _ (WK kt3 (Nat.le_refl _))).mono ?_); rintro e a3d ⟨rfl, hb⟩; refine ⟨_, rfl, ?_⟩; clear WK; have HS2 := am ((show Sim P w _ from by repeat (first | exact HS.out | apply Sim.drewN | apply Sim.drew | apply Sim.alloc)).below hb); have HB2 := am (Below.trans (show Below base w _ from by repeat (first | exact HB.out | apply pw_below_drewN | apply below_drew1 | apply below_alloc)) (hb.mono (Nat.le_trans HBS.out (Below.size (show Below base w _ from by repeat (first | exact HB.out | apply pw_below_drewN | apply below_drew1 | apply below_alloc)))))); clear HS HB hb; have HS := HS2; have HB := HB2; clear HS2 HB2; obtain ⟨anE, anF, alH, anG, anH, anI, cl3, ZG, ZH, ZI, Rs, ZJ, ZK, ZL, ZM, ZN, ZO, hG3⟩ := rowN_at HR.out HS.out i CI.out; have ST3 := am (fun (u : Value) (hv : SimV _ u) => Sim.store HS.out PG.out hG3 Rs hv); clear ZG ZH ZI ZJ ZK ZL ZN ZO hG3)
          | ((with_reducible refine gate_store (t := 9) (p := 40) rfl ?_); refine store_event (t := 9) (p := 40) (v := ?vo_w203) (w1 := (a3d.setCell ⟨g, i * 4 + 3, none⟩ (.string (mt (wrap64 ((wrap64 ((n + (ec.length : Int)) + 1)) + 1)))))) ?hg ?ho ?hn ?hr ?_; (case ho => rfl); (case hg => rfl); (case hn => rfl); (case hr => first | (go_simp; done) | (go_simp; rfl)); intro WL hw; have HS2 := am (show Sim P w WL by rw [hw]; exact ST3.out _ (sim_str _ _)); have HB2 := am (show Below base w WL by rw [hw]; exact HB.out.setCell GB.out _); clear HS HB ST3 hw; have HS := HS2; have HB := HB2; clear HS2 HB2; clear Rs ZM; have a3e := am (show (wrap64 ((wrap64 ((wrap64 ((n + (ec.length : Int)) + 1)) + 1)) + 1)) = ((((n + q0) + 1) + 1) + 1) from by rw [OH.out]; exact mk_w1 _ (by have qq := HQN.out; have qs := HQP.out; omega) (by have qq := HQN.out; have qs := HQP.out; omega))))
        go_roundg k1
        case rel => exact ⟨i + 1, (wrap64 ((wrap64 ((wrap64 ((n + (ec.length : Int)) + 1)) + 1)) + 1)), (by (try simp only [i64_w])), (by (try simp only [i64_w]); rw [HW2.out]), ⟨by rw [a3e.out]; have h_ := HQ.out.2; rw [show elN l[i] = q0 + 3 from by rw [HQ0.out]; exact elN_eq _] at h_; rw [← h_]; omega⟩, ⟨by have := HI.out; have := CI.out; omega⟩, ⟨by have := HK1.out; omega⟩, ⟨by repeat (first | exact HS.out | apply Sim.drewN | apply Sim.drew | apply Sim.alloc)⟩, ⟨by repeat (first | exact HB.out | apply pw_below_drewN | apply below_drew1 | apply below_alloc)⟩⟩
        case measure => have := HK1.out; omega
      · have c0 : decide ((i : Int) < (l.length : Int)) = false := df (by omega)
        have HE := am (show n = a1 + cntN l from by rw [HN.out, List.take_of_length_le (by omega)]);go_wp2;go_ret;exact ⟨by first | (rw [HE.out]; rfl) | (rw [← HE.out]; rfl) | rfl, by repeat (first | exact HS.out | apply Sim.drewN | apply Sim.drew | apply Sim.alloc), by repeat (first | exact HB.out | apply pw_below_drewN | apply below_drew1 | apply below_alloc)⟩
end Go.Proofs.YthfbogcpjfledaaGreatDoor.G

namespace Go.Proofs.YthfbogcpjfledaaGreatDoor.G
open Go.RowKit Go.Proofs.YthfbogcpjfledaaGreatDoorW.PrintWords Go.Proofs.YthfbogcpjfledaaGreatDoorW.PrintLast Go.Proofs.YthfbogcpjfledaaGreatDoor.B
set_option linter.unusedVariables false
theorem R_kept_flat {α : Type} {d : Kd α} {e base : Nat} {w w' : World} {ok P : Nat → Prop} {v : Value} {xs : List α} (hE : d.E = []) (h : d.R e w base ok v xs) (hk : Kept w w' P) (hp : ∀ k, P k → some k ≠ v.ownBlock) : d.R e w' base ok v xs :=
  Kd.R_mono (Kd.R_step (Kd.R_tight hE h) (fun k hk' hlt => hk.2 k hlt (fun hP => hp k hP hk'))) (fun k hk' => h.1 k hk'.symm)
theorem blk_keptP {w w' : World} {P : Nat → Prop} {g : Nat} {o : Obj} (h : w.heap[g]? = some o) (hk : Kept w w' P) (hp : ¬ P g) : w'.heap[g]? = some o := by
  have hlt : g < w.heap.size := by
    rcases Nat.lt_or_ge g w.heap.size with q | q
    · exact q
    · rw [Array.getElem?_eq_none q] at h; cases h
  exact (hk.2 g hlt hp).trans h
theorem Sim.of_heap {P : Nat → Prop} {a b c : World} (h : Sim P a b) (e : c.heap = a.heap) : Sim P c b := by
  unfold Sim at h ⊢;rw [e];exact h
theorem simK_tag {α β : Type} {d : Kd α} {sh : α → β} (f : Nat → Nat) (h : SimK d sh) : SimK (Kd.tag f d) (fun x => (sh x.1, x.2)) := by
  intro P w w' base ok x cs cs' hs hm hc ht;obtain ⟨y, hy, ey⟩ := h P w w' base _ x.1 cs cs' hs hm hc ht;exact ⟨(y, x.2), hy, by show (sh y, x.2) = (sh x.1, x.2); rw [ey]⟩
theorem zip_back {α β : Type} {sh : α → β} (ys : List (α × Nat)) : ∀ (xs : List α) (k : Nat), ys.map (fun x => (sh x.1, x.2)) = (xs.zipIdx k).map (fun x => (sh x.1, x.2)) → ys = (ys.map Prod.fst).zipIdx k ∧ (ys.map Prod.fst).map sh = xs.map sh := by
  induction ys with
  | nil => intro xs k h; cases xs with | nil => exact ⟨rfl, rfl⟩ | cons x r => simp at h
  | cons y ys ih =>
    intro xs k h
    cases xs with
    | nil => simp at h
    | cons x r =>
      simp only [List.map_cons, List.zipIdx_cons, List.cons.injEq, Prod.mk.injEq] at h;obtain ⟨⟨h1, h2⟩, h3⟩ := h;obtain ⟨e1, e2⟩ := ih r (k + 1) h3;refine ⟨?_, ?_⟩
      · simp only [List.map_cons, List.zipIdx_cons]
        rw [← e1, ← h2]
      · simp only [List.map_cons]
        rw [h1, e2]
theorem S_sim {α β : Type} {d : Kd α} {sh : α → β} (hd : SimK d sh) {P : Nat → Prop} {w w' : World} {base e : Nat} {ok : Nat → Prop} {v : Value} {xs : List α} (h : Kd.S d e w base ok v xs) (hs : Sim P w w') : ∃ xs', Kd.S d e w' base ok v xs' ∧ xs'.map sh = xs.map sh := by
  obtain ⟨f, hR⟩ := h;obtain ⟨ys, hR', hm⟩ := R_sim (simK_tag f hd) hR hs;obtain ⟨e1, e2⟩ := zip_back ys xs 0 hm;exact ⟨ys.map Prod.fst, ⟨f, by rw [← e1]; exact hR'⟩, e2⟩
end Go.Proofs.YthfbogcpjfledaaGreatDoor.G

namespace Go.Proofs.YthfbogcpjfledaaGreatDoor.G
open Go.RowKit Go.Proofs.YthfbogcpjfledaaGreatDoorW.PrintWords Go.Proofs.YthfbogcpjfledaaGreatDoorW.PrintLast Go.Proofs.YthfbogcpjfledaaGreatDoorW.PrintMore
open Go.Proofs.YthfbogcpjfledaaGreatDoor.Gl Go.Proofs.YthfbogcpjfledaaGreatDoor.Ext
attribute [local go_sem] max2_int min2_int max_two min_two max_three min_three max_four min_four   -- for this text's walks alone
set_option linter.unusedVariables false
set_option linter.unusedSimpArgs false
def laws_markEntry.f (a0 : ByteArray) (a1 : Int) (l2 l3 : List S62) (a4 a5 a6 : ByteArray) (a7 a8 a9 : Int) (cP : Bool) (cQ : Int) (cR cS : ByteArray) (k : Int) : Option Int := if 0 ≤ k ∧ k + cntN l2 + cntN l3 ≤ 4611686018427387904 then some (k + cntN l2 + cntN l3) else none
set_option maxHeartbeats 8000000 in
set_option maxRecDepth 100000 in
theorem laws_markEntry.calls0 (P : Nat → Prop) (base : Nat) (A2 : Option Addr) (c2 : Nat) (A3 : Option Addr) (c3 : Nat) (a0 : ByteArray) (a1 : Int) (l2 l3 : List S62) (a4 a5 a6 : ByteArray) (a7 a8 a9 : Int) (cP : Bool) (cQ : Int) (cR cS : ByteArray) (k r : Int) (w : World) (ho2 : Kd.R k62 62 w base P (.slice A2 l2.length c2) l2) (ho3 : Kd.R k62 62 w base P (.slice A3 l3.length c3) l3) (hbs : base ≤ w.heap.size) (hPb : ∀ k, P k → k < w.heap.size) (h : laws_markEntry.f a0 a1 l2 l3 a4 a5 a6 a7 a8 a9 cP cQ cR cS k = some r) :
  Calls Tryz.prog 10 #[.agg #[.string a0, .int .i64 a1, .slice A2 l2.length c2, .slice A3 l3.length c3, .string a4, .string a5, .string a6, .int .i64 a7, .int .i64 a8, .int .i64 a9, .bool cP, .int .i64 cQ, .string cR, .string cS], .int .i64 k] w fun e w' => e = .returned (.int .i64 r) ∧ Below base w w' ∧ Sim P w w' := by
 unfold laws_markEntry.f at h;by_cases hl : 0 ≤ k ∧ k + cntN l2 + cntN l3 ≤ 4611686018427387904
 ·
  rw [if_pos hl] at h;obtain rfl := ojz h;have HR2 := am ho2;have HR3 := am ho3;have HL := am hl;have HBS := am hbs;have HPB := am hPb;have HN2 := am (cntN_nonneg l2);have HN3 := am (cntN_nonneg l3);have hu := Tryz.underlying34;have hu2 := Tryz.underlying32;clear ho2 ho3 h hl hbs hPb;go_enter Tryz.func10, Tryz.ntmps10
  go_wp2_with (first
   | ((with_reducible refine gate_dst (N := 2) rfl ?_); refine box_event ?hg (N := 2) ?hd (cs := #[.string a0, .int .i64 a1, .slice A2 l2.length c2, .slice A3 l3.length c3, .string a4, .string a5, .string a6, .int .i64 a7, .int .i64 a8, .int .i64 a9, .bool cP, .int .i64 cQ, .string cR, .string cS]) (t := 34) ?hr ?_; (case hd => rfl); (case hg => rfl); (case hr => first | (go_simp; done) | (go_simp; rfl)); intro gb hg w3 hbox hb; have HX := am hbox; have HB1 := am (hb.mono HBS.out); have HS1 := am ((Sim.refl P w).below hb); have NG := am (show ¬ P gb from fun hp => absurd (HPB.out gb hp) (by rw [hg]; exact Nat.lt_irrefl _)); have hz : w3.cell? ⟨gb, 2, none⟩ = some (.slice A2 l2.length c2) := (blk_cell hbox 2).trans rfl; clear hb hbox hg)
   | ((with_reducible refine gate_callee (f := 23) rfl ?_); refine goesL_ (some 8) rfl rfl Tryz.func23 (by kernel_rfl) rfl #[.slice A2 l2.length c2, .int .i64 k] rfl (by (try simp only [List.map_toArray, List.map_cons, List.map_nil]); first | done | rfl) ?_; obtain ⟨m2, hm2, hq2⟩ := R_sim simK_name HR2.out HS1.out; (refine (markN_w base P _ m2 k _ HL.out.1 (by rw [shN_cnt _ _ hq2]; have := HL.out.2; have := HN3.out; omega) (by (with_reducible repeat (first | apply Kd.R_alloc | apply Kd.R_drewN | apply Kd.R_drew)); exact hm2)).mono ?_); rintro e w5 ⟨rfl, hs, hb⟩; rw [shN_cnt _ _ hq2]; refine ⟨_, rfl, ?_⟩; clear hq2 hm2; have HB2 := am ((show Below base w _ from by repeat (first | exact HB1.out | apply pw_below_drewN | apply below_drew1 | apply below_alloc)).trans hb); have HS2 := am ((show Sim P w _ from by repeat (first | exact HS1.out | apply Sim.drewN | apply Sim.drew | apply Sim.alloc)).trans hs); have HX2 := am (blk_keptP (P := P) (g := gb) (by (with_reducible repeat (first | refine blk_drewN ?_ _ | refine blk_drew ?_ | refine blk_alloc ?_ _)); exact HX.out) hs.kept NG.out); have hz : w5.cell? ⟨gb, 3, none⟩ = some (.slice A3 l3.length c3) := (blk_cell HX2.out 3).trans rfl; clear hs hb)
   | ((with_reducible refine gate_callee (f := 23) rfl ?_); refine goesL_ (some 12) rfl rfl Tryz.func23 (by kernel_rfl) rfl #[.slice A3 l3.length c3, .int .i64 (k + cntN l2)] rfl (by (try simp only [List.map_toArray, List.map_cons, List.map_nil]); first | done | rfl) ?_; obtain ⟨m3, hm3, hq3⟩ := R_sim simK_name HR3.out HS2.out; (refine (markN_w base P _ m3 (k + cntN l2) _ (by have := HL.out.1; have := HN2.out; omega) (by rw [shN_cnt _ _ hq3]; exact HL.out.2) (by (with_reducible repeat (first | apply Kd.R_alloc | apply Kd.R_drewN | apply Kd.R_drew)); exact hm3)).mono ?_); rintro e w6 ⟨rfl, hs, hb⟩; rw [shN_cnt _ _ hq3]; refine ⟨_, rfl, ?_⟩; clear hq3 hm3; have HB3 := am ((show Below base w _ from by repeat (first | exact HB2.out | apply pw_below_drewN | apply below_drew1 | apply below_alloc)).trans hb); have HS3 := am ((show Sim P w _ from by repeat (first | exact HS2.out | apply Sim.drewN | apply Sim.drew | apply Sim.alloc)).trans hs); clear hs hb))
  go_ret;exact ⟨rfl, by repeat (first | exact HB3.out | apply pw_below_drewN | apply below_drew1 | apply below_alloc), (show Sim P w _ from by repeat (first | exact HS3.out | apply Sim.drewN | apply Sim.drew | apply Sim.alloc))⟩
 · rw [if_neg hl] at h; cases h
theorem laws_markEntry.calls {P Q : Nat → Prop} {base : Nat} {A2 : Option Addr} {c2 : Nat} {A3 : Option Addr} {c3 : Nat} {l2 l3 : List S62} {w2 w3 : World} (hq2 : Kd.R k62 62 w2 base P (.slice A2 l2.length c2) l2) (hq3 : Kd.R k62 62 w3 base Q (.slice A3 l3.length c3) l3) (a0 : ByteArray) (a1 : Int) (a4 a5 a6 : ByteArray) (a7 a8 a9 : Int) (cP : Bool) (cQ : Int) (cR cS : ByteArray) (k r : Int) (w : World) (ho2 : Kd.R k62 62 w base P (.slice A2 l2.length c2) l2) (ho3 : Kd.R k62 62 w base Q (.slice A3 l3.length c3) l3) (hbs : base ≤ w.heap.size) (h : laws_markEntry.f a0 a1 l2 l3 a4 a5 a6 a7 a8 a9 cP cQ cR cS k = some r) :
  Calls Tryz.prog 10 #[.agg #[.string a0, .int .i64 a1, .slice A2 l2.length c2, .slice A3 l3.length c3, .string a4, .string a5, .string a6, .int .i64 a7, .int .i64 a8, .int .i64 a9, .bool cP, .int .i64 cQ, .string cR, .string cS], .int .i64 k] w fun e w' => e = .returned (.int .i64 r) ∧ Below base w w' ∧ Sim (fun k_ => P k_ ∨ Q k_) w w' := by
 refine (laws_markEntry.calls0 (fun k => (P k ∨ Q k) ∧ k < w.heap.size) base A2 c2 A3 c3 a0 a1 l2 l3 a4 a5 a6 a7 a8 a9 cP cQ cR cS k r w (Kd.R_mono (Kd.R_bound ho2) (fun _ hk => ⟨.inl hk.1, hk.2.2.1⟩)) (Kd.R_mono (Kd.R_bound ho3) (fun _ hk => ⟨.inr hk.1, hk.2.2.1⟩)) hbs (fun _ hk => hk.2) h).mono ?_;rintro e w' ⟨he, hb, hk⟩;exact ⟨he, hb, hk.mono (fun _ hp => hp.1)⟩
theorem laws_markEntry.callsN {P Q : Nat → Prop} {base : Nat} {A2 : Option Addr} {c2 : Nat} {A3 : Option Addr} {c3 : Nat} {n2 n3 : Nat} {l2 l3 t2 t3 : List S62} {w2 w3 : World} (hs2 : l2.map shN = t2.map shN) (hs3 : l3.map shN = t3.map shN) (hn2 : t2.length = n2) (hn3 : t3.length = n3) (hq2 : Kd.R k62 62 w2 base P (.slice A2 n2 c2) l2) (hq3 : Kd.R k62 62 w3 base Q (.slice A3 n3 c3) l3) (a0 : ByteArray) (a1 : Int) (a4 a5 a6 : ByteArray) (a7 a8 a9 : Int) (cP : Bool) (cQ : Int) (cR cS : ByteArray) (k r : Int) (w : World) (ho2 : Kd.R k62 62 w base P (.slice A2 n2 c2) l2) (ho3 : Kd.R k62 62 w base Q (.slice A3 n3 c3) l3) (hbs : base ≤ w.heap.size) (h : laws_markEntry.f a0 a1 t2 t3 a4 a5 a6 a7 a8 a9 cP cQ cR cS k = some r) :
  Calls Tryz.prog 10 #[.agg #[.string a0, .int .i64 a1, .slice A2 n2 c2, .slice A3 n3 c3, .string a4, .string a5, .string a6, .int .i64 a7, .int .i64 a8, .int .i64 a9, .bool cP, .int .i64 cQ, .string cR, .string cS], .int .i64 k] w fun e w' => e = .returned (.int .i64 r) ∧ Below base w w' ∧ Sim (fun k_ => P k_ ∨ Q k_) w w' := by
 have e2 : l2.length = n2 := by have := congrArg List.length hs2; rw [List.length_map, List.length_map] at this; omega
 have e3 : l3.length = n3 := by have := congrArg List.length hs3; rw [List.length_map, List.length_map] at this; omega
 subst e2;subst e3;exact laws_markEntry.calls hq2 hq3 a0 a1 a4 a5 a6 a7 a8 a9 cP cQ cR cS k r w ho2 ho3 hbs (by unfold laws_markEntry.f at h ⊢; rw [shN_cnt _ _ hs2, shN_cnt _ _ hs3]; exact h)
def laws_szStringS.l0 : Nat → List ByteArray → Int → Int → Option (Int)
 | 0, _, _, _ => none
 | k + 1, x0, x1, x5 => if x5 < (x0.length : Int) then (if 0 ≤ x5 then (if (wrap64 (x1 - ((rdOf ByteArray.empty x0 x5).size : Int))) < 0 then (some (-1)) else (laws_szStringS.l0 k x0 (wrap64 (x1 - ((rdOf ByteArray.empty x0 x5).size : Int))) (wrap64 (x5 + 1)))) else (none)) else (some x1)
def laws_szStringS.f (k : Nat) (l0 : List ByteArray) (a1 : Int) : Option (Int) := if (wrap64 (a1 - (l0.length : Int))) < 0 then (some (-1)) else (laws_szStringS.l0 k l0 (wrap64 (a1 - (l0.length : Int))) 0)
theorem laws_szStringS.mono_l : ∀ k, (∀ y0 y1 y2, LeO (laws_szStringS.l0 k y0 y1 y2) (laws_szStringS.l0 (k + 1) y0 y1 y2))
 | 0 => fun _ _ _ r h => by simp [laws_szStringS.l0] at h
 | k + 1 => by
  have ih0 := laws_szStringS.mono_l k
  ·
   intro y0 y1 y2;unfold laws_szStringS.l0
   repeat' first
   | (with_reducible exact ih0 _ _ _)
   | (with_reducible exact LeO.refl _)
   | (with_reducible exact LeO.none _)
   | (with_reducible refine LeO.ite ?_ ?_)
   | (with_reducible refine LeO.bind ?_ (fun _ => ?_))
   | exact ih0 _ _ _
   | exact LeO.none _
   | refine LeO.ite ?_ ?_
   | refine LeO.bind ?_ (fun _ => ?_)
theorem laws_szStringS.mono : ∀ a0 a1 k, LeO (laws_szStringS.f k a0 a1) (laws_szStringS.f (k + 1) a0 a1) := by
 intro a0 a1 k;have ih0 := laws_szStringS.mono_l k;unfold laws_szStringS.f
 repeat' first
   | (with_reducible exact ih0 _ _ _)
   | (with_reducible exact LeO.refl _)
   | (with_reducible exact LeO.none _)
   | (with_reducible refine LeO.ite ?_ ?_)
   | (with_reducible refine LeO.bind ?_ (fun _ => ?_))
   | exact ih0 _ _ _
   | exact LeO.none _
   | refine LeO.ite ?_ ?_
   | refine LeO.bind ?_ (fun _ => ?_)
set_option maxHeartbeats 8000000 in
set_option maxRecDepth 100000 in
theorem laws_szStringS.calls (k : Nat) (A0 : Option Addr) (c0 : Nat) (l0 : List ByteArray) (a1 : Int) (r : Int) (w : World) (dn : Kd.C Kd.string w A0 l0.length l0) (d5 : l0.length ≤ c0) (h : laws_szStringS.f k l0 a1 = some r) :
  Calls Tryz.prog 43 #[.slice A0 l0.length c0, .int .i64 a1] w fun e w' => e = .returned (.int .i64 r) ∧ Drawn0 w w' := by
 have dM := am dn;have lr := am d5;clear dn d5;have H : (if (wrap64 (a1 - (l0.length : Int))) < 0 then (some (-1)) else (laws_szStringS.l0 k l0 (wrap64 (a1 - (l0.length : Int))) 0)) = some r := h;clear h;by_cases c3 : (wrap64 (a1 - (l0.length : Int))) < 0
 · rw [if_pos c3] at H;have c3b0 := dt c3;clear c3;obtain rfl := ojz H;go_enter Tryz.func43, Tryz.ntmps43;go_wp2;go_ret;exact ax0
 ·
  rw [if_neg c3] at H;have c3b0 := df c3;clear c3;have H' := am H;clear H;go_enter Tryz.func43, Tryz.ntmps43;go_wp2
  go_loopg [1, 5] k (fun kq v1 v5 w' => ∃ (dX : Int) (az : Int), v1 = .int .i64 dX ∧ v5 = .int .i64 az ∧ Aside0 (laws_szStringS.l0 kq l0 dX az = some r) ∧ Aside0 (kq ≤ k) ∧ Drawn0 w w')
  case atStart => exact ⟨(wrap64 (a1 - (l0.length : Int))), (0), au107, au107, H', ⟨Nat.le_refl _⟩, by repeat (first | exact Drawn0.refl _ | apply Drawn0.step)⟩
  case round =>
   clear H'
   try clear p2
   try clear c3
   try clear c3b0
   obtain ⟨dX, az, rfl, rfl, HA, HK1, ⟨m1, rfl⟩⟩ := hrel
   cases gk with
   | zero => exact absurd HA.out (by simp [laws_szStringS.l0])
   | succ k1 =>
    have H := HA.out;clear HA;simp only [laws_szStringS.l0] at H;by_cases c4 : az < (l0.length : Int)
    ·
     rw [if_pos c4] at H;have c4b0 := dt c4;clear c4;by_cases c5 : 0 ≤ az
     ·
      rw [if_pos c5] at H;have c5b0 := dt c5;clear c5;by_cases c6 : (wrap64 (dX - ((rdOf ByteArray.empty l0 az).size : Int))) < 0
      ·
       rw [if_pos c6] at H;have c6b0 := dt c6;clear c6;obtain rfl := ojz H;have xP : 0 ≤ (az : Int) := od au106;have xQ : az < (l0.length : Int) := od au106;obtain ⟨ZP, OI, Sr⟩ := Kd.at_string dM.out az xP xQ
       cases OI
       replace xP := eq_true xP;replace xQ := eq_true xQ;go_wp2;go_ret;exact ax0
      ·
       rw [if_neg c6] at H;have c6b0 := df c6;clear c6;have H' := am H;clear H;have xP : 0 ≤ (az : Int) := od au106;have xQ : az < (l0.length : Int) := od au106;obtain ⟨ZP, OI, Sr⟩ := Kd.at_string dM.out az xP xQ
       cases OI
       replace xP := eq_true xP;replace xQ := eq_true xQ;go_wp2
       go_roundg k1
       case measure => have := HK1.out; omega
       case rel => exact ⟨(wrap64 (dX - ((rdOf ByteArray.empty l0 az).size : Int))), (wrap64 (az + 1)), au107, au107, H', ⟨by have := HK1.out; omega⟩, by repeat (first | exact Drawn0.refl _ | apply Drawn0.step)⟩
     · rw [if_neg c5] at H;exact absurd H (by simp)
    · rw [if_neg c4] at H;have c4b0 := df c4;clear c4;obtain rfl := ojz H;go_wp2;go_ret;exact ax0
def laws_szName.f (k : Nat) (aV : List ByteArray) (aa : ByteArray) (aC : ByteArray) (aA : ByteArray) (a1 : Int) : Option (Int) := (laws_szStringS.f k aV a1).bind fun ia => (if ia < 0 then (some (-1)) else (if (wrap64 (ia - (aa.size : Int))) < 0 then (some (-1)) else (if (wrap64 ((wrap64 (ia - (aa.size : Int))) - (aC.size : Int))) < 0 then (some (-1)) else (if (wrap64 ((wrap64 ((wrap64 (ia - (aa.size : Int))) - (aC.size : Int))) - (aA.size : Int))) < 0 then (some (-1)) else (some (wrap64 ((wrap64 ((wrap64 (ia - (aa.size : Int))) - (aC.size : Int))) - (aA.size : Int))))))))
theorem laws_szName.mono : ∀ a0 a1 a2 a3 a4 k, LeO (laws_szName.f k a0 a1 a2 a3 a4) (laws_szName.f (k + 1) a0 a1 a2 a3 a4) := by
 intro a0 a1 a2 a3 a4 k;unfold laws_szName.f
 repeat' first
   | (with_reducible exact laws_szStringS.mono _ _ _)
   | (with_reducible exact LeO.refl _)
   | (with_reducible exact LeO.none _)
   | (with_reducible refine LeO.ite ?_ ?_)
   | (with_reducible refine LeO.bind ?_ (fun _ => ?_))
   | exact laws_szStringS.mono _ _ _
   | exact LeO.none _
   | refine LeO.ite ?_ ?_
   | refine LeO.bind ?_ (fun _ => ?_)
set_option maxRecDepth 100000 in
theorem laws_szName.L0 {P : Prop} (h : P := by
  go_enter Tryz.func25, Tryz.ntmps25;go_wp2_with (first | ((with_reducible refine gate_dst (N := 2) rfl ?_); refine box_event ?hg (N := 2) ?hd (cs := #[.slice cC aV.length cD, .string aa, .string aC, .string aA]) (t := 55) ?hr ?_; (case hd => rfl); (case hg => rfl); (case hr => first | (go_simp; done) | (go_simp; rfl)); intro alI hg ls hbox hb; have ZQ := am (hbox); have alJ := am (bsz hg au51); have ZR := am (bsz hg au51); replace HB := am (below_step au51 hb); clear hb hbox hg; obtain ⟨gQ, gR, gS, gT, gU, gV, gW, gX⟩ := blkc4 ZQ.out) | ((with_reducible refine gate_callee (f := 43) rfl ?_); refine goesL_ (some 8) rfl rfl Tryz.func43 (by kernel_rfl) rfl #[.slice cC aV.length cD, .int .i64 a1] rfl au50 ?_; (with_reducible refine (laws_szStringS.calls k _ _ aV a1 ia _ ?ax ?ay A3.out).mono ?_); (case ax => repeat (first | exact (Kd.C_below el.out HB.out) | (with_reducible refine Kd.C_alloc ?_ _) | (with_reducible refine Kd.C_drewN ?_ _) | (with_reducible refine Kd.C_drew ?_))); (case ay => exact fP.out); rintro e w' ⟨rfl, ⟨nd, rfl⟩⟩; refine ⟨_, rfl, ?_⟩));go_ret
  exact ⟨by first | rfl | (simp [errW_none, errW_some] <;> rfl) | (simp [*, errW_none, errW_some] <;> rfl), by repeat (first | (with_reducible first | exact HB.out | apply below_alloc | apply pw_below_drewN | apply below_drew1 | refine below_set ?_ ZR.out) | exact HB.out)⟩) : P := h
set_option maxHeartbeats 8000000 in
set_option maxRecDepth 100000 in
theorem laws_szName.calls (k : Nat) (cC : Option Addr) (cD : Nat) (aV : List ByteArray) (aa : ByteArray) (aC : ByteArray) (aA : ByteArray) (a1 : Int) (r : Int) (w : World) (dN : Kd.C Kd.string w cC aV.length aV) (dA : aV.length ≤ cD) (h : laws_szName.f k aV aa aC aA a1 = some r) :
  Calls Tryz.prog 25 #[.agg #[.slice cC aV.length cD, .string aa, .string aC, .string aA], .int .i64 a1] w fun e w' => e = .returned (.int .i64 r) ∧ Below w.heap.size w w' := by
 have hu55 := Tryz.underlying55;have el := am dN;have fP := am dA;clear dN dA;have HB := am (Below.refl w.heap.size w);have H : ((laws_szStringS.f k aV a1).bind fun ia => (if ia < 0 then (some (-1)) else (if (wrap64 (ia - (aa.size : Int))) < 0 then (some (-1)) else (if (wrap64 ((wrap64 (ia - (aa.size : Int))) - (aC.size : Int))) < 0 then (some (-1)) else (if (wrap64 ((wrap64 ((wrap64 (ia - (aa.size : Int))) - (aC.size : Int))) - (aA.size : Int))) < 0 then (some (-1)) else (some (wrap64 ((wrap64 ((wrap64 (ia - (aa.size : Int))) - (aC.size : Int))) - (aA.size : Int))))))))) = some r := h;clear h;replace H := ob H;obtain ⟨ia, d6, H⟩ := H
 try dsimp only at H
 have A3 := am d6;clear d6;by_cases c4 : ia < 0
 · rw [if_pos c4] at H;have c4b0 := dt c4;clear c4;obtain rfl := ojz H;exact laws_szName.L0
 ·
  rw [if_neg c4] at H;have c4b0 := df c4;clear c4;by_cases c7 : (wrap64 (ia - (aa.size : Int))) < 0
  · rw [if_pos c7] at H;have c7b0 := dt c7;clear c7;obtain rfl := ojz H;exact laws_szName.L0
  ·
   rw [if_neg c7] at H;have c7b0 := df c7;clear c7;by_cases c10 : (wrap64 ((wrap64 (ia - (aa.size : Int))) - (aC.size : Int))) < 0
   · rw [if_pos c10] at H;have c10b0 := dt c10;clear c10;obtain rfl := ojz H;exact laws_szName.L0
   ·
    rw [if_neg c10] at H;have c10b0 := df c10;clear c10;by_cases bW : (wrap64 ((wrap64 ((wrap64 (ia - (aa.size : Int))) - (aC.size : Int))) - (aA.size : Int))) < 0
    · rw [if_pos bW] at H;have c13b0 := dt bW;clear bW;obtain rfl := ojz H;exact laws_szName.L0
    · rw [if_neg bW] at H;have c13b0 := df bW;clear bW;obtain rfl := ojz H;exact laws_szName.L0
def laws_szNameS.l0 : Nat → List (S55) → Int → Int → Option (Int)
 | 0, _, _, _ => none
 | k + 1, x0, x1, x5 => if x5 < (x0.length : Int) then (if 0 ≤ x5 then ((laws_szName.f k ((rd_T55 x0 x5).f0) ((rd_T55 x0 x5).f1) ((rd_T55 x0 x5).f2) ((rd_T55 x0 x5).f3) x1).bind fun t105 => (if t105 < 0 then (some (-1)) else (laws_szNameS.l0 k x0 t105 (wrap64 (x5 + 1))))) else (none)) else (some x1)
def laws_szNameS.f (k : Nat) (l0 : List (S55)) (a1 : Int) : Option (Int) := if (wrap64 (a1 - (l0.length : Int))) < 0 then (some (-1)) else (laws_szNameS.l0 k l0 (wrap64 (a1 - (l0.length : Int))) 0)
theorem laws_szNameS.mono_l : ∀ k, (∀ y0 y1 y2, LeO (laws_szNameS.l0 k y0 y1 y2) (laws_szNameS.l0 (k + 1) y0 y1 y2))
 | 0 => fun _ _ _ r h => by simp [laws_szNameS.l0] at h
 | k + 1 => by
  have ih0 := laws_szNameS.mono_l k
  ·
   intro y0 y1 y2;unfold laws_szNameS.l0
   repeat' first
   | (with_reducible exact ih0 _ _ _)
   | (with_reducible exact laws_szName.mono _ _ _ _ _ _)
   | (with_reducible exact LeO.refl _)
   | (with_reducible exact LeO.none _)
   | (with_reducible refine LeO.ite ?_ ?_)
   | (with_reducible refine LeO.bind ?_ (fun _ => ?_))
   | exact ih0 _ _ _
   | exact laws_szName.mono _ _ _ _ _ _
   | exact LeO.none _
   | refine LeO.ite ?_ ?_
   | refine LeO.bind ?_ (fun _ => ?_)
theorem laws_szNameS.mono : ∀ a0 a1 k, LeO (laws_szNameS.f k a0 a1) (laws_szNameS.f (k + 1) a0 a1) := by
 intro a0 a1 k;have ih0 := laws_szNameS.mono_l k;unfold laws_szNameS.f
 repeat' first
   | (with_reducible exact ih0 _ _ _)
   | (with_reducible exact laws_szName.mono _ _ _ _ _ _)
   | (with_reducible exact LeO.refl _)
   | (with_reducible exact LeO.none _)
   | (with_reducible refine LeO.ite ?_ ?_)
   | (with_reducible refine LeO.bind ?_ (fun _ => ?_))
   | exact ih0 _ _ _
   | exact laws_szName.mono _ _ _ _ _ _
   | exact LeO.none _
   | refine LeO.ite ?_ ?_
   | refine LeO.bind ?_ (fun _ => ?_)
set_option maxHeartbeats 8000000 in
set_option maxRecDepth 100000 in
theorem laws_szNameS.calls (k : Nat) (A0 : Option Addr) (c0 : Nat) (l0 : List (S55)) (a1 : Int) (r : Int) (w : World) (dn : Kd.C k55 w A0 l0.length l0) (d5 : l0.length ≤ c0) (h : laws_szNameS.f k l0 a1 = some r) :
  Calls Tryz.prog 13 #[.slice A0 l0.length c0, .int .i64 a1] w fun e w' => e = .returned (.int .i64 r) ∧ Below w.heap.size w w' := by
 have hu55 := Tryz.underlying55;have dM := am dn;have lr := am d5;clear dn d5;have HB := am (Below.refl w.heap.size w);have H : (if (wrap64 (a1 - (l0.length : Int))) < 0 then (some (-1)) else (laws_szNameS.l0 k l0 (wrap64 (a1 - (l0.length : Int))) 0)) = some r := h;clear h;by_cases c3 : (wrap64 (a1 - (l0.length : Int))) < 0
 · rw [if_pos c3] at H;have c3b0 := dt c3;clear c3;obtain rfl := ojz H;go_enter Tryz.func13, Tryz.ntmps13;go_wp2;go_ret;exact ax1
 ·
  rw [if_neg c3] at H;have c3b0 := df c3;clear c3;have H' := am H;clear H;go_enter Tryz.func13, Tryz.ntmps13;go_wp2
  go_loopg [1, 5] k (fun kq v1 v5 w' => ∃ (dX : Int) (az : Int), v1 = .int .i64 dX ∧ v5 = .int .i64 az ∧ Aside0 (laws_szNameS.l0 kq l0 dX az = some r) ∧ Aside0 (kq ≤ k) ∧ Aside0 (Below w.heap.size w w'))
  case atStart => exact ⟨(wrap64 (a1 - (l0.length : Int))), (0), au107, au107, H', ⟨Nat.le_refl _⟩, ⟨by repeat (first | (with_reducible first | exact HB.out | apply below_alloc | apply pw_below_drewN | apply below_drew1) | exact HB.out)⟩⟩
  case round =>
   clear H'
   try clear c1
   try clear p2
   try clear c3
   try clear c3b0
   obtain ⟨dX, az, rfl, rfl, HA, HK1, HB⟩ := hrel
   cases gk with
   | zero => exact absurd HA.out (by simp [laws_szNameS.l0])
   | succ k1 =>
    have H := HA.out;clear HA;simp only [laws_szNameS.l0] at H;by_cases c4 : az < (l0.length : Int)
    ·
     rw [if_pos c4] at H;have c4b0 := dt c4;clear c4;by_cases c5 : 0 ≤ az
     ·
      rw [if_pos c5] at H;have c5b0 := dt c5;clear c5;replace H := ob H;obtain ⟨t105, fF, H⟩ := H
      try dsimp only at H
      have A6 := am fF;clear fF;by_cases c7 : t105 < 0
      ·
       rw [if_pos c7] at H;have c7b0 := dt c7;clear c7;obtain rfl := ojz H;have xR : 0 ≤ (az : Int) := od au106;have xS : az < (l0.length : Int) := od au106;obtain ⟨ZS, FI, FJ, OJ, qu, qv, qw, qx, qy, qz⟩ := at_T55 dM.out az xR xS
       cases OJ
       replace qu := bcl HB.out qu;replace qv := bcl HB.out qv;replace qw := bcl HB.out qw;replace qx := bcl HB.out qx;have Bf := am qz;have Bg := am qy;clear qz qy;replace xR := eq_true xR;replace xS := eq_true xS;go_wp2_with (first | ((with_reducible refine gate_callee (f := 25) rfl ?_); refine goesL_ (some 23) rfl rfl Tryz.func25 (by kernel_rfl) rfl #[.agg #[.slice FI ((rd_T55 l0 az).f0).length FJ, .string ((rd_T55 l0 az).f1), .string ((rd_T55 l0 az).f2), .string ((rd_T55 l0 az).f3)], .int .i64 dX] rfl au50 ?_; (with_reducible refine (laws_szName.calls k1 _ _ ((rd_T55 l0 az).f0) ((rd_T55 l0 az).f1) ((rd_T55 l0 az).f2) ((rd_T55 l0 az).f3) dX t105 _ ?ax ?ay A6.out).mono ?_); (case ax => repeat (first | exact (Kd.C_below Bf.out HB.out) | (with_reducible refine Kd.C_alloc ?_ _) | (with_reducible refine Kd.C_drewN ?_ _) | (with_reducible refine Kd.C_drew ?_))); (case ay => exact Bg.out); rintro e w8 ⟨rfl, hb⟩; refine ⟨_, rfl, ?_⟩; replace HB := am (below_step au51 hb); (try clear hb)));go_ret;exact ax1
      ·
       rw [if_neg c7] at H;have c7b0 := df c7;clear c7;have H' := am H;clear H;have xR : 0 ≤ (az : Int) := od au106;have xS : az < (l0.length : Int) := od au106;obtain ⟨ZS, FI, FJ, OJ, qu, qv, qw, qx, qy, qz⟩ := at_T55 dM.out az xR xS
       cases OJ
       replace qu := bcl HB.out qu;replace qv := bcl HB.out qv;replace qw := bcl HB.out qw;replace qx := bcl HB.out qx;have Bf := am qz;have Bg := am qy;clear qz qy;replace xR := eq_true xR;replace xS := eq_true xS;go_wp2_with (first | ((with_reducible refine gate_callee (f := 25) rfl ?_); refine goesL_ (some 23) rfl rfl Tryz.func25 (by kernel_rfl) rfl #[.agg #[.slice FI ((rd_T55 l0 az).f0).length FJ, .string ((rd_T55 l0 az).f1), .string ((rd_T55 l0 az).f2), .string ((rd_T55 l0 az).f3)], .int .i64 dX] rfl au50 ?_; (with_reducible refine (laws_szName.calls k1 _ _ ((rd_T55 l0 az).f0) ((rd_T55 l0 az).f1) ((rd_T55 l0 az).f2) ((rd_T55 l0 az).f3) dX t105 _ ?ax ?ay A6.out).mono ?_); (case ax => repeat (first | exact (Kd.C_below Bf.out HB.out) | (with_reducible refine Kd.C_alloc ?_ _) | (with_reducible refine Kd.C_drewN ?_ _) | (with_reducible refine Kd.C_drew ?_))); (case ay => exact Bg.out); rintro e w9 ⟨rfl, hb⟩; refine ⟨_, rfl, ?_⟩; replace HB := am (below_step au51 hb); (try clear hb)))
       go_roundg k1
       case measure => have := HK1.out; omega
       case rel => exact ⟨(t105), (wrap64 (az + 1)), au107, au107, H', ⟨by have := HK1.out; omega⟩, ⟨by repeat (first | (with_reducible first | exact HB.out | apply below_alloc | apply pw_below_drewN | apply below_drew1) | exact HB.out)⟩⟩
     · rw [if_neg c5] at H;exact absurd H (by simp)
    · rw [if_neg c4] at H;have c4b0 := df c4;clear c4;obtain rfl := ojz H;go_wp2;go_ret;exact ax1
def laws_szEntry.f (k : Nat) (ab : ByteArray) (aa : Int) (ai : List (S55)) (aj : List (S55)) (ak : ByteArray) (an : ByteArray) (ap : ByteArray) (ar : Int) (av : Int) (aw : Int) (af : Bool) (ac : Int) (ae : ByteArray) (ag : ByteArray) (a1 : Int) : Option (Int) := if (wrap64 (a1 - (ab.size : Int))) < 0 then (some (-1)) else ((laws_szNameS.f k ai (wrap64 (a1 - (ab.size : Int)))).bind fun kP => (if kP < 0 then (some (-1)) else ((laws_szNameS.f k aj kP).bind fun eF => (if eF < 0 then (some (-1)) else (if (wrap64 (eF - (ak.size : Int))) < 0 then (some (-1)) else (if (wrap64 ((wrap64 (eF - (ak.size : Int))) - (an.size : Int))) < 0 then (some (-1)) else (if (wrap64 ((wrap64 ((wrap64 (eF - (ak.size : Int))) - (an.size : Int))) - (ap.size : Int))) < 0 then (some (-1)) else (if (wrap64 ((wrap64 ((wrap64 ((wrap64 (eF - (ak.size : Int))) - (an.size : Int))) - (ap.size : Int))) - (ae.size : Int))) < 0 then (some (-1)) else (if (wrap64 ((wrap64 ((wrap64 ((wrap64 ((wrap64 (eF - (ak.size : Int))) - (an.size : Int))) - (ap.size : Int))) - (ae.size : Int))) - (ag.size : Int))) < 0 then (some (-1)) else (some (wrap64 ((wrap64 ((wrap64 ((wrap64 ((wrap64 (eF - (ak.size : Int))) - (an.size : Int))) - (ap.size : Int))) - (ae.size : Int))) - (ag.size : Int)))))))))))))
theorem laws_szEntry.mono : ∀ a0 a1 a2 a3 a4 a5 a6 a7 a8 a9 cP cQ cR cS eU k, LeO (laws_szEntry.f k a0 a1 a2 a3 a4 a5 a6 a7 a8 a9 cP cQ cR cS eU) (laws_szEntry.f (k + 1) a0 a1 a2 a3 a4 a5 a6 a7 a8 a9 cP cQ cR cS eU) := by
 intro a0 a1 a2 a3 a4 a5 a6 a7 a8 a9 cP cQ cR cS eU k;unfold laws_szEntry.f
 repeat' first
   | (with_reducible exact laws_szNameS.mono _ _ _)
   | (with_reducible exact LeO.refl _)
   | (with_reducible exact LeO.none _)
   | (with_reducible refine LeO.ite ?_ ?_)
   | (with_reducible refine LeO.bind ?_ (fun _ => ?_))
   | exact laws_szNameS.mono _ _ _
   | exact LeO.none _
   | refine LeO.ite ?_ ?_
   | refine LeO.bind ?_ (fun _ => ?_)
set_option maxRecDepth 100000 in
theorem laws_szEntry.L0 {P : Prop} (h : P := by
  go_enter Tryz.func4, Tryz.ntmps4;go_wp2_with (first | ((with_reducible refine gate_dst (N := 2) rfl ?_); refine box_event ?hg (N := 2) ?hd (cs := #[.string ab, .int .i64 aa, .slice bj ai.length bl, .slice bm aj.length bn, .string ak, .string an, .string ap, .int .i64 ar, .int .i64 av, .int .i64 aw, .bool af, .int .i64 ac, .string ae, .string ag]) (t := 26) ?hr ?_; (case hd => rfl); (case hg => rfl); (case hr => first | (go_simp; done) | (go_simp; rfl)); intro tw hg Rt hbox hb; have hV := am (hbox); have Ru := am (bsz hg au51); have Fb := am (bsz hg au51); replace HB := am (below_step au51 hb); clear hb hbox hg; obtain ⟨vN, vO, vP, vQ, J4, J5, J6, J7, J8, J9, FL, FM, FN, FO, vR, vS, vT, vU, Ja, Jb, Jc, Jd, Je, Jf, FP, FQ, FR, FS⟩ := blkc14 hV.out) | ((with_reducible refine gate_callee (f := 13) rfl ?_); refine goesL_ (some 15) rfl rfl Tryz.func13 (by kernel_rfl) rfl #[.slice bj ai.length bl, .int .i64 (wrap64 (a1 - (ab.size : Int)))] rfl au50 ?_; (with_reducible refine (laws_szNameS.calls k _ _ ai (wrap64 (a1 - (ab.size : Int))) kP _ ?ax ?ay A6.out).mono ?_); (case ax => repeat (first | exact (Kd.C_below ck.out HB.out) | (with_reducible refine Kd.C_alloc ?_ _) | (with_reducible refine Kd.C_drewN ?_ _) | (with_reducible refine Kd.C_drew ?_))); (case ay => exact cn.out); rintro e w21 ⟨rfl, hb⟩; refine ⟨_, rfl, ?_⟩; replace hV := am (blk_below (g := tw) au53 hb); replace HB := am (below_step au27 hb); (try clear hb); obtain ⟨jJ, jK, jL, jM, qB, qC, qD, qF, qG, qH, oO, oP, oQ, oS, jN, jO, jP, jQ, qI, qJ, qK, qL, qM, qN, oT, oU, oV, oW⟩ := blkc14 hV.out) | ((with_reducible refine gate_callee (f := 13) rfl ?_); refine goesL_ (some 21) rfl rfl Tryz.func13 (by kernel_rfl) rfl #[.slice bm aj.length bn, .int .i64 kP] rfl au50 ?_; (with_reducible refine (laws_szNameS.calls k _ _ aj kP eF _ ?ax ?ay Rv.out).mono ?_); (case ax => repeat (first | exact (Kd.C_below cz.out HB.out) | (with_reducible refine Kd.C_alloc ?_ _) | (with_reducible refine Kd.C_drewN ?_ _) | (with_reducible refine Kd.C_drew ?_))); (case ay => exact cA.out); rintro e w23 ⟨rfl, hb⟩; refine ⟨_, rfl, ?_⟩; replace hV := am (blk_below (g := tw) au53 hb); replace HB := am (below_step au27 hb); (try clear hb); obtain ⟨nq, nr, nt, nu, vV, vW, vX, vY, vZ, wa, tx, tz, tA, tB, nv, nw, nx, nz, wb, wd, we, wg, wh, wi, tC, tD, tE, tF⟩ := blkc14 hV.out));go_ret
  exact ax2) : P := h
set_option maxHeartbeats 8000000 in
set_option maxRecDepth 100000 in
theorem laws_szEntry.calls (k : Nat) (ab : ByteArray) (aa : Int) (bj : Option Addr) (bl : Nat) (ai : List (S55)) (bm : Option Addr) (bn : Nat) (aj : List (S55)) (ak : ByteArray) (an : ByteArray) (ap : ByteArray) (ar : Int) (av : Int) (aw : Int) (af : Bool) (ac : Int) (ae : ByteArray) (ag : ByteArray) (a1 : Int) (r : Int) (w : World) (cV : Kd.C k55 w bj ai.length ai) (cL : ai.length ≤ bl) (cW : Kd.C k55 w bm aj.length aj) (cM : aj.length ≤ bn) (h : laws_szEntry.f k ab aa ai aj ak an ap ar av aw af ac ae ag a1 = some r) :
  Calls Tryz.prog 4 #[.agg #[.string ab, .int .i64 aa, .slice bj ai.length bl, .slice bm aj.length bn, .string ak, .string an, .string ap, .int .i64 ar, .int .i64 av, .int .i64 aw, .bool af, .int .i64 ac, .string ae, .string ag], .int .i64 a1] w fun e w' => e = .returned (.int .i64 r) ∧ Below w.heap.size w w' := by
 have hu26 := Tryz.underlying26;have ck := am cV;have cn := am cL;clear cV cL;have cz := am cW;have cA := am cM;clear cW cM;have HB := am (Below.refl w.heap.size w);have H : (if (wrap64 (a1 - (ab.size : Int))) < 0 then (some (-1)) else ((laws_szNameS.f k ai (wrap64 (a1 - (ab.size : Int)))).bind fun kP => (if kP < 0 then (some (-1)) else ((laws_szNameS.f k aj kP).bind fun eF => (if eF < 0 then (some (-1)) else (if (wrap64 (eF - (ak.size : Int))) < 0 then (some (-1)) else (if (wrap64 ((wrap64 (eF - (ak.size : Int))) - (an.size : Int))) < 0 then (some (-1)) else (if (wrap64 ((wrap64 ((wrap64 (eF - (ak.size : Int))) - (an.size : Int))) - (ap.size : Int))) < 0 then (some (-1)) else (if (wrap64 ((wrap64 ((wrap64 ((wrap64 (eF - (ak.size : Int))) - (an.size : Int))) - (ap.size : Int))) - (ae.size : Int))) < 0 then (some (-1)) else (if (wrap64 ((wrap64 ((wrap64 ((wrap64 ((wrap64 (eF - (ak.size : Int))) - (an.size : Int))) - (ap.size : Int))) - (ae.size : Int))) - (ag.size : Int))) < 0 then (some (-1)) else (some (wrap64 ((wrap64 ((wrap64 ((wrap64 ((wrap64 (eF - (ak.size : Int))) - (an.size : Int))) - (ap.size : Int))) - (ae.size : Int))) - (ag.size : Int)))))))))))))) = some r := h;clear h;by_cases c3 : (wrap64 (a1 - (ab.size : Int))) < 0
 · rw [if_pos c3] at H;have c3b0 := dt c3;clear c3;obtain rfl := ojz H;exact laws_szEntry.L0
 ·
  rw [if_neg c3] at H;have c3b0 := df c3;clear c3;replace H := ob H;obtain ⟨kP, fF, H⟩ := H
  try dsimp only at H
  have A6 := am fF;clear fF;by_cases c7 : kP < 0
  · rw [if_pos c7] at H;have c7b0 := dt c7;clear c7;obtain rfl := ojz H;go_enter Tryz.func4, Tryz.ntmps4;go_wp2_with (first | ((with_reducible refine gate_dst (N := 2) rfl ?_); refine box_event ?hg (N := 2) ?hd (cs := #[.string ab, .int .i64 aa, .slice bj ai.length bl, .slice bm aj.length bn, .string ak, .string an, .string ap, .int .i64 ar, .int .i64 av, .int .i64 aw, .bool af, .int .i64 ac, .string ae, .string ag]) (t := 26) ?hr ?_; (case hd => rfl); (case hg => rfl); (case hr => first | (go_simp; done) | (go_simp; rfl)); intro tw hg w8 hbox hb; have hV := am (hbox); have Ru := am (bsz hg au51); have Fb := am (bsz hg au51); replace HB := am (below_step au51 hb); clear hb hbox hg; obtain ⟨WM, WN, WO, WP, ako, akp, akq, akr, aks, akt, aat, aau, aav, aaw, WQ, WR, WS, WT, aku, akv, akw, akx, aky, akz, aax, aay, aaz, aaA⟩ := blkc14 hV.out) | ((with_reducible refine gate_callee (f := 13) rfl ?_); refine goesL_ (some 15) rfl rfl Tryz.func13 (by kernel_rfl) rfl #[.slice bj ai.length bl, .int .i64 (wrap64 (a1 - (ab.size : Int)))] rfl au50 ?_; (with_reducible refine (laws_szNameS.calls k _ _ ai (wrap64 (a1 - (ab.size : Int))) kP _ ?ax ?ay A6.out).mono ?_); (case ax => repeat (first | exact (Kd.C_below ck.out HB.out) | (with_reducible refine Kd.C_alloc ?_ _) | (with_reducible refine Kd.C_drewN ?_ _) | (with_reducible refine Kd.C_drew ?_))); (case ay => exact cn.out); rintro e uw ⟨rfl, hb⟩; refine ⟨_, rfl, ?_⟩; replace hV := am (blk_below (g := tw) au53 hb); replace HB := am (below_step au27 hb); (try clear hb)));go_ret;exact ax2
  ·
   rw [if_neg c7] at H;have c7b0 := df c7;clear c7;replace H := ob H;obtain ⟨eF, xT, H⟩ := H
   try dsimp only at H
   have Rv := am xT;clear xT;by_cases cu : eF < 0
   · rw [if_pos cu] at H;have c12b0 := dt cu;clear cu;obtain rfl := ojz H;go_enter Tryz.func4, Tryz.ntmps4;go_wp2_with (first | ((with_reducible refine gate_dst (N := 2) rfl ?_); refine box_event ?hg (N := 2) ?hd (cs := #[.string ab, .int .i64 aa, .slice bj ai.length bl, .slice bm aj.length bn, .string ak, .string an, .string ap, .int .i64 ar, .int .i64 av, .int .i64 aw, .bool af, .int .i64 ac, .string ae, .string ag]) (t := 26) ?hr ?_; (case hd => rfl); (case hg => rfl); (case hr => first | (go_simp; done) | (go_simp; rfl)); intro tw hg uC hbox hb; have hV := am (hbox); have Ru := am (bsz hg au51); have Fb := am (bsz hg au51); replace HB := am (below_step au51 hb); clear hb hbox hg; obtain ⟨lx, ly, lz, lB, Bh, Bi, Bj, Bl, Bm, Bn, xU, xV, xW, xX, lC, lD, lF, lG, Bo, Bp, Bq, Br, Bs, Bt, xY, xZ, ya, yb⟩ := blkc14 hV.out) | ((with_reducible refine gate_callee (f := 13) rfl ?_); refine goesL_ (some 15) rfl rfl Tryz.func13 (by kernel_rfl) rfl #[.slice bj ai.length bl, .int .i64 (wrap64 (a1 - (ab.size : Int)))] rfl au50 ?_; (with_reducible refine (laws_szNameS.calls k _ _ ai (wrap64 (a1 - (ab.size : Int))) kP _ ?ax ?ay A6.out).mono ?_); (case ax => repeat (first | exact (Kd.C_below ck.out HB.out) | (with_reducible refine Kd.C_alloc ?_ _) | (with_reducible refine Kd.C_drewN ?_ _) | (with_reducible refine Kd.C_drew ?_))); (case ay => exact cn.out); rintro e w15 ⟨rfl, hb⟩; refine ⟨_, rfl, ?_⟩; replace hV := am (blk_below (g := tw) au53 hb); replace HB := am (below_step au27 hb); (try clear hb); obtain ⟨lH, lI, lJ, lK, Jg, Jh, Ji, Jj, Jk, Jl, FT, FU, FV, FW, lL, lM, lN, lO, Jm, Jn, Jo, Jp, Jq, Jr, FX, FY, FZ, G0⟩ := blkc14 hV.out) | ((with_reducible refine gate_callee (f := 13) rfl ?_); refine goesL_ (some 21) rfl rfl Tryz.func13 (by kernel_rfl) rfl #[.slice bm aj.length bn, .int .i64 kP] rfl au50 ?_; (with_reducible refine (laws_szNameS.calls k _ _ aj kP eF _ ?ax ?ay Rv.out).mono ?_); (case ax => repeat (first | exact (Kd.C_below cz.out HB.out) | (with_reducible refine Kd.C_alloc ?_ _) | (with_reducible refine Kd.C_drewN ?_ _) | (with_reducible refine Kd.C_drew ?_))); (case ay => exact cA.out); rintro e Js ⟨rfl, hb⟩; refine ⟨_, rfl, ?_⟩; replace hV := am (blk_below (g := tw) au53 hb); replace HB := am (below_step au27 hb); (try clear hb)));go_ret;exact ax2
   ·
    rw [if_neg cu] at H;have c12b0 := df cu;clear cu;by_cases eC : (wrap64 (eF - (ak.size : Int))) < 0
    · rw [if_pos eC] at H;have c18b0 := dt eC;clear eC;obtain rfl := ojz H;exact laws_szEntry.L0
    ·
     rw [if_neg eC] at H;have c18b0 := df eC;clear eC;by_cases fJ : (wrap64 ((wrap64 (eF - (ak.size : Int))) - (an.size : Int))) < 0
     · rw [if_pos fJ] at H;have c25b0 := dt fJ;clear fJ;obtain rfl := ojz H;exact laws_szEntry.L0
     ·
      rw [if_neg fJ] at H;have c25b0 := df fJ;clear fJ;by_cases eI : (wrap64 ((wrap64 ((wrap64 (eF - (ak.size : Int))) - (an.size : Int))) - (ap.size : Int))) < 0
      · rw [if_pos eI] at H;have c32b0 := dt eI;clear eI;obtain rfl := ojz H;exact laws_szEntry.L0
      ·
       rw [if_neg eI] at H;have c32b0 := df eI;clear eI;by_cases Jt : (wrap64 ((wrap64 ((wrap64 ((wrap64 (eF - (ak.size : Int))) - (an.size : Int))) - (ap.size : Int))) - (ae.size : Int))) < 0
       · rw [if_pos Jt] at H;have c39b0 := dt Jt;clear Jt;obtain rfl := ojz H;exact laws_szEntry.L0
       ·
        rw [if_neg Jt] at H;have c39b0 := df Jt;clear Jt;by_cases Ju : (wrap64 ((wrap64 ((wrap64 ((wrap64 ((wrap64 (eF - (ak.size : Int))) - (an.size : Int))) - (ap.size : Int))) - (ae.size : Int))) - (ag.size : Int))) < 0
        · rw [if_pos Ju] at H;have c46b0 := dt Ju;clear Ju;obtain rfl := ojz H;exact laws_szEntry.L0
        · rw [if_neg Ju] at H;have c46b0 := df Ju;clear Ju;obtain rfl := ojz H;exact laws_szEntry.L0
def spec_l1In.f (a0 : Int) (a1 : Int) (a2 : Int) : Option (Bool) := if a0 ≥ a1 then (some (decide (a0 ≤ a2))) else (some false)
set_option maxHeartbeats 8000000 in
set_option maxRecDepth 100000 in
theorem spec_l1In.calls (a0 : Int) (a1 : Int) (a2 : Int) (r : Bool) (w : World) (h : spec_l1In.f a0 a1 a2 = some r) :
  Calls Tryz.prog 27 #[.int .i64 a0, .int .i64 a1, .int .i64 a2] w fun e w' => e = .returned (.bool r) ∧ Drawn0 w w' := by
 have H : (if a0 ≥ a1 then (some (decide (a0 ≤ a2))) else (some false)) = some r := h;clear h;by_cases c4 : a0 ≥ a1
 · rw [if_pos c4] at H;have c4b0 := dt c4;clear c4;obtain rfl := ojz H;go_enter Tryz.func27, Tryz.ntmps27;go_wp2;go_ret;exact ax0
 · rw [if_neg c4] at H;have c4b0 := df c4;clear c4;obtain rfl := ojz H;go_enter Tryz.func27, Tryz.ntmps27;go_wp2;go_ret;exact ax0
def spec_l2Lower.f (a0 : Int) : Option (Bool) := if a0 ≥ 97 then (some (decide (a0 ≤ 122))) else (some false)
set_option maxHeartbeats 8000000 in
set_option maxRecDepth 100000 in
theorem spec_l2Lower.calls (a0 : Int) (r : Bool) (w : World) (h : spec_l2Lower.f a0 = some r) :
  Calls Tryz.prog 44 #[.int .u8 a0] w fun e w' => e = .returned (.bool r) ∧ Drawn0 w w' := by
 have H : (if a0 ≥ 97 then (some (decide (a0 ≤ 122))) else (some false)) = some r := h;clear h;by_cases c2 : a0 ≥ 97
 · rw [if_pos c2] at H;have c2b0 := dt c2;clear c2;obtain rfl := ojz H;go_enter Tryz.func44, Tryz.ntmps44;go_wp2;go_ret;exact ax0
 · rw [if_neg c2] at H;have c2b0 := df c2;clear c2;obtain rfl := ojz H;go_enter Tryz.func44, Tryz.ntmps44;go_wp2;go_ret;exact ax0
mutual
def spec_l4Key.j0 : Nat → ByteArray → Bool → Option (Bool)
 | 0, _, _ => none
 | k + 1, x0, oX => if oX = true then (some false) else (spec_l4Key.l0 k x0 0)
def spec_l4Key.l0 : Nat → ByteArray → Int → Option (Bool)
 | 0, _, _ => none
 | k + 1, x0, x3 => if x3 < (x0.size : Int) then (if 0 ≤ x3 then ((spec_l2Lower.f (bt x0 x3)).bind fun OK => (if OK = true then (spec_l4Key.l0 k x0 (wrap64 (x3 + 1))) else (if (bt x0 x3) < 48 then (some false) else (if (bt x0 x3) > 57 then (some false) else (spec_l4Key.l0 k x0 (wrap64 (x3 + 1))))))) else (none)) else (some true)
end
def spec_l4Key.f (k : Nat) (a0 : ByteArray) : Option (Bool) := (spec_l1In.f (a0.size : Int) 1 10).bind fun G1 => (if G1 = true then (if 0 < (a0.size : Int) then ((spec_l2Lower.f (bt a0 0)).bind fun Bu => (spec_l4Key.j0 k a0 (!Bu))) else (none)) else (spec_l4Key.j0 k a0 true))
theorem spec_l4Key.mono_l : ∀ k, (∀ y0 y1, LeO (spec_l4Key.j0 k y0 y1) (spec_l4Key.j0 (k + 1) y0 y1)) ∧ (∀ y0 y1, LeO (spec_l4Key.l0 k y0 y1) (spec_l4Key.l0 (k + 1) y0 y1))
 | 0 => ⟨fun _ _ r h => by simp [spec_l4Key.j0] at h, fun _ _ r h => by simp [spec_l4Key.l0] at h⟩
 | k + 1 => by
  obtain ⟨ih0, ih1⟩ := spec_l4Key.mono_l k;refine ⟨?_, ?_⟩
  ·
   intro y0 y1;unfold spec_l4Key.j0
   repeat' first
   | (with_reducible exact ih0 _ _)
   | (with_reducible exact ih1 _ _)
   | (with_reducible exact LeO.refl _)
   | (with_reducible exact LeO.none _)
   | (with_reducible refine LeO.ite ?_ ?_)
   | (with_reducible refine LeO.bind ?_ (fun _ => ?_))
   | exact ih0 _ _
   | exact ih1 _ _
   | exact LeO.none _
   | refine LeO.ite ?_ ?_
   | refine LeO.bind ?_ (fun _ => ?_)
  ·
   intro y0 y1;unfold spec_l4Key.l0
   repeat' first
   | (with_reducible exact ih0 _ _)
   | (with_reducible exact ih1 _ _)
   | (with_reducible exact LeO.refl _)
   | (with_reducible exact LeO.none _)
   | (with_reducible refine LeO.ite ?_ ?_)
   | (with_reducible refine LeO.bind ?_ (fun _ => ?_))
   | exact ih0 _ _
   | exact ih1 _ _
   | exact LeO.none _
   | refine LeO.ite ?_ ?_
   | refine LeO.bind ?_ (fun _ => ?_)
theorem spec_l4Key.mono : ∀ a0 k, LeO (spec_l4Key.f k a0) (spec_l4Key.f (k + 1) a0) := by
 intro a0 k;obtain ⟨ih0, ih1⟩ := spec_l4Key.mono_l k;unfold spec_l4Key.f
 repeat' first
   | (with_reducible exact ih0 _ _)
   | (with_reducible exact ih1 _ _)
   | (with_reducible exact LeO.refl _)
   | (with_reducible exact LeO.none _)
   | (with_reducible refine LeO.ite ?_ ?_)
   | (with_reducible refine LeO.bind ?_ (fun _ => ?_))
   | exact ih0 _ _
   | exact ih1 _ _
   | exact LeO.none _
   | refine LeO.ite ?_ ?_
   | refine LeO.bind ?_ (fun _ => ?_)
set_option maxRecDepth 100000 in
theorem spec_l4Key.L0 {P : Prop} (h : P := by
  go_wp2_with (first | ((with_reducible refine gate_callee (f := 44) rfl ?_); refine goesL_ (some 23) rfl rfl Tryz.func44 (by kernel_rfl) rfl #[.int .u8 (bt a0 aD)] rfl au50 ?_; (with_reducible refine (spec_l2Lower.calls (bt a0 aD) _ _ pZ.out).mono ?_); rintro e w' ⟨rfl, ⟨nd, rfl⟩⟩; refine ⟨_, rfl, ?_⟩; have gy : 0 ≤ (aD : Int) := od au106; have fG : aD < (a0.size : Int) := od au106; have tG := bt_at a0 aD; replace gy := eq_true gy; replace fG := eq_true fG; have F1 : 0 ≤ (aD : Int) := od au106; have F2 : aD < (a0.size : Int) := od au106; have WU := bt_at a0 aD; replace F1 := eq_true F1; replace F2 := eq_true F2));go_ret
  exact ax0) : P := h
set_option maxHeartbeats 8000000 in
set_option maxRecDepth 100000 in
theorem spec_l4Key.calls (k : Nat) (a0 : ByteArray) (r : Bool) (w : World) (h : spec_l4Key.f k a0 = some r) :
  Calls Tryz.prog 26 #[.string a0] w fun e w' => e = .returned (.bool r) ∧ Drawn0 w w' := by
 have H : ((spec_l1In.f (a0.size : Int) 1 10).bind fun G1 => (if G1 = true then (if 0 < (a0.size : Int) then ((spec_l2Lower.f (bt a0 0)).bind fun Bu => (spec_l4Key.j0 k a0 (!Bu))) else (none)) else (spec_l4Key.j0 k a0 true))) = some r := h;clear h;have eV := am H;clear H;go_enter Tryz.func26, Tryz.ntmps26
 go_upto_region 1 with (fail)
 go_cut [13] (fun NU wc => ∃ (kq : Nat) (cE : Bool), NU = .bool cE ∧ Aside0 (spec_l4Key.j0 kq a0 cE = some r) ∧ Aside0 (kq ≤ k) ∧ Drawn0 w wc)
 case first =>
  have H := eV.out;clear eV;replace H := ob H;obtain ⟨G1, d6, H⟩ := H
  try dsimp only at H
  have A3 := am d6;clear d6;by_cases c4 : G1 = true
  ·
   subst c4;replace H := (if_pos rfl).symm.trans H;by_cases c5 : 0 < (a0.size : Int)
   ·
    rw [if_pos c5] at H;have c5b0 := dt c5;have c5b1 : decide (0 < a0.size) = true := dt (by omega);clear c5
    (first | rw [c5b0] | (simp only [i64_w, i32_w]; rw [c5b0]) | skip)
    replace H := ob H;obtain ⟨Bu, fK, H⟩ := H
    try dsimp only at H
    have A7 := am fK;clear fK;have H' := am H;clear H;go_wp2_with (first | ((with_reducible refine gate_callee (f := 27) rfl ?_); refine goesL_ (some 6) rfl rfl Tryz.func27 (by kernel_rfl) rfl #[.int .i64 (a0.size : Int), .int .i64 1, .int .i64 10] rfl au50 ?_; (with_reducible refine (spec_l1In.calls (a0.size : Int) 1 10 _ _ A3.out).mono ?_); rintro e w' ⟨rfl, ⟨nd, rfl⟩⟩; refine ⟨_, rfl, ?_⟩; have p6 : 0 ≤ (0 : Int) := (by omega); have q6 : 0 < a0.size := (by have : (0 : Int) < (a0.size : Int) := od au106; omega); have uD : ∀ h : 0 < a0.size, ((a0[0]'h).toNat : Int) = bt a0 0 := bt_at a0 0; clear p6; have Ao : (0 < (a0.size : Int)) = True := eq_true (od au106); replace q6 := eq_true q6) | (go_at_call 44; (with_reducible refine (spec_l2Lower.calls (bt a0 0) Bu _ A7.out).mono ?_); rintro e w' ⟨rfl, ⟨nd, rfl⟩⟩));go_meet
    case rel => exact ⟨_, (!Bu), au107, H', ⟨by first | omega | exact Nat.le_refl _⟩, by repeat (first | exact Drawn0.refl _ | apply Drawn0.step)⟩
   · rw [if_neg c5] at H;exact absurd H (by simp)
  ·
   replace c4 := Bool.eq_false_iff.mpr c4;subst c4;replace H := (if_neg (show ¬ (false = true) by decide)).symm.trans H;have H' := am H;clear H;go_wp2_with (first | ((with_reducible refine gate_callee (f := 27) rfl ?_); refine goesL_ (some 6) rfl rfl Tryz.func27 (by kernel_rfl) rfl #[.int .i64 (a0.size : Int), .int .i64 1, .int .i64 10] rfl au50 ?_; (with_reducible refine (spec_l1In.calls (a0.size : Int) 1 10 _ _ A3.out).mono ?_); rintro e w' ⟨rfl, ⟨nd, rfl⟩⟩; refine ⟨_, rfl, ?_⟩));go_meet
   case rel => exact ⟨_, (true), au107, H', ⟨by first | omega | exact Nat.le_refl _⟩, by repeat (first | exact Drawn0.refl _ | apply Drawn0.step)⟩
 case rest =>
  clear eV
  try clear c2
  try clear p2
  try clear c4
  try clear c5
  try clear c5b0
  try clear c5b1
  try clear p6
  try clear q6
  try clear uD
  try clear Ao
  try clear p6
  try clear q6
  obtain ⟨kq, cE, rfl, HA, eW, ⟨mc1, rfl⟩⟩ := hcut
  cases kq with
  | zero => exact absurd HA.out (by simp [spec_l4Key.j0])
  | succ dT =>
   have H := HA.out;clear HA;simp only [spec_l4Key.j0] at H;by_cases c8 : cE = true
   · subst c8;replace H := (if_pos rfl).symm.trans H;obtain rfl := ojz H;exact spec_l4Key.L0
   ·
    replace c8 := Bool.eq_false_iff.mpr c8;subst c8;replace H := (if_neg (show ¬ (false = true) by decide)).symm.trans H;have H' := am H;clear H;go_wp2
    go_loopg [3] dT (fun kq v3 w' => ∃ (aD : Int), v3 = .int .i64 aD ∧ Aside0 (spec_l4Key.l0 kq a0 aD = some r) ∧ Aside0 (kq ≤ dT) ∧ Drawn0 w w')
    case atStart => exact ⟨(0), au107, H', ⟨Nat.le_refl _⟩, by repeat (first | exact Drawn0.refl _ | apply Drawn0.step)⟩
    case round =>
     clear H'
     try clear c1
     try clear c2
     try clear p2
     try clear c4
     try clear c5
     try clear c5b0
     try clear c5b1
     try clear p6
     try clear q6
     try clear uD
     try clear Ao
     try clear c8
     try clear p2
     try clear p6
     try clear q6
     obtain ⟨aD, rfl, HA, HK2, ⟨m2, rfl⟩⟩ := hrel
     cases gk with
     | zero => exact absurd HA.out (by simp [spec_l4Key.l0])
     | succ k2 =>
      have H := HA.out;clear HA;simp only [spec_l4Key.l0] at H;by_cases c9 : aD < (a0.size : Int)
      ·
       rw [if_pos c9] at H;have c9b0 := dt c9;clear c9;by_cases c10 : 0 ≤ aD
       ·
        rw [if_pos c10] at H;have c10b0 := dt c10;clear c10;replace H := ob H;obtain ⟨OK, oY, H⟩ := H
        try dsimp only at H
        have pZ := am oY;clear oY;by_cases bW : OK = true
        ·
         subst bW;replace H := (if_pos rfl).symm.trans H;have H' := am H;clear H;have hZ : 0 ≤ (aD : Int) := od au106;have gz : aD < (a0.size : Int) := od au106;have uE := bt_at a0 aD;replace hZ := eq_true hZ;replace gz := eq_true gz;go_wp2_with (first | ((with_reducible refine gate_callee (f := 44) rfl ?_); refine goesL_ (some 23) rfl rfl Tryz.func44 (by kernel_rfl) rfl #[.int .u8 (bt a0 aD)] rfl au50 ?_; (with_reducible refine (spec_l2Lower.calls (bt a0 aD) _ _ pZ.out).mono ?_); rintro e w' ⟨rfl, ⟨nd, rfl⟩⟩; refine ⟨_, rfl, ?_⟩))
         go_roundg k2
         case measure => have := eW.out; have := HK2.out; omega
         case rel => exact ⟨(wrap64 (aD + 1)), au107, H', ⟨by have := eW.out; have := HK2.out; omega⟩, by repeat (first | exact Drawn0.refl _ | apply Drawn0.step)⟩
        ·
         replace bW := Bool.eq_false_iff.mpr bW;subst bW;replace H := (if_neg (show ¬ (false = true) by decide)).symm.trans H;by_cases bV : (bt a0 aD) < 48
         · rw [if_pos bV] at H;have c15b0 := dt bV;clear bV;obtain rfl := ojz H;have hZ : 0 ≤ (aD : Int) := od au106;have gz : aD < (a0.size : Int) := od au106;have uE := bt_at a0 aD;replace hZ := eq_true hZ;replace gz := eq_true gz;go_wp2_with (first | ((with_reducible refine gate_callee (f := 44) rfl ?_); refine goesL_ (some 23) rfl rfl Tryz.func44 (by kernel_rfl) rfl #[.int .u8 (bt a0 aD)] rfl au50 ?_; (with_reducible refine (spec_l2Lower.calls (bt a0 aD) _ _ pZ.out).mono ?_); rintro e w' ⟨rfl, ⟨nd, rfl⟩⟩; refine ⟨_, rfl, ?_⟩; have gy : 0 ≤ (aD : Int) := od au106; have fG : aD < (a0.size : Int) := od au106; have tG := bt_at a0 aD; replace gy := eq_true gy; replace fG := eq_true fG));go_ret;exact ax0
         ·
          rw [if_neg bV] at H;have c15b0 := df bV;clear bV;by_cases eD : (bt a0 aD) > 57
          · rw [if_pos eD] at H;have c17b0 := dt eD;clear eD;obtain rfl := ojz H;have hZ : 0 ≤ (aD : Int) := od au106;have gz : aD < (a0.size : Int) := od au106;have uE := bt_at a0 aD;replace hZ := eq_true hZ;replace gz := eq_true gz;exact spec_l4Key.L0
          ·
           rw [if_neg eD] at H;have c17b0 := df eD;clear eD;have H' := am H;clear H;have hZ : 0 ≤ (aD : Int) := od au106;have gz : aD < (a0.size : Int) := od au106;have uE := bt_at a0 aD;replace hZ := eq_true hZ;replace gz := eq_true gz;go_wp2_with (first | ((with_reducible refine gate_callee (f := 44) rfl ?_); refine goesL_ (some 23) rfl rfl Tryz.func44 (by kernel_rfl) rfl #[.int .u8 (bt a0 aD)] rfl au50 ?_; (with_reducible refine (spec_l2Lower.calls (bt a0 aD) _ _ pZ.out).mono ?_); rintro e w' ⟨rfl, ⟨nd, rfl⟩⟩; refine ⟨_, rfl, ?_⟩; have gy : 0 ≤ (aD : Int) := od au106; have fG : aD < (a0.size : Int) := od au106; have tG := bt_at a0 aD; replace gy := eq_true gy; replace fG := eq_true fG; have F1 : 0 ≤ (aD : Int) := od au106; have F2 : aD < (a0.size : Int) := od au106; have WU := bt_at a0 aD; replace F1 := eq_true F1; replace F2 := eq_true F2))
           go_roundg k2
           case measure => have := eW.out; have := HK2.out; omega
           case rel => exact ⟨(wrap64 (aD + 1)), au107, H', ⟨by have := eW.out; have := HK2.out; omega⟩, by repeat (first | exact Drawn0.refl _ | apply Drawn0.step)⟩
       · rw [if_neg c10] at H;exact absurd H (by simp)
      · rw [if_neg c9] at H;have c9b0 := df c9;clear c9;obtain rfl := ojz H;exact spec_l4Key.L0
def spec_l2Upper.f (a0 : Int) : Option (Bool) := if a0 ≥ 65 then (some (decide (a0 ≤ 90))) else (some false)
set_option maxHeartbeats 8000000 in
set_option maxRecDepth 100000 in
theorem spec_l2Upper.calls (a0 : Int) (r : Bool) (w : World) (h : spec_l2Upper.f a0 = some r) :
  Calls Tryz.prog 61 #[.int .u8 a0] w fun e w' => e = .returned (.bool r) ∧ Drawn0 w w' := by
 have H : (if a0 ≥ 65 then (some (decide (a0 ≤ 90))) else (some false)) = some r := h;clear h;by_cases c2 : a0 ≥ 65
 · rw [if_pos c2] at H;have c2b0 := dt c2;clear c2;obtain rfl := ojz H;go_enter Tryz.func61, Tryz.ntmps61;go_wp2;go_ret;exact ax0
 · rw [if_neg c2] at H;have c2b0 := df c2;clear c2;obtain rfl := ojz H;go_enter Tryz.func61, Tryz.ntmps61;go_wp2;go_ret;exact ax0
def spec_l2Letter.f (a0 : Int) : Option (Bool) := (spec_l2Upper.f a0).bind fun G2 => (if G2 = true then (some true) else ((spec_l2Lower.f a0).bind fun G3 => (some G3)))
set_option maxHeartbeats 8000000 in
set_option maxRecDepth 100000 in
theorem spec_l2Letter.calls (a0 : Int) (r : Bool) (w : World) (h : spec_l2Letter.f a0 = some r) :
  Calls Tryz.prog 76 #[.int .u8 a0] w fun e w' => e = .returned (.bool r) ∧ Drawn0 w w' := by
 have H : ((spec_l2Upper.f a0).bind fun G2 => (if G2 = true then (some true) else ((spec_l2Lower.f a0).bind fun G3 => (some G3)))) = some r := h;clear h;replace H := ob H;obtain ⟨G2, dP, H⟩ := H
 try dsimp only at H
 have A2 := am dP;clear dP;by_cases c3 : G2 = true
 · subst c3;replace H := (if_pos rfl).symm.trans H;obtain rfl := ojz H;go_enter Tryz.func76, Tryz.ntmps76;go_wp2_with (first | ((with_reducible refine gate_callee (f := 61) rfl ?_); refine goesL_ (some 4) rfl rfl Tryz.func61 (by kernel_rfl) rfl #[.int .u8 a0] rfl au50 ?_; (with_reducible refine (spec_l2Upper.calls a0 true _ A2.out).mono ?_); rintro e w' ⟨rfl, ⟨nd, rfl⟩⟩; refine ⟨_, rfl, ?_⟩));go_ret;exact ax0
 ·
  replace c3 := Bool.eq_false_iff.mpr c3;subst c3;replace H := (if_neg (show ¬ (false = true) by decide)).symm.trans H;replace H := ob H;obtain ⟨G3, i8, H⟩ := H
  try dsimp only at H
  have A4 := am i8;clear i8;obtain rfl := ojz H;go_enter Tryz.func76, Tryz.ntmps76;go_wp2_with (first | ((with_reducible refine gate_callee (f := 61) rfl ?_); refine goesL_ (some 4) rfl rfl Tryz.func61 (by kernel_rfl) rfl #[.int .u8 a0] rfl au50 ?_; (with_reducible refine (spec_l2Upper.calls a0 false _ A2.out).mono ?_); rintro e w' ⟨rfl, ⟨nd, rfl⟩⟩; refine ⟨_, rfl, ?_⟩) | (go_at_call 44; (with_reducible refine (spec_l2Lower.calls a0 G3 _ A4.out).mono ?_); rintro e w' ⟨rfl, ⟨nd, rfl⟩⟩));go_ret;exact ax0
mutual
def spec_l2Word.j0 : Nat → ByteArray → Bool → Option (Bool)
 | 0, _, _ => none
 | k + 1, x0, WV => if WV = true then (some false) else (spec_l2Word.l0 k x0 1)
def spec_l2Word.l0 : Nat → ByteArray → Int → Option (Bool)
 | 0, _, _ => none
 | k + 1, x0, x3 => if x3 < (x0.size : Int) then (if 0 ≤ x3 then ((spec_l2Letter.f (bt x0 x3)).bind fun OL => (if OL = true then (spec_l2Word.l0 k x0 (wrap64 (x3 + 1))) else (if (bt x0 x3) = 45 then (if 0 ≤ (wrap64 (x3 - 1)) then (if (wrap64 (x3 - 1)) < (x0.size : Int) then ((spec_l2Letter.f (bt x0 (wrap64 (x3 - 1)))).bind fun G4 => (if G4 = true then (spec_l2Word.l0 k x0 (wrap64 (x3 + 1))) else (some false))) else (none)) else (none)) else (if (bt x0 x3) = 39 then (if 0 ≤ (wrap64 (x3 - 1)) then (if (wrap64 (x3 - 1)) < (x0.size : Int) then ((spec_l2Letter.f (bt x0 (wrap64 (x3 - 1)))).bind fun t119 => (if t119 = true then (spec_l2Word.l0 k x0 (wrap64 (x3 + 1))) else (some false))) else (none)) else (none)) else (some false))))) else (none)) else (some true)
end
def spec_l2Word.f (k : Nat) (a0 : ByteArray) : Option (Bool) := (spec_l1In.f (a0.size : Int) 1 12).bind fun G5 => (if G5 = true then (if 0 < (a0.size : Int) then ((spec_l2Letter.f (bt a0 0)).bind fun G6 => (if G6 = true then (if 0 ≤ (wrap64 ((a0.size : Int) - 1)) then (if (wrap64 ((a0.size : Int) - 1)) < (a0.size : Int) then ((spec_l2Letter.f (bt a0 (wrap64 ((a0.size : Int) - 1)))).bind fun uF => (spec_l2Word.j0 k a0 (!uF))) else (none)) else (none)) else (spec_l2Word.j0 k a0 true))) else (none)) else (spec_l2Word.j0 k a0 true))
theorem spec_l2Word.mono_l : ∀ k, (∀ y0 y1, LeO (spec_l2Word.j0 k y0 y1) (spec_l2Word.j0 (k + 1) y0 y1)) ∧ (∀ y0 y1, LeO (spec_l2Word.l0 k y0 y1) (spec_l2Word.l0 (k + 1) y0 y1))
 | 0 => ⟨fun _ _ r h => by simp [spec_l2Word.j0] at h, fun _ _ r h => by simp [spec_l2Word.l0] at h⟩
 | k + 1 => by
  obtain ⟨ih0, ih1⟩ := spec_l2Word.mono_l k;refine ⟨?_, ?_⟩
  ·
   intro y0 y1;unfold spec_l2Word.j0
   repeat' first
   | (with_reducible exact ih0 _ _)
   | (with_reducible exact ih1 _ _)
   | (with_reducible exact LeO.refl _)
   | (with_reducible exact LeO.none _)
   | (with_reducible refine LeO.ite ?_ ?_)
   | (with_reducible refine LeO.bind ?_ (fun _ => ?_))
   | exact ih0 _ _
   | exact ih1 _ _
   | exact LeO.none _
   | refine LeO.ite ?_ ?_
   | refine LeO.bind ?_ (fun _ => ?_)
  ·
   intro y0 y1;unfold spec_l2Word.l0
   repeat' first
   | (with_reducible exact ih0 _ _)
   | (with_reducible exact ih1 _ _)
   | (with_reducible exact LeO.refl _)
   | (with_reducible exact LeO.none _)
   | (with_reducible refine LeO.ite ?_ ?_)
   | (with_reducible refine LeO.bind ?_ (fun _ => ?_))
   | exact ih0 _ _
   | exact ih1 _ _
   | exact LeO.none _
   | refine LeO.ite ?_ ?_
   | refine LeO.bind ?_ (fun _ => ?_)
theorem spec_l2Word.mono : ∀ a0 k, LeO (spec_l2Word.f k a0) (spec_l2Word.f (k + 1) a0) := by
 intro a0 k;obtain ⟨ih0, ih1⟩ := spec_l2Word.mono_l k;unfold spec_l2Word.f
 repeat' first
   | (with_reducible exact ih0 _ _)
   | (with_reducible exact ih1 _ _)
   | (with_reducible exact LeO.refl _)
   | (with_reducible exact LeO.none _)
   | (with_reducible refine LeO.ite ?_ ?_)
   | (with_reducible refine LeO.bind ?_ (fun _ => ?_))
   | exact ih0 _ _
   | exact ih1 _ _
   | exact LeO.none _
   | refine LeO.ite ?_ ?_
   | refine LeO.bind ?_ (fun _ => ?_)
set_option maxRecDepth 100000 in
theorem spec_l2Word.L0 {P : Prop} (h : P := by
  go_wp2_with (first | ((with_reducible refine gate_callee (f := 76) rfl ?_); refine goesL_ (some 32) rfl rfl Tryz.func76 (by kernel_rfl) rfl #[.int .u8 (bt a0 aD)] rfl au50 ?_; (with_reducible refine (spec_l2Letter.calls (bt a0 aD) _ _ kQ.out).mono ?_); rintro e w' ⟨rfl, ⟨nd, rfl⟩⟩; refine ⟨_, rfl, ?_⟩; have eJ : 0 ≤ (aD : Int) := od au106; have eE : aD < (a0.size : Int) := od au106; have oZ := bt_at a0 aD; replace eJ := eq_true eJ; replace eE := eq_true eE; have p28 : 0 ≤ (aD : Int) := od au106; have mK : aD < (a0.size : Int) := od au106; have G7 := bt_at a0 aD; replace p28 := eq_true p28; replace mK := eq_true mK; have p33 : 0 ≤ ((e5) : Int) := od au106; have uG : (e5) < (a0.size : Int) := od au106; have OM := bt_at a0 (e5); replace p33 := eq_true p33; replace uG := eq_true uG) | (go_at_call 76; (with_reducible refine (spec_l2Letter.calls (bt a0 (e5)) _ _ NV.out).mono ?_); rintro e w' ⟨rfl, ⟨nd, rfl⟩⟩));go_ret
  first | (exact ⟨by first | rfl | (simp; done) | (simp only [← kR] <;> (first | rfl | simp)) | (simp [*]; done), by repeat (first | exact Drawn0.refl _ | apply Drawn0.step)⟩) | (exact ax0)) : P := h
set_option maxHeartbeats 8000000 in
set_option maxRecDepth 100000 in
theorem spec_l2Word.calls (k : Nat) (a0 : ByteArray) (r : Bool) (w : World) (h : spec_l2Word.f k a0 = some r) :
  Calls Tryz.prog 60 #[.string a0] w fun e w' => e = .returned (.bool r) ∧ Drawn0 w w' := by
 have H : ((spec_l1In.f (a0.size : Int) 1 12).bind fun G5 => (if G5 = true then (if 0 < (a0.size : Int) then ((spec_l2Letter.f (bt a0 0)).bind fun G6 => (if G6 = true then (if 0 ≤ (wrap64 ((a0.size : Int) - 1)) then (if (wrap64 ((a0.size : Int) - 1)) < (a0.size : Int) then ((spec_l2Letter.f (bt a0 (wrap64 ((a0.size : Int) - 1)))).bind fun uF => (spec_l2Word.j0 k a0 (!uF))) else (none)) else (none)) else (spec_l2Word.j0 k a0 true))) else (none)) else (spec_l2Word.j0 k a0 true))) = some r := h;clear h;have eV := am H;clear H;go_enter Tryz.func60, Tryz.ntmps60
 go_upto_region 1 with (fail)
 go_cut [22] (fun v22 wc => ∃ (kq : Nat) (ng : Bool), v22 = .bool ng ∧ Aside0 (spec_l2Word.j0 kq a0 ng = some r) ∧ Aside0 (kq ≤ k) ∧ Drawn0 w wc)
 case first =>
  have H := eV.out;clear eV;replace H := ob H;obtain ⟨G5, d6, H⟩ := H
  try dsimp only at H
  have A3 := am d6;clear d6;by_cases c4 : G5 = true
  ·
   subst c4;replace H := (if_pos rfl).symm.trans H;by_cases c5 : 0 < (a0.size : Int)
   ·
    rw [if_pos c5] at H;have c5b0 := dt c5;have c5b1 : decide (0 < a0.size) = true := dt (by omega);clear c5
    (first | rw [c5b0] | (simp only [i64_w, i32_w]; rw [c5b0]) | skip)
    replace H := ob H;obtain ⟨G6, fK, H⟩ := H
    try dsimp only at H
    have A7 := am fK;clear fK;by_cases c8 : G6 = true
    ·
     subst c8;replace H := (if_pos rfl).symm.trans H
     obtain ⟨xE, G8⟩ : ∃ j_ : Int, (wrap64 ((a0.size : Int) - 1)) = j_ := ⟨_, rfl⟩
     replace H : (if 0 ≤ (xE) then (if (xE) < (a0.size : Int) then ((spec_l2Letter.f (bt a0 (xE))).bind fun uF => (spec_l2Word.j0 k a0 (!uF))) else (none)) else (none)) = some r := by first | (rw [G8] at H; exact H) | (simp only [G8] at H ⊢; exact H)
     (try rw [G8] at A3)
     (try rw [G8] at A7)
     have hji9w : (IntKind.i64.wrap ((a0.size : Int) - 1)) = xE := (i64_w _).trans G8;by_cases c10 : 0 ≤ (xE)
     ·
      rw [if_pos c10] at H;have c10b0 := dt c10;clear c10;by_cases bH : (xE) < (a0.size : Int)
      ·
       rw [if_pos bH] at H;have c11b0 := dt bH;clear bH;replace H := ob H;obtain ⟨uF, kS, H⟩ := H
       try dsimp only at H
       have uH := am kS;clear kS;have H' := am H;clear H;go_wp2_with (first | ((with_reducible refine gate_callee (f := 27) rfl ?_); refine goesL_ (some 6) rfl rfl Tryz.func27 (by kernel_rfl) rfl #[.int .i64 (a0.size : Int), .int .i64 1, .int .i64 12] rfl au50 ?_; (with_reducible refine (spec_l1In.calls (a0.size : Int) 1 12 _ _ A3.out).mono ?_); rintro e w' ⟨rfl, ⟨nd, rfl⟩⟩; refine ⟨_, rfl, ?_⟩; have p6 : 0 ≤ (0 : Int) := (by omega); have q6 : 0 < a0.size := (by have : (0 : Int) < (a0.size : Int) := od au106; omega); have uD : ∀ h : 0 < a0.size, ((a0[0]'h).toNat : Int) = bt a0 0 := bt_at a0 0; clear p6; have Ao : (0 < (a0.size : Int)) = True := eq_true (od au106); replace q6 := eq_true q6) | (go_at_call 76; (with_reducible refine (spec_l2Letter.calls (bt a0 0) _ _ A7.out).mono ?_); rintro e w' ⟨rfl, ⟨nd, rfl⟩⟩; have qa : 0 ≤ ((xE) : Int) := od au106; have nf : (xE) < (a0.size : Int) := od au106; have Bv := bt_at a0 (xE); replace qa := eq_true qa; replace nf := eq_true nf) | (go_at_call 76; (with_reducible refine (spec_l2Letter.calls (bt a0 (xE)) uF _ uH.out).mono ?_); rintro e w' ⟨rfl, ⟨nd, rfl⟩⟩));go_meet
       case rel => exact ⟨_, (!uF), au107, H', ⟨by first | omega | exact Nat.le_refl _⟩, by repeat (first | exact Drawn0.refl _ | apply Drawn0.step)⟩
      · rw [if_neg bH] at H;exact absurd H (by simp)
     · rw [if_neg c10] at H;exact absurd H (by simp)
    ·
     replace c8 := Bool.eq_false_iff.mpr c8;subst c8;replace H := (if_neg (show ¬ (false = true) by decide)).symm.trans H;have H' := am H;clear H;go_wp2_with (first | ((with_reducible refine gate_callee (f := 27) rfl ?_); refine goesL_ (some 6) rfl rfl Tryz.func27 (by kernel_rfl) rfl #[.int .i64 (a0.size : Int), .int .i64 1, .int .i64 12] rfl au50 ?_; (with_reducible refine (spec_l1In.calls (a0.size : Int) 1 12 _ _ A3.out).mono ?_); rintro e w' ⟨rfl, ⟨nd, rfl⟩⟩; refine ⟨_, rfl, ?_⟩; have p6 : 0 ≤ (0 : Int) := (by omega); have q6 : 0 < a0.size := (by have : (0 : Int) < (a0.size : Int) := od au106; omega); have uD : ∀ h : 0 < a0.size, ((a0[0]'h).toNat : Int) = bt a0 0 := bt_at a0 0; clear p6; have Ao : (0 < (a0.size : Int)) = True := eq_true (od au106); replace q6 := eq_true q6) | (go_at_call 76; (with_reducible refine (spec_l2Letter.calls (bt a0 0) _ _ A7.out).mono ?_); rintro e w' ⟨rfl, ⟨nd, rfl⟩⟩));go_meet
     case rel => exact ⟨_, (true), au107, H', ⟨by first | omega | exact Nat.le_refl _⟩, by repeat (first | exact Drawn0.refl _ | apply Drawn0.step)⟩
   · rw [if_neg c5] at H;exact absurd H (by simp)
  ·
   replace c4 := Bool.eq_false_iff.mpr c4;subst c4;replace H := (if_neg (show ¬ (false = true) by decide)).symm.trans H;have H' := am H;clear H;go_wp2_with (first | ((with_reducible refine gate_callee (f := 27) rfl ?_); refine goesL_ (some 6) rfl rfl Tryz.func27 (by kernel_rfl) rfl #[.int .i64 (a0.size : Int), .int .i64 1, .int .i64 12] rfl au50 ?_; (with_reducible refine (spec_l1In.calls (a0.size : Int) 1 12 _ _ A3.out).mono ?_); rintro e w' ⟨rfl, ⟨nd, rfl⟩⟩; refine ⟨_, rfl, ?_⟩));go_meet
   case rel => exact ⟨_, (true), au107, H', ⟨by first | omega | exact Nat.le_refl _⟩, by repeat (first | exact Drawn0.refl _ | apply Drawn0.step)⟩
 case rest =>
  clear eV
  try clear c1
  try clear p1
  try clear q1
  try clear Rw
  try clear c2
  try clear p2
  try clear c4
  try clear c5
  try clear c5b0
  try clear c5b1
  try clear c6
  try clear p6
  try clear q6
  try clear uD
  try clear Ao
  try clear c8
  try clear c10
  try clear c10b0
  try clear bH
  try clear c11b0
  try clear qa
  try clear nf
  try clear Bv
  try clear qa
  try clear p6
  try clear nf
  try clear q6
  obtain ⟨kq, ng, rfl, HA, eW, ⟨mc1, rfl⟩⟩ := hcut
  cases kq with
  | zero => exact absurd HA.out (by simp [spec_l2Word.j0])
  | succ dT =>
   have H := HA.out;clear HA;simp only [spec_l2Word.j0] at H;by_cases cO : ng = true
   · subst cO;replace H := (if_pos rfl).symm.trans H;obtain rfl := ojz H;exact spec_l2Word.L0
   ·
    replace cO := Bool.eq_false_iff.mpr cO;subst cO;replace H := (if_neg (show ¬ (false = true) by decide)).symm.trans H;have H' := am H;clear H;go_wp2
    go_loopg [3] dT (fun kq v3 w' => ∃ (aD : Int), v3 = .int .i64 aD ∧ Aside0 (spec_l2Word.l0 kq a0 aD = some r) ∧ Aside0 (kq ≤ dT) ∧ Drawn0 w w')
    case atStart => exact ⟨(1), au107, H', ⟨Nat.le_refl _⟩, by repeat (first | exact Drawn0.refl _ | apply Drawn0.step)⟩
    case round =>
     clear H'
     try clear c1
     try clear p1
     try clear q1
     try clear Rw
     try clear c2
     try clear p2
     try clear c4
     try clear c5
     try clear c5b0
     try clear c5b1
     try clear c6
     try clear p6
     try clear q6
     try clear uD
     try clear Ao
     try clear c8
     try clear c10
     try clear c10b0
     try clear bH
     try clear c11b0
     try clear qa
     try clear nf
     try clear Bv
     try clear cO
     try clear p1
     try clear qa
     try clear p2
     try clear p6
     try clear q1
     try clear nf
     try clear q6
     obtain ⟨aD, rfl, HA, HK2, ⟨m2, rfl⟩⟩ := hrel
     cases gk with
     | zero => exact absurd HA.out (by simp [spec_l2Word.l0])
     | succ k2 =>
      have H := HA.out;clear HA;simp only [spec_l2Word.l0] at H;by_cases bV : aD < (a0.size : Int)
      ·
       rw [if_pos bV] at H;have c15b0 := dt bV;clear bV;by_cases cb : 0 ≤ aD
       ·
        rw [if_pos cb] at H;have c16b0 := dt cb;clear cb;replace H := ob H;obtain ⟨OL, uI, H⟩ := H
        try dsimp only at H
        have kQ := am uI;clear uI;by_cases dp : OL = true
        ·
         subst dp;replace H := (if_pos rfl).symm.trans H;have H' := am H;clear H;have ep : 0 ≤ (aD : Int) := od au106;have eq : aD < (a0.size : Int) := od au106;have pa := bt_at a0 aD;replace ep := eq_true ep;replace eq := eq_true eq;go_wp2_with (first | ((with_reducible refine gate_callee (f := 76) rfl ?_); refine goesL_ (some 32) rfl rfl Tryz.func76 (by kernel_rfl) rfl #[.int .u8 (bt a0 aD)] rfl au50 ?_; (with_reducible refine (spec_l2Letter.calls (bt a0 aD) _ _ kQ.out).mono ?_); rintro e w' ⟨rfl, ⟨nd, rfl⟩⟩; refine ⟨_, rfl, ?_⟩))
         go_roundg k2
         case measure => have := eW.out; have := HK2.out; omega
         case rel => exact ⟨(wrap64 (aD + 1)), au107, H', ⟨by have := eW.out; have := HK2.out; omega⟩, by repeat (first | exact Drawn0.refl _ | apply Drawn0.step)⟩
        ·
         replace dp := Bool.eq_false_iff.mpr dp;subst dp;replace H := (if_neg (show ¬ (false = true) by decide)).symm.trans H;by_cases ew : (bt a0 aD) = 45
         ·
          rw [if_pos ew] at H;have c21b0 := qt ew;have c21b1 := bf ew;clear ew
          obtain ⟨e6, mF⟩ : ∃ j_ : Int, (wrap64 (aD - 1)) = j_ := ⟨_, rfl⟩
          replace H : (if 0 ≤ (e6) then (if (e6) < (a0.size : Int) then ((spec_l2Letter.f (bt a0 (e6))).bind fun G4 => (if G4 = true then (spec_l2Word.l0 k2 a0 (wrap64 (aD + 1))) else (some false))) else (none)) else (none)) = some r := by first | (rw [mF] at H; exact H) | (simp only [mF] at H ⊢; exact H)
          (try rw [mF] at kQ)
          have hji22w : (IntKind.i64.wrap (aD - 1)) = e6 := (i64_w _).trans mF;by_cases fc : 0 ≤ (e6)
          ·
           rw [if_pos fc] at H;have c23b0 := dt fc;clear fc;by_cases i6 : (e6) < (a0.size : Int)
           ·
            rw [if_pos i6] at H;have c24b0 := dt i6;clear i6;replace H := ob H;obtain ⟨G4, G9, H⟩ := H
            try dsimp only at H
            have NW := am G9;clear G9;by_cases ib : G4 = true
            ·
             subst ib;replace H := (if_pos rfl).symm.trans H;have H' := am H;clear H;have ep : 0 ≤ (aD : Int) := od au106;have eq : aD < (a0.size : Int) := od au106;have pa := bt_at a0 aD;replace ep := eq_true ep;replace eq := eq_true eq;go_wp2_with (first | ((with_reducible refine gate_callee (f := 76) rfl ?_); refine goesL_ (some 32) rfl rfl Tryz.func76 (by kernel_rfl) rfl #[.int .u8 (bt a0 aD)] rfl au50 ?_; (with_reducible refine (spec_l2Letter.calls (bt a0 aD) _ _ kQ.out).mono ?_); rintro e w' ⟨rfl, ⟨nd, rfl⟩⟩; refine ⟨_, rfl, ?_⟩; have eJ : 0 ≤ (aD : Int) := od au106; have eE : aD < (a0.size : Int) := od au106; have oZ := bt_at a0 aD; replace eJ := eq_true eJ; replace eE := eq_true eE; have p25 : 0 ≤ ((e6) : Int) := od au106; have uJ : (e6) < (a0.size : Int) := od au106; have ON := bt_at a0 (e6); replace p25 := eq_true p25; replace uJ := eq_true uJ) | (go_at_call 76; (with_reducible refine (spec_l2Letter.calls (bt a0 (e6)) _ _ NW.out).mono ?_); rintro e w' ⟨rfl, ⟨nd, rfl⟩⟩))
             go_roundg k2
             case measure => have := eW.out; have := HK2.out; omega
             case rel => exact ⟨(wrap64 (aD + 1)), au107, H', ⟨by have := eW.out; have := HK2.out; omega⟩, by repeat (first | exact Drawn0.refl _ | apply Drawn0.step)⟩
            · replace ib := Bool.eq_false_iff.mpr ib;subst ib;replace H := (if_neg (show ¬ (false = true) by decide)).symm.trans H;obtain rfl := ojz H;have ep : 0 ≤ (aD : Int) := od au106;have eq : aD < (a0.size : Int) := od au106;have pa := bt_at a0 aD;replace ep := eq_true ep;replace eq := eq_true eq;go_wp2_with (first | ((with_reducible refine gate_callee (f := 76) rfl ?_); refine goesL_ (some 32) rfl rfl Tryz.func76 (by kernel_rfl) rfl #[.int .u8 (bt a0 aD)] rfl au50 ?_; (with_reducible refine (spec_l2Letter.calls (bt a0 aD) _ _ kQ.out).mono ?_); rintro e w' ⟨rfl, ⟨nd, rfl⟩⟩; refine ⟨_, rfl, ?_⟩; have eJ : 0 ≤ (aD : Int) := od au106; have eE : aD < (a0.size : Int) := od au106; have oZ := bt_at a0 aD; replace eJ := eq_true eJ; replace eE := eq_true eE; have p25 : 0 ≤ ((e6) : Int) := od au106; have uJ : (e6) < (a0.size : Int) := od au106; have ON := bt_at a0 (e6); replace p25 := eq_true p25; replace uJ := eq_true uJ) | (go_at_call 76; (with_reducible refine (spec_l2Letter.calls (bt a0 (e6)) _ _ NW.out).mono ?_); rintro e w' ⟨rfl, ⟨nd, rfl⟩⟩));go_ret;exact ax3
           · rw [if_neg i6] at H;exact absurd H (by simp)
          · rw [if_neg fc] at H;exact absurd H (by simp)
         ·
          rw [if_neg ew] at H;have c21b0 := qf ew;have c21b1 := bu ew;by_cases fL : (bt a0 aD) = 39
          ·
           rw [if_pos fL] at H;have c29b0 := qt fL;have c29b1 := bf fL;clear fL
           obtain ⟨e5, kR⟩ : ∃ j_ : Int, (wrap64 (aD - 1)) = j_ := ⟨_, rfl⟩
           replace H : (if 0 ≤ (e5) then (if (e5) < (a0.size : Int) then ((spec_l2Letter.f (bt a0 (e5))).bind fun t119 => (if t119 = true then (spec_l2Word.l0 k2 a0 (wrap64 (aD + 1))) else (some false))) else (none)) else (none)) = some r := by first | (rw [kR] at H; exact H) | (simp only [kR] at H ⊢; exact H)
           (try rw [kR] at kQ)
           have hji30w : (IntKind.i64.wrap (aD - 1)) = e5 := (i64_w _).trans kR;by_cases ic : 0 ≤ (e5)
           ·
            rw [if_pos ic] at H;have c31b0 := dt ic;clear ic;by_cases eI : (e5) < (a0.size : Int)
            ·
             rw [if_pos eI] at H;have c32b0 := dt eI;clear eI;replace H := ob H;obtain ⟨t119, Ga, H⟩ := H
             try dsimp only at H
             have NV := am Ga;clear Ga;by_cases xF : t119 = true
             ·
              subst xF;replace H := (if_pos rfl).symm.trans H;have H' := am H;clear H;have ep : 0 ≤ (aD : Int) := od au106;have eq : aD < (a0.size : Int) := od au106;have pa := bt_at a0 aD;replace ep := eq_true ep;replace eq := eq_true eq;go_wp2_with (first | ((with_reducible refine gate_callee (f := 76) rfl ?_); refine goesL_ (some 32) rfl rfl Tryz.func76 (by kernel_rfl) rfl #[.int .u8 (bt a0 aD)] rfl au50 ?_; (with_reducible refine (spec_l2Letter.calls (bt a0 aD) _ _ kQ.out).mono ?_); rintro e w' ⟨rfl, ⟨nd, rfl⟩⟩; refine ⟨_, rfl, ?_⟩; have eJ : 0 ≤ (aD : Int) := od au106; have eE : aD < (a0.size : Int) := od au106; have oZ := bt_at a0 aD; replace eJ := eq_true eJ; replace eE := eq_true eE; have p28 : 0 ≤ (aD : Int) := od au106; have mK : aD < (a0.size : Int) := od au106; have G7 := bt_at a0 aD; replace p28 := eq_true p28; replace mK := eq_true mK; have p33 : 0 ≤ ((e5) : Int) := od au106; have uG : (e5) < (a0.size : Int) := od au106; have OM := bt_at a0 (e5); replace p33 := eq_true p33; replace uG := eq_true uG) | (go_at_call 76; (with_reducible refine (spec_l2Letter.calls (bt a0 (e5)) _ _ NV.out).mono ?_); rintro e w' ⟨rfl, ⟨nd, rfl⟩⟩))
              go_roundg k2
              case measure => have := eW.out; have := HK2.out; omega
              case rel => exact ⟨(wrap64 (aD + 1)), au107, H', ⟨by have := eW.out; have := HK2.out; omega⟩, by repeat (first | exact Drawn0.refl _ | apply Drawn0.step)⟩
             · replace xF := Bool.eq_false_iff.mpr xF;subst xF;replace H := (if_neg (show ¬ (false = true) by decide)).symm.trans H;obtain rfl := ojz H;have ep : 0 ≤ (aD : Int) := od au106;have eq : aD < (a0.size : Int) := od au106;have pa := bt_at a0 aD;replace ep := eq_true ep;replace eq := eq_true eq;exact spec_l2Word.L0
            · rw [if_neg eI] at H;exact absurd H (by simp)
           · rw [if_neg ic] at H;exact absurd H (by simp)
          · rw [if_neg fL] at H;have c29b0 := qf fL;have c29b1 := bu fL;obtain rfl := ojz H;have ep : 0 ≤ (aD : Int) := od au106;have eq : aD < (a0.size : Int) := od au106;have pa := bt_at a0 aD;replace ep := eq_true ep;replace eq := eq_true eq;go_wp2_with (first | ((with_reducible refine gate_callee (f := 76) rfl ?_); refine goesL_ (some 32) rfl rfl Tryz.func76 (by kernel_rfl) rfl #[.int .u8 (bt a0 aD)] rfl au50 ?_; (with_reducible refine (spec_l2Letter.calls (bt a0 aD) _ _ kQ.out).mono ?_); rintro e w' ⟨rfl, ⟨nd, rfl⟩⟩; refine ⟨_, rfl, ?_⟩; have eJ : 0 ≤ (aD : Int) := od au106; have eE : aD < (a0.size : Int) := od au106; have oZ := bt_at a0 aD; replace eJ := eq_true eJ; replace eE := eq_true eE; have p28 : 0 ≤ (aD : Int) := od au106; have mK : aD < (a0.size : Int) := od au106; have G7 := bt_at a0 aD; replace p28 := eq_true p28; replace mK := eq_true mK));go_ret;exact ax0
       · rw [if_neg cb] at H;exact absurd H (by simp)
      · rw [if_neg bV] at H;have c15b0 := df bV;clear bV;obtain rfl := ojz H;exact spec_l2Word.L0
def spec_l1Split.l0 : Nat → ByteArray → Int → List ByteArray → Int → Int → Option (List ByteArray)
 | 0, _, _, _, _, _ => none
 | k + 1, x0, x1, x5, x6, x7 => if x7 < (x0.size : Int) then (if 0 ≤ x7 then (if (bt x0 x7) = x1 then (if 0 ≤ x6 then (if x6 ≤ x7 then (if x7 ≤ (x0.size : Int) then (if x5.length < 8796093022208 then (spec_l1Split.l0 k x0 x1 (x5 ++ [x0.extract (x6 : Int).toNat (x7 : Int).toNat]) (wrap64 (x7 + 1)) (wrap64 (x7 + 1))) else (none)) else (none)) else (none)) else (none)) else (spec_l1Split.l0 k x0 x1 x5 x6 (wrap64 (x7 + 1)))) else (none)) else (if 0 ≤ x6 then (if x6 ≤ (x0.size : Int) then (if x5.length < 8796093022208 then (some (x5 ++ [x0.extract (x6 : Int).toNat x0.size])) else (none)) else (none)) else (none))
def spec_l1Split.f (k : Nat) (a0 : ByteArray) (a1 : Int) : Option (List ByteArray) := spec_l1Split.l0 k a0 a1 (([] : List ByteArray)) 0 0
theorem spec_l1Split.mono_l : ∀ k, (∀ y0 y1 y2 y3 y4, LeO (spec_l1Split.l0 k y0 y1 y2 y3 y4) (spec_l1Split.l0 (k + 1) y0 y1 y2 y3 y4))
 | 0 => fun _ _ _ _ _ r h => by simp [spec_l1Split.l0] at h
 | k + 1 => by
  have ih0 := spec_l1Split.mono_l k
  ·
   intro y0 y1 y2 y3 y4;unfold spec_l1Split.l0
   repeat' first
   | (with_reducible exact ih0 _ _ _ _ _)
   | (with_reducible exact LeO.refl _)
   | (with_reducible exact LeO.none _)
   | (with_reducible refine LeO.ite ?_ ?_)
   | (with_reducible refine LeO.bind ?_ (fun _ => ?_))
   | exact ih0 _ _ _ _ _
   | exact LeO.none _
   | refine LeO.ite ?_ ?_
   | refine LeO.bind ?_ (fun _ => ?_)
theorem spec_l1Split.mono : ∀ a0 a1 k, LeO (spec_l1Split.f k a0 a1) (spec_l1Split.f (k + 1) a0 a1) := by
 intro a0 a1 k;have ih0 := spec_l1Split.mono_l k;unfold spec_l1Split.f
 repeat' first
   | (with_reducible exact ih0 _ _ _ _ _)
   | (with_reducible exact LeO.refl _)
   | (with_reducible exact LeO.none _)
   | (with_reducible refine LeO.ite ?_ ?_)
   | (with_reducible refine LeO.bind ?_ (fun _ => ?_))
   | exact ih0 _ _ _ _ _
   | exact LeO.none _
   | refine LeO.ite ?_ ?_
   | refine LeO.bind ?_ (fun _ => ?_)
set_option maxRecDepth 100000 in
theorem spec_l1Split.L0 {P : Prop} (h : P := by
  go_wp2_with (first | ((with_reducible refine gate_builtin (b := .append) (xs := #[.tmp 20, .tmp 25]) rfl ?_); at_builtin; refine Kd.R_append Kd.string (w0 := w) w.heap.size rfl (.tmp 20) (.tmp 25) 28 9 (.string ⟨#[]⟩) 16 rfl Tryz.underlying28 info9 rfl (by decide) (by omega) u5 az (a0.extract (kT : Int).toNat (fg : Int).toNat) [.string (a0.extract (kT : Int).toNat (fg : Int).toNat)] (fun _ => True) (fun _ => False) rfl rfl ?aP (fun _ hk => hk.elim) ?aF ?aO ?aB ?aS ?aL ?_; (case aP => exact rfl); (case aB => exact au51); (case aF => exact (fun _ _ => trivial)); (case aO => exact au101); (case aS => exact (below_size au51)); (case aL => have := ZT.out; omega); intro anJ uC ho hb hg hat; rw [← ZU.out] at ho; have cZ := am (hb); have d0 := am (ho); clear HB; clear dH; have HB := cZ; have ZV := d0; clear cZ d0; clear ho hb hg hat))
  go_roundg k1
  case measure => have := HK1.out; omega
  case rel => first | (exact ⟨(WW), (wrap64 (fg + 1)), (wrap64 (fg + 1)), au107, au107, H', ⟨by have := HK1.out; omega⟩, ⟨by (with_reducible repeat (first | apply Kd.R_alloc | apply Kd.R_drewN | apply Kd.R_drew)); exact ZV.out⟩, ⟨by repeat (first | (with_reducible first | exact HB.out | apply below_alloc | apply pw_below_drewN | apply below_drew1) | exact HB.out)⟩⟩) | (exact ⟨(az), (kT), (wrap64 (fg + 1)), au107, au107, H', ⟨by have := HK1.out; omega⟩, ⟨by (with_reducible repeat (first | apply Kd.R_alloc | apply Kd.R_drewN | apply Kd.R_drew)); exact dH.out⟩, ⟨by repeat (first | (with_reducible first | exact HB.out | apply below_alloc | apply pw_below_drewN | apply below_drew1) | exact HB.out)⟩⟩)) : P := h
set_option maxHeartbeats 8000000 in
set_option maxRecDepth 100000 in
theorem spec_l1Split.calls (k : Nat) (a0 : ByteArray) (a1 : Int) (r : List ByteArray) (w : World) (h : spec_l1Split.f k a0 a1 = some r) :
  Calls Tryz.prog 77 #[.string a0, .int .u8 a1] w fun e w' => ∃ gA : Value, e = .returned (gA) ∧ Kd.R Kd.string 9 w' w.heap.size (fun _ => True) gA r ∧ Below w.heap.size w w' := by
 have HB := am (Below.refl w.heap.size w);have H : (spec_l1Split.l0 k a0 a1 (([] : List ByteArray)) 0 0) = some r := h;clear h
 obtain ⟨WX, Ap⟩ : ∃ y_ : List ByteArray, y_ = (([] : List ByteArray)) := ⟨_, rfl⟩
 replace H : (spec_l1Split.l0 k a0 a1 WX 0 0) = some r := by first | (rw [Ap]; with_reducible exact H) | (have H2_ := (Option.bind_some _ _).symm.trans H; rw [Ap]; with_reducible exact H2_) | (have H2_ := (Option.bind_some _ _).symm.trans H; with_reducible exact H2_) | with_reducible exact H | (rw [Ap]; exact H) | exact H
 have Rx := am Ap;clear Ap;have H' := am H;clear H;go_enter Tryz.func77, Tryz.ntmps77;go_wp2_with (first | ((with_reducible refine gate_dst (N := 8) rfl ?_); refine Kd.R_lit Kd.string _ 9 ?hg (N := 8) ?hd (xs := ([] : List ByteArray)) (inner := []) (ok := fun _ => True) (okp := fun _ => True) ?hr ?hp (fun _ hk => hk) trivial (Below.refl _ _) (Nat.le_refl _) (by simp) ?_; (case hd => rfl); (case hg => rfl); (case hr => first | (go_simp; done) | (go_simp; rfl)); (case hp => exact (Reps.none _ _)); intro anK w3 ho4 hb hg_ hnew_; clear hg_ hnew_; (first | rw [← Rx.out] at ho4 | (simp only [Int.reduceToNat] at ho4; rw [← Rx.out] at ho4)); have ZW := am (Kd.R_lower ho4 (below_size au51)); replace HB := am (below_step au51 hb); clear hb ho4))
 go_loopg [5, 6, 7] k (fun kq v5 v6 v7 w' => ∃ (az : List ByteArray) (kT : Int) (fg : Int), v6 = .int .i64 kT ∧ v7 = .int .i64 fg ∧ Aside0 (spec_l1Split.l0 kq a0 a1 az kT fg = some r) ∧ Aside0 (kq ≤ k) ∧ Aside0 (Kd.R Kd.string 9 w' w.heap.size (fun _ => True) v5 az) ∧ Aside0 (Below w.heap.size w w'))
 case atStart => exact ⟨(WX), (0), (0), au107, au107, H', ⟨Nat.le_refl _⟩, ⟨by (with_reducible repeat (first | apply Kd.R_alloc | apply Kd.R_drewN | apply Kd.R_drew)); exact ZW.out⟩, ⟨by repeat (first | (with_reducible first | exact HB.out | apply below_alloc | apply pw_below_drewN | apply below_drew1) | exact HB.out)⟩⟩
 case round =>
  clear H'
  try clear p2
  obtain ⟨az, kT, fg, rfl, rfl, HA, HK1, dH, HB⟩ := hrel
  cases gk with
  | zero => exact absurd HA.out (by simp [spec_l1Split.l0])
  | succ k1 =>
   have H := HA.out;clear HA;simp only [spec_l1Split.l0] at H;by_cases c5 : fg < (a0.size : Int)
   ·
    rw [if_pos c5] at H;have c5b0 := dt c5;clear c5;by_cases c6 : 0 ≤ fg
    ·
     rw [if_pos c6] at H;have c6b0 := dt c6;clear c6;by_cases c8 : (bt a0 fg) = a1
     ·
      rw [if_pos c8] at H;have c8b0 := qt c8;have c8b1 := bf c8;clear c8;by_cases c9 : 0 ≤ kT
      ·
       rw [if_pos c9] at H;have c9b0 := eq_true c9;have c9b1 := dt c9;clear c9;by_cases c10 : kT ≤ fg
       ·
        rw [if_pos c10] at H;have c10b0 := eq_true c10;have c10b1 := dt c10;clear c10;by_cases bH : fg ≤ (a0.size : Int)
        ·
         rw [if_pos bH] at H;have c11b0 := eq_true bH;have c11b1 := dt bH;clear bH;by_cases cu : az.length < 8796093022208
         ·
          rw [if_pos cu] at H;have ZT := am cu;clear cu
          obtain ⟨WW, Aq⟩ : ∃ y_ : List ByteArray, y_ = (az ++ [a0.extract (kT : Int).toNat (fg : Int).toNat]) := ⟨_, rfl⟩
          replace H : (spec_l1Split.l0 k1 a0 a1 WW (wrap64 (fg + 1)) (wrap64 (fg + 1))) = some r := by first | (rw [Aq]; with_reducible exact H) | (have H2_ := (Option.bind_some _ _).symm.trans H; rw [Aq]; with_reducible exact H2_) | (have H2_ := (Option.bind_some _ _).symm.trans H; with_reducible exact H2_) | with_reducible exact H | (rw [Aq]; exact H) | exact H
          have ZU := am Aq;clear Aq;have H' := am H;clear H;have p7 : 0 ≤ (fg : Int) := od au106;have q7 : fg < (a0.size : Int) := od au106;have NX := bt_at a0 fg;replace p7 := eq_true p7;replace q7 := eq_true q7;exact spec_l1Split.L0
         · rw [if_neg cu] at H;exact absurd H (by simp)
        · rw [if_neg bH] at H;exact absurd H (by simp)
       · rw [if_neg c10] at H;exact absurd H (by simp)
      · rw [if_neg c9] at H;exact absurd H (by simp)
     · rw [if_neg c8] at H;have c8b0 := qf c8;have c8b1 := bu c8;have H' := am H;clear H;have p7 : 0 ≤ (fg : Int) := od au106;have q7 : fg < (a0.size : Int) := od au106;have NX := bt_at a0 fg;replace p7 := eq_true p7;replace q7 := eq_true q7;exact spec_l1Split.L0
    · rw [if_neg c6] at H;exact absurd H (by simp)
   ·
    rw [if_neg c5] at H;have c5b0 := df c5;clear c5;by_cases cO : 0 ≤ kT
    ·
     rw [if_pos cO] at H;have c14b0 := eq_true cO;have c14b1 := dt cO;clear cO;by_cases bV : kT ≤ (a0.size : Int)
     ·
      rw [if_pos bV] at H;have c15b0 := eq_true bV;have c15b1 := dt bV;clear bV;by_cases cb : az.length < 8796093022208
      ·
       rw [if_pos cb] at H;have ZX := am cb;clear cb
       obtain ⟨a3f, Ar⟩ : ∃ y_ : List ByteArray, y_ = (az ++ [a0.extract (kT : Int).toNat a0.size]) := ⟨_, rfl⟩
       replace H : (some a3f) = some r := by first | (rw [Ar]; with_reducible exact H) | (have H2_ := (Option.bind_some _ _).symm.trans H; rw [Ar]; with_reducible exact H2_) | (have H2_ := (Option.bind_some _ _).symm.trans H; with_reducible exact H2_) | with_reducible exact H | (rw [Ar]; exact H) | exact H
       have ZY := am Ar;clear Ar;obtain rfl := ojz H;go_wp2_with (first | ((with_reducible refine gate_builtin (b := .append) (xs := #[.tmp 29, .tmp 33]) rfl ?_); at_builtin; refine Kd.R_append Kd.string (w0 := w) w.heap.size rfl (.tmp 29) (.tmp 33) 28 9 (.string ⟨#[]⟩) 16 rfl Tryz.underlying28 info9 rfl (by decide) (by omega) u5 az (a0.extract (kT : Int).toNat a0.size) [.string (a0.extract (kT : Int).toNat a0.size)] (fun _ => True) (fun _ => False) rfl rfl ?aP (fun _ hk => hk.elim) ?aF ?aO ?aB ?aS ?aL ?_; (case aP => exact rfl); (case aB => exact au51); (case aF => exact (fun _ _ => trivial)); (case aO => exact au101); (case aS => exact (below_size au51)); (case aL => have := ZX.out; omega); intro v127 Js ho hb hg hat; rw [← ZY.out] at ho; have cZ := am (hb); have d0 := am (ho); clear HB; clear dH; have HB := cZ; have ZZ := d0; clear cZ d0; clear ho hb hg hat));go_ret;exact ⟨_, by first | rfl | (simp [errW_none, errW_some] <;> rfl) | (simp [*, errW_none, errW_some] <;> rfl), by (with_reducible repeat (first | apply Kd.R_alloc | apply Kd.R_drewN | apply Kd.R_drew)); exact ZZ.out, by repeat (first | (with_reducible first | exact HB.out | apply below_alloc | apply pw_below_drewN | apply below_drew1) | exact HB.out)⟩
      · rw [if_neg cb] at H;exact absurd H (by simp)
     · rw [if_neg bV] at H;exact absurd H (by simp)
    · rw [if_neg cO] at H;exact absurd H (by simp)
end Go.Proofs.YthfbogcpjfledaaGreatDoor.G
