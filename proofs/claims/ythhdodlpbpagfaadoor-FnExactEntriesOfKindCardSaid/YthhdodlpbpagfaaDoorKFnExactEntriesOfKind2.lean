/- Texts of this session for the law FnExactEntriesOfKind, put together by a program (merge.py): each ends with its namespace; conditions stand with each theorem. -/
import Derived.Handed
import Derived.SizedLaws
import Derived.Test.YthhdodlpbpagfaaDoorKFnExactEntriesOfKind1
import Derived.Test.YthhdodlpbpagfaaDoorProg
import Derived.Lib.LaidTab
import Derived.Below
import Derived.Deep.Draws
import Derived.Deep.AppendLies
import Derived.Maps.AppendAt
import Derived.OwnWalk
import Derived.Laws.BytesArg
import Derived.Laws.MakeOwn
import Derived.Laws.OwnMore
import Derived.Deep.OwnRows
import Derived.Tactics
import Derived.Lib.ConvBytes
import Derived.Laws.Slices
import Derived.WalkKit
import Derived.KernelRfl
import Derived.RowKit3
import Derived.Deep.LoopGhost
import Derived.Deep.QuietTactic
import Derived.BigQuiet
import Derived.WideLaws
import Derived.Deep.DeepCutAuto
import Derived.Deep.CutBlock
import Derived.Deep.RegionHeld3
import Derived.Laws.Rows
import Derived.Lib.AppendStr
import Derived.ArgAppend
import Derived.Laws.IdiomCopy
import Derived.OrdersHeld
import Derived.Laws.BitsLemmas
import Derived.RowKit
import Derived.Lib.Strings
namespace Go.Proofs.YthhdodlpbpagfaaDoor.Crd
open Go
variable {H : Type} {enc : TypeId × Value → H}
theorem wrap_and_shaped {a : Assume} {C : Checked} {os : Os} {f : FuncId} {fn : Func} {s : ChangeSpec} {conds : List PathCond} {apart fresh handsOn again : Bool} {X : World → Array Value → Prop}
    (hX : ∀ (w w' : World) (args : Array Value), w.heap = w'.heap → X w args → X w' args)
    (own : ownKnob C.prog.godebug = none) (started : os.Started) (noInit : C.prog.inits.idxOf? f = none) (hfn : C.prog.funcs[f]? = some fn)
    (witness : ∃ (w : World) (tape : Tape) (i : Input), w.os = os ∧ (w.forCall tape i).Shaped C.prog ∧ i.vars = [] ∧ Input.okWide C.prog (w.forCall tape i) .any w.heap.size f i ∧
      ((s.pre enc C.prog fn conds apart (w.forCall tape i).memory i.args ∧ X (w.forCall tape i).memory i.args) ∧ sizedMet enc C.prog fn (OpenSpec.ofChange s) apart (w.forCall tape i).memory i.args) ∧ a.holds C.prog (lone (Frame.enter C.prog f i.args .normal) [] (w.forCall tape i)))
    (contract : ∀ (W : World) (base : Nat) (args : Array Value) (ds gs : List (DataW H)) (before : List MemPlace),
      (∀ (j : Nat) t v, fn.params[j]? = some t → args[j]? = some v → Value.okWide C.prog W .any base t v) →
      DataW.Whole enc C.prog fn.params.toList s.vars apart W args.toList ds gs before →
      conds.all (PathCond.test C.prog ⟨fn.params.toList, ds, s.plain.varTypes C.prog, gs⟩) = true →
      (DataW.weightsEach C.prog (fn.params.toList ++ s.plain.varTypes C.prog) (ds ++ gs)).all (· ≤ reachBytes) = true → X W args → W.ShapedOpen C.prog →
      Calls C.prog f args W fun e W' => ∃ v, e = .returned v ∧ s.post enc C.prog fn apart fresh handsOn again W args v W') :
    ReturnsInHanded a C os f .any (fun w args => (s.pre enc C.prog fn conds apart w args ∧ X w args) ∧ sizedMet enc C.prog fn (OpenSpec.ofChange s) apart w args) (s.post enc C.prog fn apart fresh handsOn again) := by
  refine returnsInHanded_of_calls own started noInit witness ?_
  intro w tape i _ hsh _ hok hpre hholds
  obtain ⟨_, _, _, fn', hfn', _, _, _, _, hval⟩ := hok
  have e : fn' = fn := Option.some.inj (hfn'.symm.trans hfn)
  subst e
  obtain ⟨⟨⟨ds, gs, before, hw, hc⟩, hx⟩, hz⟩ := hpre
  have hw' := DataW.Whole.of_heap (w' := w.forCall tape i) (by rfl) hw
  refine (contract (w.forCall tape i) w.heap.size i.args ds gs before hval hw' hc (hz.weights hw) (hX _ _ _ (by rfl) hx) hsh).mono fun e W' ⟨v, he, hp⟩ => ?_
  subst he
  exact ChangeSpec.post_blind hp
end Go.Proofs.YthhdodlpbpagfaaDoor.Crd

namespace Go.Proofs.YthhdodlpbpagfaaDoor.Ext
open Go.RowKit Go.Proofs.YthhdodlpbpagfaaDoorW.PrintWords Go.Proofs.YthhdodlpbpagfaaDoorW.PrintLast
set_option linter.unusedVariables false
set_option linter.unusedSimpArgs false
theorem cell_lt {w : World} {a : Addr} {v : Value} (h : w.cell? a = some v) : a.block < w.heap.size := by
  unfold World.cell? at h
  by_cases hb : a.block < w.heap.size
  · exact hb
  · rw [Array.getElem?_eq_none (by omega)] at h; cases h
theorem add_zero (a : Addr) : a.add 0 = a := rfl
theorem cell_below {w w' : World} {a : Addr} {v : Value} (hb : Below w.heap.size w w') (h : w.cell? a = some v) : w'.cell? a = some v := (hb.cell (cell_lt h)).trans h
theorem gate_tmp {P : Program} {ops : Array Oper} {rest : List Oper} {o : Oper} {a : Act} {Q : Exit → Act → World → Prop} {W : World} {t : Tmp} {ars : Array Operand} {ts : Array TypeId} (_ho : o.op = .call { callee := .value (.tmp t), args := ars, argTypes := ts })
    (h : wpList P ops Q (o :: rest) a W) : wpList P ops Q (o :: rest) a W := h
theorem goesLt_ {P : Program} {ops : Array Oper} {Q : Exit → Act → World → Prop} {rest : List Oper} {oi : Oper} {a : Act} {w : World} {t : Tmp} {f : FuncId} (ht : a.tmps.getD t undef = Value.func (.func f) #[] #[]) (N : Option Tmp) (hd : oi.dst = N) (hg : oi.guard = none) {fn : Func} {ars : Array Operand} {ts : Array TypeId}
    (hf : P.funcs[f]? = some fn) (hname : (fn.name == "runtime.NumGoroutine") = false) (hb : fn.body.isSome = true) (args : Array Value)
    (hop : oi.op = .call { callee := .value (.tmp t), args := ars, argTypes := ts }) (hargs : ars.map a.eval = args)
    (h : Calls P f args w fun e w' => ∃ v, e = .returned v ∧ wpList P ops Q rest (a.put N v) w') : wpList P ops Q (oi :: rest) a w := by
  refine wpList_plain hg fun K hK => ?_
  have he := Go.Proofs.YthhdodlpbpagfaaDoorW.PrintLast.enters_ hf hname hb args w
  have hrun : (execOp a.eval oi).run P w = .ok (.enter f args) w := by
    unfold execOp
    have hv : a.eval (.tmp t) = Value.func (.func f) #[] #[] := ht
    simp [hop, resolve, Deferred.ofValue, invoke, hv, hargs, he]
  unfold Oper.wp
  rw [hrun, Oper.upon_enter]
  refine h.mono fun e w'' hh => ?_
  obtain ⟨v, rfl, hk⟩ := hh
  subst hd
  exact hK _ _ hk
end Go.Proofs.YthhdodlpbpagfaaDoor.Ext

namespace Go.Proofs.YthhdodlpbpagfaaDoor.Gl
open Go.RowKit Go.Proofs.YthhdodlpbpagfaaDoorW.PrintWords Go.Proofs.YthhdodlpbpagfaaDoor.Ext
structure GL (gF1 gF2 gF3 : Bool) (w : World) : Prop where
  mx : ∃ m, w.cell? ⟨2, 0, none⟩ = some (.int .i64 m)
theorem GL.below {gF1 gF2 gF3 : Bool} {w w' : World} (h : GL gF1 gF2 gF3 w) (hb : Below w.heap.size w w') : GL gF1 gF2 gF3 w' where
  mx := by obtain ⟨m, hm⟩ := h.mx; exact ⟨m, cell_below hb hm⟩
theorem GL.drawn {gF1 gF2 gF3 : Bool} {w w' : World} (h : GL gF1 gF2 gF3 w) (hd : Drawn0 w w') : GL gF1 gF2 gF3 w' := h.below hd.below
end Go.Proofs.YthhdodlpbpagfaaDoor.Gl

namespace Go.Proofs.YthhdodlpbpagfaaDoor.G
open Go.RowKit Go.Proofs.YthhdodlpbpagfaaDoorW.PrintWords Go.Proofs.YthhdodlpbpagfaaDoorW.PrintLast Go.Proofs.YthhdodlpbpagfaaDoorW.PrintMore
open Go.Proofs.YthhdodlpbpagfaaDoor.Gl Go.Proofs.YthhdodlpbpagfaaDoor.Ext
attribute [local go_sem] max2_int min2_int max_two min_two max_three min_three max_four min_four   -- for this text's walks alone
set_option linter.unusedVariables false
set_option linter.unusedSimpArgs false

def errW : Option Int → Value
  | none => .nilIface
  | some c => .iface 0 (.int .i64 c)
theorem errW_none : errW none = .nilIface := rfl
theorem errW_some (c : Int) : errW (some c) = .iface 0 (.int .i64 c) := rfl

theorem info9 : (Tryd.prog.info? 9).map (fun i => (i.zero, i.size, i.bytes)) = some (some (.string ⟨#[]⟩), 1, 16) := by kernel_rfl
theorem info45 : (Tryd.prog.info? 45).map (fun i => (i.zero, i.size, i.bytes)) = some (some (.agg #[(.string ⟨#[]⟩), (.int .i64 0), (.slice none 0 0), (.slice none 0 0), (.string ⟨#[]⟩), (.string ⟨#[]⟩), (.string ⟨#[]⟩), (.int .i64 0), (.int .i64 0), (.int .i64 0), (.bool false), (.int .i64 0), (.string ⟨#[]⟩), (.string ⟨#[]⟩)]), 14, 192) := by kernel_rfl
theorem info70 : (Tryd.prog.info? 70).map (fun i => (i.zero, i.size, i.bytes)) = some (some (.agg #[(.slice none 0 0), (.string ⟨#[]⟩), (.string ⟨#[]⟩), (.string ⟨#[]⟩)]), 4, 72) := by kernel_rfl
-- the values' own types
structure S72 where
  f0 : (List ByteArray)
  f1 : ByteArray
  f2 : ByteArray
  f3 : ByteArray
def z72 : S72 := ⟨([] : List ByteArray), (⟨#[]⟩ : ByteArray), (⟨#[]⟩ : ByteArray), (⟨#[]⟩ : ByteArray)⟩
def k72 : Kd S72 := Kd.iso (Kd.pair (Kd.slice 9 Kd.string) (Kd.pair Kd.string (Kd.pair Kd.string Kd.string))) (fun x : S72 => (x.f0, x.f1, x.f2, x.f3))
theorem k72_open {w : World} {x : S72} {cs : List Value} (h : k72.K w x cs) : ∃ A0 c0, cs = [.slice A0 x.f0.length c0, .string x.f1, .string x.f2, .string x.f3] ∧ x.f0.length ≤ c0 ∧ Kd.string.C w A0 x.f0.length x.f0 := by
  obtain ⟨_, _, rfl, ⟨A0, c0, rfl, l0, g0⟩, ⟨_, _, rfl, rfl, ⟨_, _, rfl, rfl, rfl⟩⟩⟩ := h
  exact ⟨A0, c0, rfl, l0, g0⟩
def rd_T72 (xs : List S72) (i : Int) : S72 := xs.getD i.toNat z72
theorem at_T72 {w : World} {A : Option Addr} {n : Nat} {xs : List S72} (h : Kd.C k72 w A n xs) (i : Int) (h0 : 0 ≤ i) (h1 : i < n) : ∃ ad A0 c0, A = some ad ∧ w.cell? (ad.add (i.toNat * 4)) = some (.slice A0 (rd_T72 xs i).f0.length c0) ∧ w.cell? ⟨(ad.add (i.toNat * 4)).block, (ad.add (i.toNat * 4)).off + 1, none⟩ = some (.string (rd_T72 xs i).f1) ∧ w.cell? ⟨(ad.add (i.toNat * 4)).block, (ad.add (i.toNat * 4)).off + 2, none⟩ = some (.string (rd_T72 xs i).f2) ∧ w.cell? ⟨(ad.add (i.toNat * 4)).block, (ad.add (i.toNat * 4)).off + 3, none⟩ = some (.string (rd_T72 xs i).f3) ∧ (rd_T72 xs i).f0.length ≤ c0 ∧ Kd.string.C w A0 (rd_T72 xs i).f0.length (rd_T72 xs i).f0 := by
  obtain ⟨ad, c, e, _, hK, hc0⟩ := Kd.C_get h z72 i h0 h1
  have hc : ∀ j u, c[j]? = some u → w.cell? (ad.add (i.toNat * 4 + j)) = some u := hc0
  obtain ⟨A0, c0, rfl, l0, g0⟩ := k72_open hK
  exact ⟨ad, A0, c0, e, hc 0 _ rfl, by rw [← add_field _ _ 1 (by omega)]; exact hc 1 _ rfl, by rw [← add_field _ _ 2 (by omega)]; exact hc 2 _ rfl, by rw [← add_field _ _ 3 (by omega)]; exact hc 3 _ rfl, l0, g0⟩

structure S53 where
  f0 : Int
  f1 : Int
  f2 : Int
  f3 : Bool
def z53 : S53 := ⟨(0 : Int), (0 : Int), (0 : Int), false⟩
def k53 : Kd S53 := Kd.iso (Kd.pair (Kd.int .i64) (Kd.pair (Kd.int .i64) (Kd.pair (Kd.int .i64) Kd.bool))) (fun x : S53 => (x.f0, x.f1, x.f2, x.f3))
theorem k53_open {w : World} {x : S53} {cs : List Value} (h : k53.K w x cs) : cs = [.int .i64 x.f0, .int .i64 x.f1, .int .i64 x.f2, .bool x.f3] := by
  obtain ⟨_, _, rfl, rfl, ⟨_, _, rfl, rfl, ⟨_, _, rfl, rfl, rfl⟩⟩⟩ := h
  exact rfl
structure S55 where
  f0 : ByteArray
  f1 : Int
  f2 : (List S72)
  f3 : (List S72)
  f4 : ByteArray
  f5 : ByteArray
  f6 : ByteArray
  f7 : S53
  f8 : Int
  f9 : ByteArray
  f10 : ByteArray
def z55 : S55 := ⟨(⟨#[]⟩ : ByteArray), (0 : Int), ([] : List S72), ([] : List S72), (⟨#[]⟩ : ByteArray), (⟨#[]⟩ : ByteArray), (⟨#[]⟩ : ByteArray), z53, (0 : Int), (⟨#[]⟩ : ByteArray), (⟨#[]⟩ : ByteArray)⟩
def k55 : Kd S55 := Kd.iso (Kd.pair Kd.string (Kd.pair (Kd.int .i64) (Kd.pair (Kd.slice 72 k72) (Kd.pair (Kd.slice 72 k72) (Kd.pair Kd.string (Kd.pair Kd.string (Kd.pair Kd.string (Kd.pair k53 (Kd.pair (Kd.int .i64) (Kd.pair Kd.string Kd.string)))))))))) (fun x : S55 => (x.f0, x.f1, x.f2, x.f3, x.f4, x.f5, x.f6, x.f7, x.f8, x.f9, x.f10))
theorem k55_open {w : World} {x : S55} {cs : List Value} (h : k55.K w x cs) : ∃ A2 c2 A3 c3, cs = [.string x.f0, .int .i64 x.f1, .slice A2 x.f2.length c2, .slice A3 x.f3.length c3, .string x.f4, .string x.f5, .string x.f6, .int .i64 x.f7.f0, .int .i64 x.f7.f1, .int .i64 x.f7.f2, .bool x.f7.f3, .int .i64 x.f8, .string x.f9, .string x.f10] ∧ x.f2.length ≤ c2 ∧ k72.C w A2 x.f2.length x.f2 ∧ x.f3.length ≤ c3 ∧ k72.C w A3 x.f3.length x.f3 := by
  obtain ⟨_, _, rfl, rfl, ⟨_, _, rfl, rfl, ⟨_, _, rfl, ⟨A2, c2, rfl, l2, g2⟩, ⟨_, _, rfl, ⟨A3, c3, rfl, l3, g3⟩, ⟨_, _, rfl, rfl, ⟨_, _, rfl, rfl, ⟨_, _, rfl, rfl, ⟨_, _, rfl, s7, ⟨_, _, rfl, rfl, ⟨_, _, rfl, rfl, rfl⟩⟩⟩⟩⟩⟩⟩⟩⟩⟩ := h
  obtain rfl := k53_open s7
  exact ⟨A2, c2, A3, c3, rfl, l2, g2, l3, g3⟩
def rd_T55 (xs : List S55) (i : Int) : S55 := xs.getD i.toNat z55
theorem at_T55 {w : World} {A : Option Addr} {n : Nat} {xs : List S55} (h : Kd.C k55 w A n xs) (i : Int) (h0 : 0 ≤ i) (h1 : i < n) : ∃ ad A2 c2 A3 c3, A = some ad ∧ w.cell? (ad.add (i.toNat * 14)) = some (.string (rd_T55 xs i).f0) ∧ w.cell? ⟨(ad.add (i.toNat * 14)).block, (ad.add (i.toNat * 14)).off + 1, none⟩ = some (.int .i64 (rd_T55 xs i).f1) ∧ w.cell? ⟨(ad.add (i.toNat * 14)).block, (ad.add (i.toNat * 14)).off + 2, none⟩ = some (.slice A2 (rd_T55 xs i).f2.length c2) ∧ w.cell? ⟨(ad.add (i.toNat * 14)).block, (ad.add (i.toNat * 14)).off + 3, none⟩ = some (.slice A3 (rd_T55 xs i).f3.length c3) ∧ w.cell? ⟨(ad.add (i.toNat * 14)).block, (ad.add (i.toNat * 14)).off + 4, none⟩ = some (.string (rd_T55 xs i).f4) ∧ w.cell? ⟨(ad.add (i.toNat * 14)).block, (ad.add (i.toNat * 14)).off + 5, none⟩ = some (.string (rd_T55 xs i).f5) ∧ w.cell? ⟨(ad.add (i.toNat * 14)).block, (ad.add (i.toNat * 14)).off + 6, none⟩ = some (.string (rd_T55 xs i).f6) ∧ w.cell? ⟨(ad.add (i.toNat * 14)).block, (ad.add (i.toNat * 14)).off + 7, none⟩ = some (.int .i64 (rd_T55 xs i).f7.f0) ∧ w.cell? ⟨(ad.add (i.toNat * 14)).block, (ad.add (i.toNat * 14)).off + 8, none⟩ = some (.int .i64 (rd_T55 xs i).f7.f1) ∧ w.cell? ⟨(ad.add (i.toNat * 14)).block, (ad.add (i.toNat * 14)).off + 9, none⟩ = some (.int .i64 (rd_T55 xs i).f7.f2) ∧ w.cell? ⟨(ad.add (i.toNat * 14)).block, (ad.add (i.toNat * 14)).off + 10, none⟩ = some (.bool (rd_T55 xs i).f7.f3) ∧ w.cell? ⟨(ad.add (i.toNat * 14)).block, (ad.add (i.toNat * 14)).off + 11, none⟩ = some (.int .i64 (rd_T55 xs i).f8) ∧ w.cell? ⟨(ad.add (i.toNat * 14)).block, (ad.add (i.toNat * 14)).off + 12, none⟩ = some (.string (rd_T55 xs i).f9) ∧ w.cell? ⟨(ad.add (i.toNat * 14)).block, (ad.add (i.toNat * 14)).off + 13, none⟩ = some (.string (rd_T55 xs i).f10) ∧ (rd_T55 xs i).f2.length ≤ c2 ∧ k72.C w A2 (rd_T55 xs i).f2.length (rd_T55 xs i).f2 ∧ (rd_T55 xs i).f3.length ≤ c3 ∧ k72.C w A3 (rd_T55 xs i).f3.length (rd_T55 xs i).f3 := by
  obtain ⟨ad, c, e, _, hK, hc0⟩ := Kd.C_get h z55 i h0 h1
  have hc : ∀ j u, c[j]? = some u → w.cell? (ad.add (i.toNat * 14 + j)) = some u := hc0
  obtain ⟨A2, c2, A3, c3, rfl, l2, g2, l3, g3⟩ := k55_open hK
  exact ⟨ad, A2, c2, A3, c3, e, hc 0 _ rfl, by rw [← add_field _ _ 1 (by omega)]; exact hc 1 _ rfl, by rw [← add_field _ _ 2 (by omega)]; exact hc 2 _ rfl, by rw [← add_field _ _ 3 (by omega)]; exact hc 3 _ rfl, by rw [← add_field _ _ 4 (by omega)]; exact hc 4 _ rfl, by rw [← add_field _ _ 5 (by omega)]; exact hc 5 _ rfl, by rw [← add_field _ _ 6 (by omega)]; exact hc 6 _ rfl, by rw [← add_field _ _ 7 (by omega)]; exact hc 7 _ rfl, by rw [← add_field _ _ 8 (by omega)]; exact hc 8 _ rfl, by rw [← add_field _ _ 9 (by omega)]; exact hc 9 _ rfl, by rw [← add_field _ _ 10 (by omega)]; exact hc 10 _ rfl, by rw [← add_field _ _ 11 (by omega)]; exact hc 11 _ rfl, by rw [← add_field _ _ 12 (by omega)]; exact hc 12 _ rfl, by rw [← add_field _ _ 13 (by omega)]; exact hc 13 _ rfl, l2, g2, l3, g3⟩

/-! #### struct type 70 -/
structure S70 where
  f0 : (List ByteArray)
  f1 : ByteArray
  f2 : ByteArray
  f3 : ByteArray
def z70 : S70 := ⟨([] : List ByteArray), (⟨#[]⟩ : ByteArray), (⟨#[]⟩ : ByteArray), (⟨#[]⟩ : ByteArray)⟩
def k70 : Kd S70 := Kd.iso (Kd.pair (Kd.slice 9 Kd.string) (Kd.pair Kd.string (Kd.pair Kd.string Kd.string))) (fun x : S70 => (x.f0, x.f1, x.f2, x.f3))
theorem k70_open {w : World} {x : S70} {cs : List Value} (h : k70.K w x cs) : ∃ A0 c0, cs = [.slice A0 x.f0.length c0, .string x.f1, .string x.f2, .string x.f3] ∧ x.f0.length ≤ c0 ∧ Kd.string.C w A0 x.f0.length x.f0 := by
  obtain ⟨_, _, rfl, ⟨A0, c0, rfl, l0, g0⟩, ⟨_, _, rfl, rfl, ⟨_, _, rfl, rfl, rfl⟩⟩⟩ := h
  exact ⟨A0, c0, rfl, l0, g0⟩
theorem k70_openM {w : World} {base : Nat} {ok : Nat → Prop} {x : S70} {cs : List Value} (h : k70.M w base ok x cs) : ∃ v0, cs = [v0, .string x.f1, .string x.f2, .string x.f3] ∧ Kd.string.R 9 w base ok v0 x.f0 := by
  obtain ⟨_, _, rfl, ⟨v0, rfl, g0⟩, ⟨_, _, rfl, rfl, ⟨_, _, rfl, rfl, rfl⟩⟩⟩ := h
  exact ⟨v0, rfl, g0⟩
theorem k70_mkM (w : World) (base : Nat) (ok : Nat → Prop) (x : S70) {v0 : Value} (g0 : Kd.string.R 9 w base ok v0 x.f0) : k70.M w base ok x [v0, .string x.f1, .string x.f2, .string x.f3] := ⟨[v0], [.string x.f1, .string x.f2, .string x.f3], rfl, ⟨v0, rfl, g0⟩, ⟨[.string x.f1], [.string x.f2, .string x.f3], rfl, rfl, ⟨[.string x.f2], [.string x.f3], rfl, rfl, rfl⟩⟩⟩
def rd_T70 (xs : List S70) (i : Int) : S70 := xs.getD i.toNat z70
theorem at_T70 {w : World} {A : Option Addr} {n : Nat} {xs : List S70} (h : Kd.C k70 w A n xs) (i : Int) (h0 : 0 ≤ i) (h1 : i < n) : ∃ ad A0 c0, A = some ad ∧ w.cell? (ad.add (i.toNat * 4)) = some (.slice A0 (rd_T70 xs i).f0.length c0) ∧ w.cell? ⟨(ad.add (i.toNat * 4)).block, (ad.add (i.toNat * 4)).off + 1, none⟩ = some (.string (rd_T70 xs i).f1) ∧ w.cell? ⟨(ad.add (i.toNat * 4)).block, (ad.add (i.toNat * 4)).off + 2, none⟩ = some (.string (rd_T70 xs i).f2) ∧ w.cell? ⟨(ad.add (i.toNat * 4)).block, (ad.add (i.toNat * 4)).off + 3, none⟩ = some (.string (rd_T70 xs i).f3) ∧ (rd_T70 xs i).f0.length ≤ c0 ∧ Kd.string.C w A0 (rd_T70 xs i).f0.length (rd_T70 xs i).f0 := by
  obtain ⟨ad, c, e, _, hK, hc0⟩ := Kd.C_get h z70 i h0 h1
  have hc : ∀ j u, c[j]? = some u → w.cell? (ad.add (i.toNat * 4 + j)) = some u := hc0
  obtain ⟨A0, c0, rfl, l0, g0⟩ := k70_open hK
  exact ⟨ad, A0, c0, e, hc 0 _ rfl, by rw [← add_field _ _ 1 (by omega)]; exact hc 1 _ rfl, by rw [← add_field _ _ 2 (by omega)]; exact hc 2 _ rfl, by rw [← add_field _ _ 3 (by omega)]; exact hc 3 _ rfl, l0, g0⟩

structure S43 where
  f0 : Int
  f1 : Int
  f2 : Int
  f3 : Bool
def z43 : S43 := ⟨(0 : Int), (0 : Int), (0 : Int), false⟩
def k43 : Kd S43 := Kd.iso (Kd.pair (Kd.int .i64) (Kd.pair (Kd.int .i64) (Kd.pair (Kd.int .i64) Kd.bool))) (fun x : S43 => (x.f0, x.f1, x.f2, x.f3))
theorem k43_open {w : World} {x : S43} {cs : List Value} (h : k43.K w x cs) : cs = [.int .i64 x.f0, .int .i64 x.f1, .int .i64 x.f2, .bool x.f3] := by
  obtain ⟨_, _, rfl, rfl, ⟨_, _, rfl, rfl, ⟨_, _, rfl, rfl, rfl⟩⟩⟩ := h
  exact rfl
theorem k43_openM {w : World} {base : Nat} {ok : Nat → Prop} {x : S43} {cs : List Value} (h : k43.M w base ok x cs) : cs = [.int .i64 x.f0, .int .i64 x.f1, .int .i64 x.f2, .bool x.f3] := by
  obtain ⟨_, _, rfl, rfl, ⟨_, _, rfl, rfl, ⟨_, _, rfl, rfl, rfl⟩⟩⟩ := h
  exact rfl
theorem k43_mkM (w : World) (base : Nat) (ok : Nat → Prop) (x : S43)  : k43.M w base ok x [.int .i64 x.f0, .int .i64 x.f1, .int .i64 x.f2, .bool x.f3] := ⟨[.int .i64 x.f0], [.int .i64 x.f1, .int .i64 x.f2, .bool x.f3], rfl, rfl, ⟨[.int .i64 x.f1], [.int .i64 x.f2, .bool x.f3], rfl, rfl, ⟨[.int .i64 x.f2], [.bool x.f3], rfl, rfl, rfl⟩⟩⟩
structure S45 where
  f0 : ByteArray
  f1 : Int
  f2 : (List S70)
  f3 : (List S70)
  f4 : ByteArray
  f5 : ByteArray
  f6 : ByteArray
  f7 : S43
  f8 : Int
  f9 : ByteArray
  f10 : ByteArray
def z45 : S45 := ⟨(⟨#[]⟩ : ByteArray), (0 : Int), ([] : List S70), ([] : List S70), (⟨#[]⟩ : ByteArray), (⟨#[]⟩ : ByteArray), (⟨#[]⟩ : ByteArray), z43, (0 : Int), (⟨#[]⟩ : ByteArray), (⟨#[]⟩ : ByteArray)⟩
def k45 : Kd S45 := Kd.iso (Kd.pair Kd.string (Kd.pair (Kd.int .i64) (Kd.pair (Kd.slice 70 k70) (Kd.pair (Kd.slice 70 k70) (Kd.pair Kd.string (Kd.pair Kd.string (Kd.pair Kd.string (Kd.pair k43 (Kd.pair (Kd.int .i64) (Kd.pair Kd.string Kd.string)))))))))) (fun x : S45 => (x.f0, x.f1, x.f2, x.f3, x.f4, x.f5, x.f6, x.f7, x.f8, x.f9, x.f10))
theorem k45_open {w : World} {x : S45} {cs : List Value} (h : k45.K w x cs) : ∃ A2 c2 A3 c3, cs = [.string x.f0, .int .i64 x.f1, .slice A2 x.f2.length c2, .slice A3 x.f3.length c3, .string x.f4, .string x.f5, .string x.f6, .int .i64 x.f7.f0, .int .i64 x.f7.f1, .int .i64 x.f7.f2, .bool x.f7.f3, .int .i64 x.f8, .string x.f9, .string x.f10] ∧ x.f2.length ≤ c2 ∧ k70.C w A2 x.f2.length x.f2 ∧ x.f3.length ≤ c3 ∧ k70.C w A3 x.f3.length x.f3 := by
  obtain ⟨_, _, rfl, rfl, ⟨_, _, rfl, rfl, ⟨_, _, rfl, ⟨A2, c2, rfl, l2, g2⟩, ⟨_, _, rfl, ⟨A3, c3, rfl, l3, g3⟩, ⟨_, _, rfl, rfl, ⟨_, _, rfl, rfl, ⟨_, _, rfl, rfl, ⟨_, _, rfl, s7, ⟨_, _, rfl, rfl, ⟨_, _, rfl, rfl, rfl⟩⟩⟩⟩⟩⟩⟩⟩⟩⟩ := h
  obtain rfl := k43_open s7
  exact ⟨A2, c2, A3, c3, rfl, l2, g2, l3, g3⟩
theorem k45_openM {w : World} {base : Nat} {ok : Nat → Prop} {x : S45} {cs : List Value} (h : k45.M w base ok x cs) : ∃ v2 v3, cs = [.string x.f0, .int .i64 x.f1, v2, v3, .string x.f4, .string x.f5, .string x.f6, .int .i64 x.f7.f0, .int .i64 x.f7.f1, .int .i64 x.f7.f2, .bool x.f7.f3, .int .i64 x.f8, .string x.f9, .string x.f10] ∧ k70.R 70 w base ok v2 x.f2 ∧ k70.R 70 w base ok v3 x.f3 := by
  obtain ⟨_, _, rfl, rfl, ⟨_, _, rfl, rfl, ⟨_, _, rfl, ⟨v2, rfl, g2⟩, ⟨_, _, rfl, ⟨v3, rfl, g3⟩, ⟨_, _, rfl, rfl, ⟨_, _, rfl, rfl, ⟨_, _, rfl, rfl, ⟨_, _, rfl, s7, ⟨_, _, rfl, rfl, ⟨_, _, rfl, rfl, rfl⟩⟩⟩⟩⟩⟩⟩⟩⟩⟩ := h
  obtain rfl := k43_openM s7
  exact ⟨v2, v3, rfl, g2, g3⟩
theorem k45_mkM (w : World) (base : Nat) (ok : Nat → Prop) (x : S45) {v2 : Value} (g2 : k70.R 70 w base ok v2 x.f2) {v3 : Value} (g3 : k70.R 70 w base ok v3 x.f3) : k45.M w base ok x [.string x.f0, .int .i64 x.f1, v2, v3, .string x.f4, .string x.f5, .string x.f6, .int .i64 x.f7.f0, .int .i64 x.f7.f1, .int .i64 x.f7.f2, .bool x.f7.f3, .int .i64 x.f8, .string x.f9, .string x.f10] := ⟨[.string x.f0], [.int .i64 x.f1, v2, v3, .string x.f4, .string x.f5, .string x.f6, .int .i64 x.f7.f0, .int .i64 x.f7.f1, .int .i64 x.f7.f2, .bool x.f7.f3, .int .i64 x.f8, .string x.f9, .string x.f10], rfl, rfl, ⟨[.int .i64 x.f1], [v2, v3, .string x.f4, .string x.f5, .string x.f6, .int .i64 x.f7.f0, .int .i64 x.f7.f1, .int .i64 x.f7.f2, .bool x.f7.f3, .int .i64 x.f8, .string x.f9, .string x.f10], rfl, rfl, ⟨[v2], [v3, .string x.f4, .string x.f5, .string x.f6, .int .i64 x.f7.f0, .int .i64 x.f7.f1, .int .i64 x.f7.f2, .bool x.f7.f3, .int .i64 x.f8, .string x.f9, .string x.f10], rfl, ⟨v2, rfl, g2⟩, ⟨[v3], [.string x.f4, .string x.f5, .string x.f6, .int .i64 x.f7.f0, .int .i64 x.f7.f1, .int .i64 x.f7.f2, .bool x.f7.f3, .int .i64 x.f8, .string x.f9, .string x.f10], rfl, ⟨v3, rfl, g3⟩, ⟨[.string x.f4], [.string x.f5, .string x.f6, .int .i64 x.f7.f0, .int .i64 x.f7.f1, .int .i64 x.f7.f2, .bool x.f7.f3, .int .i64 x.f8, .string x.f9, .string x.f10], rfl, rfl, ⟨[.string x.f5], [.string x.f6, .int .i64 x.f7.f0, .int .i64 x.f7.f1, .int .i64 x.f7.f2, .bool x.f7.f3, .int .i64 x.f8, .string x.f9, .string x.f10], rfl, rfl, ⟨[.string x.f6], [.int .i64 x.f7.f0, .int .i64 x.f7.f1, .int .i64 x.f7.f2, .bool x.f7.f3, .int .i64 x.f8, .string x.f9, .string x.f10], rfl, rfl, ⟨[.int .i64 x.f7.f0, .int .i64 x.f7.f1, .int .i64 x.f7.f2, .bool x.f7.f3], [.int .i64 x.f8, .string x.f9, .string x.f10], rfl, (k43_mkM w base ok x.f7 ), ⟨[.int .i64 x.f8], [.string x.f9, .string x.f10], rfl, rfl, ⟨[.string x.f9], [.string x.f10], rfl, rfl, rfl⟩⟩⟩⟩⟩⟩⟩⟩⟩⟩
def rd_T45 (xs : List S45) (i : Int) : S45 := xs.getD i.toNat z45
theorem at_T45 {w : World} {A : Option Addr} {n : Nat} {xs : List S45} (h : Kd.C k45 w A n xs) (i : Int) (h0 : 0 ≤ i) (h1 : i < n) : ∃ ad A2 c2 A3 c3, A = some ad ∧ w.cell? (ad.add (i.toNat * 14)) = some (.string (rd_T45 xs i).f0) ∧ w.cell? ⟨(ad.add (i.toNat * 14)).block, (ad.add (i.toNat * 14)).off + 1, none⟩ = some (.int .i64 (rd_T45 xs i).f1) ∧ w.cell? ⟨(ad.add (i.toNat * 14)).block, (ad.add (i.toNat * 14)).off + 2, none⟩ = some (.slice A2 (rd_T45 xs i).f2.length c2) ∧ w.cell? ⟨(ad.add (i.toNat * 14)).block, (ad.add (i.toNat * 14)).off + 3, none⟩ = some (.slice A3 (rd_T45 xs i).f3.length c3) ∧ w.cell? ⟨(ad.add (i.toNat * 14)).block, (ad.add (i.toNat * 14)).off + 4, none⟩ = some (.string (rd_T45 xs i).f4) ∧ w.cell? ⟨(ad.add (i.toNat * 14)).block, (ad.add (i.toNat * 14)).off + 5, none⟩ = some (.string (rd_T45 xs i).f5) ∧ w.cell? ⟨(ad.add (i.toNat * 14)).block, (ad.add (i.toNat * 14)).off + 6, none⟩ = some (.string (rd_T45 xs i).f6) ∧ w.cell? ⟨(ad.add (i.toNat * 14)).block, (ad.add (i.toNat * 14)).off + 7, none⟩ = some (.int .i64 (rd_T45 xs i).f7.f0) ∧ w.cell? ⟨(ad.add (i.toNat * 14)).block, (ad.add (i.toNat * 14)).off + 8, none⟩ = some (.int .i64 (rd_T45 xs i).f7.f1) ∧ w.cell? ⟨(ad.add (i.toNat * 14)).block, (ad.add (i.toNat * 14)).off + 9, none⟩ = some (.int .i64 (rd_T45 xs i).f7.f2) ∧ w.cell? ⟨(ad.add (i.toNat * 14)).block, (ad.add (i.toNat * 14)).off + 10, none⟩ = some (.bool (rd_T45 xs i).f7.f3) ∧ w.cell? ⟨(ad.add (i.toNat * 14)).block, (ad.add (i.toNat * 14)).off + 11, none⟩ = some (.int .i64 (rd_T45 xs i).f8) ∧ w.cell? ⟨(ad.add (i.toNat * 14)).block, (ad.add (i.toNat * 14)).off + 12, none⟩ = some (.string (rd_T45 xs i).f9) ∧ w.cell? ⟨(ad.add (i.toNat * 14)).block, (ad.add (i.toNat * 14)).off + 13, none⟩ = some (.string (rd_T45 xs i).f10) ∧ (rd_T45 xs i).f2.length ≤ c2 ∧ k70.C w A2 (rd_T45 xs i).f2.length (rd_T45 xs i).f2 ∧ (rd_T45 xs i).f3.length ≤ c3 ∧ k70.C w A3 (rd_T45 xs i).f3.length (rd_T45 xs i).f3 := by
  obtain ⟨ad, c, e, _, hK, hc0⟩ := Kd.C_get h z45 i h0 h1
  have hc : ∀ j u, c[j]? = some u → w.cell? (ad.add (i.toNat * 14 + j)) = some u := hc0
  obtain ⟨A2, c2, A3, c3, rfl, l2, g2, l3, g3⟩ := k45_open hK
  exact ⟨ad, A2, c2, A3, c3, e, hc 0 _ rfl, by rw [← add_field _ _ 1 (by omega)]; exact hc 1 _ rfl, by rw [← add_field _ _ 2 (by omega)]; exact hc 2 _ rfl, by rw [← add_field _ _ 3 (by omega)]; exact hc 3 _ rfl, by rw [← add_field _ _ 4 (by omega)]; exact hc 4 _ rfl, by rw [← add_field _ _ 5 (by omega)]; exact hc 5 _ rfl, by rw [← add_field _ _ 6 (by omega)]; exact hc 6 _ rfl, by rw [← add_field _ _ 7 (by omega)]; exact hc 7 _ rfl, by rw [← add_field _ _ 8 (by omega)]; exact hc 8 _ rfl, by rw [← add_field _ _ 9 (by omega)]; exact hc 9 _ rfl, by rw [← add_field _ _ 10 (by omega)]; exact hc 10 _ rfl, by rw [← add_field _ _ 11 (by omega)]; exact hc 11 _ rfl, by rw [← add_field _ _ 12 (by omega)]; exact hc 12 _ rfl, by rw [← add_field _ _ 13 (by omega)]; exact hc 13 _ rfl, l2, g2, l3, g3⟩

structure S31 where
  f0 : (List S45)
def z31 : S31 := ⟨([] : List S45)⟩
structure S24 where
  f0 : (List S55)
def k24 : Kd S24 := Kd.iso (Kd.slice 55 k55) (fun x : S24 => x.f0)
theorem k24_open {w : World} {x : S24} {cs : List Value} (h : k24.K w x cs) : ∃ A0 c0, cs = [.slice A0 x.f0.length c0] ∧ x.f0.length ≤ c0 ∧ k55.C w A0 x.f0.length x.f0 := by
  obtain ⟨A0, c0, rfl, l0, g0⟩ := h
  exact ⟨A0, c0, rfl, l0, g0⟩
theorem bcl {w w' : World} {a : Addr} {v : Value} (hb : Below w.heap.size w w') (h : w.cell? a = some v) : w'.cell? a = some v := (hb.cell (World.block_lt_of_cell? w _ h)).trans h
theorem bsz {w0 w : World} {g : Nat} (hg : g = w.heap.size) (hb : Below w0.heap.size w0 w) : w0.heap.size ≤ g := hg ▸ hb.size
theorem bne {w : World} {g g' : Nat} {o : Obj} (hg : g' = w.heap.size) (h : w.heap[g]? = some o) : g ≠ g' := hg ▸ Nat.ne_of_lt (blk_lt h)
theorem ben {w : World} {g g' : Nat} {o : Obj} (hg : g' = w.heap.size) (h : w.heap[g]? = some o) : g' ≠ g := hg ▸ Nat.ne_of_gt (blk_lt h)
theorem pu_ {P : Program} {ops : Array Oper} {Q : Exit → Act → World → Prop} {md : Region.Mode} {S : World → Prop} {ds : List Nat} (i : Nat) (N : Option Tmp) {oi : Oper} {v : Value} {fuel : Nat} {l : Array Bool} {a : Act} {w : World} (l' : Array Bool) {T : Bool × List (List Nat × List Nat)} (hT : rtab md ops = T) {a' : Act}
    (h : wpAnyLast P md ops Q S ds fuel l' a' w) (hi : ops[i]? = some oi := by rfl) (hN : oi.dst = N := by rfl) (hc : anyT T l.toList l'.toList i = true := by kernel_rfl)
    (hQ : ∀ c a w, Q (.panic c) (a.put oi.dst v) w → Q (.panic c) a w := by exact fun _ _ _ h => h) (hy : Yields P ops oi v a := by exact Or.inl ⟨by rfl, by intro w'; go_simp; with_reducible rfl⟩) (ha : a.put N v = a' := by simp only [Act.put, List.setIfInBounds_toArray, List.set_cons_zero, List.set_cons_succ, i64_w, i32_w]; rfl) :
    wpAnyLast P md ops Q S ds (fuel + 1) l a w := pure_ l' hi hN (any_of hT hc) hQ hy ha h
theorem no_ {P : Program} {ops : Array Oper} {Q : Exit → Act → World → Prop} {md : Region.Mode} {S : World → Prop} {ds : List Nat} (N : Option Tmp) {v : Value} {fuel : Nat} {l : Array Bool} {a a' : Act} {w : World} (h : wpAnyLast P md ops Q S ds fuel l a' w) (ha : a.put N v = a' := by simp only [Act.put, List.setIfInBounds_toArray, List.set_cons_zero, List.set_cons_succ, i64_w, i32_w]; rfl) :
    wpAnyLast P md ops Q S ds fuel l (a.put N v) w := norm_ ha h
theorem on_ {P : Program} {ops : Array Oper} {Q : Exit → Act → World → Prop} {md : Region.Mode} {S : World → Prop} {ds : List Nat} (i : Nat) (N : Option Tmp) {oi : Oper} {fuel : Nat} {l : Array Bool} {a : Act} {w : World} (l' : Array Bool) {T : Bool × List (List Nat × List Nat)} (hT : rtab md ops = T)
    (h : ∀ K : Act → World → Prop, Shut (∀ a' w', S w' → (S w' → wpAnyLast P md ops Q S ds fuel l' a' w') → K a' w') → if Region.wanted oi (yielded ops a.tmps) = true then Oper.wp P oi a w K Q else K (a.put N undef) w)
    (hi : ops[i]? = some oi := by rfl) (hN : oi.dst = N := by rfl) (hc : (readyT T.2 l.toList == [i] && l.toList.set i true == l'.toList) = true := by kernel_rfl) (hd : i ∉ ds := by decide) :
    wpAnyLast P md ops Q S ds (fuel + 1) l a w := one_ l' hi hN (one_of hT hc) hd h
theorem gs_ {P : Program} {ops : Array Oper} {Q : Exit → Act → World → Prop} {oi : Oper} {N : Option Tmp} {a : Act} {w : World} {K : Act → World → Prop} {f : FuncId} {fn : Func} {as_ : Array Operand} {ts : Array TypeId} (hf : P.funcs[f]? = some fn) (args : Array Value)
    (h : Calls P f args w fun e w' => ∃ v, e = .returned v ∧ K (a.put N v) w') (hname : (fn.name == "runtime.NumGoroutine") = false := by kernel_rfl) (hb : fn.body.isSome = true := by rfl)
    (hw : Region.wanted oi (yielded ops a.tmps) = true := by rfl) (hN : oi.dst = N := by rfl) (hop : oi.op = .call { callee := .value (.func f), args := as_, argTypes := ts } := by rfl)
    (hargs : as_.map a.eval = args := by (try simp only [List.map_toArray, List.map_cons, List.map_nil]); first | done | rfl | (simp only [List.length_drop, List.length_take]; rfl)) : if Region.wanted oi (yielded ops a.tmps) = true then Oper.wp P oi a w K Q else K (a.put N undef) w :=
  goes_ hf hname hb args hw hN hop hargs h
theorem blkc4 {w : World} {g : Nat} {t : TypeId} {a0 a1 a2 a3 : Value} (h : w.heap[g]? = some (.cells #[a0, a1, a2, a3] t (0, 0))) : w.cell? ⟨g, 0, none⟩ = some a0 ∧ w.cell? ⟨g, 1, none⟩ = some a1 ∧ w.cell? ⟨g, 2, none⟩ = some a2 ∧ w.cell? ⟨g, 3, none⟩ = some a3 ∧ w.frozen? ⟨g, 0, none⟩ = false ∧ w.frozen? ⟨g, 1, none⟩ = false ∧ w.frozen? ⟨g, 2, none⟩ = false ∧ w.frozen? ⟨g, 3, none⟩ = false := ⟨blk_cell h 0, blk_cell h 1, blk_cell h 2, blk_cell h 3, blk_frozen h 0, blk_frozen h 1, blk_frozen h 2, blk_frozen h 3⟩
theorem blkc14 {w : World} {g : Nat} {t : TypeId} {a0 a1 a2 a3 a4 a5 a6 a7 a8 a9 a10 a11 a12 a13 : Value} (h : w.heap[g]? = some (.cells #[a0, a1, a2, a3, a4, a5, a6, a7, a8, a9, a10, a11, a12, a13] t (0, 0))) : w.cell? ⟨g, 0, none⟩ = some a0 ∧ w.cell? ⟨g, 1, none⟩ = some a1 ∧ w.cell? ⟨g, 2, none⟩ = some a2 ∧ w.cell? ⟨g, 3, none⟩ = some a3 ∧ w.cell? ⟨g, 4, none⟩ = some a4 ∧ w.cell? ⟨g, 5, none⟩ = some a5 ∧ w.cell? ⟨g, 6, none⟩ = some a6 ∧ w.cell? ⟨g, 7, none⟩ = some a7 ∧ w.cell? ⟨g, 8, none⟩ = some a8 ∧ w.cell? ⟨g, 9, none⟩ = some a9 ∧ w.cell? ⟨g, 10, none⟩ = some a10 ∧ w.cell? ⟨g, 11, none⟩ = some a11 ∧ w.cell? ⟨g, 12, none⟩ = some a12 ∧ w.cell? ⟨g, 13, none⟩ = some a13 ∧ w.frozen? ⟨g, 0, none⟩ = false ∧ w.frozen? ⟨g, 1, none⟩ = false ∧ w.frozen? ⟨g, 2, none⟩ = false ∧ w.frozen? ⟨g, 3, none⟩ = false ∧ w.frozen? ⟨g, 4, none⟩ = false ∧ w.frozen? ⟨g, 5, none⟩ = false ∧ w.frozen? ⟨g, 6, none⟩ = false ∧ w.frozen? ⟨g, 7, none⟩ = false ∧ w.frozen? ⟨g, 8, none⟩ = false ∧ w.frozen? ⟨g, 9, none⟩ = false ∧ w.frozen? ⟨g, 10, none⟩ = false ∧ w.frozen? ⟨g, 11, none⟩ = false ∧ w.frozen? ⟨g, 12, none⟩ = false ∧ w.frozen? ⟨g, 13, none⟩ = false := ⟨blk_cell h 0, blk_cell h 1, blk_cell h 2, blk_cell h 3, blk_cell h 4, blk_cell h 5, blk_cell h 6, blk_cell h 7, blk_cell h 8, blk_cell h 9, blk_cell h 10, blk_cell h 11, blk_cell h 12, blk_cell h 13, blk_frozen h 0, blk_frozen h 1, blk_frozen h 2, blk_frozen h 3, blk_frozen h 4, blk_frozen h 5, blk_frozen h 6, blk_frozen h 7, blk_frozen h 8, blk_frozen h 9, blk_frozen h 10, blk_frozen h 11, blk_frozen h 12, blk_frozen h 13⟩
theorem ta0_ {P : Program} {ops : Array Oper} {Q : Exit → Act → World → Prop} {md : Region.Mode} {S : World → Prop} {ds : List Nat} (i : Nat) (N : Option Tmp) {oi : Oper} {v : Value} {fuel : Nat} {l : Array Bool} {a : Act} {w : World} (l' : Array Bool) {T : Bool × List (List Nat × List Nat)} {B : List Nat} (hT : rtab md ops = T) (hB : waitsOk T.2 B = true) (hS : S w) {a' : Act}
    (h : wpAnyLast P md ops Q S ds fuel l' a' w) (hi : ops[i]? = some oi := by rfl) (hN : oi.dst = N := by rfl) (hc : takeW T B ds l.toList l'.toList i = true := by kernel_rfl)
    (hQ : ∀ c a w, Q (.panic c) (a.put oi.dst v) w → Q (.panic c) a w := by exact fun _ _ _ h => h) (hy : YieldsIf P ops S oi v a := by exact Or.inl ⟨by rfl, by rintro w' ⟨s0, s1, s2, s3, s4, s5, s6, s7, s8, s9, s10, s11, s12, s13, s14, s15, s16, s17, s18, s19, s20, s21, s22, s23, s24, s25, s26, s27, s28, s29, s30, s31, s32, s33, s34, s35, s36, s37, s38, s39, s40, s41, s42⟩; go_simp; with_reducible rfl⟩) (ha : a.put N v = a' := by simp only [Act.put, List.setIfInBounds_toArray, List.set_cons_zero, List.set_cons_succ, i64_w, i32_w]; rfl) :
    wpAnyLast P md ops Q S ds (fuel + 1) l a w := take_ l' hi hN (take_ofW hT hB hc) hQ hy hS ha h
theorem ta1_ {P : Program} {ops : Array Oper} {Q : Exit → Act → World → Prop} {md : Region.Mode} {S : World → Prop} {ds : List Nat} (i : Nat) (N : Option Tmp) {oi : Oper} {v : Value} {fuel : Nat} {l : Array Bool} {a : Act} {w : World} (l' : Array Bool) {T : Bool × List (List Nat × List Nat)} {B : List Nat} (hT : rtab md ops = T) (hB : waitsOk T.2 B = true) (hS : S w) {a' : Act}
    (h : wpAnyLast P md ops Q S ds fuel l' a' w) (hi : ops[i]? = some oi := by rfl) (hN : oi.dst = N := by rfl) (hc : takeW T B ds l.toList l'.toList i = true := by kernel_rfl)
    (hQ : ∀ c a w, Q (.panic c) (a.put oi.dst v) w → Q (.panic c) a w := by exact fun _ _ _ h => h) (hy : YieldsIf P ops S oi v a := by exact Or.inl ⟨by rfl, by rintro w' ⟨s0, s1, s2, s3, s4, s5, s6, s7, s8, s9, s10, s11, s12, s13, s14⟩; go_simp; with_reducible rfl⟩) (ha : a.put N v = a' := by simp only [Act.put, List.setIfInBounds_toArray, List.set_cons_zero, List.set_cons_succ, i64_w, i32_w]; rfl) :
    wpAnyLast P md ops Q S ds (fuel + 1) l a w := take_ l' hi hN (take_ofW hT hB hc) hQ hy hS ha h
theorem ta2_ {P : Program} {ops : Array Oper} {Q : Exit → Act → World → Prop} {md : Region.Mode} {S : World → Prop} {ds : List Nat} (i : Nat) (N : Option Tmp) {oi : Oper} {v : Value} {fuel : Nat} {l : Array Bool} {a : Act} {w : World} (l' : Array Bool) {T : Bool × List (List Nat × List Nat)} {B : List Nat} (hT : rtab md ops = T) (hB : waitsOk T.2 B = true) (hS : S w) {a' : Act}
    (h : wpAnyLast P md ops Q S ds fuel l' a' w) (hi : ops[i]? = some oi := by rfl) (hN : oi.dst = N := by rfl) (hc : takeW T B ds l.toList l'.toList i = true := by kernel_rfl)
    (hQ : ∀ c a w, Q (.panic c) (a.put oi.dst v) w → Q (.panic c) a w := by exact fun _ _ _ h => h) (hy : YieldsIf P ops S oi v a := by exact Or.inl ⟨by rfl, by rintro w' ⟨s0, s1, s2, s3, s4, s5, s6, s7, s8, s9, s10, s11, s12, s13, s14, s15, s16, s17, s18, s19, s20, s21, s22, s23, s24, s25, s26, s27, s28⟩; go_simp; with_reducible rfl⟩) (ha : a.put N v = a' := by simp only [Act.put, List.setIfInBounds_toArray, List.set_cons_zero, List.set_cons_succ, i64_w, i32_w]; rfl) :
    wpAnyLast P md ops Q S ds (fuel + 1) l a w := take_ l' hi hN (take_ofW hT hB hc) hQ hy hS ha h
theorem ta3_ {P : Program} {ops : Array Oper} {Q : Exit → Act → World → Prop} {md : Region.Mode} {S : World → Prop} {ds : List Nat} (i : Nat) (N : Option Tmp) {oi : Oper} {v : Value} {fuel : Nat} {l : Array Bool} {a : Act} {w : World} (l' : Array Bool) {T : Bool × List (List Nat × List Nat)} {B : List Nat} (hT : rtab md ops = T) (hB : waitsOk T.2 B = true) (hS : S w) {a' : Act}
    (h : wpAnyLast P md ops Q S ds fuel l' a' w) (hi : ops[i]? = some oi := by rfl) (hN : oi.dst = N := by rfl) (hc : takeW T B ds l.toList l'.toList i = true := by kernel_rfl)
    (hQ : ∀ c a w, Q (.panic c) (a.put oi.dst v) w → Q (.panic c) a w := by exact fun _ _ _ h => h) (hy : YieldsIf P ops S oi v a := by exact Or.inl ⟨by rfl, by rintro w' ⟨s0, s1, s2, s3, s4, s5, s6, s7, s8, s9, s10, s11, s12, s13⟩; go_simp; with_reducible rfl⟩) (ha : a.put N v = a' := by simp only [Act.put, List.setIfInBounds_toArray, List.set_cons_zero, List.set_cons_succ, i64_w, i32_w]; rfl) :
    wpAnyLast P md ops Q S ds (fuel + 1) l a w := take_ l' hi hN (take_ofW hT hB hc) hQ hy hS ha h
theorem ta4_ {P : Program} {ops : Array Oper} {Q : Exit → Act → World → Prop} {md : Region.Mode} {S : World → Prop} {ds : List Nat} (i : Nat) (N : Option Tmp) {oi : Oper} {v : Value} {fuel : Nat} {l : Array Bool} {a : Act} {w : World} (l' : Array Bool) {T : Bool × List (List Nat × List Nat)} {B : List Nat} (hT : rtab md ops = T) (hB : waitsOk T.2 B = true) (hS : S w) {a' : Act}
    (h : wpAnyLast P md ops Q S ds fuel l' a' w) (hi : ops[i]? = some oi := by rfl) (hN : oi.dst = N := by rfl) (hc : takeW T B ds l.toList l'.toList i = true := by kernel_rfl)
    (hQ : ∀ c a w, Q (.panic c) (a.put oi.dst v) w → Q (.panic c) a w := by exact fun _ _ _ h => h) (hy : YieldsIf P ops S oi v a := by exact Or.inl ⟨by rfl, by rintro w' ⟨s0, s1, s2, s3, s4, s5, s6, s7⟩; go_simp; with_reducible rfl⟩) (ha : a.put N v = a' := by simp only [Act.put, List.setIfInBounds_toArray, List.set_cons_zero, List.set_cons_succ, i64_w, i32_w]; rfl) :
    wpAnyLast P md ops Q S ds (fuel + 1) l a w := take_ l' hi hN (take_ofW hT hB hc) hQ hy hS ha h
theorem ta5_ {P : Program} {ops : Array Oper} {Q : Exit → Act → World → Prop} {md : Region.Mode} {S : World → Prop} {ds : List Nat} (i : Nat) (N : Option Tmp) {oi : Oper} {v : Value} {fuel : Nat} {l : Array Bool} {a : Act} {w : World} (l' : Array Bool) {T : Bool × List (List Nat × List Nat)} {B : List Nat} (hT : rtab md ops = T) (hB : waitsOk T.2 B = true) (hS : S w) {a' : Act}
    (h : wpAnyLast P md ops Q S ds fuel l' a' w) (hi : ops[i]? = some oi := by rfl) (hN : oi.dst = N := by rfl) (hc : takeW T B ds l.toList l'.toList i = true := by kernel_rfl)
    (hQ : ∀ c a w, Q (.panic c) (a.put oi.dst v) w → Q (.panic c) a w := by exact fun _ _ _ h => h) (hy : YieldsIf P ops S oi v a := by exact Or.inl ⟨by rfl, by rintro w' ⟨s0, s1, s2, s3, s4, s5, s6, s7, s8, s9, s10, s11, s12, s13, s14, s15, s16, s17, s18, s19, s20, s21, s22, s23, s24, s25, s26, s27⟩; go_simp; with_reducible rfl⟩) (ha : a.put N v = a' := by simp only [Act.put, List.setIfInBounds_toArray, List.set_cons_zero, List.set_cons_succ, i64_w, i32_w]; rfl) :
    wpAnyLast P md ops Q S ds (fuel + 1) l a w := take_ l' hi hN (take_ofW hT hB hc) hQ hy hS ha h
theorem au0 {P : Prop} (h : P := by first | exact HG.out | (refine HG.out.drawn ?_; (repeat (first | exact Drawn0.refl _ | apply Drawn0.step)); done) | (refine HG.out.below ?_; (repeat (first | (with_reducible first | exact HB.out | apply below_alloc | apply pw_below_drewN | apply below_drew1 | refine below_set ?_ (by first | assumption | exact Aside0.out (by assumption))) | exact HB.out)); done)) : P := h
theorem au1 {P : Prop} (h : P := by (with_reducible repeat (first | apply Kd.S_alloc | apply Kd.S_drewN | apply Kd.S_drew)); exact (Kd.S_mono (Kd.S_far (p := ⟨gb212, 2, none⟩) (Kd.S_types HO215.out BK212.out (by decide)) (fun _ hk => hk.2) (.slice Ao14 t213.length co14)) (fun _ h_ => h_.1))) : P := h
theorem au2 {P : Prop} (h : P := by (with_reducible repeat (first | apply Kd.R_alloc | apply Kd.R_drewN | apply Kd.R_drew)); exact (Kd.R_mono (Kd.R_far (p := ⟨gb340, 0, none⟩) (Kd.R_types HO339.out BK340.out (by decide)) (fun _ hk => hk.2) (.slice Ao23 t337.length co23)) (fun _ h_ => h_.1))) : P := h
theorem au3 {P : Prop} (h : P := by (with_reducible repeat (first | apply Kd.R_alloc | apply Kd.R_drewN | apply Kd.R_drew)); exact (Kd.R_mono (Kd.R_far (p := ⟨gb340, 0, none⟩) (Kd.R_types HO335.out BK340.out (by decide)) (fun _ hk => hk.2) (.slice Ao23 t337.length co23)) (fun _ h_ => h_.1))) : P := h
theorem au4 {P : Prop} (h : P := by repeat (first | (with_reducible first | exact HB.out | apply below_alloc | apply pw_below_drewN | apply below_drew1 | refine below_set ?_ GE190.out | refine below_set ?_ GE191.out | refine below_set ?_ GE192.out) | exact HB.out)) : P := h
theorem au5 {P : Prop} (h : P := by repeat (first | (with_reducible first | exact HB.out | apply below_alloc | apply pw_below_drewN | apply below_drew1 | refine below_set ?_ GE210.out | refine below_set ?_ GE211.out | refine below_set ?_ GE212.out) | exact HB.out)) : P := h
theorem au6 {P : Prop} (h : P := by repeat (first | (with_reducible first | exact HB.out | apply below_alloc | apply pw_below_drewN | apply below_drew1 | refine below_set ?_ GE246.out | refine below_set ?_ GE247.out | refine below_set ?_ GE248.out) | exact HB.out)) : P := h
theorem au7 {P : Prop} (h : P := by (try simp only [List.map_toArray, List.map_cons, List.map_nil]); first | done | (rw [show t353.length = t341.length from (Kd.R_reads' HO_9.out).1.symm] <;> rfl) | rfl | (simp only [List.length_drop, List.length_take]; rfl)) : P := h
theorem au8 {P : Prop} (h : P := by repeat (first | (with_reducible first | exact HB.out | apply below_alloc | apply pw_below_drewN | apply below_drew1 | refine below_set ?_ GE190.out | refine below_set ?_ GE191.out) | exact HB.out)) : P := h
theorem au9 {P : Prop} (h : P := by repeat (first | (with_reducible first | exact HB.out | apply below_alloc | apply pw_below_drewN | apply below_drew1 | refine below_set ?_ GE207.out | refine below_set ?_ GE208.out) | exact HB.out)) : P := h
theorem au10 {P : Prop} (h : P := by repeat (first | (with_reducible first | exact HB.out | apply below_alloc | apply pw_below_drewN | apply below_drew1 | refine below_set ?_ GE210.out | refine below_set ?_ GE211.out) | exact HB.out)) : P := h
theorem au11 {P : Prop} (h : P := by repeat (first | (with_reducible first | exact HB.out | apply below_alloc | apply pw_below_drewN | apply below_drew1 | refine below_set ?_ GE246.out | refine below_set ?_ GE247.out) | exact HB.out)) : P := h
theorem au12 {P : Prop} (h : P := by repeat (first | (with_reducible first | exact HB.out | apply below_alloc | apply pw_below_drewN | apply below_drew1 | refine below_set ?_ GE284.out | refine below_set ?_ GE286.out) | exact HB.out)) : P := h
theorem au13 {P : Prop} (h : P := by repeat (first | (with_reducible first | exact HB.out | apply below_alloc | apply pw_below_drewN | apply below_drew1 | refine below_set ?_ GE289.out | refine below_set ?_ GE296.out) | exact HB.out)) : P := h
theorem au14 {P : Prop} (h : P := by repeat (first | (with_reducible first | exact HB.out | apply below_alloc | apply pw_below_drewN | apply below_drew1 | refine below_set ?_ GE310.out | refine below_set ?_ GE311.out) | exact HB.out)) : P := h
theorem au15 {P : Prop} (h : P := by repeat (first | (with_reducible first | exact HB.out | apply below_alloc | apply pw_below_drewN | apply below_drew1 | refine below_set ?_ GE328.out | refine below_set ?_ GE340.out) | exact HB.out)) : P := h
theorem au16 {P : Prop} (h : P := by repeat (first | (with_reducible first | exact HB.out | apply below_alloc | apply pw_below_drewN | apply below_drew1 | refine below_set ?_ GE106.out) | exact HB.out)) : P := h
theorem au17 {P : Prop} (h : P := by repeat (first | (with_reducible first | exact HB.out | apply below_alloc | apply pw_below_drewN | apply below_drew1 | refine below_set ?_ GE111.out) | exact HB.out)) : P := h
theorem au18 {P : Prop} (h : P := by repeat (first | (with_reducible first | exact HB.out | apply below_alloc | apply pw_below_drewN | apply below_drew1 | refine below_set ?_ GE141.out) | exact HB.out)) : P := h
theorem au19 {P : Prop} (h : P := by repeat (first | (with_reducible first | exact HB.out | apply below_alloc | apply pw_below_drewN | apply below_drew1 | refine below_set ?_ GE157.out) | exact HB.out)) : P := h
theorem au20 {P : Prop} (h : P := by repeat (first | (with_reducible first | exact HB.out | apply below_alloc | apply pw_below_drewN | apply below_drew1 | refine below_set ?_ GE169.out) | exact HB.out)) : P := h
theorem au21 {P : Prop} (h : P := by repeat (first | (with_reducible first | exact HB.out | apply below_alloc | apply pw_below_drewN | apply below_drew1 | refine below_set ?_ GE174.out) | exact HB.out)) : P := h
theorem au22 {P : Prop} (h : P := by repeat (first | (with_reducible first | exact HB.out | apply below_alloc | apply pw_below_drewN | apply below_drew1 | refine below_set ?_ GE190.out) | exact HB.out)) : P := h
theorem au23 {P : Prop} (h : P := by repeat (first | (with_reducible first | exact HB.out | apply below_alloc | apply pw_below_drewN | apply below_drew1 | refine below_set ?_ GE207.out) | exact HB.out)) : P := h
theorem au24 {P : Prop} (h : P := by repeat (first | (with_reducible first | exact HB.out | apply below_alloc | apply pw_below_drewN | apply below_drew1 | refine below_set ?_ GE210.out) | exact HB.out)) : P := h
theorem au25 {P : Prop} (h : P := by repeat (first | (with_reducible first | exact HB.out | apply below_alloc | apply pw_below_drewN | apply below_drew1 | refine below_set ?_ GE246.out) | exact HB.out)) : P := h
theorem au26 {P : Prop} (h : P := by repeat (first | (with_reducible first | exact HB.out | apply below_alloc | apply pw_below_drewN | apply below_drew1 | refine below_set ?_ GE263.out) | exact HB.out)) : P := h
theorem au27 {P : Prop} (h : P := by repeat (first | (with_reducible first | exact HB.out | apply below_alloc | apply pw_below_drewN | apply below_drew1 | refine below_set ?_ GE272.out) | exact HB.out)) : P := h
theorem au28 {P : Prop} (h : P := by repeat (first | (with_reducible first | exact HB.out | apply below_alloc | apply pw_below_drewN | apply below_drew1 | refine below_set ?_ GE284.out) | exact HB.out)) : P := h
theorem au29 {P : Prop} (h : P := by repeat (first | (with_reducible first | exact HB.out | apply below_alloc | apply pw_below_drewN | apply below_drew1 | refine below_set ?_ GE289.out) | exact HB.out)) : P := h
theorem au30 {P : Prop} (h : P := by repeat (first | (with_reducible first | exact HB.out | apply below_alloc | apply pw_below_drewN | apply below_drew1 | refine below_set ?_ GE302.out) | exact HB.out)) : P := h
theorem au31 {P : Prop} (h : P := by repeat (first | (with_reducible first | exact HB.out | apply below_alloc | apply pw_below_drewN | apply below_drew1 | refine below_set ?_ GE308.out) | exact HB.out)) : P := h
theorem au32 {P : Prop} (h : P := by repeat (first | (with_reducible first | exact HB.out | apply below_alloc | apply pw_below_drewN | apply below_drew1 | refine below_set ?_ GE310.out) | exact HB.out)) : P := h
theorem au33 {P : Prop} (h : P := by repeat (first | (with_reducible first | exact HB.out | apply below_alloc | apply pw_below_drewN | apply below_drew1 | refine below_set ?_ GE318.out) | exact HB.out)) : P := h
theorem au34 {P : Prop} (h : P := by repeat (first | (with_reducible first | exact HB.out | apply below_alloc | apply pw_below_drewN | apply below_drew1 | refine below_set ?_ GE328.out) | exact HB.out)) : P := h
theorem au35 {P : Prop} (h : P := by (try simp only [List.map_toArray, List.map_cons, List.map_nil]); first | done | rfl | (simp only [List.length_drop, List.length_take]; rfl)) : P := h
theorem au36 {P : Prop} (h : P := by repeat (first | (with_reducible first | exact HB.out | apply below_alloc | apply pw_below_drewN | apply below_drew1) | exact HB.out)) : P := h
theorem au37 {P : Prop} (h : P := by repeat (first | (with_reducible first | exact HK.out | apply Kept.alloc | apply Kept.drewN | apply Kept.drew) | exact HK.out)) : P := h
theorem au38 {P : Prop} (h : P := by (with_reducible repeat (first | refine blk_drewN ?_ _ | refine blk_drew ?_ | refine blk_alloc ?_ _)); exact BK106.out) : P := h
theorem au39 {P : Prop} (h : P := by (with_reducible repeat (first | refine blk_drewN ?_ _ | refine blk_drew ?_ | refine blk_alloc ?_ _)); exact BK111.out) : P := h
theorem au40 {P : Prop} (h : P := by (with_reducible repeat (first | refine blk_drewN ?_ _ | refine blk_drew ?_ | refine blk_alloc ?_ _)); exact BK141.out) : P := h
theorem au41 {P : Prop} (h : P := by (with_reducible repeat (first | refine blk_drewN ?_ _ | refine blk_drew ?_ | refine blk_alloc ?_ _)); exact BK157.out) : P := h
theorem au42 {P : Prop} (h : P := by (with_reducible repeat (first | refine blk_drewN ?_ _ | refine blk_drew ?_ | refine blk_alloc ?_ _)); exact BK169.out) : P := h
theorem au43 {P : Prop} (h : P := by (with_reducible repeat (first | refine blk_drewN ?_ _ | refine blk_drew ?_ | refine blk_alloc ?_ _)); exact BK174.out) : P := h
theorem au44 {P : Prop} (h : P := by (with_reducible repeat (first | refine blk_drewN ?_ _ | refine blk_drew ?_ | refine blk_alloc ?_ _)); exact BK190.out) : P := h
theorem au45 {P : Prop} (h : P := by (with_reducible repeat (first | refine blk_drewN ?_ _ | refine blk_drew ?_ | refine blk_alloc ?_ _)); exact BK191.out) : P := h
theorem au46 {P : Prop} (h : P := by (with_reducible repeat (first | refine blk_drewN ?_ _ | refine blk_drew ?_ | refine blk_alloc ?_ _)); exact BK207.out) : P := h
theorem au47 {P : Prop} (h : P := by (with_reducible repeat (first | refine blk_drewN ?_ _ | refine blk_drew ?_ | refine blk_alloc ?_ _)); exact BK208.out) : P := h
theorem au48 {P : Prop} (h : P := by (with_reducible repeat (first | refine blk_drewN ?_ _ | refine blk_drew ?_ | refine blk_alloc ?_ _)); exact BK210.out) : P := h
theorem au49 {P : Prop} (h : P := by (with_reducible repeat (first | refine blk_drewN ?_ _ | refine blk_drew ?_ | refine blk_alloc ?_ _)); exact BK211.out) : P := h
theorem au50 {P : Prop} (h : P := by (with_reducible repeat (first | refine blk_drewN ?_ _ | refine blk_drew ?_ | refine blk_alloc ?_ _)); exact BK246.out) : P := h
theorem au51 {P : Prop} (h : P := by (with_reducible repeat (first | refine blk_drewN ?_ _ | refine blk_drew ?_ | refine blk_alloc ?_ _)); exact BK247.out) : P := h
theorem au52 {P : Prop} (h : P := by (with_reducible repeat (first | refine blk_drewN ?_ _ | refine blk_drew ?_ | refine blk_alloc ?_ _)); exact BK263.out) : P := h
theorem au53 {P : Prop} (h : P := by (with_reducible repeat (first | refine blk_drewN ?_ _ | refine blk_drew ?_ | refine blk_alloc ?_ _)); exact BK272.out) : P := h
theorem au54 {P : Prop} (h : P := by (with_reducible repeat (first | refine blk_drewN ?_ _ | refine blk_drew ?_ | refine blk_alloc ?_ _)); exact BK284.out) : P := h
theorem au55 {P : Prop} (h : P := by (with_reducible repeat (first | refine blk_drewN ?_ _ | refine blk_drew ?_ | refine blk_alloc ?_ _)); exact BK286.out) : P := h
theorem au56 {P : Prop} (h : P := by (with_reducible repeat (first | refine blk_drewN ?_ _ | refine blk_drew ?_ | refine blk_alloc ?_ _)); exact BK289.out) : P := h
theorem au57 {P : Prop} (h : P := by (with_reducible repeat (first | refine blk_drewN ?_ _ | refine blk_drew ?_ | refine blk_alloc ?_ _)); exact BK302.out) : P := h
theorem au58 {P : Prop} (h : P := by (with_reducible repeat (first | refine blk_drewN ?_ _ | refine blk_drew ?_ | refine blk_alloc ?_ _)); exact BK308.out) : P := h
theorem au59 {P : Prop} (h : P := by (with_reducible repeat (first | refine blk_drewN ?_ _ | refine blk_drew ?_ | refine blk_alloc ?_ _)); exact BK310.out) : P := h
theorem au60 {P : Prop} (h : P := by (with_reducible repeat (first | refine blk_drewN ?_ _ | refine blk_drew ?_ | refine blk_alloc ?_ _)); exact BK311.out) : P := h
theorem au61 {P : Prop} (h : P := by (with_reducible repeat (first | refine blk_drewN ?_ _ | refine blk_drew ?_ | refine blk_alloc ?_ _)); exact BK318.out) : P := h
theorem au62 {P : Prop} (h : P := by (with_reducible repeat (first | refine blk_drewN ?_ _ | refine blk_drew ?_ | refine blk_alloc ?_ _)); exact BK328.out) : P := h
theorem au63 {P : Prop} (h : P := by (with_reducible repeat (first | refine blk_drewN ?_ _ | refine blk_drew ?_ | refine blk_alloc ?_ _)); exact BK340.out) : P := h
theorem au64 {P : Prop} (h : P := by (with_reducible repeat (first | apply Kd.R_alloc | apply Kd.R_drewN | apply Kd.R_drew)); exact HO_341000.out) : P := h
theorem au65 {P : Prop} (h : P := by (with_reducible repeat (first | apply Kd.R_alloc | apply Kd.R_drewN | apply Kd.R_drew)); exact HO332.out) : P := h
theorem au66 {P : Prop} (h : P := by (with_reducible repeat (first | apply Kd.R_alloc | apply Kd.R_drewN | apply Kd.R_drew)); exact HO335.out) : P := h
theorem au67 {P : Prop} (h : P := by (with_reducible repeat (first | apply Kd.R_alloc | apply Kd.R_drewN | apply Kd.R_drew)); exact HO_5.out) : P := h
theorem au68 {P : Prop} (h : P := by (with_reducible repeat (first | apply Kd.R_alloc | apply Kd.R_drewN | apply Kd.R_drew)); exact HO_6.out) : P := h
theorem au69 {P : Prop} (h : P := by (with_reducible repeat (first | apply Kd.R_alloc | apply Kd.R_drewN | apply Kd.R_drew)); exact HO_9.out) : P := h
theorem au71 {P : Prop} (h : P := by first | (with_reducible assumption) | assumption) : P := h
theorem au72 {P : Prop} (h : P := by first | rfl | (simp; done) | (simp [*]; done)) : P := h
theorem ax0 {P : Prop} (h : P := by exact ⟨by first | rfl | (simp; done) | (simp [*]; done), by repeat (first | exact Drawn0.refl _ | apply Drawn0.step)⟩) : P := h
theorem ax1 {P : Prop} (h : P := by exact ⟨by first | rfl | (simp [errW_none, errW_some] <;> rfl) | (simp [*, errW_none, errW_some] <;> rfl), by repeat (first | (with_reducible first | exact HB.out | apply below_alloc | apply pw_below_drewN | apply below_drew1) | exact HB.out)⟩) : P := h
theorem ax2 {P : Prop} (h : P := by exact ⟨by first | rfl | (simp [errW_none, errW_some] <;> rfl) | (simp [*, errW_none, errW_some] <;> rfl), by repeat (first | (with_reducible first | exact HB.out | apply below_alloc | apply pw_below_drewN | apply below_drew1 | refine below_set ?_ GE106.out) | exact HB.out)⟩) : P := h
theorem ax3 {P : Prop} (h : P := by exact ⟨by first | rfl | (simp [errW_none, errW_some] <;> rfl) | (simp [*, errW_none, errW_some] <;> rfl), by repeat (first | (with_reducible first | exact HB.out | apply below_alloc | apply pw_below_drewN | apply below_drew1 | refine below_set ?_ GE111.out) | exact HB.out)⟩) : P := h
theorem ax4 {P : Prop} (h : P := by exact ⟨by first | rfl | (simp; done) | (simp only [← hji22] <;> (first | rfl | simp)) | (simp [*]; done), by repeat (first | exact Drawn0.refl _ | apply Drawn0.step)⟩) : P := h
theorem ax5 {P : Prop} (h : P := by exact ⟨by first | rfl | (simp [errW_none, errW_some] <;> rfl) | (simp [*, errW_none, errW_some] <;> rfl), by repeat (first | (with_reducible first | exact HB.out | apply below_alloc | apply pw_below_drewN | apply below_drew1 | refine below_set ?_ GE141.out) | exact HB.out)⟩) : P := h
theorem ax6 {P : Prop} (h : P := by exact ⟨by first | rfl | (simp [errW_none, errW_some] <;> rfl) | (simp [*, errW_none, errW_some] <;> rfl), by repeat (first | (with_reducible first | exact HB.out | apply below_alloc | apply pw_below_drewN | apply below_drew1 | refine below_set ?_ GE152.out) | exact HB.out)⟩) : P := h
theorem ax7 {P : Prop} (h : P := by exact ⟨by first | rfl | (simp [errW_none, errW_some] <;> rfl) | (simp [*, errW_none, errW_some] <;> rfl), by repeat (first | (with_reducible first | exact HB.out | apply below_alloc | apply pw_below_drewN | apply below_drew1 | refine below_set ?_ GE169.out) | exact HB.out)⟩) : P := h
theorem ax8 {P : Prop} (h : P := by exact ⟨by first | rfl | (simp [errW_none, errW_some] <;> rfl) | (simp [*, errW_none, errW_some] <;> rfl), by repeat (first | (with_reducible first | exact HB.out | apply below_alloc | apply pw_below_drewN | apply below_drew1 | refine below_set ?_ GE261.out) | exact HB.out)⟩) : P := h
theorem ax9 {P : Prop} (h : P := by exact ⟨by first | rfl | (simp [errW_none, errW_some] <;> rfl) | (simp [*, errW_none, errW_some] <;> rfl), by repeat (first | (with_reducible first | exact HB.out | apply below_alloc | apply pw_below_drewN | apply below_drew1 | refine below_set ?_ GE272.out) | exact HB.out)⟩) : P := h
theorem ax10 {P : Prop} (h : P := by exact ⟨by first | rfl | (simp [errW_none, errW_some] <;> rfl) | (simp [*, errW_none, errW_some] <;> rfl), by repeat (first | (with_reducible first | exact HB.out | apply below_alloc | apply pw_below_drewN | apply below_drew1 | refine below_set ?_ GE310.out | refine below_set ?_ GE311.out) | exact HB.out)⟩) : P := h
end Go.Proofs.YthhdodlpbpagfaaDoor.G

namespace Go.Proofs.YthhdodlpbpagfaaDoor.B
open Go.RowKit Go.Proofs.YthhdodlpbpagfaaDoorW.PrintWords Go.Proofs.YthhdodlpbpagfaaDoorW.PrintLast
set_option linter.unusedVariables false
set_option linter.unusedSimpArgs false
theorem w64 {x : Int} (h : -9223372036854775808 ≤ x) (h' : x ≤ 9223372036854775807) : wrap64 x = x := by unfold wrap64; omega
theorem ev_pos {α : Type} {c : Prop} [Decidable c] {g f : Nat → Option α} {r : α} (h : c) (e : Ev g r) : Ev (fun k => if c then g k else f k) r := Ev.congr (fun _ => if_pos h) e
theorem ev_neg {α : Type} {c : Prop} [Decidable c] {g f : Nat → Option α} {r : α} (h : ¬ c) (e : Ev f r) : Ev (fun k => if c then g k else f k) r := Ev.congr (fun _ => if_neg h) e
theorem ev_bind0 {α β : Type} {o : Option α} {f : Nat → α → Option β} {a : α} {r : β} (h : o = some a) (k : Ev (fun n => f n a) r) : Ev (fun n => o.bind (f n)) r := Ev.congr (fun _ => by rw [h]; rfl) k
theorem ev_eq {α : Type} {g : Nat → Option α} {a b : α} (h : Ev g a) (e : a = b) : Ev g b := e ▸ h
abbrev L (s : ByteArray) : List UInt8 := s.data.toList
def mkB (l : List UInt8) : ByteArray := ⟨l.toArray⟩
theorem L_mk (l : List UInt8) : L (mkB l) = l := by simp [mkB]
theorem mk_L (s : ByteArray) : mkB (L s) = s := by cases s; simp [mkB, L]
theorem L_inj {a b : ByteArray} (h : L a = L b) : a = b := by rw [← mk_L a, h, mk_L]
theorem L_iff {a b : ByteArray} : a = b ↔ L a = L b := ⟨fun h => by rw [h], L_inj⟩
theorem L_len (s : ByteArray) : (L s).length = s.size := (Lib.size_eq s).symm
theorem size_mk (l : List UInt8) : (mkB l).size = l.length := by rw [← L_len, L_mk]
theorem toList_L (s : ByteArray) : s.toList = L s := Lib.toList_data s
theorem L_extract (s : ByteArray) (a b : Nat) : L (s.extract a b) = ((L s).drop a).take (b - a) := Lib.extract_data s a b
theorem L_append (a b : ByteArray) : L (a ++ b) = L a ++ L b := by simp [L, ByteArray.data_append]
theorem size_append (a b : ByteArray) : (a ++ b).size = a.size + b.size := by rw [← L_len, L_append, List.length_append, L_len, L_len]
theorem bt_get (s : ByteArray) (i : Nat) (h : i < s.size) : bt s (i : Int) = (((L s)[i]'(by rw [L_len]; exact h)).toNat : Int) := by
  unfold bt
  simp only [Int.toNat_natCast, h, dif_pos]
  rfl
theorem size_pos_iff (s : ByteArray) : s.size = 0 ↔ L s = [] := by rw [← L_len, List.length_eq_zero_iff]
theorem u8_inj {a b : UInt8} (h : (a.toNat : Int) = (b.toNat : Int)) : a = b := UInt8.toNat_inj.1 (by omega)
theorem toList_eq_iff {a b : ByteArray} : a.toList = b.toList ↔ a = b := by rw [toList_L, toList_L, L_iff]
end Go.Proofs.YthhdodlpbpagfaaDoor.B

namespace Go.Proofs.YthhdodlpbpagfaaDoor.G
open Go.RowKit Go.Proofs.YthhdodlpbpagfaaDoorW.PrintWords Go.Proofs.YthhdodlpbpagfaaDoorW.PrintLast Go.Proofs.YthhdodlpbpagfaaDoor.B
set_option linter.unusedVariables false
set_option linter.unusedSimpArgs false
def SimV (v v' : Value) : Prop := v' = v ∨ (∃ a b, v = .string a ∧ v' = .string b) ∨ (∃ k a b, v = .int k a ∧ v' = .int k b) ∨ ∃ a b, v = .bool a ∧ v' = .bool b
def SimC (l l' : List Value) : Prop := l'.length = l.length ∧ ∀ (i : Nat) (v v' : Value), l[i]? = some v → l'[i]? = some v' → SimV v v'
def SimO (o o' : Option Obj) : Prop := o' = o ∨ ∃ (cs cs' : Array Value) (t : TypeId), o = some (.cells cs t (0, 0)) ∧ o' = some (.cells cs' t (0, 0)) ∧ SimC cs.toList cs'.toList
def Sim (P : Nat → Prop) (w w' : World) : Prop := w.heap.size ≤ w'.heap.size ∧ ∀ k, k < w.heap.size → SimO w.heap[k]? w'.heap[k]? ∧ (¬ P k → w'.heap[k]? = w.heap[k]?)
theorem SimV.trans {a b c : Value} (h : SimV a b) (h' : SimV b c) : SimV a c := by
  rcases h with rfl | ⟨x, y, rfl, rfl⟩ | ⟨k, x, y, rfl, rfl⟩ | ⟨x, y, rfl, rfl⟩
  · exact h'
  · rcases h' with rfl | ⟨p, q, e, rfl⟩ | ⟨k, p, q, e, rfl⟩ | ⟨p, q, e, rfl⟩
    · exact .inr (.inl ⟨_, _, rfl, rfl⟩)
    · exact .inr (.inl ⟨_, _, rfl, rfl⟩)
    · cases e
    · cases e
  · rcases h' with rfl | ⟨p, q, e, rfl⟩ | ⟨k', p, q, e, rfl⟩ | ⟨p, q, e, rfl⟩
    · exact .inr (.inr (.inl ⟨_, _, _, rfl, rfl⟩))
    · cases e
    · injection e with e1 e2
      subst e1
      exact .inr (.inr (.inl ⟨_, _, _, rfl, rfl⟩))
    · cases e
  · rcases h' with rfl | ⟨p, q, e, rfl⟩ | ⟨k', p, q, e, rfl⟩ | ⟨p, q, e, rfl⟩
    · exact .inr (.inr (.inr ⟨_, _, rfl, rfl⟩))
    · cases e
    · cases e
    · exact .inr (.inr (.inr ⟨_, _, rfl, rfl⟩))
theorem SimC.refl (l : List Value) : SimC l l := ⟨rfl, fun i v v' h h' => .inl (by rw [h] at h'; exact (Option.some.inj h').symm)⟩
theorem SimC.trans {a b c : List Value} (h : SimC a b) (h' : SimC b c) : SimC a c := by
  refine ⟨h'.1.trans h.1, fun i v v' hv hv' => ?_⟩
  have hi : i < b.length := by
    rw [h.1]
    exact (List.getElem?_eq_some_iff.1 hv).1
  exact (h.2 i v _ hv (List.getElem?_eq_getElem hi)).trans (h'.2 i _ v' (List.getElem?_eq_getElem hi) hv')
theorem SimC.take {a b : List Value} (h : SimC a b) (n : Nat) : SimC (a.take n) (b.take n) := by
  refine ⟨by rw [List.length_take, List.length_take, h.1], fun i v v' hv hv' => ?_⟩
  rw [List.getElem?_take] at hv hv'
  by_cases c : i < n
  · rw [if_pos c] at hv hv'; exact h.2 i v v' hv hv'
  · rw [if_neg c] at hv; cases hv
theorem SimC.drop {a b : List Value} (h : SimC a b) (n : Nat) : SimC (a.drop n) (b.drop n) := by
  refine ⟨by rw [List.length_drop, List.length_drop, h.1], fun i v v' hv hv' => ?_⟩
  rw [List.getElem?_drop] at hv hv'
  exact h.2 _ v v' hv hv'
theorem SimC.one {v : Value} {l : List Value} (h : SimC [v] l) : ∃ v', l = [v'] ∧ SimV v v' := by
  obtain ⟨hl, hv⟩ := h
  match l, hl with
  | [v'], _ => exact ⟨v', rfl, hv 0 v v' rfl rfl⟩
theorem SimO.trans {a b c : Option Obj} (h : SimO a b) (h' : SimO b c) : SimO a c := by
  rcases h with rfl | ⟨cs, cs', t, rfl, rfl, hc⟩
  · exact h'
  · rcases h' with rfl | ⟨ds, ds', t', e, rfl, hd⟩
    · exact .inr ⟨cs, cs', t, rfl, rfl, hc⟩
    · injection e with e
      injection e with e1 e2
      subst e1 e2
      exact .inr ⟨cs, ds', _, rfl, rfl, hc.trans hd⟩
theorem Sim.refl (P : Nat → Prop) (w : World) : Sim P w w := ⟨Nat.le_refl _, fun k _ => ⟨.inl rfl, fun _ => rfl⟩⟩
theorem Sim.trans {P : Nat → Prop} {a b c : World} (h : Sim P a b) (h' : Sim P b c) : Sim P a c :=
  ⟨Nat.le_trans h.1 h'.1, fun k hk => ⟨(h.2 k hk).1.trans (h'.2 k (Nat.lt_of_lt_of_le hk h.1)).1, fun hp => ((h'.2 k (Nat.lt_of_lt_of_le hk h.1)).2 hp).trans ((h.2 k hk).2 hp)⟩⟩
theorem Sim.mono {P Q : Nat → Prop} {a b : World} (h : Sim P a b) (hq : ∀ k, P k → Q k) : Sim Q a b := ⟨h.1, fun k hk => ⟨(h.2 k hk).1, fun hn => (h.2 k hk).2 (fun hp => hn (hq k hp))⟩⟩
theorem Sim.below {P : Nat → Prop} {a b c : World} (h : Sim P a b) (hb : Below b.heap.size b c) : Sim P a c :=
  h.trans ⟨hb.size, fun k hk => ⟨.inl (hb.block k hk), fun _ => hb.block k hk⟩⟩
theorem Sim.alloc {P : Nat → Prop} {a b : World} (h : Sim P a b) (o : Obj) : Sim P a (b.alloc o) := h.below (below_alloc (Below.refl _ _) o)
theorem Sim.drewN {P : Nat → Prop} {a b : World} (h : Sim P a b) (m : Nat) : Sim P a (b.drewN m) := h.below (pw_below_drewN (Below.refl _ _) m)
theorem Sim.drew {P : Nat → Prop} {a b : World} (h : Sim P a b) : Sim P a b.drew := h.below (below_drew1 (Below.refl _ _))
theorem Sim.kept {P : Nat → Prop} {a b : World} (h : Sim P a b) : Kept a b P := ⟨h.1, fun i hi hn => (h.2 i hi).2 hn⟩
theorem heap_set_row {w : World} {g j : Nat} {cs : Array Value} {t : TypeId} (hb : w.heap[g]? = some (.cells cs t (0, 0))) (u : Value) : (w.setCell ⟨g, j, none⟩ u).heap[g]? = some (.cells (cs.setIfInBounds j u) t (0, 0)) := by
  simp [World.setCell, Array.getElem?_modify, hb]
theorem Sim.store {P : Nat → Prop} {a b : World} {g j : Nat} {cs : Array Value} {t : TypeId} {old u : Value} (h : Sim P a b) (hP : P g) (hb : b.heap[g]? = some (.cells cs t (0, 0))) (hc : b.cell? ⟨g, j, none⟩ = some old) (hv : SimV old u) : Sim P a (b.setCell ⟨g, j, none⟩ u) := by
  refine h.trans ⟨by simp [World.setCell], fun k hk => ?_⟩
  by_cases e : k = g
  · subst e
    refine ⟨?_, fun hn => absurd hP hn⟩
    rw [heap_set_row hb, hb]
    refine .inr ⟨cs, _, t, rfl, rfl, by simp, fun i v v' hi hi' => ?_⟩
    rw [cell_of_row b k j cs t _ hb] at hc
    rw [Array.getElem?_toList] at hi hi'
    by_cases ei : i = j
    · subst ei
      rw [hc] at hi
      obtain rfl := Option.some.inj hi
      have hlt : i < cs.size := (Array.getElem?_eq_some_iff.1 hc).1
      rw [Array.getElem?_setIfInBounds_self_of_lt hlt] at hi'
      obtain rfl := Option.some.inj hi'
      exact hv
    · rw [Array.getElem?_setIfInBounds_ne (Ne.symm ei), hi] at hi'
      exact .inl (Option.some.inj hi').symm
  · have := Below.heap_setCell b ⟨g, j, none⟩ u k e
    exact ⟨.inl this, fun _ => this⟩
def SimK {α β : Type} (d : Kd α) (sh : α → β) : Prop := ∀ (P : Nat → Prop) (w w' : World) (base : Nat) (ok : Nat → Prop) (x : α) (cs cs' : List Value), Sim P w w' → d.M w base ok x cs → SimC cs cs' → True → ∃ x', d.M w' base ok x' cs' ∧ sh x' = sh x
theorem simK_string : SimK Kd.string (fun _ => ()) := by
  intro P w w' base ok x cs cs' _ h hc _
  obtain rfl : cs = [.string x] := h
  obtain ⟨v', rfl, hv⟩ := hc.one
  rcases hv with rfl | ⟨a, b, e, rfl⟩ | ⟨k, a, b, e, rfl⟩ | ⟨a, b, e, rfl⟩
  · exact ⟨x, rfl, rfl⟩
  · exact ⟨b, rfl, rfl⟩
  · cases e
  · cases e
theorem simK_int (q : IntKind) : SimK (Kd.int q) (fun _ => ()) := by
  intro P w w' base ok x cs cs' _ h hc _
  obtain rfl : cs = [.int q x] := h
  obtain ⟨v', rfl, hv⟩ := hc.one
  rcases hv with rfl | ⟨a, b, e, rfl⟩ | ⟨k, a, b, e, rfl⟩ | ⟨a, b, e, rfl⟩
  · exact ⟨x, rfl, rfl⟩
  · cases e
  · injection e with e1 e2
    subst e1
    exact ⟨b, rfl, rfl⟩
  · cases e
theorem simK_bool : SimK Kd.bool (fun _ => ()) := by
  intro P w w' base ok x cs cs' _ h hc _
  obtain rfl : cs = [.bool x] := h
  obtain ⟨v', rfl, hv⟩ := hc.one
  rcases hv with rfl | ⟨a, b, e, rfl⟩ | ⟨k, a, b, e, rfl⟩ | ⟨a, b, e, rfl⟩
  · exact ⟨x, rfl, rfl⟩
  · cases e
  · cases e
  · exact ⟨b, rfl, rfl⟩
theorem simK_pair {α β γ δ : Type} {a : Kd α} {b : Kd β} {f : α → γ} {g : β → δ} (ha : SimK a f) (hb : SimK b g) : SimK (Kd.pair a b) (fun x => (f x.1, g x.2)) := by
  intro P w w' base ok x cs cs' hs h hc ht
  obtain ⟨c0, c1, rfl, h0, h1⟩ := h
  have e0 : SimC c0 (cs'.take c0.length) := by have := hc.take c0.length; rwa [List.take_left] at this
  have e1 : SimC c1 (cs'.drop c0.length) := by have := hc.drop c0.length; rwa [List.drop_left] at this
  obtain ⟨y, hy, ey⟩ := ha P w w' base ok x.1 c0 _ hs h0 e0 ht
  obtain ⟨z, hz, ez⟩ := hb P w w' base ok x.2 c1 _ hs h1 e1 ht
  exact ⟨(y, z), ⟨_, _, (List.take_append_drop _ _).symm, hy, hz⟩, by show (f y, g z) = (f x.1, g x.2); rw [ey, ez]⟩
theorem simK_iso {α β γ : Type} {d : Kd α} {f : β → α} {sh : α → γ} (g : α → β) (hg : ∀ y, f (g y) = y) (h : SimK d sh) : SimK (Kd.iso d f) (fun x => sh (f x)) := by
  intro P w w' base ok x cs cs' hs hm hc ht
  obtain ⟨y, hy, ey⟩ := h P w w' base ok (f x) cs cs' hs hm hc ht
  exact ⟨g y, by show d.M w' base ok (f (g y)) cs'; rw [hg]; exact hy, by show sh (f (g y)) = _; rw [hg]; exact ey⟩
theorem R_sim {α β : Type} {d : Kd α} {sh : α → β} (hd : SimK d sh) {P : Nat → Prop} {w w' : World} {base e : Nat} {ok : Nat → Prop} {v : Value} {xs : List α} (h : d.R e w base ok v xs) (hs : Sim P w w') : ∃ xs', d.R e w' base ok v xs' ∧ xs'.map sh = xs.map sh := by
  obtain ⟨h0, inner, ho, hr⟩ := h
  rcases ho.2 with ⟨rfl, hn⟩ | ⟨g, cap, cur, rfl, hg, hh, r1, r2, r3, r4⟩
  · have hx : xs = [] := List.length_eq_zero_iff.1 hn
    subst hx
    have hi : inner = [] := List.length_eq_zero_iff.1 (by rw [ho.1]; simp)
    subst hi
    exact ⟨[], ⟨h0, [], ⟨by simp, .inl ⟨rfl, rfl⟩⟩, Reps.none _ _⟩, rfl⟩
  · have hlt : g < w.heap.size := by
      rcases Nat.lt_or_ge g w.heap.size with q | q
      · exact q
      · rw [Array.getElem?_eq_none q] at hh; cases hh
    obtain ⟨cur', hh', hC⟩ : ∃ cur' : Array Value, w'.heap[g]? = some (.cells cur' e (0, 0)) ∧ SimC cur.toList cur'.toList := by
      rcases (hs.2 g hlt).1 with q | ⟨cs, cs', t, q1, q2, q3⟩
      · exact ⟨cur, q.trans hh, SimC.refl _⟩
      · rw [hh] at q1
        injection q1 with q1
        injection q1 with e1 e2
        subst e1 e2
        exact ⟨cs', q2, q3⟩
    have hsz : cur'.size = cur.size := by have := hC.1; simpa using this
    have hI : SimC inner (cur'.toList.take (xs.length * d.sz)) := by rw [← r4]; exact hC.take _
    have hM : ∀ j (hj : j < xs.length), ∃ x', d.M w' base (fun k => ok k ∧ some k ≠ (Value.slice (some ⟨g, 0, none⟩) xs.length cap).ownBlock) x' (((cur'.toList.take (xs.length * d.sz)).drop (j * d.sz)).take d.sz) ∧ sh x' = sh xs[j] := fun j hj =>
      hd P w w' base _ _ _ _ hs (hr.2 j xs[j] (List.getElem?_eq_getElem hj)) ((hI.drop _).take _) trivial
    let F : Fin xs.length → α := fun j => Classical.choose (hM j.1 j.2)
    have hF : ∀ j : Fin xs.length, d.M w' base (fun k => ok k ∧ some k ≠ (Value.slice (some ⟨g, 0, none⟩) xs.length cap).ownBlock) (F j) (((cur'.toList.take (xs.length * d.sz)).drop (j.1 * d.sz)).take d.sz) ∧ sh (F j) = sh xs[j.1] := fun j => Classical.choose_spec (hM j.1 j.2)
    have hl : (List.ofFn F).length = xs.length := List.length_ofFn
    refine ⟨List.ofFn F, ⟨h0, cur'.toList.take (xs.length * d.sz), ⟨by rw [hl, hI.1, ho.1], .inr ⟨g, cap, cur', by rw [hl], hg, hh', by rw [hl]; exact r1, r2, by rw [hsz]; exact r3, by rw [hl]⟩⟩, by rw [hl, hI.1, ho.1], fun j p hp => ?_⟩, ?_⟩
    · have hj : j < xs.length := by have := (List.getElem?_eq_some_iff.1 hp).1; omega
      have e1 := (List.getElem?_eq_some_iff.1 hp).2
      rw [List.getElem_ofFn] at e1
      rw [← e1]
      exact (hF ⟨j, hj⟩).1
    · apply List.ext_getElem
      · rw [List.length_map, List.length_map, hl]
      · intro j h1 h2
        rw [List.getElem_map, List.getElem_map, List.getElem_ofFn]
        exact (hF ⟨j, by simpa using h2⟩).2
theorem simK_slice {α β : Type} {d : Kd α} {sh : α → β} (e : Nat) (hd : SimK d sh) : SimK (Kd.slice e d) (fun l => l.map sh) := by
  intro P w w' base ok x cs cs' hs h hc _
  obtain ⟨v, rfl, hR⟩ := h
  obtain ⟨v', rfl, hv⟩ := hc.one
  obtain ⟨A, c, rfl⟩ := Kd.R_slice hR
  obtain rfl : v' = .slice A x.length c := by
    rcases hv with q | ⟨a, b, q, _⟩ | ⟨k, a, b, q, _⟩ | ⟨a, b, q, _⟩
    · exact q
    · cases q
    · cases q
    · cases q
  obtain ⟨xs', h1, h2⟩ := R_sim hd hR hs
  exact ⟨xs', ⟨_, rfl, h1⟩, h2⟩
end Go.Proofs.YthhdodlpbpagfaaDoor.G

namespace Go.Proofs.YthhdodlpbpagfaaDoor.G
open Go.RowKit Go.Proofs.YthhdodlpbpagfaaDoorW.PrintWords Go.Proofs.YthhdodlpbpagfaaDoorW.PrintLast Go.Proofs.YthhdodlpbpagfaaDoorW.PrintMore
open Go.Proofs.YthhdodlpbpagfaaDoor.Gl Go.Proofs.YthhdodlpbpagfaaDoor.Ext
attribute [local go_sem] max2_int min2_int max_two min_two max_three min_three max_four min_four   -- for this text's walks alone
set_option linter.unusedVariables false
set_option linter.unusedSimpArgs false

/-! ### laws_eqStringS: function 8 -/
def laws_eqStringS.l0 : Nat → List ByteArray → List ByteArray → Int → Option (Bool)
 | 0, _, _, _ => none
 | k + 1, x0, x1, x5 => if x5 < (x0.length : Int) then (if 0 ≤ x5 then (if x5 < (x1.length : Int) then (if (rdOf ByteArray.empty x0 x5).toList = (rdOf ByteArray.empty x1 x5).toList then (laws_eqStringS.l0 k x0 x1 (wrap64 (x5 + 1))) else (some false)) else (none)) else (none)) else (some true)
def laws_eqStringS.f (k : Nat) (l0 : List ByteArray) (l1 : List ByteArray) : Option (Bool) := if (l0.length : Int) = (l1.length : Int) then (laws_eqStringS.l0 k l0 l1 0) else (some false)
theorem laws_eqStringS.mono_l : ∀ k, (∀ y0 y1 y2, LeO (laws_eqStringS.l0 k y0 y1 y2) (laws_eqStringS.l0 (k + 1) y0 y1 y2))
 | 0 => fun _ _ _ r h => by simp [laws_eqStringS.l0] at h
 | k + 1 => by
  have ih0 := laws_eqStringS.mono_l k
  ·
   intro y0 y1 y2
   unfold laws_eqStringS.l0
   repeat' first
   | (with_reducible exact ih0 _ _ _)
   | (with_reducible exact LeO.refl _)
   | (with_reducible exact LeO.none _)
   | (with_reducible refine LeO.ite ?_ ?_)
   | (with_reducible refine LeO.bind ?_ (fun _ => ?_))
   | exact ih0 _ _ _
   | exact LeO.none _
   | refine LeO.ite ?_ ?_
   | refine LeO.bind ?_ (fun _ => ?_)
theorem laws_eqStringS.mono : ∀ a0 a1 k, LeO (laws_eqStringS.f k a0 a1) (laws_eqStringS.f (k + 1) a0 a1) := by
 intro a0 a1 k
 have ih0 := laws_eqStringS.mono_l k
 unfold laws_eqStringS.f
 repeat' first
   | (with_reducible exact ih0 _ _ _)
   | (with_reducible exact LeO.refl _)
   | (with_reducible exact LeO.none _)
   | (with_reducible refine LeO.ite ?_ ?_)
   | (with_reducible refine LeO.bind ?_ (fun _ => ?_))
   | exact ih0 _ _ _
   | exact LeO.none _
   | refine LeO.ite ?_ ?_
   | refine LeO.bind ?_ (fun _ => ?_)
set_option maxHeartbeats 8000000 in
set_option maxRecDepth 100000 in
theorem laws_eqStringS.calls (k : Nat) (A0 : Option Addr) (c0 : Nat) (l0 : List ByteArray) (A1 : Option Addr) (c1 : Nat) (l1 : List ByteArray) (r : Bool) (w : World) (hr0 : Kd.C Kd.string w A0 l0.length l0) (hc0 : l0.length ≤ c0) (hr1 : Kd.C Kd.string w A1 l1.length l1) (hc1 : l1.length ≤ c1) (h : laws_eqStringS.f k l0 l1 = some r) :
  Calls Tryd.prog 8 #[.slice A0 l0.length c0, .slice A1 l1.length c1] w fun e w' => e = .returned (.bool r) ∧ Drawn0 w w' := by
 have HR0 := Aside0.mk hr0
 have HC0 := Aside0.mk hc0
 clear hr0 hc0
 have HR1 := Aside0.mk hr1
 have HC1 := Aside0.mk hc1
 clear hr1 hc1
 have H : (if (l0.length : Int) = (l1.length : Int) then (laws_eqStringS.l0 k l0 l1 0) else (some false)) = some r := h
 clear h
 by_cases c3 : (l0.length : Int) = (l1.length : Int)
 ·
  rw [if_pos c3] at H
  have c3b0 : ((l0.length : Int) == (l1.length : Int)) = true := beq_iff_eq.mpr c3
  have c3b1 : ((l0.length : Int) != (l1.length : Int)) = false := bne_eq_false_iff_eq.mpr c3
  have c3b2 : (l0.length == l1.length) = true := by first | simpa using c3 | (simp at c3 ⊢; omega)
  clear c3
  have H' := Aside0.mk H
  clear H
  go_enter Tryd.func8, Tryd.ntmps8
  go_wp2
  repeat (go_quiet (fail); try go_wp2)
  go_loopg [5] k (fun kq v5 w' => ∃ (x5_1 : Int), v5 = .int .i64 x5_1 ∧ Aside0 (laws_eqStringS.l0 kq l0 l1 x5_1 = some r) ∧ Aside0 (kq ≤ k) ∧ Drawn0 w w')
  case atStart => exact ⟨(0), au72, H', ⟨Nat.le_refl _⟩, by repeat (first | exact Drawn0.refl _ | apply Drawn0.step)⟩
  case round =>
   clear H'
   try clear c1
   try clear p2
   try clear c3
   try clear c3b0
   try clear c3b1
   try clear c3b2
   obtain ⟨x5_1, rfl, HA, HK1, ⟨m1, rfl⟩⟩ := hrel
   cases gk with
   | zero => exact absurd HA.out (by simp [laws_eqStringS.l0])
   | succ k1 =>
    have H := HA.out
    clear HA
    simp only [laws_eqStringS.l0] at H
    by_cases c4 : x5_1 < (l0.length : Int)
    ·
     rw [if_pos c4] at H
     have c4b0 : decide (x5_1 < (l0.length : Int)) = true := decide_eq_true c4
     clear c4
     by_cases c5 : 0 ≤ x5_1
     ·
      rw [if_pos c5] at H
      have c5b0 : decide (0 ≤ x5_1) = true := decide_eq_true c5
      clear c5
      by_cases c6 : x5_1 < (l1.length : Int)
      ·
       rw [if_pos c6] at H
       have c6b0 : decide (x5_1 < (l1.length : Int)) = true := decide_eq_true c6
       clear c6
       by_cases c7 : (rdOf ByteArray.empty l0 x5_1).toList = (rdOf ByteArray.empty l1 x5_1).toList
       ·
        rw [if_pos c7] at H
        have c7b0 : ((rdOf ByteArray.empty l0 x5_1).toList == (rdOf ByteArray.empty l1 x5_1).toList) = true := beq_iff_eq.mpr c7
        have c7b1 : ((rdOf ByteArray.empty l0 x5_1).toList != (rdOf ByteArray.empty l1 x5_1).toList) = false := bne_eq_false_iff_eq.mpr c7
        clear c7
        have H' := Aside0.mk H
        clear H
        have p300 : 0 ≤ (x5_1 : Int) := of_decide_eq_true au71
        have q300 : x5_1 < (l0.length : Int) := of_decide_eq_true au71
        obtain ⟨ad300, e300, hx300_0⟩ := Kd.at_string HR0.out x5_1 p300 q300
        cases e300
        replace p300 := eq_true p300
        replace q300 := eq_true q300
        have p301 : 0 ≤ (x5_1 : Int) := of_decide_eq_true au71
        have q301 : x5_1 < (l1.length : Int) := of_decide_eq_true au71
        obtain ⟨ad301, e301, hx301_0⟩ := Kd.at_string HR1.out x5_1 p301 q301
        cases e301
        replace p301 := eq_true p301
        replace q301 := eq_true q301
        go_wp2
        repeat (go_quiet (fail); try go_wp2)
        go_roundg k1
        case measure => have := HK1.out; omega
        case rel => exact ⟨(wrap64 (x5_1 + 1)), au72, H', ⟨by have := HK1.out; omega⟩, by repeat (first | exact Drawn0.refl _ | apply Drawn0.step)⟩
       ·
        rw [if_neg c7] at H
        have c7b0 : ((rdOf ByteArray.empty l0 x5_1).toList == (rdOf ByteArray.empty l1 x5_1).toList) = false := beq_eq_false_iff_ne.mpr c7
        have c7b1 : ((rdOf ByteArray.empty l0 x5_1).toList != (rdOf ByteArray.empty l1 x5_1).toList) = true := bne_iff_ne.mpr c7
        obtain rfl := Option.some.inj H
        have p300 : 0 ≤ (x5_1 : Int) := of_decide_eq_true au71
        have q300 : x5_1 < (l0.length : Int) := of_decide_eq_true au71
        obtain ⟨ad300, e300, hx300_0⟩ := Kd.at_string HR0.out x5_1 p300 q300
        cases e300
        replace p300 := eq_true p300
        replace q300 := eq_true q300
        have p301 : 0 ≤ (x5_1 : Int) := of_decide_eq_true au71
        have q301 : x5_1 < (l1.length : Int) := of_decide_eq_true au71
        obtain ⟨ad301, e301, hx301_0⟩ := Kd.at_string HR1.out x5_1 p301 q301
        cases e301
        replace p301 := eq_true p301
        replace q301 := eq_true q301
        go_wp2
        repeat (go_quiet (fail); try go_wp2)
        go_ret
        exact ax0
      ·
       rw [if_neg c6] at H
       exact absurd H (by simp)
     ·
      rw [if_neg c5] at H
      exact absurd H (by simp)
    ·
     rw [if_neg c4] at H
     have c4b0 : decide (x5_1 < (l0.length : Int)) = false := decide_eq_false c4
     clear c4
     obtain rfl := Option.some.inj H
     go_wp2
     repeat (go_quiet (fail); try go_wp2)
     go_ret
     exact ax0
 ·
  rw [if_neg c3] at H
  have c3b0 : ((l0.length : Int) == (l1.length : Int)) = false := beq_eq_false_iff_ne.mpr c3
  have c3b1 : ((l0.length : Int) != (l1.length : Int)) = true := bne_iff_ne.mpr c3
  have c3b2 : (l0.length == l1.length) = false := by first | simpa using c3 | (simp at c3 ⊢; omega)
  obtain rfl := Option.some.inj H
  go_enter Tryd.func8, Tryd.ntmps8
  go_wp2
  repeat (go_quiet (fail); try go_wp2)
  go_ret
  exact ax0


/-! ### laws_markText: function 21 -/
def laws_markText.l0 : Nat → Int → ByteArray → Option (ByteArray)
 | 0, _, _ => none
 | k + 1, x0, x3 => if x0 > 0 then ((some (([(wrap64 (48 + (Int.tmod x0 10))) % 256] : List Int) : List Int)).bind fun y321 => (if (strOfNums y321).size + x3.size ≤ 9223372036854775807 then (laws_markText.l0 k (wrap64 (Int.tdiv x0 10)) ((strOfNums y321) ++ x3)) else (none))) else (if 1 + x3.size ≤ 9223372036854775807 then (some ((⟨#[109]⟩ : ByteArray) ++ x3)) else (none))
def laws_markText.f (k : Nat) (a0 : Int) : Option (ByteArray) := if a0 ≤ 0 then (some (⟨#[109, 48]⟩ : ByteArray)) else (laws_markText.l0 k a0 (⟨#[]⟩ : ByteArray))
theorem laws_markText.mono_l : ∀ k, (∀ y0 y1, LeO (laws_markText.l0 k y0 y1) (laws_markText.l0 (k + 1) y0 y1))
 | 0 => fun _ _ r h => by simp [laws_markText.l0] at h
 | k + 1 => by
  have ih0 := laws_markText.mono_l k
  ·
   intro y0 y1
   unfold laws_markText.l0
   repeat' first
   | (with_reducible exact ih0 _ _)
   | (with_reducible exact LeO.refl _)
   | (with_reducible exact LeO.none _)
   | (with_reducible refine LeO.ite ?_ ?_)
   | (with_reducible refine LeO.bind ?_ (fun _ => ?_))
   | exact ih0 _ _
   | exact LeO.none _
   | refine LeO.ite ?_ ?_
   | refine LeO.bind ?_ (fun _ => ?_)
theorem laws_markText.mono : ∀ a0 k, LeO (laws_markText.f k a0) (laws_markText.f (k + 1) a0) := by
 intro a0 k
 have ih0 := laws_markText.mono_l k
 unfold laws_markText.f
 repeat' first
   | (with_reducible exact ih0 _ _)
   | (with_reducible exact LeO.refl _)
   | (with_reducible exact LeO.none _)
   | (with_reducible refine LeO.ite ?_ ?_)
   | (with_reducible refine LeO.bind ?_ (fun _ => ?_))
   | exact ih0 _ _
   | exact LeO.none _
   | refine LeO.ite ?_ ?_
   | refine LeO.bind ?_ (fun _ => ?_)
set_option maxHeartbeats 8000000 in
set_option maxRecDepth 100000 in
theorem laws_markText.calls (k : Nat) (a0 : Int) (r : ByteArray) (w : World) (h : laws_markText.f k a0 = some r) :
  Calls Tryd.prog 21 #[.int .i64 a0] w fun e w' => e = .returned (.string r) ∧ Below w.heap.size w w' := by
 have HB := Aside0.mk (Below.refl w.heap.size w)
 have H : (if a0 ≤ 0 then (some (⟨#[109, 48]⟩ : ByteArray)) else (laws_markText.l0 k a0 (⟨#[]⟩ : ByteArray))) = some r := h
 clear h
 by_cases c2 : a0 ≤ 0
 ·
  rw [if_pos c2] at H
  have c2b0 : decide (a0 ≤ 0) = true := decide_eq_true c2
  clear c2
  obtain rfl := Option.some.inj H
  go_enter Tryd.func21, Tryd.ntmps21
  go_wp2
  go_ret
  exact ax1
 ·
  rw [if_neg c2] at H
  have c2b0 : decide (a0 ≤ 0) = false := decide_eq_false c2
  clear c2
  have H' := Aside0.mk H
  clear H
  go_enter Tryd.func21, Tryd.ntmps21
  go_wp2
  go_loopg [0, 3] k (fun kq v0 v3 w' => ∃ (x0_1 : Int) (x3_1 : ByteArray), v0 = .int .i64 x0_1 ∧ v3 = .string x3_1 ∧ Aside0 (laws_markText.l0 kq x0_1 x3_1 = some r) ∧ Aside0 (kq ≤ k) ∧ Aside0 (Below w.heap.size w w'))
  case atStart => exact ⟨(a0), ((⟨#[]⟩ : ByteArray)), au72, au72, H', ⟨Nat.le_refl _⟩, ⟨by repeat (first | (with_reducible first | exact HB.out | apply below_alloc | apply pw_below_drewN | apply below_drew1) | exact HB.out)⟩⟩
  case round =>
   clear H'
   try clear c2
   try clear c2b0
   try clear p2
   obtain ⟨x0_1, x3_1, rfl, rfl, HA, HK1, HB⟩ := hrel
   cases gk with
   | zero => exact absurd HA.out (by simp [laws_markText.l0])
   | succ k1 =>
    have H := HA.out
    clear HA
    simp only [laws_markText.l0] at H
    by_cases c3 : x0_1 > 0
    ·
     rw [if_pos c3] at H
     have c3b0 : decide (0 < x0_1) = true := decide_eq_true c3
     clear c3
     obtain ⟨y321, hy321⟩ : ∃ y_ : List Int, y_ = (([(wrap64 (48 + (Int.tmod x0_1 10))) % 256] : List Int)) := ⟨_, rfl⟩
     replace H : (if (strOfNums y321).size + x3_1.size ≤ 9223372036854775807 then (laws_markText.l0 k1 (wrap64 (Int.tdiv x0_1 10)) ((strOfNums y321) ++ x3_1)) else (none)) = some r := by first | (rw [hy321]; with_reducible exact H) | (have H2_ := (Option.bind_some _ _).symm.trans H; rw [hy321]; with_reducible exact H2_) | (have H2_ := (Option.bind_some _ _).symm.trans H; with_reducible exact H2_) | with_reducible exact H | (rw [hy321]; exact H) | exact H
     have Ny321 := Aside0.mk hy321
     clear hy321
     by_cases c4 : (strOfNums y321).size + x3_1.size ≤ 9223372036854775807
     ·
      rw [if_pos c4] at H
      have c4b0 := eq_true c4
      have c4b1 : decide ((strOfNums y321).size + x3_1.size ≤ 9223372036854775807) = true := decide_eq_true c4
      try have c4b2 : (9223372036854775807 < (strOfNums y321).size + x3_1.size) = False := eq_false (Nat.not_lt.2 c4)
      have H' := Aside0.mk H
      clear H
      go_wp2_with (first | ((with_reducible refine gate_dst (N := 12) rfl ?_); refine Kd.R_lit (Kd.int .u8) _ 5 ?hg (N := 12) ?hd (xs := ([(wrap64 (48 + (Int.tmod x0_1 10))) % 256] : List Int)) (inner := [.int .u8 ((wrap64 (48 + (Int.tmod x0_1 10))) % 256)]) (ok := fun _ => True) (okp := fun _ => True) ?hr ?hp (fun _ hk => hk) trivial (Below.refl _ _) (Nat.le_refl _) (by simp) ?_; (case hd => rfl); (case hg => rfl); (case hr => first | (go_simp; done) | (go_simp; rfl)); (case hp => exact (Reps.one (show Kd.M (Kd.int .u8) _ _ _ ((wrap64 (48 + (Int.tmod x0_1 10))) % 256) [.int .u8 ((wrap64 (48 + (Int.tmod x0_1 10))) % 256)] from rfl) (Reps.none _ _))); intro v322 w5 ho6 hb hg_ hnew_; clear hg_ hnew_; (first | rw [← Ny321.out] at ho6 | (simp only [Int.reduceToNat] at ho6; rw [← Ny321.out] at ho6)); have HO323 := Aside0.mk (Kd.R_lower ho6 (below_size au36)); replace HB := Aside0.mk (below_step au36 hb); clear hb ho6; have hcv7 := own_string (P := Tryd.prog) Tryd.underlying60 Tryd.underlying5 Tryd.underlying9 (Kd.own_of_R HO323.out)))
      go_roundg k1
      case measure => have := HK1.out; omega
      case rel => exact ⟨(wrap64 (Int.tdiv x0_1 10)), ((strOfNums y321) ++ x3_1), au72, au72, H', ⟨by have := HK1.out; omega⟩, ⟨by repeat (first | (with_reducible first | exact HB.out | apply below_alloc | apply pw_below_drewN | apply below_drew1) | exact HB.out)⟩⟩
     ·
      rw [if_neg c4] at H
      exact absurd H (by simp)
    ·
     rw [if_neg c3] at H
     have c3b0 : decide (0 < x0_1) = false := decide_eq_false c3
     clear c3
     by_cases c8 : 1 + x3_1.size ≤ 9223372036854775807
     ·
      rw [if_pos c8] at H
      have c8b0 := eq_true c8
      have c8b1 : decide (1 + x3_1.size ≤ 9223372036854775807) = true := decide_eq_true c8
      try have c8b2 : (9223372036854775807 < 1 + x3_1.size) = False := eq_false (Nat.not_lt.2 c8)
      obtain rfl := Option.some.inj H
      go_wp2
      go_ret
      exact ax1
     ·
      rw [if_neg c8] at H
      exact absurd H (by simp)


/-! ### laws_markStringS: function 11 -/
def laws_markStringS.l0 : Nat → List ByteArray → Int → Int → Option (Int × List ByteArray)
 | 0, _, _, _ => none
 | k + 1, x0, x1, x5 => if x5 < (x0.length : Int) then ((laws_markText.f k x1).bind fun t324 => (if 0 ≤ x5 then (laws_markStringS.l0 k (x0.set (x5 : Int).toNat t324) (wrap64 (x1 + 1)) (wrap64 (x5 + 1))) else (none))) else (some (x1, x0))
def laws_markStringS.f (k : Nat) (l0 : List ByteArray) (a1 : Int) : Option (Int × List ByteArray) := laws_markStringS.l0 k l0 a1 0
theorem laws_markStringS.mono_l : ∀ k, (∀ y0 y1 y2, LeO (laws_markStringS.l0 k y0 y1 y2) (laws_markStringS.l0 (k + 1) y0 y1 y2))
 | 0 => fun _ _ _ r h => by simp [laws_markStringS.l0] at h
 | k + 1 => by
  have ih0 := laws_markStringS.mono_l k
  ·
   intro y0 y1 y2
   unfold laws_markStringS.l0
   repeat' first
   | (with_reducible exact ih0 _ _ _)
   | (with_reducible exact laws_markText.mono _ _)
   | (with_reducible exact LeO.refl _)
   | (with_reducible exact LeO.none _)
   | (with_reducible refine LeO.ite ?_ ?_)
   | (with_reducible refine LeO.bind ?_ (fun _ => ?_))
   | exact ih0 _ _ _
   | exact laws_markText.mono _ _
   | exact LeO.none _
   | refine LeO.ite ?_ ?_
   | refine LeO.bind ?_ (fun _ => ?_)
theorem laws_markStringS.mono : ∀ a0 a1 k, LeO (laws_markStringS.f k a0 a1) (laws_markStringS.f (k + 1) a0 a1) := by
 intro a0 a1 k
 have ih0 := laws_markStringS.mono_l k
 unfold laws_markStringS.f
 repeat' first
   | (with_reducible exact ih0 _ _ _)
   | (with_reducible exact laws_markText.mono _ _)
   | (with_reducible exact LeO.refl _)
   | (with_reducible exact LeO.none _)
   | (with_reducible refine LeO.ite ?_ ?_)
   | (with_reducible refine LeO.bind ?_ (fun _ => ?_))
   | exact ih0 _ _ _
   | exact laws_markText.mono _ _
   | exact LeO.none _
   | refine LeO.ite ?_ ?_
   | refine LeO.bind ?_ (fun _ => ?_)
set_option maxHeartbeats 8000000 in
set_option maxRecDepth 100000 in
theorem laws_markStringS.calls (k : Nat) (P0_ : Nat → Prop) (u9000_ : Value) (l0 : List ByteArray) (a1 : Int) (r1 : Int) (r2 : List ByteArray) (w0 w : World) (hB : Below w0.heap.size w0 w) (ho0 : Kd.R Kd.string 9 w w0.heap.size P0_ u9000_ l0) (h : laws_markStringS.f k l0 a1 = some (r1, r2)) :
  Calls Tryd.prog 11 #[u9000_, .int .i64 a1] w fun e w' => e = .returned (.int .i64 r1) ∧ Kd.R Kd.string 9 w' w0.heap.size (fun k_ => (P0_ k_ ∨ w.heap.size ≤ k_)) u9000_ r2 ∧ Below w0.heap.size w0 w' ∧ Kept w w' (fun k_ => P0_ k_) := by
 have HO0 := Aside0.mk (show Kd.R Kd.string 9 w w0.heap.size (fun k_ => (P0_ k_ ∨ w.heap.size ≤ k_)) u9000_ l0 from Kd.R_mono ho0 (fun k_ hk => (.inl hk)))
 have HK := Aside0.mk (Kept.refl w (fun k_ => P0_ k_))
 have HW0 := Aside0.mk hB.size
 have HB := Aside0.mk hB
 clear hB
 have H : (laws_markStringS.l0 k l0 a1 0) = some (r1, r2) := h
 clear h
 have H' := Aside0.mk H
 clear H
 go_enter Tryd.func11, Tryd.ntmps11
 go_wp2
 go_loopg [1, 5] k (fun kq v1 v5 w' => ∃ (x0_1 : List ByteArray) (x1_1 : Int) (x5_1 : Int), v1 = .int .i64 x1_1 ∧ v5 = .int .i64 x5_1 ∧ Aside0 (laws_markStringS.l0 kq x0_1 x1_1 x5_1 = some (r1, r2)) ∧ Aside0 (kq ≤ k) ∧ Aside0 (Kd.R Kd.string 9 w' w0.heap.size (fun k_ => (P0_ k_ ∨ w.heap.size ≤ k_)) u9000_ x0_1) ∧ Aside0 (Kept w w' (fun k_ => P0_ k_)) ∧ Aside0 (Below w0.heap.size w0 w'))
 case atStart => exact ⟨(l0), (a1), (0), au72, au72, H', ⟨Nat.le_refl _⟩, ⟨by (with_reducible repeat (first | apply Kd.R_alloc | apply Kd.R_drewN | apply Kd.R_drew)); exact HO0.out⟩, ⟨by repeat (first | (with_reducible first | exact HK.out | apply Kept.alloc | apply Kept.drewN | apply Kept.drew) | exact HK.out)⟩, ⟨by repeat (first | (with_reducible first | exact HB.out | apply below_alloc | apply pw_below_drewN | apply below_drew1) | exact HB.out)⟩⟩
 case round =>
  clear H'
  try clear c1
  try clear p2
  obtain ⟨x0_1, x1_1, x5_1, rfl, rfl, HA, HK1, HO_0, HK, HB⟩ := hrel
  cases gk with
  | zero => exact absurd HA.out (by simp [laws_markStringS.l0])
  | succ k1 =>
   have H := HA.out
   clear HA
   simp only [laws_markStringS.l0] at H
   by_cases c3 : x5_1 < (x0_1.length : Int)
   ·
    rw [if_pos c3] at H
    have c3b0 : decide (x5_1 < (x0_1.length : Int)) = true := decide_eq_true c3
    clear c3
    replace H := Option.bind_eq_some_iff.mp H
    obtain ⟨t324, A40, H⟩ := H
    try dsimp only at H
    have A4 := Aside0.mk A40
    clear A40
    by_cases c5 : 0 ≤ x5_1
    ·
     rw [if_pos c5] at H
     have c5b0 : decide (0 ≤ x5_1) = true := decide_eq_true c5
     clear c5
     obtain ⟨y325, hy325⟩ : ∃ y_ : List ByteArray, y_ = (x0_1.set (x5_1 : Int).toNat t324) := ⟨_, rfl⟩
     replace H : (laws_markStringS.l0 k1 y325 (wrap64 (x1_1 + 1)) (wrap64 (x5_1 + 1))) = some (r1, r2) := by first | (rw [hy325]; with_reducible exact H) | (have H2_ := (Option.bind_some _ _).symm.trans H; rw [hy325]; with_reducible exact H2_) | (have H2_ := (Option.bind_some _ _).symm.trans H; with_reducible exact H2_) | with_reducible exact H | (rw [hy325]; exact H) | exact H
     have Ny325 := Aside0.mk hy325
     clear hy325
     have H' := Aside0.mk H
     clear H
     obtain ⟨Ao7, co7, eo7⟩ := Kd.R_slice HO_0.out
     subst eo7
     go_wp2_with (first | ((with_reducible refine gate_callee (f := 21) rfl ?_); refine goesL_ (some 15) rfl rfl Tryd.func21 (by kernel_rfl) rfl #[.int .i64 x1_1] rfl au35 ?_; (with_reducible refine (laws_markText.calls k1 x1_1 t324 _ A4.out).mono ?_); rintro e w8 ⟨rfl, hb⟩; refine ⟨_, rfl, ?_⟩; replace HO_0 := Aside0.mk (Kd.R_below (by (with_reducible repeat (first | apply Kd.R_alloc | apply Kd.R_drewN | apply Kd.R_drew)); exact HO_0.out) hb); replace HK := Aside0.mk (Kept.below (S := (fun k_ => P0_ k_)) au37 hb); replace HB := Aside0.mk (below_step au36 hb); (try clear hb); have p6 : 0 ≤ (x5_1 : Int) := of_decide_eq_true au71; have q6 : (x5_1 : Int) < ((x0_1.length : Int) : Int) := of_decide_eq_true au71; obtain ⟨go6, co6, eo6, gb6, gl6, cl6, HG6⟩ := Kd.R_form HO_0.out (by omega); (first | cases eo6 | (injection eo6 with ea_ en_ ec_; (first | subst ea_ | (injection ea_ with ea_; subst ea_)); subst ec_; clear en_)); have GB6 := Aside0.mk gb6; have GG6 := Aside0.mk HG6; clear gb6 gl6 HG6; have HMgo6 := Aside0.mk (show (P0_ go6 ∨ w.heap.size ≤ go6) from (HO_0.out.1 _ rfl)); obtain ⟨hx6_0, hf6_0⟩ := Kd.R_celln (⟨#[]⟩ : ByteArray) HO_0.out (x5_1 : Int) p6 q6; replace p6 := eq_true p6; replace q6 := eq_true q6; obtain ⟨hy9_, hz9_⟩ := Kd.R_celln (⟨#[]⟩ : ByteArray) HO_0.out (x5_1 : Int) (of_decide_eq_true au71) (of_decide_eq_true au71); have HP9 := Kd.R_putg HO_0.out (x5_1 : Int) t324) | ((with_reducible refine gate_store (t := 9) (p := 16) rfl ?_); refine store_event (t := 9) (p := 16) (v := ?vo_w10) (w1 := (w8.setCell ⟨go6, (x5_1 : Int).toNat, none⟩ (.string t324))) ?hg ?ho ?hn ?hr ?_; (case ho => rfl); (case hg => rfl); (case hn => rfl); (case hr => first | (go_simp; done) | (go_simp; rfl)); intro w10 hw; have hg : w8.grownBy w10 (some go6) := (by rw [hw]; exact HP9.2); have hp_ : Kd.R Kd.string 9 w10 w0.heap.size (fun k_ => (P0_ k_ ∨ w.heap.size ≤ k_)) (.slice (some ⟨go6, 0, none⟩) x0_1.length co7) y325 := (by rw [hw, Ny325.out]; exact HP9.1); clear HP9; replace HB := Aside0.mk ((by rw [hw]; exact below_set (HB.out) GB6.out : Below w0.heap.size w0 w10)); replace HK := Aside0.mk (Kept.of_grown (S := (fun k_ => P0_ k_)) hg au37 (fun k_ e_ => (HO_0.out.1 k_ e_))); replace HO_0 := Aside0.mk (hp_); clear hg hw hp_))
     go_roundg k1
     case measure => have := HK1.out; omega
     case rel => exact ⟨(y325), (wrap64 (x1_1 + 1)), (wrap64 (x5_1 + 1)), au72, au72, H', ⟨by have := HK1.out; omega⟩, ⟨by (with_reducible repeat (first | apply Kd.R_alloc | apply Kd.R_drewN | apply Kd.R_drew)); exact HO_0.out⟩, ⟨by repeat (first | (with_reducible first | exact HK.out | apply Kept.alloc | apply Kept.drewN | apply Kept.drew) | exact HK.out)⟩, ⟨by repeat (first | (with_reducible first | exact HB.out | apply below_alloc | apply pw_below_drewN | apply below_drew1) | exact HB.out)⟩⟩
    ·
     rw [if_neg c5] at H
     exact absurd H (by simp)
   ·
    rw [if_neg c3] at H
    have c3b0 : decide (x5_1 < (x0_1.length : Int)) = false := decide_eq_false c3
    clear c3
    simp only [Option.some.injEq, Prod.mk.injEq] at H
    obtain ⟨rfl, rfl⟩ := H
    obtain ⟨Ao11, co11, eo11⟩ := Kd.R_slice HO_0.out
    subst eo11
    go_wp2
    go_ret
    exact ⟨by first | rfl | (simp [errW_none, errW_some] <;> rfl) | (simp [*, errW_none, errW_some] <;> rfl), by (with_reducible repeat (first | apply Kd.R_alloc | apply Kd.R_drewN | apply Kd.R_drew)); exact HO_0.out, by repeat (first | (with_reducible first | exact HB.out | apply below_alloc | apply pw_below_drewN | apply below_drew1) | exact HB.out), by repeat (first | (with_reducible first | exact HK.out | apply Kept.alloc | apply Kept.drewN | apply Kept.drew) | exact HK.out)⟩


/-! ### laws_heldStringS: function 12 -/
def laws_heldStringS.l0 : Nat → List ByteArray → Int → Int → Option (Int)
 | 0, _, _, _ => none
 | k + 1, x0, x1, x5 => if x5 < (x0.length : Int) then (if 0 ≤ x5 then ((laws_markText.f k x1).bind fun t327 => (if (rdOf ByteArray.empty x0 x5).toList = t327.toList then (laws_heldStringS.l0 k x0 (wrap64 (x1 + 1)) (wrap64 (x5 + 1))) else (some (-1)))) else (none)) else (some x1)
def laws_heldStringS.f (k : Nat) (l0 : List ByteArray) (a1 : Int) : Option (Int) := laws_heldStringS.l0 k l0 a1 0
theorem laws_heldStringS.mono_l : ∀ k, (∀ y0 y1 y2, LeO (laws_heldStringS.l0 k y0 y1 y2) (laws_heldStringS.l0 (k + 1) y0 y1 y2))
 | 0 => fun _ _ _ r h => by simp [laws_heldStringS.l0] at h
 | k + 1 => by
  have ih0 := laws_heldStringS.mono_l k
  ·
   intro y0 y1 y2
   unfold laws_heldStringS.l0
   repeat' first
   | (with_reducible exact ih0 _ _ _)
   | (with_reducible exact laws_markText.mono _ _)
   | (with_reducible exact LeO.refl _)
   | (with_reducible exact LeO.none _)
   | (with_reducible refine LeO.ite ?_ ?_)
   | (with_reducible refine LeO.bind ?_ (fun _ => ?_))
   | exact ih0 _ _ _
   | exact laws_markText.mono _ _
   | exact LeO.none _
   | refine LeO.ite ?_ ?_
   | refine LeO.bind ?_ (fun _ => ?_)
theorem laws_heldStringS.mono : ∀ a0 a1 k, LeO (laws_heldStringS.f k a0 a1) (laws_heldStringS.f (k + 1) a0 a1) := by
 intro a0 a1 k
 have ih0 := laws_heldStringS.mono_l k
 unfold laws_heldStringS.f
 repeat' first
   | (with_reducible exact ih0 _ _ _)
   | (with_reducible exact laws_markText.mono _ _)
   | (with_reducible exact LeO.refl _)
   | (with_reducible exact LeO.none _)
   | (with_reducible refine LeO.ite ?_ ?_)
   | (with_reducible refine LeO.bind ?_ (fun _ => ?_))
   | exact ih0 _ _ _
   | exact laws_markText.mono _ _
   | exact LeO.none _
   | refine LeO.ite ?_ ?_
   | refine LeO.bind ?_ (fun _ => ?_)
set_option maxHeartbeats 8000000 in
set_option maxRecDepth 100000 in
theorem laws_heldStringS.calls (k : Nat) (A0 : Option Addr) (c0 : Nat) (l0 : List ByteArray) (a1 : Int) (r : Int) (w : World) (hr0 : Kd.C Kd.string w A0 l0.length l0) (hc0 : l0.length ≤ c0) (h : laws_heldStringS.f k l0 a1 = some r) :
  Calls Tryd.prog 12 #[.slice A0 l0.length c0, .int .i64 a1] w fun e w' => e = .returned (.int .i64 r) ∧ Below w.heap.size w w' := by
 have HR0 := Aside0.mk hr0
 have HC0 := Aside0.mk hc0
 clear hr0 hc0
 have HB := Aside0.mk (Below.refl w.heap.size w)
 have H : (laws_heldStringS.l0 k l0 a1 0) = some r := h
 clear h
 have H' := Aside0.mk H
 clear H
 go_enter Tryd.func12, Tryd.ntmps12
 go_wp2
 go_loopg [1, 5] k (fun kq v1 v5 w' => ∃ (x1_1 : Int) (x5_1 : Int), v1 = .int .i64 x1_1 ∧ v5 = .int .i64 x5_1 ∧ Aside0 (laws_heldStringS.l0 kq l0 x1_1 x5_1 = some r) ∧ Aside0 (kq ≤ k) ∧ Aside0 (Below w.heap.size w w'))
 case atStart => exact ⟨(a1), (0), au72, au72, H', ⟨Nat.le_refl _⟩, ⟨by repeat (first | (with_reducible first | exact HB.out | apply below_alloc | apply pw_below_drewN | apply below_drew1) | exact HB.out)⟩⟩
 case round =>
  clear H'
  try clear c1
  try clear p2
  obtain ⟨x1_1, x5_1, rfl, rfl, HA, HK1, HB⟩ := hrel
  cases gk with
  | zero => exact absurd HA.out (by simp [laws_heldStringS.l0])
  | succ k1 =>
   have H := HA.out
   clear HA
   simp only [laws_heldStringS.l0] at H
   by_cases c3 : x5_1 < (l0.length : Int)
   ·
    rw [if_pos c3] at H
    have c3b0 : decide (x5_1 < (l0.length : Int)) = true := decide_eq_true c3
    clear c3
    by_cases c4 : 0 ≤ x5_1
    ·
     rw [if_pos c4] at H
     have c4b0 : decide (0 ≤ x5_1) = true := decide_eq_true c4
     clear c4
     replace H := Option.bind_eq_some_iff.mp H
     obtain ⟨t327, A50, H⟩ := H
     try dsimp only at H
     have A5 := Aside0.mk A50
     clear A50
     by_cases c6 : (rdOf ByteArray.empty l0 x5_1).toList = t327.toList
     ·
      rw [if_pos c6] at H
      have c6b0 : ((rdOf ByteArray.empty l0 x5_1).toList == t327.toList) = true := beq_iff_eq.mpr c6
      have c6b1 : ((rdOf ByteArray.empty l0 x5_1).toList != t327.toList) = false := bne_eq_false_iff_eq.mpr c6
      clear c6
      have H' := Aside0.mk H
      clear H
      try go_wp2
      replace HB := Aside0.mk (below_drew1 HB.out)
      have p326 : 0 ≤ (x5_1 : Int) := of_decide_eq_true au71
      have q326 : x5_1 < (l0.length : Int) := of_decide_eq_true au71
      obtain ⟨ad326, e326, hx326_0⟩ := Kd.at_string HR0.out x5_1 p326 q326
      have hw326_0 := hx326_0
      cases e326
      replace hx326_0 := bcl HB.out hx326_0
      replace p326 := eq_true p326
      replace q326 := eq_true q326
      refine start_ (n := 7) (S := fun w' => w'.cell? (ad326.add (x5_1).toNat) = some (.string (rdOf ByteArray.empty l0 x5_1))) (ds := []) #[false, false, false, false, false, false, false] (by kernel_rfl) rfl rfl ((bcl HB.out hw326_0)) (fun hHeld => ?_)
      generalize wr.drew = w7 at HB hx326_0 hHeld ⊢
      refine pure_ (i := 0) (N := some 12) (v := ?_) (a' := ?_) #[true, false, false, false, false, false, false] rfl rfl (by kernel_rfl) (fun _ _ _ h => h) (Or.inl ⟨by rfl, ?_⟩) ?_ ?_
      rotate_left
      ·
       intro w'
       go_simp
       with_reducible rfl
      rotate_left
      ·
       simp only [Act.put, List.setIfInBounds_toArray, List.set_cons_zero, List.set_cons_succ, i64_w, i32_w]
       rfl
      refine pure_ (i := 1) (N := some 13) (v := ?_) (a' := ?_) #[true, true, false, false, false, false, false] rfl rfl (by kernel_rfl) (fun _ _ _ h => h) (Or.inl ⟨by rfl, ?_⟩) ?_ ?_
      rotate_left
      ·
       intro w'
       go_simp
       with_reducible rfl
      rotate_left
      ·
       simp only [Act.put, List.setIfInBounds_toArray, List.set_cons_zero, List.set_cons_succ, i64_w, i32_w]
       rfl
      refine pure_ (i := 2) (N := some 14) (v := ?_) (a' := ?_) #[true, true, true, false, false, false, false] rfl rfl (by kernel_rfl) (fun _ _ _ h => h) (Or.inl ⟨by rfl, ?_⟩) ?_ ?_
      rotate_left
      ·
       intro w'
       go_simp
       with_reducible rfl
      rotate_left
      ·
       simp only [Act.put, List.setIfInBounds_toArray, List.set_cons_zero, List.set_cons_succ, i64_w, i32_w]
       rfl
      refine pure_ (i := 4) (N := some 16) (v := ?_) (a' := ?_) #[true, true, true, false, true, false, false] rfl rfl (by kernel_rfl) (fun _ _ _ h => h) (Or.inl ⟨by rfl, ?_⟩) ?_ ?_
      rotate_left
      ·
       intro w'
       go_simp
       with_reducible rfl
      rotate_left
      ·
       simp only [Act.put, List.setIfInBounds_toArray, List.set_cons_zero, List.set_cons_succ, i64_w, i32_w]
       rfl
      refine take_ (i := 3) (N := some 15) (v := ?_) (a' := ?_) #[true, true, true, true, true, false, false] rfl rfl (by kernel_rfl) (fun _ _ _ h => h) (Or.inl ⟨by rfl, ?_⟩) hHeld ?_ ?_
      rotate_left
      ·
       intro w' s0
       go_simp
       with_reducible rfl
      rotate_left
      ·
       simp only [Act.put, List.setIfInBounds_toArray, List.set_cons_zero, List.set_cons_succ, i64_w, i32_w]
       rfl
      refine one_ (i := 5) (N := some 17) #[true, true, true, true, true, true, false] rfl rfl (by kernel_rfl) (by decide) (fun K hK => ?_)
      refine gs_ Tryd.func21 #[.int .i64 x1_1] ?_
      with_reducible refine (laws_markText.calls k1 x1_1 t327 _ A5.out).mono ?_
      rintro e w8 ⟨rfl, hb⟩
      refine ⟨_, rfl, ?_⟩
      replace HB := Aside0.mk (below_step au36 hb)
      (try clear hb)
      refine hK.out _ _ ((bcl HB.out hw326_0)) (fun hHeld => ?_)
      clear hK K
      refine no_ (some 17) ?_
      refine pure_ (i := 6) (N := some 18) (v := ?_) (a' := ?_) #[true, true, true, true, true, true, true] rfl rfl (by kernel_rfl) (fun _ _ _ h => h) (Or.inl ⟨by rfl, ?_⟩) ?_ ?_
      rotate_left
      ·
       intro w'
       go_simp
       with_reducible rfl
      rotate_left
      ·
       simp only [Act.put, List.setIfInBounds_toArray, List.set_cons_zero, List.set_cons_succ, i64_w, i32_w]
       rfl
      refine done_ (by kernel_rfl) ?_
      try go_wp2
      go_roundg k1
      case measure => have := HK1.out; omega
      case rel => exact ⟨(wrap64 (x1_1 + 1)), (wrap64 (x5_1 + 1)), au72, au72, H', ⟨by have := HK1.out; omega⟩, ⟨by repeat (first | (with_reducible first | exact HB.out | apply below_alloc | apply pw_below_drewN | apply below_drew1) | exact HB.out)⟩⟩
     ·
      rw [if_neg c6] at H
      have c6b0 : ((rdOf ByteArray.empty l0 x5_1).toList == t327.toList) = false := beq_eq_false_iff_ne.mpr c6
      have c6b1 : ((rdOf ByteArray.empty l0 x5_1).toList != t327.toList) = true := bne_iff_ne.mpr c6
      obtain rfl := Option.some.inj H
      try go_wp2
      replace HB := Aside0.mk (below_drew1 HB.out)
      have p326 : 0 ≤ (x5_1 : Int) := of_decide_eq_true au71
      have q326 : x5_1 < (l0.length : Int) := of_decide_eq_true au71
      obtain ⟨ad326, e326, hx326_0⟩ := Kd.at_string HR0.out x5_1 p326 q326
      have hw326_0 := hx326_0
      cases e326
      replace hx326_0 := bcl HB.out hx326_0
      replace p326 := eq_true p326
      replace q326 := eq_true q326
      refine start_ (n := 7) (S := fun w' => w'.cell? (ad326.add (x5_1).toNat) = some (.string (rdOf ByteArray.empty l0 x5_1))) (ds := []) #[false, false, false, false, false, false, false] (by kernel_rfl) rfl rfl ((bcl HB.out hw326_0)) (fun hHeld => ?_)
      generalize wr.drew = w9 at HB hx326_0 hHeld ⊢
      refine pure_ (i := 0) (N := some 12) (v := ?_) (a' := ?_) #[true, false, false, false, false, false, false] rfl rfl (by kernel_rfl) (fun _ _ _ h => h) (Or.inl ⟨by rfl, ?_⟩) ?_ ?_
      rotate_left
      ·
       intro w'
       go_simp
       with_reducible rfl
      rotate_left
      ·
       simp only [Act.put, List.setIfInBounds_toArray, List.set_cons_zero, List.set_cons_succ, i64_w, i32_w]
       rfl
      refine pure_ (i := 1) (N := some 13) (v := ?_) (a' := ?_) #[true, true, false, false, false, false, false] rfl rfl (by kernel_rfl) (fun _ _ _ h => h) (Or.inl ⟨by rfl, ?_⟩) ?_ ?_
      rotate_left
      ·
       intro w'
       go_simp
       with_reducible rfl
      rotate_left
      ·
       simp only [Act.put, List.setIfInBounds_toArray, List.set_cons_zero, List.set_cons_succ, i64_w, i32_w]
       rfl
      refine pure_ (i := 2) (N := some 14) (v := ?_) (a' := ?_) #[true, true, true, false, false, false, false] rfl rfl (by kernel_rfl) (fun _ _ _ h => h) (Or.inl ⟨by rfl, ?_⟩) ?_ ?_
      rotate_left
      ·
       intro w'
       go_simp
       with_reducible rfl
      rotate_left
      ·
       simp only [Act.put, List.setIfInBounds_toArray, List.set_cons_zero, List.set_cons_succ, i64_w, i32_w]
       rfl
      refine pure_ (i := 4) (N := some 16) (v := ?_) (a' := ?_) #[true, true, true, false, true, false, false] rfl rfl (by kernel_rfl) (fun _ _ _ h => h) (Or.inl ⟨by rfl, ?_⟩) ?_ ?_
      rotate_left
      ·
       intro w'
       go_simp
       with_reducible rfl
      rotate_left
      ·
       simp only [Act.put, List.setIfInBounds_toArray, List.set_cons_zero, List.set_cons_succ, i64_w, i32_w]
       rfl
      refine take_ (i := 3) (N := some 15) (v := ?_) (a' := ?_) #[true, true, true, true, true, false, false] rfl rfl (by kernel_rfl) (fun _ _ _ h => h) (Or.inl ⟨by rfl, ?_⟩) hHeld ?_ ?_
      rotate_left
      ·
       intro w' s0
       go_simp
       with_reducible rfl
      rotate_left
      ·
       simp only [Act.put, List.setIfInBounds_toArray, List.set_cons_zero, List.set_cons_succ, i64_w, i32_w]
       rfl
      refine one_ (i := 5) (N := some 17) #[true, true, true, true, true, true, false] rfl rfl (by kernel_rfl) (by decide) (fun K hK => ?_)
      refine gs_ Tryd.func21 #[.int .i64 x1_1] ?_
      with_reducible refine (laws_markText.calls k1 x1_1 t327 _ A5.out).mono ?_
      rintro e w10 ⟨rfl, hb⟩
      refine ⟨_, rfl, ?_⟩
      replace HB := Aside0.mk (below_step au36 hb)
      (try clear hb)
      refine hK.out _ _ ((bcl HB.out hw326_0)) (fun hHeld => ?_)
      clear hK K
      refine no_ (some 17) ?_
      refine pure_ (i := 6) (N := some 18) (v := ?_) (a' := ?_) #[true, true, true, true, true, true, true] rfl rfl (by kernel_rfl) (fun _ _ _ h => h) (Or.inl ⟨by rfl, ?_⟩) ?_ ?_
      rotate_left
      ·
       intro w'
       go_simp
       with_reducible rfl
      rotate_left
      ·
       simp only [Act.put, List.setIfInBounds_toArray, List.set_cons_zero, List.set_cons_succ, i64_w, i32_w]
       rfl
      refine done_ (by kernel_rfl) ?_
      try go_wp2
      go_ret
      exact ax1
    ·
     rw [if_neg c4] at H
     exact absurd H (by simp)
   ·
    rw [if_neg c3] at H
    have c3b0 : decide (x5_1 < (l0.length : Int)) = false := decide_eq_false c3
    clear c3
    obtain rfl := Option.some.inj H
    go_wp2
    go_ret
    exact ax1

end Go.Proofs.YthhdodlpbpagfaaDoor.G

namespace Go.Proofs.YthhdodlpbpagfaaDoor.G
open Go.RowKit Go.Proofs.YthhdodlpbpagfaaDoorW.PrintWords Go.Proofs.YthhdodlpbpagfaaDoorW.PrintLast Go.Proofs.YthhdodlpbpagfaaDoor.B
set_option linter.unusedVariables false
set_option linter.unusedSimpArgs false
theorem eqS_loop (d : Nat) : ∀ (a b : List ByteArray) (i : Nat), a.length = b.length → a.length < 4611686018427387904 → a.length - i = d → i ≤ a.length →
    Ev (fun k => laws_eqStringS.l0 k a b i) (decide (a.drop i = b.drop i)) := by
  induction d with
  | zero =>
    intro a b i hl hm hd hi
    refine Ev.step (f := fun _ => some (decide (a.drop i = b.drop i))) (fun k => ?_) (Ev.now _)
    simp only [laws_eqStringS.l0]
    rw [if_neg (by omega), List.drop_of_length_le (by omega), List.drop_of_length_le (by omega)]
    simp
  | succ d ih =>
    intro a b i hl hm hd hi
    have hlt : i < a.length := by omega
    have hlt' : i < b.length := by omega
    have hw : wrap64 ((i : Int) + 1) = ((i + 1 : Nat) : Int) := by rw [w64 (by omega) (by omega)]; rfl
    by_cases e : a[i] = b[i]
    · refine Ev.step (f := fun k => laws_eqStringS.l0 k a b ((i + 1 : Nat) : Int)) (fun k => ?_) (ev_eq (ih a b (i + 1) hl hm (by omega) (by omega)) ?_)
      · simp only [laws_eqStringS.l0]
        rw [if_pos (by omega), if_pos (by omega), if_pos (by omega), if_pos (by simp [rdOf, hlt, hlt', e]), hw]
      · simp only [List.drop_eq_getElem_cons hlt, List.drop_eq_getElem_cons hlt', e, List.cons.injEq, true_and]
    · refine Ev.step (f := fun _ => some (decide (a.drop i = b.drop i))) (fun k => ?_) (Ev.now _)
      simp only [laws_eqStringS.l0]
      rw [if_pos (by omega), if_pos (by omega), if_pos (by omega), if_neg (by simp [rdOf, hlt, hlt', toList_eq_iff, e])]
      simp only [List.drop_eq_getElem_cons hlt, List.drop_eq_getElem_cons hlt', List.cons.injEq, e, false_and, decide_false]
theorem eqS_ev (a b : List ByteArray) (ha : a.length < 4611686018427387904) (hb : b.length < 4611686018427387904) : Ev (fun k => laws_eqStringS.f k a b) (decide (a = b)) := by
  unfold laws_eqStringS.f
  by_cases h : a.length = b.length
  · exact ev_pos (by omega) (ev_eq (eqS_loop a.length a b 0 h ha rfl (by omega)) (by simp))
  · exact ev_neg (by omega) (ev_eq (Ev.now false) (by rw [eq_comm, decide_eq_false_iff_not]; rintro rfl; exact h rfl))
theorem markText_loop (d : Nat) : ∀ (n : Int) (s : ByteArray), 0 ≤ n → n.toNat < 10 ^ d → s.size + d + 1 ≤ 9223372036854775807 → n ≤ 4611686018427387904 → ∃ r, Ev (fun k => laws_markText.l0 k n s) r := by
  have done : ∀ (n : Int) (s : ByteArray), ¬ n > 0 → s.size + 1 ≤ 9223372036854775807 → ∃ r, Ev (fun k => laws_markText.l0 k n s) r := fun n s hn h =>
    ⟨_, Ev.step (f := fun _ => some ((⟨#[109]⟩ : ByteArray) ++ s)) (fun k => by simp only [laws_markText.l0]; rw [if_neg hn, if_pos (by omega)]) (Ev.now _)⟩
  induction d with
  | zero => intro n s h0 h1 h2 h3; exact done n s (by simp at h1; omega) (by omega)
  | succ d ih =>
    intro n s h0 h1 h2 h3
    by_cases hn : n > 0
    · have hq : wrap64 (Int.tdiv n 10) = n / 10 := by rw [Int.tdiv_eq_ediv_of_nonneg h0, w64 (by omega) (by omega)]
      have hs : (strOfNums [(wrap64 (48 + (Int.tmod n 10))) % 256]).size = 1 := by simp [strOfNums, ByteArray.size]
      obtain ⟨r, hr⟩ := ih (wrap64 (Int.tdiv n 10)) (strOfNums [(wrap64 (48 + (Int.tmod n 10))) % 256] ++ s) (by rw [hq]; omega) (by rw [hq]; rw [Nat.pow_succ] at h1; omega) (by rw [size_append, hs]; omega) (by rw [hq]; omega)
      refine ⟨r, Ev.step (fun k => ?_) hr⟩
      simp only [laws_markText.l0]
      rw [if_pos hn]
      simp only [Option.bind_some]
      rw [if_pos (by rw [hs]; omega)]
    · exact done n s hn (by omega)
theorem markText_ex (n : Int) (h0 : 0 ≤ n) (h : n ≤ 4611686018427387904) : ∃ r, Ev (fun k => laws_markText.f k n) r := by
  unfold laws_markText.f
  by_cases hn : n ≤ 0
  · exact ⟨_, ev_pos hn (Ev.now _)⟩
  · have e1 : (10 : Nat) ^ 20 = 100000000000000000000 := by decide
    have e2 : (⟨#[]⟩ : ByteArray).size = 0 := rfl
    obtain ⟨r, hr⟩ := markText_loop 20 n ⟨#[]⟩ h0 (by rw [e1]; omega) (by rw [e2]; omega) h
    exact ⟨r, ev_neg hn hr⟩
noncomputable def mt (n : Int) : ByteArray := open Classical in if h : ∃ r, Ev (fun k => laws_markText.f k n) r then h.choose else ⟨#[]⟩
theorem mt_ev (n : Int) (h0 : 0 ≤ n) (h : n ≤ 4611686018427387904) : Ev (fun k => laws_markText.f k n) (mt n) := by
  unfold mt
  rw [dif_pos (markText_ex n h0 h)]
  exact (markText_ex n h0 h).choose_spec
noncomputable def mts (m : Int) (n : Nat) : List ByteArray := (List.range n).map fun i => mt (m + (i : Nat))
theorem mts_len (m : Int) (n : Nat) : (mts m n).length = n := by simp [mts]
theorem markS_loop (d : Nat) : ∀ (a : List ByteArray) (m : Int) (i : Nat), 0 ≤ m → m + a.length ≤ 4611686018427387904 → a.length - i = d → i ≤ a.length →
    Ev (fun k => laws_markStringS.l0 k (mts m i ++ a.drop i) (m + i) i) (m + a.length, mts m a.length) := by
  induction d with
  | zero =>
    intro a m i h0 h1 hd hi
    have e : i = a.length := by omega
    subst e
    refine Ev.step (f := fun _ => some (m + (a.length : Nat), mts m a.length)) (fun k => ?_) (Ev.now _)
    simp only [laws_markStringS.l0]
    rw [if_neg (by simp [mts_len]), List.drop_of_length_le (by omega), List.append_nil]
  | succ d ih =>
    intro a m i h0 h1 hd hi
    have hlt : i < a.length := by omega
    refine Ev.step (f := fun k => (laws_markText.f k (m + i)).bind fun t => laws_markStringS.l0 k ((mts m i ++ a.drop i).set i t) (m + ((i + 1 : Nat) : Int)) ((i + 1 : Nat) : Int)) (fun k => ?_) ?_
    · simp only [laws_markStringS.l0]
      rw [if_pos (by simp [mts_len]; omega)]
      congr 1
      funext t
      rw [if_pos (by omega), w64 (by omega) (by omega), w64 (by omega) (by omega)]
      congr 1
      omega
    · refine Ev.bind (mt_ev (m + i) (by omega) (by omega)) ?_
      have e : (mts m i ++ a.drop i).set i (mt (m + (i : Nat))) = mts m (i + 1) ++ a.drop (i + 1) := by
        rw [List.drop_eq_getElem_cons hlt]
        have hl : (mts m i).length = i := mts_len m i
        rw [List.set_append_right _ _ (by omega), hl, Nat.sub_self, List.set_cons_zero]
        unfold mts
        rw [List.range_succ, List.map_append]
        simp
      rw [e]
      exact ih a m (i + 1) h0 h1 (by omega) (by omega)
theorem markS_ev (a : List ByteArray) (m : Int) (h0 : 0 ≤ m) (h1 : m + a.length ≤ 4611686018427387904) : Ev (fun k => laws_markStringS.f k a m) (m + a.length, mts m a.length) := by
  have := markS_loop a.length a m 0 h0 h1 rfl (by omega)
  simpa [laws_markStringS.f, mts] using this
theorem heldS_loop (d : Nat) : ∀ (m : Int) (n i : Nat), 0 ≤ m → m + n ≤ 4611686018427387904 → n - i = d → i ≤ n →
    Ev (fun k => laws_heldStringS.l0 k (mts m n) (m + i) i) (m + n) := by
  induction d with
  | zero =>
    intro m n i h0 h1 hd hi
    have e : i = n := by omega
    subst e
    refine Ev.step (f := fun _ => some (m + (i : Nat))) (fun k => ?_) (Ev.now _)
    simp only [laws_heldStringS.l0]
    rw [if_neg (by simp [mts_len])]
  | succ d ih =>
    intro m n i h0 h1 hd hi
    have hlt : i < n := by omega
    refine Ev.step (f := fun k => (laws_markText.f k (m + i)).bind fun t => if (rdOf ByteArray.empty (mts m n) i).toList = t.toList then laws_heldStringS.l0 k (mts m n) (m + ((i + 1 : Nat) : Int)) ((i + 1 : Nat) : Int) else some (-1)) (fun k => ?_) ?_
    · simp only [laws_heldStringS.l0]
      rw [if_pos (by rw [mts_len]; omega), if_pos (by omega)]
      congr 1
      funext t
      rw [w64 (by omega) (by omega), w64 (by omega) (by omega)]
      have e1 : m + (i : Int) + 1 = m + ((i + 1 : Nat) : Int) := by omega
      rw [e1]
      rfl
    · refine Ev.bind (mt_ev (m + i) (by omega) (by omega)) (ev_pos ?_ (ih m n (i + 1) h0 h1 (by omega) (by omega)))
      simp [rdOf, mts, hlt]
theorem heldS_ev (m : Int) (n : Nat) (h0 : 0 ≤ m) (h1 : m + n ≤ 4611686018427387904) : Ev (fun k => laws_heldStringS.f k (mts m n) m) (m + n) := by
  have := heldS_loop n m n 0 h0 h1 rfl (by omega)
  simpa [laws_heldStringS.f] using this
end Go.Proofs.YthhdodlpbpagfaaDoor.G

namespace Go.Proofs.YthhdodlpbpagfaaDoor.G
open Go.RowKit Go.Proofs.YthhdodlpbpagfaaDoorW.PrintWords Go.Proofs.YthhdodlpbpagfaaDoorW.PrintLast Go.Proofs.YthhdodlpbpagfaaDoorW.PrintMore Go.Proofs.YthhdodlpbpagfaaDoor.B
set_option linter.unusedVariables false
set_option linter.unusedSimpArgs false
theorem mk_w1 (x : Int) (h0 : 0 ≤ x) (h1 : x ≤ 4611686018427387904) : wrap64 (x + 1) = x + 1 := w64 (by omega) (by omega)
theorem mk_add (a : Int) (i : Nat) : a + (i : Int) + 1 = a + ((i + 1 : Nat) : Int) := by omega
theorem mk_i (i : Nat) (h : i ≤ 4611686018427387904) : wrap64 ((i : Int) + 1) = ((i + 1 : Nat) : Int) := by rw [w64 (by omega) (by omega)]; rfl
theorem sim_str (s t : ByteArray) : SimV (.string s) (.string t) := .inr (.inl ⟨_, _, rfl, rfl⟩)
set_option maxHeartbeats 8000000 in
set_option maxRecDepth 100000 in
theorem markS_w (base : Nat) (P : Nat → Prop) (u : Value) (l : List ByteArray) (a1 : Int) (w : World) (h0 : 0 ≤ a1) (h1 : a1 + (l.length : Int) ≤ 4611686018427387904) (ho : Kd.R Kd.string 9 w base P u l) :
    Calls Tryd.prog 11 #[u, .int .i64 a1] w fun e w' => e = .returned (.int .i64 (a1 + (l.length : Int))) ∧ Sim P w w' ∧ Below base w w' := by
  have HL := Aside0.mk (And.intro h0 h1)
  have HR := Aside0.mk ho
  have HS := Aside0.mk (Sim.refl P w)
  have HB := Aside0.mk (Below.refl base w)
  obtain ⟨kk, hkk⟩ : ∃ kk, kk = l.length + 1 := ⟨_, rfl⟩
  have HKK := Aside0.mk hkk
  obtain ⟨A, c, rfl⟩ := Kd.R_slice ho
  clear ho hkk h0 h1
  go_enter Tryd.func11, Tryd.ntmps11
  go_wp2
  go_loopg [1, 5] kk (fun kq v1 v5 w' => ∃ (i : Nat), v1 = .int .i64 (a1 + (i : Int)) ∧ v5 = .int .i64 (i : Int) ∧ Aside0 (i ≤ l.length ∧ l.length - i < kq) ∧ Aside0 (kq ≤ kk) ∧ Aside0 (Sim P w w') ∧ Aside0 (Below base w w'))
  case atStart => exact ⟨0, (by simp), (by first | rfl | simp), ⟨Nat.zero_le _, by have := HKK.out; omega⟩, ⟨Nat.le_refl _⟩, ⟨by repeat (first | exact HS.out | apply Sim.drewN | apply Sim.drew | apply Sim.alloc)⟩, ⟨by repeat (first | exact HB.out | apply pw_below_drewN | apply below_drew1 | apply below_alloc)⟩⟩
  case round =>
    clear HS HB
    obtain ⟨i, rfl, rfl, HI, HK1, HS, HB⟩ := hrel
    cases gk with
    | zero => exact absurd HI.out.2 (Nat.not_lt_zero _)
    | succ k1 =>
      by_cases ci : i < l.length
      · have c0 : decide ((i : Int) < (l.length : Int)) = true := decide_eq_true (by omega)
        have c1 : decide ((0 : Int) ≤ (i : Int)) = true := decide_eq_true (by omega)
        have HW1 := Aside0.mk (mk_w1 (a1 + (i : Int)) (by have := HL.out; omega) (by have := HL.out; omega))
        have HW2 := Aside0.mk (mk_i i (by have := HL.out; omega))
        obtain ⟨kt, hkt⟩ := (mt_ev (a1 + (i : Int)) (by have := HL.out; omega) (by have := HL.out; omega))
        have HT := Aside0.mk (hkt kt (Nat.le_refl _))
        clear hkt
        obtain ⟨g, cap, eo, gb, gl, cl, HG⟩ := Kd.R_form HR.out (by omega)
        cases eo
        have GB := Aside0.mk gb
        have HBS := Aside0.mk (show base ≤ w.heap.size by omega)
        have PG := Aside0.mk (HR.out.1 g rfl)
        clear gb gl HG
        have CI := Aside0.mk ci
        go_wp2_with (first
          | ((with_reducible refine gate_callee (f := 21) rfl ?_); refine goesL_ (some 15) rfl rfl Tryd.func21 (by kernel_rfl) rfl #[.int .i64 (a1 + (i : Int))] rfl (by (try simp only [List.map_toArray, List.map_cons, List.map_nil]); first | done | rfl) ?_; (refine (laws_markText.calls kt (a1 + (i : Int)) (mt (a1 + (i : Int))) _ HT.out).mono ?_); rintro e w8 ⟨rfl, hb⟩; refine ⟨_, rfl, ?_⟩; have HS2 := Aside0.mk ((show Sim P w _ by repeat (first | exact HS.out | apply Sim.drewN | apply Sim.drew | apply Sim.alloc)).below hb); have HB2 := Aside0.mk (Below.trans (show Below base w _ by repeat (first | exact HB.out | apply pw_below_drewN | apply below_drew1 | apply below_alloc)) (hb.mono (Nat.le_trans HBS.out (Below.size (show Below base w _ by repeat (first | exact HB.out | apply pw_below_drewN | apply below_drew1 | apply below_alloc)))))); clear HS HB hb; have HS := HS2; have HB := HB2; clear HS2 HB2; obtain ⟨l2, hR2, hl2⟩ := R_sim simK_string HR.out HS.out; have hlen := congrArg List.length hl2; rw [List.length_map, List.length_map] at hlen; obtain ⟨hx0, hf0⟩ := Kd.R_celln (⟨#[]⟩ : ByteArray) hR2 (i : Int) (by omega) (by have := CI.out; omega); simp only [Int.toNat_natCast] at hx0 hf0; obtain ⟨cl2, hG2⟩ : ∃ cl2, w8.heap[g]? = some (.cells cl2 9 (0, 0)) := Kd.R_typed hR2 g rfl; have ST := Aside0.mk (Sim.store (u := .string (mt (a1 + (i : Int)))) HS.out PG.out hG2 hx0 (sim_str _ _)); clear hR2 hl2 hlen hG2)
          | ((with_reducible refine gate_store (t := 9) (p := 16) rfl ?_); refine store_event (t := 9) (p := 16) (v := ?vo_w10) (w1 := (w8.setCell ⟨g, i, none⟩ (.string (mt (a1 + (i : Int)))))) ?hg ?ho ?hn ?hr ?_; (case ho => rfl); (case hg => rfl); (case hn => rfl); (case hr => first | (go_simp; done) | (go_simp; rfl)); intro w10 hw; have HS2 := Aside0.mk (show Sim P w w10 by rw [hw]; exact ST.out); have HB2 := Aside0.mk (show Below base w w10 by rw [hw]; exact HB.out.setCell GB.out _); clear HS HB ST hw; have HS := HS2; have HB := HB2; clear HS2 HB2))
        go_roundg k1
        case rel => exact ⟨i + 1, (by (try simp only [i64_w]); rw [HW1.out, mk_add]), (by (try simp only [i64_w]); rw [HW2.out]), ⟨by have := HI.out; have := CI.out; omega⟩, ⟨by have := HK1.out; omega⟩, ⟨by repeat (first | exact HS.out | apply Sim.drewN | apply Sim.drew | apply Sim.alloc)⟩, ⟨by repeat (first | exact HB.out | apply pw_below_drewN | apply below_drew1 | apply below_alloc)⟩⟩
        case measure => have := HK1.out; omega
      · have c0 : decide ((i : Int) < (l.length : Int)) = false := decide_eq_false (by omega)
        have HE := Aside0.mk (show i = l.length by have := HI.out; omega)
        go_wp2
        go_ret
        exact ⟨by first | (rw [HE.out]; rfl) | rfl, by repeat (first | exact HS.out | apply Sim.drewN | apply Sim.drew | apply Sim.alloc), by repeat (first | exact HB.out | apply pw_below_drewN | apply below_drew1 | apply below_alloc)⟩
theorem sim_int (q : IntKind) (a b : Int) : SimV (.int q a) (.int q b) := .inr (.inr (.inl ⟨_, _, _, rfl, rfl⟩))
theorem sim_bool (a b : Bool) : SimV (.bool a) (.bool b) := .inr (.inr (.inr ⟨_, _, rfl, rfl⟩))
def elN (x : S70) : Int := (x.f0.length : Int) + 3
theorem elN_eq (x : S70) : elN x = (x.f0.length : Int) + 3 := rfl
def cntN : List S70 → Int
  | [] => 0
  | x :: l => elN x + cntN l
theorem cntN_len (l : List S70) : (l.length : Int) ≤ cntN l := by
  induction l with
  | nil => exact Int.le_refl _
  | cons x l ih => simp only [cntN, elN, List.length_cons]; omega
theorem cntN_nonneg (l : List S70) : 0 ≤ cntN l := Int.le_trans (Int.natCast_nonneg _) (cntN_len l)
theorem cntN_step (l : List S70) : ∀ i (h : i < l.length), cntN (l.take (i + 1)) = cntN (l.take i) + elN l[i] ∧ cntN (l.take (i + 1)) ≤ cntN l := by
  induction l with
  | nil => intro i h; simp at h
  | cons x l ih =>
    intro i h
    cases i with
    | zero => have := cntN_nonneg l; simp [cntN]; omega
    | succ i =>
      have := ih i (by simpa using h)
      simp only [List.take_succ_cons, cntN, List.getElem_cons_succ]
      omega
theorem cntN_at {l : List S70} {a n : Int} {i : Nat} (h : n = a + cntN (l.take i)) (hl : 0 ≤ a ∧ a + cntN l ≤ 4611686018427387904) (hi : i < l.length) : (0 ≤ n ∧ n + elN l[i] ≤ 4611686018427387904) ∧ n + elN l[i] = a + cntN (l.take (i + 1)) := by
  have h1 := cntN_step l i hi
  have h2 := cntN_nonneg (l.take i)
  omega
def shN (x : S70) := (x.f0.map (fun _ : ByteArray => ()), (), (), ())
theorem simK_name : SimK k70 shN :=
  simK_iso (f := fun x : S70 => (x.f0, x.f1, x.f2, x.f3)) (fun y => ⟨y.1, y.2.1, y.2.2.1, y.2.2.2⟩) (fun _ => rfl) (simK_pair (simK_slice 9 simK_string) (simK_pair simK_string (simK_pair simK_string simK_string)))
theorem shN_elN {x y : S70} (h : shN x = shN y) : x.f0.length = y.f0.length := by
  have := congrArg (fun z => z.1.length) h
  simpa [shN] using this
theorem shN_cnt (l : List S70) : ∀ l', l'.map shN = l.map shN → cntN l' = cntN l := by
  induction l with
  | nil => intro l' h; cases l' with | nil => rfl | cons x r => simp at h
  | cons x l ih =>
    intro l' h
    cases l' with
    | nil => simp at h
    | cons y r =>
      simp only [List.map_cons, List.cons.injEq] at h
      have := shN_elN h.1
      simp only [cntN, elN, this, ih r h.2]
theorem sh_at {α β : Type} {sh : α → β} {l l' : List α} (h : l'.map sh = l.map sh) (z : α) (i : Nat) (hi : i < l.length) : l'.length = l.length ∧ sh (l'.getD i z) = sh l[i] := by
  have hl : l'.length = l.length := by have := congrArg List.length h; simpa using this
  refine ⟨hl, ?_⟩
  have := congrArg (fun q => q[i]?) h
  simp only [List.getElem?_map] at this
  rw [List.getElem?_eq_getElem (show i < l'.length by omega), List.getElem?_eq_getElem hi] at this
  rw [List.getD_eq_getElem?_getD, List.getElem?_eq_getElem (show i < l'.length by omega)]
  exact Option.some.inj this
theorem rowN_at {w W : World} {P : Nat → Prop} {base g cap : Nat} {l : List S70} (HR : Kd.R k70 70 w base P (.slice (some ⟨g, 0, none⟩) l.length cap) l) (HS : Sim P w W) (i : Nat) (hi : i < l.length) :
    ∃ (A : Option Addr) (c : Nat) (xs : List ByteArray) (s1 s2 s3 : ByteArray) (cl : Array Value), W.cell? ⟨g, i * 4, none⟩ = some (.slice A xs.length c) ∧ W.cell? ⟨g, i * 4 + 1, none⟩ = some (.string s1) ∧ W.cell? ⟨g, i * 4 + 2, none⟩ = some (.string s2) ∧ W.cell? ⟨g, i * 4 + 3, none⟩ = some (.string s3) ∧
      W.frozen? ⟨g, i * 4, none⟩ = false ∧ W.frozen? ⟨g, i * 4 + 1, none⟩ = false ∧ W.frozen? ⟨g, i * 4 + 2, none⟩ = false ∧ W.frozen? ⟨g, i * 4 + 3, none⟩ = false ∧
      (xs.length : Int) = (l[i].f0.length : Int) ∧ Kd.R Kd.string 9 W base P (.slice A xs.length c) xs ∧ W.heap[g]? = some (.cells cl 70 (0, 0)) := by
  obtain ⟨l', hR', hm⟩ := R_sim simK_name HR HS
  obtain ⟨hl, hs⟩ := sh_at hm (⟨[], ⟨#[]⟩, ⟨#[]⟩, ⟨#[]⟩⟩ : S70) i hi
  obtain ⟨c, hcl, hM, hc, hf⟩ := Kd.R_elem hR' (⟨[], ⟨#[]⟩, ⟨#[]⟩, ⟨#[]⟩⟩ : S70) (i : Int) (by omega) (by omega)
  obtain ⟨_, _, rfl, ⟨v, rfl, hRs⟩, _, _, rfl, rfl, _, _, rfl, rfl, rfl⟩ := hM
  obtain ⟨A, cc, rfl⟩ := Kd.R_slice hRs
  obtain ⟨cl, hG⟩ := Kd.R_typed hR' g rfl
  exact ⟨A, cc, _, _, _, _, cl, hc 0 _ rfl, hc 1 _ rfl, hc 2 _ rfl, hc 3 _ rfl, hf 0, hf 1, hf 2, hf 3, by exact_mod_cast shN_elN hs, Kd.R_mono hRs (fun _ hk => hk.1), hG⟩
set_option maxHeartbeats 8000000 in
set_option maxRecDepth 100000 in
theorem markN_w (base : Nat) (P : Nat → Prop) (u : Value) (l : List S70) (a1 : Int) (w : World) (h0 : 0 ≤ a1) (h1 : a1 + cntN l ≤ 4611686018427387904) (ho : Kd.R k70 70 w base P u l) :
    Calls Tryd.prog 28 #[u, .int .i64 a1] w fun e w' => e = .returned (.int .i64 (a1 + cntN l)) ∧ Sim P w w' ∧ Below base w w' := by
  have HL := Aside0.mk (And.intro h0 h1)
  have HZ := Aside0.mk (show (l.length : Int) ≤ 4611686018427387904 from Int.le_trans (cntN_len l) (by omega))
  have HR := Aside0.mk ho
  have HS := Aside0.mk (Sim.refl P w)
  have HB := Aside0.mk (Below.refl base w)
  obtain ⟨kk, hkk⟩ : ∃ kk, kk = l.length + 1 := ⟨_, rfl⟩
  have HKK := Aside0.mk hkk
  obtain ⟨A, c, rfl⟩ := Kd.R_slice ho
  have hu1 := Tryd.underlying70
  clear ho hkk h0 h1
  go_enter Tryd.func28, Tryd.ntmps28
  go_wp2
  go_loopg [1, 5] kk (fun kq v1 v5 w' => ∃ (i : Nat) (n : Int), v1 = .int .i64 n ∧ v5 = .int .i64 (i : Int) ∧ Aside0 (n = a1 + cntN (l.take i)) ∧ Aside0 (i ≤ l.length ∧ l.length - i < kq) ∧ Aside0 (kq ≤ kk) ∧ Aside0 (Sim P w w') ∧ Aside0 (Below base w w'))
  case atStart => exact ⟨0, a1, rfl, (by first | rfl | simp), ⟨by simp [cntN]⟩, ⟨Nat.zero_le _, by have := HKK.out; omega⟩, ⟨Nat.le_refl _⟩, ⟨by repeat (first | exact HS.out | apply Sim.drewN | apply Sim.drew | apply Sim.alloc)⟩, ⟨by repeat (first | exact HB.out | apply pw_below_drewN | apply below_drew1 | apply below_alloc)⟩⟩
  case round =>
    clear HS HB
    obtain ⟨i, n, rfl, rfl, HN, HI, HK1, HS, HB⟩ := hrel
    cases gk with
    | zero => exact absurd HI.out.2 (Nat.not_lt_zero _)
    | succ k1 =>
      by_cases ci : i < l.length
      · have c0 : decide ((i : Int) < (l.length : Int)) = true := decide_eq_true (by omega)
        have c1 : decide ((0 : Int) ≤ (i : Int)) = true := decide_eq_true (by omega)
        have CI := Aside0.mk ci
        have HW2 := Aside0.mk (mk_i i (by have := HZ.out; omega))
        have HQ := Aside0.mk (show (0 ≤ n ∧ n + elN l[i] ≤ 4611686018427387904) ∧ n + elN l[i] = a1 + cntN (l.take (i + 1)) from cntN_at HN.out HL.out ci)
        obtain ⟨q0, hq0⟩ : ∃ q : Int, q = (l[i].f0.length : Int) := ⟨_, rfl⟩
        have HQ0 := Aside0.mk hq0
        have HQN := Aside0.mk (show 0 ≤ n ∧ n + (q0 + 3) ≤ 4611686018427387904 from by have h_ := HQ.out.1; rw [show elN l[i] = q0 + 3 from by rw [hq0]; exact elN_eq _] at h_; exact h_)
        have HQP := Aside0.mk (show 0 ≤ q0 ∧ True from by rw [hq0]; exact ⟨by first | exact Int.natCast_nonneg _ | exact cntN_nonneg _, trivial⟩)
        clear hq0
        obtain ⟨g, cap, eo, gb, gl, cl, HG⟩ := Kd.R_form HR.out (by omega)
        cases eo
        have GB := Aside0.mk gb
        have HBS := Aside0.mk (show base ≤ w.heap.size by omega)
        have PG := Aside0.mk (HR.out.1 g rfl)
        clear gb gl HG
        have HK_0 := Aside0.mk (rfl : n = n)
        obtain ⟨A0_0, c0_0, xs0_0, s0_1, s0_2, s0_3, cl0, hc0_0, hc0_1, hc0_2, hc0_3, hf0_0, hf0_1, hf0_2, hf0_3, hl0_0, hR0_0, hG0⟩ := rowN_at HR.out HS.out i CI.out
        have HRS0 := Aside0.mk hR0_0
        have HLS0 := Aside0.mk (hl0_0.trans HQ0.out.symm)
        clear hR0_0 hl0_0
        clear hc0_1 hc0_2 hc0_3 hf0_1 hf0_2 hf0_3 hG0
        go_wp2_with (first
          | ((with_reducible refine gate_callee (f := 11) rfl ?_); refine goesL_ (some 18) rfl rfl Tryd.func11 (by kernel_rfl) rfl #[.slice A0_0 xs0_0.length c0_0, .int .i64 n] rfl (by (try simp only [List.map_toArray, List.map_cons, List.map_nil]); first | done | rfl) ?_; (refine (markS_w base P _ xs0_0 n _ (by rw [HK_0.out]; have z1_ := HQN.out; have z2_ := HQP.out; omega) (by rw [HK_0.out, HLS0.out]; have z1_ := HQN.out; have z2_ := HQP.out; omega) (by (with_reducible repeat (first | apply Kd.R_alloc | apply Kd.R_drewN | apply Kd.R_drew)); exact HRS0.out)).mono ?_); rintro e w100 ⟨rfl, hs, hb⟩; refine ⟨_, rfl, ?_⟩; have HS2 := Aside0.mk ((show Sim P w _ from by repeat (first | exact HS.out | apply Sim.drewN | apply Sim.drew | apply Sim.alloc)).trans hs); have HB2 := Aside0.mk ((show Below base w _ from by repeat (first | exact HB.out | apply pw_below_drewN | apply below_drew1 | apply below_alloc)).trans hb); clear HS HB hs hb; have HS := HS2; have HB := HB2; clear HS2 HB2; have HK_1 := Aside0.mk (show (n + (xs0_0.length : Int)) = (n + q0) from by rw [HK_0.out, HLS0.out]); clear HRS0 hc0_0 hf0_0)
          | ((with_reducible refine gate_callee (f := 21) rfl ?_); refine goesL_ (some 22) rfl rfl Tryd.func21 (by kernel_rfl) rfl #[.int .i64 (n + (xs0_0.length : Int))] rfl (by (try simp only [List.map_toArray, List.map_cons, List.map_nil]); first | done | rfl) ?_; obtain ⟨kt1, hkt1⟩ := (mt_ev (n + (xs0_0.length : Int)) (by rw [HK_1.out]; have z1_ := HQN.out; have z2_ := HQP.out; omega) (by rw [HK_1.out]; have z1_ := HQN.out; have z2_ := HQP.out; omega)); (refine (laws_markText.calls kt1 (n + (xs0_0.length : Int)) (mt (n + (xs0_0.length : Int))) _ (hkt1 kt1 (Nat.le_refl _))).mono ?_); rintro e w101 ⟨rfl, hb⟩; refine ⟨_, rfl, ?_⟩; clear hkt1; have HS2 := Aside0.mk ((show Sim P w _ from by repeat (first | exact HS.out | apply Sim.drewN | apply Sim.drew | apply Sim.alloc)).below hb); have HB2 := Aside0.mk (Below.trans (show Below base w _ from by repeat (first | exact HB.out | apply pw_below_drewN | apply below_drew1 | apply below_alloc)) (hb.mono (Nat.le_trans HBS.out (Below.size (show Below base w _ from by repeat (first | exact HB.out | apply pw_below_drewN | apply below_drew1 | apply below_alloc)))))); clear HS HB hb; have HS := HS2; have HB := HB2; clear HS2 HB2; obtain ⟨A1_0, c1_0, xs1_0, s1_1, s1_2, s1_3, cl1, hc1_0, hc1_1, hc1_2, hc1_3, hf1_0, hf1_1, hf1_2, hf1_3, hl1_0, hR1_0, hG1⟩ := rowN_at HR.out HS.out i CI.out; have ST1 := Aside0.mk (fun (u : Value) (hv : SimV _ u) => Sim.store HS.out PG.out hG1 hc1_1 hv); clear hc1_0 hc1_2 hc1_3 hf1_0 hf1_2 hf1_3 hl1_0 hR1_0 hG1)
          | ((with_reducible refine gate_store (t := 9) (p := 24) rfl ?_); refine store_event (t := 9) (p := 24) (v := ?vo_w201) (w1 := (w101.setCell ⟨g, i * 4 + 1, none⟩ (.string (mt (n + (xs0_0.length : Int)))))) ?hg ?ho ?hn ?hr ?_; (case ho => rfl); (case hg => rfl); (case hn => rfl); (case hr => first | (go_simp; done) | (go_simp; rfl)); intro w201 hw; have HS2 := Aside0.mk (show Sim P w w201 by rw [hw]; exact ST1.out _ (sim_str _ _)); have HB2 := Aside0.mk (show Below base w w201 by rw [hw]; exact HB.out.setCell GB.out _); clear HS HB ST1 hw; have HS := HS2; have HB := HB2; clear HS2 HB2; clear hc1_1 hf1_1; have HK_2 := Aside0.mk (show (wrap64 ((n + (xs0_0.length : Int)) + 1)) = ((n + q0) + 1) from by rw [HK_1.out]; exact mk_w1 _ (by have z1_ := HQN.out; have z2_ := HQP.out; omega) (by have z1_ := HQN.out; have z2_ := HQP.out; omega)))
          | ((with_reducible refine gate_callee (f := 21) rfl ?_); refine goesL_ (some 30) rfl rfl Tryd.func21 (by kernel_rfl) rfl #[.int .i64 (wrap64 ((n + (xs0_0.length : Int)) + 1))] rfl (by (try simp only [List.map_toArray, List.map_cons, List.map_nil]); first | done | rfl) ?_; obtain ⟨kt2, hkt2⟩ := (mt_ev (wrap64 ((n + (xs0_0.length : Int)) + 1)) (by rw [HK_2.out]; have z1_ := HQN.out; have z2_ := HQP.out; omega) (by rw [HK_2.out]; have z1_ := HQN.out; have z2_ := HQP.out; omega)); (refine (laws_markText.calls kt2 (wrap64 ((n + (xs0_0.length : Int)) + 1)) (mt (wrap64 ((n + (xs0_0.length : Int)) + 1))) _ (hkt2 kt2 (Nat.le_refl _))).mono ?_); rintro e w102 ⟨rfl, hb⟩; refine ⟨_, rfl, ?_⟩; clear hkt2; have HS2 := Aside0.mk ((show Sim P w _ from by repeat (first | exact HS.out | apply Sim.drewN | apply Sim.drew | apply Sim.alloc)).below hb); have HB2 := Aside0.mk (Below.trans (show Below base w _ from by repeat (first | exact HB.out | apply pw_below_drewN | apply below_drew1 | apply below_alloc)) (hb.mono (Nat.le_trans HBS.out (Below.size (show Below base w _ from by repeat (first | exact HB.out | apply pw_below_drewN | apply below_drew1 | apply below_alloc)))))); clear HS HB hb; have HS := HS2; have HB := HB2; clear HS2 HB2; obtain ⟨A2_0, c2_0, xs2_0, s2_1, s2_2, s2_3, cl2, hc2_0, hc2_1, hc2_2, hc2_3, hf2_0, hf2_1, hf2_2, hf2_3, hl2_0, hR2_0, hG2⟩ := rowN_at HR.out HS.out i CI.out; have ST2 := Aside0.mk (fun (u : Value) (hv : SimV _ u) => Sim.store HS.out PG.out hG2 hc2_2 hv); clear hc2_0 hc2_1 hc2_3 hf2_0 hf2_1 hf2_3 hl2_0 hR2_0 hG2)
          | ((with_reducible refine gate_store (t := 9) (p := 32) rfl ?_); refine store_event (t := 9) (p := 32) (v := ?vo_w202) (w1 := (w102.setCell ⟨g, i * 4 + 2, none⟩ (.string (mt (wrap64 ((n + (xs0_0.length : Int)) + 1)))))) ?hg ?ho ?hn ?hr ?_; (case ho => rfl); (case hg => rfl); (case hn => rfl); (case hr => first | (go_simp; done) | (go_simp; rfl)); intro w202 hw; have HS2 := Aside0.mk (show Sim P w w202 by rw [hw]; exact ST2.out _ (sim_str _ _)); have HB2 := Aside0.mk (show Below base w w202 by rw [hw]; exact HB.out.setCell GB.out _); clear HS HB ST2 hw; have HS := HS2; have HB := HB2; clear HS2 HB2; clear hc2_2 hf2_2; have HK_3 := Aside0.mk (show (wrap64 ((wrap64 ((n + (xs0_0.length : Int)) + 1)) + 1)) = (((n + q0) + 1) + 1) from by rw [HK_2.out]; exact mk_w1 _ (by have z1_ := HQN.out; have z2_ := HQP.out; omega) (by have z1_ := HQN.out; have z2_ := HQP.out; omega)))
          | ((with_reducible refine gate_callee (f := 21) rfl ?_); refine goesL_ (some 38) rfl rfl Tryd.func21 (by kernel_rfl) rfl #[.int .i64 (wrap64 ((wrap64 ((n + (xs0_0.length : Int)) + 1)) + 1))] rfl (by (try simp only [List.map_toArray, List.map_cons, List.map_nil]); first | done | rfl) ?_; obtain ⟨kt3, hkt3⟩ := (mt_ev (wrap64 ((wrap64 ((n + (xs0_0.length : Int)) + 1)) + 1)) (by rw [HK_3.out]; have z1_ := HQN.out; have z2_ := HQP.out; omega) (by rw [HK_3.out]; have z1_ := HQN.out; have z2_ := HQP.out; omega)); (refine (laws_markText.calls kt3 (wrap64 ((wrap64 ((n + (xs0_0.length : Int)) + 1)) + 1)) (mt (wrap64 ((wrap64 ((n + (xs0_0.length : Int)) + 1)) + 1))) _ (hkt3 kt3 (Nat.le_refl _))).mono ?_); rintro e w103 ⟨rfl, hb⟩; refine ⟨_, rfl, ?_⟩; clear hkt3; have HS2 := Aside0.mk ((show Sim P w _ from by repeat (first | exact HS.out | apply Sim.drewN | apply Sim.drew | apply Sim.alloc)).below hb); have HB2 := Aside0.mk (Below.trans (show Below base w _ from by repeat (first | exact HB.out | apply pw_below_drewN | apply below_drew1 | apply below_alloc)) (hb.mono (Nat.le_trans HBS.out (Below.size (show Below base w _ from by repeat (first | exact HB.out | apply pw_below_drewN | apply below_drew1 | apply below_alloc)))))); clear HS HB hb; have HS := HS2; have HB := HB2; clear HS2 HB2; obtain ⟨A3_0, c3_0, xs3_0, s3_1, s3_2, s3_3, cl3, hc3_0, hc3_1, hc3_2, hc3_3, hf3_0, hf3_1, hf3_2, hf3_3, hl3_0, hR3_0, hG3⟩ := rowN_at HR.out HS.out i CI.out; have ST3 := Aside0.mk (fun (u : Value) (hv : SimV _ u) => Sim.store HS.out PG.out hG3 hc3_3 hv); clear hc3_0 hc3_1 hc3_2 hf3_0 hf3_1 hf3_2 hl3_0 hR3_0 hG3)
          | ((with_reducible refine gate_store (t := 9) (p := 40) rfl ?_); refine store_event (t := 9) (p := 40) (v := ?vo_w203) (w1 := (w103.setCell ⟨g, i * 4 + 3, none⟩ (.string (mt (wrap64 ((wrap64 ((n + (xs0_0.length : Int)) + 1)) + 1)))))) ?hg ?ho ?hn ?hr ?_; (case ho => rfl); (case hg => rfl); (case hn => rfl); (case hr => first | (go_simp; done) | (go_simp; rfl)); intro w203 hw; have HS2 := Aside0.mk (show Sim P w w203 by rw [hw]; exact ST3.out _ (sim_str _ _)); have HB2 := Aside0.mk (show Below base w w203 by rw [hw]; exact HB.out.setCell GB.out _); clear HS HB ST3 hw; have HS := HS2; have HB := HB2; clear HS2 HB2; clear hc3_3 hf3_3; have HK_4 := Aside0.mk (show (wrap64 ((wrap64 ((wrap64 ((n + (xs0_0.length : Int)) + 1)) + 1)) + 1)) = ((((n + q0) + 1) + 1) + 1) from by rw [HK_3.out]; exact mk_w1 _ (by have z1_ := HQN.out; have z2_ := HQP.out; omega) (by have z1_ := HQN.out; have z2_ := HQP.out; omega))))
        go_roundg k1
        case rel => exact ⟨i + 1, (wrap64 ((wrap64 ((wrap64 ((n + (xs0_0.length : Int)) + 1)) + 1)) + 1)), (by (try simp only [i64_w])), (by (try simp only [i64_w]); rw [HW2.out]), ⟨by rw [HK_4.out]; have h_ := HQ.out.2; rw [show elN l[i] = q0 + 3 from by rw [HQ0.out]; exact elN_eq _] at h_; rw [← h_]; omega⟩, ⟨by have := HI.out; have := CI.out; omega⟩, ⟨by have := HK1.out; omega⟩, ⟨by repeat (first | exact HS.out | apply Sim.drewN | apply Sim.drew | apply Sim.alloc)⟩, ⟨by repeat (first | exact HB.out | apply pw_below_drewN | apply below_drew1 | apply below_alloc)⟩⟩
        case measure => have := HK1.out; omega
      · have c0 : decide ((i : Int) < (l.length : Int)) = false := decide_eq_false (by omega)
        have HE := Aside0.mk (show n = a1 + cntN l from by rw [HN.out, List.take_of_length_le (by omega)])
        go_wp2
        go_ret
        exact ⟨by first | (rw [HE.out]; rfl) | (rw [← HE.out]; rfl) | rfl, by repeat (first | exact HS.out | apply Sim.drewN | apply Sim.drew | apply Sim.alloc), by repeat (first | exact HB.out | apply pw_below_drewN | apply below_drew1 | apply below_alloc)⟩

def elE (x : S45) : Int := cntN x.f2 + cntN x.f3 + 12
theorem elE_eq (x : S45) : elE x = cntN x.f2 + cntN x.f3 + 12 := rfl
def cntE : List S45 → Int
  | [] => 0
  | x :: l => elE x + cntE l
theorem cntE_len (l : List S45) : (l.length : Int) ≤ cntE l := by
  induction l with
  | nil => exact Int.le_refl _
  | cons x l ih => have := cntN_nonneg x.f2; have := cntN_nonneg x.f3; simp only [cntE, elE, List.length_cons]; omega
theorem cntE_nonneg (l : List S45) : 0 ≤ cntE l := Int.le_trans (Int.natCast_nonneg _) (cntE_len l)
theorem cntE_step (l : List S45) : ∀ i (h : i < l.length), cntE (l.take (i + 1)) = cntE (l.take i) + elE l[i] ∧ cntE (l.take (i + 1)) ≤ cntE l := by
  induction l with
  | nil => intro i h; simp at h
  | cons x l ih =>
    intro i h
    cases i with
    | zero => have := cntE_nonneg l; simp [cntE]; omega
    | succ i =>
      have := ih i (by simpa using h)
      simp only [List.take_succ_cons, cntE, List.getElem_cons_succ]
      omega
theorem cntE_at {l : List S45} {a n : Int} {i : Nat} (h : n = a + cntE (l.take i)) (hl : 0 ≤ a ∧ a + cntE l ≤ 4611686018427387904) (hi : i < l.length) : (0 ≤ n ∧ n + elE l[i] ≤ 4611686018427387904) ∧ n + elE l[i] = a + cntE (l.take (i + 1)) := by
  have h1 := cntE_step l i hi
  have h2 := cntE_nonneg (l.take i)
  omega
def shD (x : S43) := ((), (), (), ())
theorem simK_date : SimK k43 shD :=
  simK_iso (f := fun x : S43 => (x.f0, x.f1, x.f2, x.f3)) (fun y => ⟨y.1, y.2.1, y.2.2.1, y.2.2.2⟩) (fun _ => rfl) (simK_pair (simK_int .i64) (simK_pair (simK_int .i64) (simK_pair (simK_int .i64) simK_bool)))
def shE (x : S45) := ((), (), x.f2.map shN, x.f3.map shN, (), (), (), shD x.f7, (), (), ())
theorem simK_entry : SimK k45 shE :=
  simK_iso (f := fun x : S45 => (x.f0, x.f1, x.f2, x.f3, x.f4, x.f5, x.f6, x.f7, x.f8, x.f9, x.f10)) (fun y => ⟨y.1, y.2.1, y.2.2.1, y.2.2.2.1, y.2.2.2.2.1, y.2.2.2.2.2.1, y.2.2.2.2.2.2.1, y.2.2.2.2.2.2.2.1, y.2.2.2.2.2.2.2.2.1, y.2.2.2.2.2.2.2.2.2.1, y.2.2.2.2.2.2.2.2.2.2⟩) (fun _ => rfl)
    (simK_pair simK_string (simK_pair (simK_int .i64) (simK_pair (simK_slice _ simK_name) (simK_pair (simK_slice _ simK_name) (simK_pair simK_string (simK_pair simK_string (simK_pair simK_string (simK_pair simK_date (simK_pair (simK_int .i64) (simK_pair simK_string simK_string))))))))))
def e0E : S45 := ⟨⟨#[]⟩, 0, [], [], ⟨#[]⟩, ⟨#[]⟩, ⟨#[]⟩, ⟨0, 0, 0, false⟩, 0, ⟨#[]⟩, ⟨#[]⟩⟩
theorem rowE_at {w W : World} {P : Nat → Prop} {base g cap : Nat} {l : List S45} (HR : Kd.R k45 45 w base P (.slice (some ⟨g, 0, none⟩) l.length cap) l) (HS : Sim P w W) (i : Nat) (hi : i < l.length) :
    ∃ (A : Option Addr) (c : Nat) (xs : List S70) (A2 : Option Addr) (c2 : Nat) (ys : List S70) (s0 : ByteArray) (n1 : Int) (s4 s5 s6 : ByteArray) (n7 n8 n9 : Int) (b10 : Bool) (n11 : Int) (s12 s13 : ByteArray) (cl : Array Value),
      W.cell? ⟨g, i * 14, none⟩ = some (.string s0) ∧ W.cell? ⟨g, i * 14 + 1, none⟩ = some (.int .i64 n1) ∧ W.cell? ⟨g, i * 14 + 2, none⟩ = some (.slice A xs.length c) ∧ W.cell? ⟨g, i * 14 + 3, none⟩ = some (.slice A2 ys.length c2) ∧ W.cell? ⟨g, i * 14 + 4, none⟩ = some (.string s4) ∧ W.cell? ⟨g, i * 14 + 5, none⟩ = some (.string s5) ∧ W.cell? ⟨g, i * 14 + 6, none⟩ = some (.string s6) ∧ W.cell? ⟨g, i * 14 + 7, none⟩ = some (.int .i64 n7) ∧ W.cell? ⟨g, i * 14 + 8, none⟩ = some (.int .i64 n8) ∧ W.cell? ⟨g, i * 14 + 9, none⟩ = some (.int .i64 n9) ∧ W.cell? ⟨g, i * 14 + 10, none⟩ = some (.bool b10) ∧ W.cell? ⟨g, i * 14 + 11, none⟩ = some (.int .i64 n11) ∧ W.cell? ⟨g, i * 14 + 12, none⟩ = some (.string s12) ∧ W.cell? ⟨g, i * 14 + 13, none⟩ = some (.string s13) ∧
      W.frozen? ⟨g, i * 14, none⟩ = false ∧ W.frozen? ⟨g, i * 14 + 1, none⟩ = false ∧ W.frozen? ⟨g, i * 14 + 2, none⟩ = false ∧ W.frozen? ⟨g, i * 14 + 3, none⟩ = false ∧ W.frozen? ⟨g, i * 14 + 4, none⟩ = false ∧ W.frozen? ⟨g, i * 14 + 5, none⟩ = false ∧ W.frozen? ⟨g, i * 14 + 6, none⟩ = false ∧ W.frozen? ⟨g, i * 14 + 7, none⟩ = false ∧ W.frozen? ⟨g, i * 14 + 8, none⟩ = false ∧ W.frozen? ⟨g, i * 14 + 9, none⟩ = false ∧ W.frozen? ⟨g, i * 14 + 10, none⟩ = false ∧ W.frozen? ⟨g, i * 14 + 11, none⟩ = false ∧ W.frozen? ⟨g, i * 14 + 12, none⟩ = false ∧ W.frozen? ⟨g, i * 14 + 13, none⟩ = false ∧
      cntN xs = cntN l[i].f2 ∧ Kd.R k70 70 W base P (.slice A xs.length c) xs ∧ cntN ys = cntN l[i].f3 ∧ Kd.R k70 70 W base P (.slice A2 ys.length c2) ys ∧ W.heap[g]? = some (.cells cl 45 (0, 0)) := by
  obtain ⟨l', hR', hm⟩ := R_sim simK_entry HR HS
  obtain ⟨hl, hs⟩ := sh_at hm e0E i hi
  obtain ⟨c, hcl, hM, hc, hf⟩ := Kd.R_elem hR' e0E (i : Int) (by omega) (by omega)
  obtain ⟨_, _, rfl, rfl, _, _, rfl, rfl, _, _, rfl, ⟨v, rfl, hRs⟩, _, _, rfl, ⟨v2, rfl, hRs2⟩, _, _, rfl, rfl, _, _, rfl, rfl, _, _, rfl, rfl, _, _, rfl, ⟨_, _, rfl, rfl, _, _, rfl, rfl, _, _, rfl, rfl, rfl⟩, _, _, rfl, rfl, _, _, rfl, rfl, rfl⟩ := hM
  obtain ⟨A, cc, rfl⟩ := Kd.R_slice hRs
  obtain ⟨A2, cc2, rfl⟩ := Kd.R_slice hRs2
  obtain ⟨cl, hG⟩ := Kd.R_typed hR' g rfl
  have e2 : ((l'.getD i e0E).f2.map shN) = l[i].f2.map shN := congrArg (fun z => z.2.2.1) hs
  have e3 : ((l'.getD i e0E).f3.map shN) = l[i].f3.map shN := congrArg (fun z => z.2.2.2.1) hs
  exact ⟨A, cc, _, A2, cc2, _, _, _, _, _, _, _, _, _, _, _, _, _, cl, hc 0 _ rfl, hc 1 _ rfl, hc 2 _ rfl, hc 3 _ rfl, hc 4 _ rfl, hc 5 _ rfl, hc 6 _ rfl, hc 7 _ rfl, hc 8 _ rfl, hc 9 _ rfl, hc 10 _ rfl, hc 11 _ rfl, hc 12 _ rfl, hc 13 _ rfl, hf 0, hf 1, hf 2, hf 3, hf 4, hf 5, hf 6, hf 7, hf 8, hf 9, hf 10, hf 11, hf 12, hf 13, shN_cnt _ _ e2, Kd.R_mono hRs (fun _ hk => hk.1), shN_cnt _ _ e3, Kd.R_mono hRs2 (fun _ hk => hk.1), hG⟩
set_option maxHeartbeats 8000000 in
set_option maxRecDepth 100000 in
theorem markE_w (base : Nat) (P : Nat → Prop) (u : Value) (l : List S45) (a1 : Int) (w : World) (h0 : 0 ≤ a1) (h1 : a1 + cntE l ≤ 4611686018427387904) (ho : Kd.R k45 45 w base P u l) :
    Calls Tryd.prog 20 #[u, .int .i64 a1] w fun e w' => e = .returned (.int .i64 (a1 + cntE l)) ∧ Sim P w w' ∧ Below base w w' := by
  have HL := Aside0.mk (And.intro h0 h1)
  have HZ := Aside0.mk (show (l.length : Int) ≤ 4611686018427387904 from Int.le_trans (cntE_len l) (by omega))
  have HR := Aside0.mk ho
  have HS := Aside0.mk (Sim.refl P w)
  have HB := Aside0.mk (Below.refl base w)
  obtain ⟨kk, hkk⟩ : ∃ kk, kk = l.length + 1 := ⟨_, rfl⟩
  have HKK := Aside0.mk hkk
  obtain ⟨A, c, rfl⟩ := Kd.R_slice ho
  have hu1 := Tryd.underlying45
  have hu2 := Tryd.underlying43
  clear ho hkk h0 h1
  go_enter Tryd.func20, Tryd.ntmps20
  go_wp2
  go_loopg [1, 5] kk (fun kq v1 v5 w' => ∃ (i : Nat) (n : Int), v1 = .int .i64 n ∧ v5 = .int .i64 (i : Int) ∧ Aside0 (n = a1 + cntE (l.take i)) ∧ Aside0 (i ≤ l.length ∧ l.length - i < kq) ∧ Aside0 (kq ≤ kk) ∧ Aside0 (Sim P w w') ∧ Aside0 (Below base w w'))
  case atStart => exact ⟨0, a1, rfl, (by first | rfl | simp), ⟨by simp [cntE]⟩, ⟨Nat.zero_le _, by have := HKK.out; omega⟩, ⟨Nat.le_refl _⟩, ⟨by repeat (first | exact HS.out | apply Sim.drewN | apply Sim.drew | apply Sim.alloc)⟩, ⟨by repeat (first | exact HB.out | apply pw_below_drewN | apply below_drew1 | apply below_alloc)⟩⟩
  case round =>
    clear HS HB
    obtain ⟨i, n, rfl, rfl, HN, HI, HK1, HS, HB⟩ := hrel
    cases gk with
    | zero => exact absurd HI.out.2 (Nat.not_lt_zero _)
    | succ k1 =>
      by_cases ci : i < l.length
      · have c0 : decide ((i : Int) < (l.length : Int)) = true := decide_eq_true (by omega)
        have c1 : decide ((0 : Int) ≤ (i : Int)) = true := decide_eq_true (by omega)
        have CI := Aside0.mk ci
        have HW2 := Aside0.mk (mk_i i (by have := HZ.out; omega))
        have HQ := Aside0.mk (show (0 ≤ n ∧ n + elE l[i] ≤ 4611686018427387904) ∧ n + elE l[i] = a1 + cntE (l.take (i + 1)) from cntE_at HN.out HL.out ci)
        obtain ⟨q0, hq0⟩ : ∃ q : Int, q = cntN l[i].f2 := ⟨_, rfl⟩
        have HQ0 := Aside0.mk hq0
        obtain ⟨q1, hq1⟩ : ∃ q : Int, q = cntN l[i].f3 := ⟨_, rfl⟩
        have HQ1 := Aside0.mk hq1
        have HQN := Aside0.mk (show 0 ≤ n ∧ n + (q0 + q1 + 12) ≤ 4611686018427387904 from by have h_ := HQ.out.1; rw [show elE l[i] = q0 + q1 + 12 from by rw [hq0, hq1]; exact elE_eq _] at h_; exact h_)
        have HQP := Aside0.mk (show 0 ≤ q0 ∧ 0 ≤ q1 ∧ True from by rw [hq0, hq1]; exact ⟨by first | exact Int.natCast_nonneg _ | exact cntN_nonneg _, by first | exact Int.natCast_nonneg _ | exact cntN_nonneg _, trivial⟩)
        clear hq0 hq1
        obtain ⟨g, cap, eo, gb, gl, cl, HG⟩ := Kd.R_form HR.out (by omega)
        cases eo
        have GB := Aside0.mk gb
        have HBS := Aside0.mk (show base ≤ w.heap.size by omega)
        have PG := Aside0.mk (HR.out.1 g rfl)
        clear gb gl HG
        have HK_0 := Aside0.mk (rfl : n = n)
        go_wp2_with (first
          | ((with_reducible refine gate_callee (f := 21) rfl ?_); refine goesL_ (some 15) rfl rfl Tryd.func21 (by kernel_rfl) rfl #[.int .i64 n] rfl (by (try simp only [List.map_toArray, List.map_cons, List.map_nil]); first | done | rfl) ?_; obtain ⟨kt0, hkt0⟩ := (mt_ev n (by rw [HK_0.out]; have z1_ := HQN.out; have z2_ := HQP.out; omega) (by rw [HK_0.out]; have z1_ := HQN.out; have z2_ := HQP.out; omega)); (refine (laws_markText.calls kt0 n (mt n) _ (hkt0 kt0 (Nat.le_refl _))).mono ?_); rintro e w100 ⟨rfl, hb⟩; refine ⟨_, rfl, ?_⟩; clear hkt0; have HS2 := Aside0.mk ((show Sim P w _ from by repeat (first | exact HS.out | apply Sim.drewN | apply Sim.drew | apply Sim.alloc)).below hb); have HB2 := Aside0.mk (Below.trans (show Below base w _ from by repeat (first | exact HB.out | apply pw_below_drewN | apply below_drew1 | apply below_alloc)) (hb.mono (Nat.le_trans HBS.out (Below.size (show Below base w _ from by repeat (first | exact HB.out | apply pw_below_drewN | apply below_drew1 | apply below_alloc)))))); clear HS HB hb; have HS := HS2; have HB := HB2; clear HS2 HB2; obtain ⟨A0_0, c0_0, xs0_0, A0_1, c0_1, xs0_1, s0_0, s0_1, s0_4, s0_5, s0_6, s0_7, s0_8, s0_9, s0_10, s0_11, s0_12, s0_13, cl0, hc0_0, hc0_1, hc0_2, hc0_3, hc0_4, hc0_5, hc0_6, hc0_7, hc0_8, hc0_9, hc0_10, hc0_11, hc0_12, hc0_13, hf0_0, hf0_1, hf0_2, hf0_3, hf0_4, hf0_5, hf0_6, hf0_7, hf0_8, hf0_9, hf0_10, hf0_11, hf0_12, hf0_13, hl0_0, hR0_0, hl0_1, hR0_1, hG0⟩ := rowE_at HR.out HS.out i CI.out; have ST0 := Aside0.mk (fun (u : Value) (hv : SimV _ u) => Sim.store HS.out PG.out hG0 hc0_0 hv); clear hc0_1 hc0_2 hc0_3 hc0_4 hc0_5 hc0_6 hc0_7 hc0_8 hc0_9 hc0_10 hc0_11 hc0_12 hc0_13 hf0_1 hf0_2 hf0_3 hf0_4 hf0_5 hf0_6 hf0_7 hf0_8 hf0_9 hf0_10 hf0_11 hf0_12 hf0_13 hl0_0 hR0_0 hl0_1 hR0_1 hG0)
          | ((with_reducible refine gate_store (t := 9) (p := 17) rfl ?_); refine store_event (t := 9) (p := 17) (v := ?vo_w200) (w1 := (w100.setCell ⟨g, i * 14, none⟩ (.string (mt n)))) ?hg ?ho ?hn ?hr ?_; (case ho => rfl); (case hg => rfl); (case hn => rfl); (case hr => first | (go_simp; done) | (go_simp; rfl)); intro w200 hw; have HS2 := Aside0.mk (show Sim P w w200 by rw [hw]; exact ST0.out _ (sim_str _ _)); have HB2 := Aside0.mk (show Below base w w200 by rw [hw]; exact HB.out.setCell GB.out _); clear HS HB ST0 hw; have HS := HS2; have HB := HB2; clear HS2 HB2; clear hc0_0 hf0_0; have HK_1 := Aside0.mk (show (wrap64 (n + 1)) = (n + 1) from by rw [HK_0.out]; exact mk_w1 _ (by have z1_ := HQN.out; have z2_ := HQP.out; omega) (by have z1_ := HQN.out; have z2_ := HQP.out; omega)); obtain ⟨A1_0, c1_0, xs1_0, A1_1, c1_1, xs1_1, s1_0, s1_1, s1_4, s1_5, s1_6, s1_7, s1_8, s1_9, s1_10, s1_11, s1_12, s1_13, cl1, hc1_0, hc1_1, hc1_2, hc1_3, hc1_4, hc1_5, hc1_6, hc1_7, hc1_8, hc1_9, hc1_10, hc1_11, hc1_12, hc1_13, hf1_0, hf1_1, hf1_2, hf1_3, hf1_4, hf1_5, hf1_6, hf1_7, hf1_8, hf1_9, hf1_10, hf1_11, hf1_12, hf1_13, hl1_0, hR1_0, hl1_1, hR1_1, hG1⟩ := rowE_at HR.out HS.out i CI.out; have ST1 := Aside0.mk (fun (u : Value) (hv : SimV _ u) => Sim.store HS.out PG.out hG1 hc1_1 hv); clear hc1_0 hc1_2 hc1_3 hc1_4 hc1_5 hc1_6 hc1_7 hc1_8 hc1_9 hc1_10 hc1_11 hc1_12 hc1_13 hf1_0 hf1_2 hf1_3 hf1_4 hf1_5 hf1_6 hf1_7 hf1_8 hf1_9 hf1_10 hf1_11 hf1_12 hf1_13 hl1_0 hR1_0 hl1_1 hR1_1 hG1)
          | ((with_reducible refine gate_store (t := 3) (p := 24) rfl ?_); refine store_event (t := 3) (p := 24) (v := ?vo_w201) (w1 := (w200.setCell ⟨g, i * 14 + 1, none⟩ (.int .i64 (wrap64 (n + 1))))) ?hg ?ho ?hn ?hr ?_; (case ho => rfl); (case hg => rfl); (case hn => rfl); (case hr => first | (go_simp; done) | (go_simp; rfl)); intro w201 hw; have HS2 := Aside0.mk (show Sim P w w201 by rw [hw]; exact ST1.out _ (sim_int _ _ _)); have HB2 := Aside0.mk (show Below base w w201 by rw [hw]; exact HB.out.setCell GB.out _); clear HS HB ST1 hw; have HS := HS2; have HB := HB2; clear HS2 HB2; clear hc1_1 hf1_1; have HK_2 := Aside0.mk (show (wrap64 ((wrap64 (n + 1)) + 1)) = ((n + 1) + 1) from by rw [HK_1.out]; exact mk_w1 _ (by have z1_ := HQN.out; have z2_ := HQP.out; omega) (by have z1_ := HQN.out; have z2_ := HQP.out; omega)); obtain ⟨A2_0, c2_0, xs2_0, A2_1, c2_1, xs2_1, s2_0, s2_1, s2_4, s2_5, s2_6, s2_7, s2_8, s2_9, s2_10, s2_11, s2_12, s2_13, cl2, hc2_0, hc2_1, hc2_2, hc2_3, hc2_4, hc2_5, hc2_6, hc2_7, hc2_8, hc2_9, hc2_10, hc2_11, hc2_12, hc2_13, hf2_0, hf2_1, hf2_2, hf2_3, hf2_4, hf2_5, hf2_6, hf2_7, hf2_8, hf2_9, hf2_10, hf2_11, hf2_12, hf2_13, hl2_0, hR2_0, hl2_1, hR2_1, hG2⟩ := rowE_at HR.out HS.out i CI.out; have HRS2 := Aside0.mk hR2_0; have HLS2 := Aside0.mk (hl2_0.trans HQ0.out.symm); clear hR2_0 hl2_0; clear hc2_0 hc2_1 hc2_3 hc2_4 hc2_5 hc2_6 hc2_7 hc2_8 hc2_9 hc2_10 hc2_11 hc2_12 hc2_13 hf2_0 hf2_1 hf2_3 hf2_4 hf2_5 hf2_6 hf2_7 hf2_8 hf2_9 hf2_10 hf2_11 hf2_12 hf2_13 hl2_1 hR2_1 hG2)
          | ((with_reducible refine gate_callee (f := 28) rfl ?_); refine goesL_ (some 33) rfl rfl Tryd.func28 (by kernel_rfl) rfl #[.slice A2_0 xs2_0.length c2_0, .int .i64 (wrap64 ((wrap64 (n + 1)) + 1))] rfl (by (try simp only [List.map_toArray, List.map_cons, List.map_nil]); first | done | rfl) ?_; (refine (markN_w base P _ xs2_0 (wrap64 ((wrap64 (n + 1)) + 1)) _ (by rw [HK_2.out]; have z1_ := HQN.out; have z2_ := HQP.out; omega) (by rw [HK_2.out, HLS2.out]; have z1_ := HQN.out; have z2_ := HQP.out; omega) (by (with_reducible repeat (first | apply Kd.R_alloc | apply Kd.R_drewN | apply Kd.R_drew)); exact HRS2.out)).mono ?_); rintro e w102 ⟨rfl, hs, hb⟩; refine ⟨_, rfl, ?_⟩; have HS2 := Aside0.mk ((show Sim P w _ from by repeat (first | exact HS.out | apply Sim.drewN | apply Sim.drew | apply Sim.alloc)).trans hs); have HB2 := Aside0.mk ((show Below base w _ from by repeat (first | exact HB.out | apply pw_below_drewN | apply below_drew1 | apply below_alloc)).trans hb); clear HS HB hs hb; have HS := HS2; have HB := HB2; clear HS2 HB2; have HK_3 := Aside0.mk (show ((wrap64 ((wrap64 (n + 1)) + 1)) + cntN xs2_0) = (((n + 1) + 1) + q0) from by rw [HK_2.out, HLS2.out]); clear HRS2 hc2_2 hf2_2; obtain ⟨A3_0, c3_0, xs3_0, A3_1, c3_1, xs3_1, s3_0, s3_1, s3_4, s3_5, s3_6, s3_7, s3_8, s3_9, s3_10, s3_11, s3_12, s3_13, cl3, hc3_0, hc3_1, hc3_2, hc3_3, hc3_4, hc3_5, hc3_6, hc3_7, hc3_8, hc3_9, hc3_10, hc3_11, hc3_12, hc3_13, hf3_0, hf3_1, hf3_2, hf3_3, hf3_4, hf3_5, hf3_6, hf3_7, hf3_8, hf3_9, hf3_10, hf3_11, hf3_12, hf3_13, hl3_0, hR3_0, hl3_1, hR3_1, hG3⟩ := rowE_at HR.out HS.out i CI.out; have HRS3 := Aside0.mk hR3_1; have HLS3 := Aside0.mk (hl3_1.trans HQ1.out.symm); clear hR3_1 hl3_1; clear hc3_0 hc3_1 hc3_2 hc3_4 hc3_5 hc3_6 hc3_7 hc3_8 hc3_9 hc3_10 hc3_11 hc3_12 hc3_13 hf3_0 hf3_1 hf3_2 hf3_4 hf3_5 hf3_6 hf3_7 hf3_8 hf3_9 hf3_10 hf3_11 hf3_12 hf3_13 hl3_0 hR3_0 hG3)
          | ((with_reducible refine gate_callee (f := 28) rfl ?_); refine goesL_ (some 40) rfl rfl Tryd.func28 (by kernel_rfl) rfl #[.slice A3_1 xs3_1.length c3_1, .int .i64 ((wrap64 ((wrap64 (n + 1)) + 1)) + cntN xs2_0)] rfl (by (try simp only [List.map_toArray, List.map_cons, List.map_nil]); first | done | rfl) ?_; (refine (markN_w base P _ xs3_1 ((wrap64 ((wrap64 (n + 1)) + 1)) + cntN xs2_0) _ (by rw [HK_3.out]; have z1_ := HQN.out; have z2_ := HQP.out; omega) (by rw [HK_3.out, HLS3.out]; have z1_ := HQN.out; have z2_ := HQP.out; omega) (by (with_reducible repeat (first | apply Kd.R_alloc | apply Kd.R_drewN | apply Kd.R_drew)); exact HRS3.out)).mono ?_); rintro e w103 ⟨rfl, hs, hb⟩; refine ⟨_, rfl, ?_⟩; have HS2 := Aside0.mk ((show Sim P w _ from by repeat (first | exact HS.out | apply Sim.drewN | apply Sim.drew | apply Sim.alloc)).trans hs); have HB2 := Aside0.mk ((show Below base w _ from by repeat (first | exact HB.out | apply pw_below_drewN | apply below_drew1 | apply below_alloc)).trans hb); clear HS HB hs hb; have HS := HS2; have HB := HB2; clear HS2 HB2; have HK_4 := Aside0.mk (show (((wrap64 ((wrap64 (n + 1)) + 1)) + cntN xs2_0) + cntN xs3_1) = ((((n + 1) + 1) + q0) + q1) from by rw [HK_3.out, HLS3.out]); clear HRS3 hc3_3 hf3_3)
          | ((with_reducible refine gate_callee (f := 21) rfl ?_); refine goesL_ (some 44) rfl rfl Tryd.func21 (by kernel_rfl) rfl #[.int .i64 (((wrap64 ((wrap64 (n + 1)) + 1)) + cntN xs2_0) + cntN xs3_1)] rfl (by (try simp only [List.map_toArray, List.map_cons, List.map_nil]); first | done | rfl) ?_; obtain ⟨kt4, hkt4⟩ := (mt_ev (((wrap64 ((wrap64 (n + 1)) + 1)) + cntN xs2_0) + cntN xs3_1) (by rw [HK_4.out]; have z1_ := HQN.out; have z2_ := HQP.out; omega) (by rw [HK_4.out]; have z1_ := HQN.out; have z2_ := HQP.out; omega)); (refine (laws_markText.calls kt4 (((wrap64 ((wrap64 (n + 1)) + 1)) + cntN xs2_0) + cntN xs3_1) (mt (((wrap64 ((wrap64 (n + 1)) + 1)) + cntN xs2_0) + cntN xs3_1)) _ (hkt4 kt4 (Nat.le_refl _))).mono ?_); rintro e w104 ⟨rfl, hb⟩; refine ⟨_, rfl, ?_⟩; clear hkt4; have HS2 := Aside0.mk ((show Sim P w _ from by repeat (first | exact HS.out | apply Sim.drewN | apply Sim.drew | apply Sim.alloc)).below hb); have HB2 := Aside0.mk (Below.trans (show Below base w _ from by repeat (first | exact HB.out | apply pw_below_drewN | apply below_drew1 | apply below_alloc)) (hb.mono (Nat.le_trans HBS.out (Below.size (show Below base w _ from by repeat (first | exact HB.out | apply pw_below_drewN | apply below_drew1 | apply below_alloc)))))); clear HS HB hb; have HS := HS2; have HB := HB2; clear HS2 HB2; obtain ⟨A4_0, c4_0, xs4_0, A4_1, c4_1, xs4_1, s4_0, s4_1, s4_4, s4_5, s4_6, s4_7, s4_8, s4_9, s4_10, s4_11, s4_12, s4_13, cl4, hc4_0, hc4_1, hc4_2, hc4_3, hc4_4, hc4_5, hc4_6, hc4_7, hc4_8, hc4_9, hc4_10, hc4_11, hc4_12, hc4_13, hf4_0, hf4_1, hf4_2, hf4_3, hf4_4, hf4_5, hf4_6, hf4_7, hf4_8, hf4_9, hf4_10, hf4_11, hf4_12, hf4_13, hl4_0, hR4_0, hl4_1, hR4_1, hG4⟩ := rowE_at HR.out HS.out i CI.out; have ST4 := Aside0.mk (fun (u : Value) (hv : SimV _ u) => Sim.store HS.out PG.out hG4 hc4_4 hv); clear hc4_0 hc4_1 hc4_2 hc4_3 hc4_5 hc4_6 hc4_7 hc4_8 hc4_9 hc4_10 hc4_11 hc4_12 hc4_13 hf4_0 hf4_1 hf4_2 hf4_3 hf4_5 hf4_6 hf4_7 hf4_8 hf4_9 hf4_10 hf4_11 hf4_12 hf4_13 hl4_0 hR4_0 hl4_1 hR4_1 hG4)
          | ((with_reducible refine gate_store (t := 9) (p := 46) rfl ?_); refine store_event (t := 9) (p := 46) (v := ?vo_w204) (w1 := (w104.setCell ⟨g, i * 14 + 4, none⟩ (.string (mt (((wrap64 ((wrap64 (n + 1)) + 1)) + cntN xs2_0) + cntN xs3_1))))) ?hg ?ho ?hn ?hr ?_; (case ho => rfl); (case hg => rfl); (case hn => rfl); (case hr => first | (go_simp; done) | (go_simp; rfl)); intro w204 hw; have HS2 := Aside0.mk (show Sim P w w204 by rw [hw]; exact ST4.out _ (sim_str _ _)); have HB2 := Aside0.mk (show Below base w w204 by rw [hw]; exact HB.out.setCell GB.out _); clear HS HB ST4 hw; have HS := HS2; have HB := HB2; clear HS2 HB2; clear hc4_4 hf4_4; have HK_5 := Aside0.mk (show (wrap64 ((((wrap64 ((wrap64 (n + 1)) + 1)) + cntN xs2_0) + cntN xs3_1) + 1)) = (((((n + 1) + 1) + q0) + q1) + 1) from by rw [HK_4.out]; exact mk_w1 _ (by have z1_ := HQN.out; have z2_ := HQP.out; omega) (by have z1_ := HQN.out; have z2_ := HQP.out; omega)))
          | ((with_reducible refine gate_callee (f := 21) rfl ?_); refine goesL_ (some 52) rfl rfl Tryd.func21 (by kernel_rfl) rfl #[.int .i64 (wrap64 ((((wrap64 ((wrap64 (n + 1)) + 1)) + cntN xs2_0) + cntN xs3_1) + 1))] rfl (by (try simp only [List.map_toArray, List.map_cons, List.map_nil]); first | done | rfl) ?_; obtain ⟨kt5, hkt5⟩ := (mt_ev (wrap64 ((((wrap64 ((wrap64 (n + 1)) + 1)) + cntN xs2_0) + cntN xs3_1) + 1)) (by rw [HK_5.out]; have z1_ := HQN.out; have z2_ := HQP.out; omega) (by rw [HK_5.out]; have z1_ := HQN.out; have z2_ := HQP.out; omega)); (refine (laws_markText.calls kt5 (wrap64 ((((wrap64 ((wrap64 (n + 1)) + 1)) + cntN xs2_0) + cntN xs3_1) + 1)) (mt (wrap64 ((((wrap64 ((wrap64 (n + 1)) + 1)) + cntN xs2_0) + cntN xs3_1) + 1))) _ (hkt5 kt5 (Nat.le_refl _))).mono ?_); rintro e w105 ⟨rfl, hb⟩; refine ⟨_, rfl, ?_⟩; clear hkt5; have HS2 := Aside0.mk ((show Sim P w _ from by repeat (first | exact HS.out | apply Sim.drewN | apply Sim.drew | apply Sim.alloc)).below hb); have HB2 := Aside0.mk (Below.trans (show Below base w _ from by repeat (first | exact HB.out | apply pw_below_drewN | apply below_drew1 | apply below_alloc)) (hb.mono (Nat.le_trans HBS.out (Below.size (show Below base w _ from by repeat (first | exact HB.out | apply pw_below_drewN | apply below_drew1 | apply below_alloc)))))); clear HS HB hb; have HS := HS2; have HB := HB2; clear HS2 HB2; obtain ⟨A5_0, c5_0, xs5_0, A5_1, c5_1, xs5_1, s5_0, s5_1, s5_4, s5_5, s5_6, s5_7, s5_8, s5_9, s5_10, s5_11, s5_12, s5_13, cl5, hc5_0, hc5_1, hc5_2, hc5_3, hc5_4, hc5_5, hc5_6, hc5_7, hc5_8, hc5_9, hc5_10, hc5_11, hc5_12, hc5_13, hf5_0, hf5_1, hf5_2, hf5_3, hf5_4, hf5_5, hf5_6, hf5_7, hf5_8, hf5_9, hf5_10, hf5_11, hf5_12, hf5_13, hl5_0, hR5_0, hl5_1, hR5_1, hG5⟩ := rowE_at HR.out HS.out i CI.out; have ST5 := Aside0.mk (fun (u : Value) (hv : SimV _ u) => Sim.store HS.out PG.out hG5 hc5_5 hv); clear hc5_0 hc5_1 hc5_2 hc5_3 hc5_4 hc5_6 hc5_7 hc5_8 hc5_9 hc5_10 hc5_11 hc5_12 hc5_13 hf5_0 hf5_1 hf5_2 hf5_3 hf5_4 hf5_6 hf5_7 hf5_8 hf5_9 hf5_10 hf5_11 hf5_12 hf5_13 hl5_0 hR5_0 hl5_1 hR5_1 hG5)
          | ((with_reducible refine gate_store (t := 9) (p := 54) rfl ?_); refine store_event (t := 9) (p := 54) (v := ?vo_w205) (w1 := (w105.setCell ⟨g, i * 14 + 5, none⟩ (.string (mt (wrap64 ((((wrap64 ((wrap64 (n + 1)) + 1)) + cntN xs2_0) + cntN xs3_1) + 1)))))) ?hg ?ho ?hn ?hr ?_; (case ho => rfl); (case hg => rfl); (case hn => rfl); (case hr => first | (go_simp; done) | (go_simp; rfl)); intro w205 hw; have HS2 := Aside0.mk (show Sim P w w205 by rw [hw]; exact ST5.out _ (sim_str _ _)); have HB2 := Aside0.mk (show Below base w w205 by rw [hw]; exact HB.out.setCell GB.out _); clear HS HB ST5 hw; have HS := HS2; have HB := HB2; clear HS2 HB2; clear hc5_5 hf5_5; have HK_6 := Aside0.mk (show (wrap64 ((wrap64 ((((wrap64 ((wrap64 (n + 1)) + 1)) + cntN xs2_0) + cntN xs3_1) + 1)) + 1)) = ((((((n + 1) + 1) + q0) + q1) + 1) + 1) from by rw [HK_5.out]; exact mk_w1 _ (by have z1_ := HQN.out; have z2_ := HQP.out; omega) (by have z1_ := HQN.out; have z2_ := HQP.out; omega)))
          | ((with_reducible refine gate_callee (f := 21) rfl ?_); refine goesL_ (some 60) rfl rfl Tryd.func21 (by kernel_rfl) rfl #[.int .i64 (wrap64 ((wrap64 ((((wrap64 ((wrap64 (n + 1)) + 1)) + cntN xs2_0) + cntN xs3_1) + 1)) + 1))] rfl (by (try simp only [List.map_toArray, List.map_cons, List.map_nil]); first | done | rfl) ?_; obtain ⟨kt6, hkt6⟩ := (mt_ev (wrap64 ((wrap64 ((((wrap64 ((wrap64 (n + 1)) + 1)) + cntN xs2_0) + cntN xs3_1) + 1)) + 1)) (by rw [HK_6.out]; have z1_ := HQN.out; have z2_ := HQP.out; omega) (by rw [HK_6.out]; have z1_ := HQN.out; have z2_ := HQP.out; omega)); (refine (laws_markText.calls kt6 (wrap64 ((wrap64 ((((wrap64 ((wrap64 (n + 1)) + 1)) + cntN xs2_0) + cntN xs3_1) + 1)) + 1)) (mt (wrap64 ((wrap64 ((((wrap64 ((wrap64 (n + 1)) + 1)) + cntN xs2_0) + cntN xs3_1) + 1)) + 1))) _ (hkt6 kt6 (Nat.le_refl _))).mono ?_); rintro e w106 ⟨rfl, hb⟩; refine ⟨_, rfl, ?_⟩; clear hkt6; have HS2 := Aside0.mk ((show Sim P w _ from by repeat (first | exact HS.out | apply Sim.drewN | apply Sim.drew | apply Sim.alloc)).below hb); have HB2 := Aside0.mk (Below.trans (show Below base w _ from by repeat (first | exact HB.out | apply pw_below_drewN | apply below_drew1 | apply below_alloc)) (hb.mono (Nat.le_trans HBS.out (Below.size (show Below base w _ from by repeat (first | exact HB.out | apply pw_below_drewN | apply below_drew1 | apply below_alloc)))))); clear HS HB hb; have HS := HS2; have HB := HB2; clear HS2 HB2; obtain ⟨A6_0, c6_0, xs6_0, A6_1, c6_1, xs6_1, s6_0, s6_1, s6_4, s6_5, s6_6, s6_7, s6_8, s6_9, s6_10, s6_11, s6_12, s6_13, cl6, hc6_0, hc6_1, hc6_2, hc6_3, hc6_4, hc6_5, hc6_6, hc6_7, hc6_8, hc6_9, hc6_10, hc6_11, hc6_12, hc6_13, hf6_0, hf6_1, hf6_2, hf6_3, hf6_4, hf6_5, hf6_6, hf6_7, hf6_8, hf6_9, hf6_10, hf6_11, hf6_12, hf6_13, hl6_0, hR6_0, hl6_1, hR6_1, hG6⟩ := rowE_at HR.out HS.out i CI.out; have ST6 := Aside0.mk (fun (u : Value) (hv : SimV _ u) => Sim.store HS.out PG.out hG6 hc6_6 hv); clear hc6_0 hc6_1 hc6_2 hc6_3 hc6_4 hc6_5 hc6_7 hc6_8 hc6_9 hc6_10 hc6_11 hc6_12 hc6_13 hf6_0 hf6_1 hf6_2 hf6_3 hf6_4 hf6_5 hf6_7 hf6_8 hf6_9 hf6_10 hf6_11 hf6_12 hf6_13 hl6_0 hR6_0 hl6_1 hR6_1 hG6)
          | ((with_reducible refine gate_store (t := 9) (p := 62) rfl ?_); refine store_event (t := 9) (p := 62) (v := ?vo_w206) (w1 := (w106.setCell ⟨g, i * 14 + 6, none⟩ (.string (mt (wrap64 ((wrap64 ((((wrap64 ((wrap64 (n + 1)) + 1)) + cntN xs2_0) + cntN xs3_1) + 1)) + 1)))))) ?hg ?ho ?hn ?hr ?_; (case ho => rfl); (case hg => rfl); (case hn => rfl); (case hr => first | (go_simp; done) | (go_simp; rfl)); intro w206 hw; have HS2 := Aside0.mk (show Sim P w w206 by rw [hw]; exact ST6.out _ (sim_str _ _)); have HB2 := Aside0.mk (show Below base w w206 by rw [hw]; exact HB.out.setCell GB.out _); clear HS HB ST6 hw; have HS := HS2; have HB := HB2; clear HS2 HB2; clear hc6_6 hf6_6; have HK_7 := Aside0.mk (show (wrap64 ((wrap64 ((wrap64 ((((wrap64 ((wrap64 (n + 1)) + 1)) + cntN xs2_0) + cntN xs3_1) + 1)) + 1)) + 1)) = (((((((n + 1) + 1) + q0) + q1) + 1) + 1) + 1) from by rw [HK_6.out]; exact mk_w1 _ (by have z1_ := HQN.out; have z2_ := HQP.out; omega) (by have z1_ := HQN.out; have z2_ := HQP.out; omega)); obtain ⟨A7_0, c7_0, xs7_0, A7_1, c7_1, xs7_1, s7_0, s7_1, s7_4, s7_5, s7_6, s7_7, s7_8, s7_9, s7_10, s7_11, s7_12, s7_13, cl7, hc7_0, hc7_1, hc7_2, hc7_3, hc7_4, hc7_5, hc7_6, hc7_7, hc7_8, hc7_9, hc7_10, hc7_11, hc7_12, hc7_13, hf7_0, hf7_1, hf7_2, hf7_3, hf7_4, hf7_5, hf7_6, hf7_7, hf7_8, hf7_9, hf7_10, hf7_11, hf7_12, hf7_13, hl7_0, hR7_0, hl7_1, hR7_1, hG7⟩ := rowE_at HR.out HS.out i CI.out; have ST7 := Aside0.mk (fun (u : Value) (hv : SimV _ u) => Sim.store HS.out PG.out hG7 hc7_7 hv); clear hc7_0 hc7_1 hc7_2 hc7_3 hc7_4 hc7_5 hc7_6 hc7_8 hc7_9 hc7_10 hc7_11 hc7_12 hc7_13 hf7_0 hf7_1 hf7_2 hf7_3 hf7_4 hf7_5 hf7_6 hf7_8 hf7_9 hf7_10 hf7_11 hf7_12 hf7_13 hl7_0 hR7_0 hl7_1 hR7_1 hG7)
          | ((with_reducible refine gate_store (t := 3) (p := 70) rfl ?_); refine store_event (t := 3) (p := 70) (v := ?vo_w207) (w1 := (w206.setCell ⟨g, i * 14 + 7, none⟩ (.int .i64 (wrap64 ((wrap64 ((wrap64 ((((wrap64 ((wrap64 (n + 1)) + 1)) + cntN xs2_0) + cntN xs3_1) + 1)) + 1)) + 1))))) ?hg ?ho ?hn ?hr ?_; (case ho => rfl); (case hg => rfl); (case hn => rfl); (case hr => first | (go_simp; done) | (go_simp; rfl)); intro w207 hw; have HS2 := Aside0.mk (show Sim P w w207 by rw [hw]; exact ST7.out _ (sim_int _ _ _)); have HB2 := Aside0.mk (show Below base w w207 by rw [hw]; exact HB.out.setCell GB.out _); clear HS HB ST7 hw; have HS := HS2; have HB := HB2; clear HS2 HB2; clear hc7_7 hf7_7; have HK_8 := Aside0.mk (show (wrap64 ((wrap64 ((wrap64 ((wrap64 ((((wrap64 ((wrap64 (n + 1)) + 1)) + cntN xs2_0) + cntN xs3_1) + 1)) + 1)) + 1)) + 1)) = ((((((((n + 1) + 1) + q0) + q1) + 1) + 1) + 1) + 1) from by rw [HK_7.out]; exact mk_w1 _ (by have z1_ := HQN.out; have z2_ := HQP.out; omega) (by have z1_ := HQN.out; have z2_ := HQP.out; omega)); obtain ⟨A8_0, c8_0, xs8_0, A8_1, c8_1, xs8_1, s8_0, s8_1, s8_4, s8_5, s8_6, s8_7, s8_8, s8_9, s8_10, s8_11, s8_12, s8_13, cl8, hc8_0, hc8_1, hc8_2, hc8_3, hc8_4, hc8_5, hc8_6, hc8_7, hc8_8, hc8_9, hc8_10, hc8_11, hc8_12, hc8_13, hf8_0, hf8_1, hf8_2, hf8_3, hf8_4, hf8_5, hf8_6, hf8_7, hf8_8, hf8_9, hf8_10, hf8_11, hf8_12, hf8_13, hl8_0, hR8_0, hl8_1, hR8_1, hG8⟩ := rowE_at HR.out HS.out i CI.out; have ST8 := Aside0.mk (fun (u : Value) (hv : SimV _ u) => Sim.store HS.out PG.out hG8 hc8_8 hv); clear hc8_0 hc8_1 hc8_2 hc8_3 hc8_4 hc8_5 hc8_6 hc8_7 hc8_9 hc8_10 hc8_11 hc8_12 hc8_13 hf8_0 hf8_1 hf8_2 hf8_3 hf8_4 hf8_5 hf8_6 hf8_7 hf8_9 hf8_10 hf8_11 hf8_12 hf8_13 hl8_0 hR8_0 hl8_1 hR8_1 hG8)
          | ((with_reducible refine gate_store (t := 3) (p := 78) rfl ?_); refine store_event (t := 3) (p := 78) (v := ?vo_w208) (w1 := (w207.setCell ⟨g, i * 14 + 8, none⟩ (.int .i64 (wrap64 ((wrap64 ((wrap64 ((wrap64 ((((wrap64 ((wrap64 (n + 1)) + 1)) + cntN xs2_0) + cntN xs3_1) + 1)) + 1)) + 1)) + 1))))) ?hg ?ho ?hn ?hr ?_; (case ho => rfl); (case hg => rfl); (case hn => rfl); (case hr => first | (go_simp; done) | (go_simp; rfl)); intro w208 hw; have HS2 := Aside0.mk (show Sim P w w208 by rw [hw]; exact ST8.out _ (sim_int _ _ _)); have HB2 := Aside0.mk (show Below base w w208 by rw [hw]; exact HB.out.setCell GB.out _); clear HS HB ST8 hw; have HS := HS2; have HB := HB2; clear HS2 HB2; clear hc8_8 hf8_8; have HK_9 := Aside0.mk (show (wrap64 ((wrap64 ((wrap64 ((wrap64 ((wrap64 ((((wrap64 ((wrap64 (n + 1)) + 1)) + cntN xs2_0) + cntN xs3_1) + 1)) + 1)) + 1)) + 1)) + 1)) = (((((((((n + 1) + 1) + q0) + q1) + 1) + 1) + 1) + 1) + 1) from by rw [HK_8.out]; exact mk_w1 _ (by have z1_ := HQN.out; have z2_ := HQP.out; omega) (by have z1_ := HQN.out; have z2_ := HQP.out; omega)); obtain ⟨A9_0, c9_0, xs9_0, A9_1, c9_1, xs9_1, s9_0, s9_1, s9_4, s9_5, s9_6, s9_7, s9_8, s9_9, s9_10, s9_11, s9_12, s9_13, cl9, hc9_0, hc9_1, hc9_2, hc9_3, hc9_4, hc9_5, hc9_6, hc9_7, hc9_8, hc9_9, hc9_10, hc9_11, hc9_12, hc9_13, hf9_0, hf9_1, hf9_2, hf9_3, hf9_4, hf9_5, hf9_6, hf9_7, hf9_8, hf9_9, hf9_10, hf9_11, hf9_12, hf9_13, hl9_0, hR9_0, hl9_1, hR9_1, hG9⟩ := rowE_at HR.out HS.out i CI.out; have ST9 := Aside0.mk (fun (u : Value) (hv : SimV _ u) => Sim.store HS.out PG.out hG9 hc9_9 hv); clear hc9_0 hc9_1 hc9_2 hc9_3 hc9_4 hc9_5 hc9_6 hc9_7 hc9_8 hc9_10 hc9_11 hc9_12 hc9_13 hf9_0 hf9_1 hf9_2 hf9_3 hf9_4 hf9_5 hf9_6 hf9_7 hf9_8 hf9_10 hf9_11 hf9_12 hf9_13 hl9_0 hR9_0 hl9_1 hR9_1 hG9)
          | ((with_reducible refine gate_store (t := 3) (p := 86) rfl ?_); refine store_event (t := 3) (p := 86) (v := ?vo_w209) (w1 := (w208.setCell ⟨g, i * 14 + 9, none⟩ (.int .i64 (wrap64 ((wrap64 ((wrap64 ((wrap64 ((wrap64 ((((wrap64 ((wrap64 (n + 1)) + 1)) + cntN xs2_0) + cntN xs3_1) + 1)) + 1)) + 1)) + 1)) + 1))))) ?hg ?ho ?hn ?hr ?_; (case ho => rfl); (case hg => rfl); (case hn => rfl); (case hr => first | (go_simp; done) | (go_simp; rfl)); intro w209 hw; have HS2 := Aside0.mk (show Sim P w w209 by rw [hw]; exact ST9.out _ (sim_int _ _ _)); have HB2 := Aside0.mk (show Below base w w209 by rw [hw]; exact HB.out.setCell GB.out _); clear HS HB ST9 hw; have HS := HS2; have HB := HB2; clear HS2 HB2; clear hc9_9 hf9_9; have HK_10 := Aside0.mk (show (wrap64 ((wrap64 ((wrap64 ((wrap64 ((wrap64 ((wrap64 ((((wrap64 ((wrap64 (n + 1)) + 1)) + cntN xs2_0) + cntN xs3_1) + 1)) + 1)) + 1)) + 1)) + 1)) + 1)) = ((((((((((n + 1) + 1) + q0) + q1) + 1) + 1) + 1) + 1) + 1) + 1) from by rw [HK_9.out]; exact mk_w1 _ (by have z1_ := HQN.out; have z2_ := HQP.out; omega) (by have z1_ := HQN.out; have z2_ := HQP.out; omega)); obtain ⟨A10_0, c10_0, xs10_0, A10_1, c10_1, xs10_1, s10_0, s10_1, s10_4, s10_5, s10_6, s10_7, s10_8, s10_9, s10_10, s10_11, s10_12, s10_13, cl10, hc10_0, hc10_1, hc10_2, hc10_3, hc10_4, hc10_5, hc10_6, hc10_7, hc10_8, hc10_9, hc10_10, hc10_11, hc10_12, hc10_13, hf10_0, hf10_1, hf10_2, hf10_3, hf10_4, hf10_5, hf10_6, hf10_7, hf10_8, hf10_9, hf10_10, hf10_11, hf10_12, hf10_13, hl10_0, hR10_0, hl10_1, hR10_1, hG10⟩ := rowE_at HR.out HS.out i CI.out; have ST10 := Aside0.mk (fun (u : Value) (hv : SimV _ u) => Sim.store HS.out PG.out hG10 hc10_10 hv); clear hc10_0 hc10_1 hc10_2 hc10_3 hc10_4 hc10_5 hc10_6 hc10_7 hc10_8 hc10_9 hc10_11 hc10_12 hc10_13 hf10_0 hf10_1 hf10_2 hf10_3 hf10_4 hf10_5 hf10_6 hf10_7 hf10_8 hf10_9 hf10_11 hf10_12 hf10_13 hl10_0 hR10_0 hl10_1 hR10_1 hG10)
          | ((with_reducible refine gate_store (t := 4) (p := 96) rfl ?_); refine store_event (t := 4) (p := 96) (v := ?vo_w210) (w1 := (w209.setCell ⟨g, i * 14 + 10, none⟩ (.bool (Int.tmod (wrap64 ((wrap64 ((wrap64 ((wrap64 ((wrap64 ((wrap64 ((((wrap64 ((wrap64 (n + 1)) + 1)) + cntN xs2_0) + cntN xs3_1) + 1)) + 1)) + 1)) + 1)) + 1)) + 1)) 3 == 0)))) ?hg ?ho ?hn ?hr ?_; (case ho => rfl); (case hg => rfl); (case hn => rfl); (case hr => first | (go_simp; done) | (go_simp; rfl)); intro w210 hw; have HS2 := Aside0.mk (show Sim P w w210 by rw [hw]; exact ST10.out _ (sim_bool _ _)); have HB2 := Aside0.mk (show Below base w w210 by rw [hw]; exact HB.out.setCell GB.out _); clear HS HB ST10 hw; have HS := HS2; have HB := HB2; clear HS2 HB2; clear hc10_10 hf10_10; have HK_11 := Aside0.mk (show (wrap64 ((wrap64 ((wrap64 ((wrap64 ((wrap64 ((wrap64 ((wrap64 ((((wrap64 ((wrap64 (n + 1)) + 1)) + cntN xs2_0) + cntN xs3_1) + 1)) + 1)) + 1)) + 1)) + 1)) + 1)) + 1)) = (((((((((((n + 1) + 1) + q0) + q1) + 1) + 1) + 1) + 1) + 1) + 1) + 1) from by rw [HK_10.out]; exact mk_w1 _ (by have z1_ := HQN.out; have z2_ := HQP.out; omega) (by have z1_ := HQN.out; have z2_ := HQP.out; omega)); obtain ⟨A11_0, c11_0, xs11_0, A11_1, c11_1, xs11_1, s11_0, s11_1, s11_4, s11_5, s11_6, s11_7, s11_8, s11_9, s11_10, s11_11, s11_12, s11_13, cl11, hc11_0, hc11_1, hc11_2, hc11_3, hc11_4, hc11_5, hc11_6, hc11_7, hc11_8, hc11_9, hc11_10, hc11_11, hc11_12, hc11_13, hf11_0, hf11_1, hf11_2, hf11_3, hf11_4, hf11_5, hf11_6, hf11_7, hf11_8, hf11_9, hf11_10, hf11_11, hf11_12, hf11_13, hl11_0, hR11_0, hl11_1, hR11_1, hG11⟩ := rowE_at HR.out HS.out i CI.out; have ST11 := Aside0.mk (fun (u : Value) (hv : SimV _ u) => Sim.store HS.out PG.out hG11 hc11_11 hv); clear hc11_0 hc11_1 hc11_2 hc11_3 hc11_4 hc11_5 hc11_6 hc11_7 hc11_8 hc11_9 hc11_10 hc11_12 hc11_13 hf11_0 hf11_1 hf11_2 hf11_3 hf11_4 hf11_5 hf11_6 hf11_7 hf11_8 hf11_9 hf11_10 hf11_12 hf11_13 hl11_0 hR11_0 hl11_1 hR11_1 hG11)
          | ((with_reducible refine gate_store (t := 3) (p := 103) rfl ?_); refine store_event (t := 3) (p := 103) (v := ?vo_w211) (w1 := (w210.setCell ⟨g, i * 14 + 11, none⟩ (.int .i64 (wrap64 ((wrap64 ((wrap64 ((wrap64 ((wrap64 ((wrap64 ((wrap64 ((((wrap64 ((wrap64 (n + 1)) + 1)) + cntN xs2_0) + cntN xs3_1) + 1)) + 1)) + 1)) + 1)) + 1)) + 1)) + 1))))) ?hg ?ho ?hn ?hr ?_; (case ho => rfl); (case hg => rfl); (case hn => rfl); (case hr => first | (go_simp; done) | (go_simp; rfl)); intro w211 hw; have HS2 := Aside0.mk (show Sim P w w211 by rw [hw]; exact ST11.out _ (sim_int _ _ _)); have HB2 := Aside0.mk (show Below base w w211 by rw [hw]; exact HB.out.setCell GB.out _); clear HS HB ST11 hw; have HS := HS2; have HB := HB2; clear HS2 HB2; clear hc11_11 hf11_11; have HK_12 := Aside0.mk (show (wrap64 ((wrap64 ((wrap64 ((wrap64 ((wrap64 ((wrap64 ((wrap64 ((wrap64 ((((wrap64 ((wrap64 (n + 1)) + 1)) + cntN xs2_0) + cntN xs3_1) + 1)) + 1)) + 1)) + 1)) + 1)) + 1)) + 1)) + 1)) = ((((((((((((n + 1) + 1) + q0) + q1) + 1) + 1) + 1) + 1) + 1) + 1) + 1) + 1) from by rw [HK_11.out]; exact mk_w1 _ (by have z1_ := HQN.out; have z2_ := HQP.out; omega) (by have z1_ := HQN.out; have z2_ := HQP.out; omega)))
          | ((with_reducible refine gate_callee (f := 21) rfl ?_); refine goesL_ (some 109) rfl rfl Tryd.func21 (by kernel_rfl) rfl #[.int .i64 (wrap64 ((wrap64 ((wrap64 ((wrap64 ((wrap64 ((wrap64 ((wrap64 ((wrap64 ((((wrap64 ((wrap64 (n + 1)) + 1)) + cntN xs2_0) + cntN xs3_1) + 1)) + 1)) + 1)) + 1)) + 1)) + 1)) + 1)) + 1))] rfl (by (try simp only [List.map_toArray, List.map_cons, List.map_nil]); first | done | rfl) ?_; obtain ⟨kt12, hkt12⟩ := (mt_ev (wrap64 ((wrap64 ((wrap64 ((wrap64 ((wrap64 ((wrap64 ((wrap64 ((wrap64 ((((wrap64 ((wrap64 (n + 1)) + 1)) + cntN xs2_0) + cntN xs3_1) + 1)) + 1)) + 1)) + 1)) + 1)) + 1)) + 1)) + 1)) (by rw [HK_12.out]; have z1_ := HQN.out; have z2_ := HQP.out; omega) (by rw [HK_12.out]; have z1_ := HQN.out; have z2_ := HQP.out; omega)); (refine (laws_markText.calls kt12 (wrap64 ((wrap64 ((wrap64 ((wrap64 ((wrap64 ((wrap64 ((wrap64 ((wrap64 ((((wrap64 ((wrap64 (n + 1)) + 1)) + cntN xs2_0) + cntN xs3_1) + 1)) + 1)) + 1)) + 1)) + 1)) + 1)) + 1)) + 1)) (mt (wrap64 ((wrap64 ((wrap64 ((wrap64 ((wrap64 ((wrap64 ((wrap64 ((wrap64 ((((wrap64 ((wrap64 (n + 1)) + 1)) + cntN xs2_0) + cntN xs3_1) + 1)) + 1)) + 1)) + 1)) + 1)) + 1)) + 1)) + 1))) _ (hkt12 kt12 (Nat.le_refl _))).mono ?_); rintro e w112 ⟨rfl, hb⟩; refine ⟨_, rfl, ?_⟩; clear hkt12; have HS2 := Aside0.mk ((show Sim P w _ from by repeat (first | exact HS.out | apply Sim.drewN | apply Sim.drew | apply Sim.alloc)).below hb); have HB2 := Aside0.mk (Below.trans (show Below base w _ from by repeat (first | exact HB.out | apply pw_below_drewN | apply below_drew1 | apply below_alloc)) (hb.mono (Nat.le_trans HBS.out (Below.size (show Below base w _ from by repeat (first | exact HB.out | apply pw_below_drewN | apply below_drew1 | apply below_alloc)))))); clear HS HB hb; have HS := HS2; have HB := HB2; clear HS2 HB2; obtain ⟨A12_0, c12_0, xs12_0, A12_1, c12_1, xs12_1, s12_0, s12_1, s12_4, s12_5, s12_6, s12_7, s12_8, s12_9, s12_10, s12_11, s12_12, s12_13, cl12, hc12_0, hc12_1, hc12_2, hc12_3, hc12_4, hc12_5, hc12_6, hc12_7, hc12_8, hc12_9, hc12_10, hc12_11, hc12_12, hc12_13, hf12_0, hf12_1, hf12_2, hf12_3, hf12_4, hf12_5, hf12_6, hf12_7, hf12_8, hf12_9, hf12_10, hf12_11, hf12_12, hf12_13, hl12_0, hR12_0, hl12_1, hR12_1, hG12⟩ := rowE_at HR.out HS.out i CI.out; have ST12 := Aside0.mk (fun (u : Value) (hv : SimV _ u) => Sim.store HS.out PG.out hG12 hc12_12 hv); clear hc12_0 hc12_1 hc12_2 hc12_3 hc12_4 hc12_5 hc12_6 hc12_7 hc12_8 hc12_9 hc12_10 hc12_11 hc12_13 hf12_0 hf12_1 hf12_2 hf12_3 hf12_4 hf12_5 hf12_6 hf12_7 hf12_8 hf12_9 hf12_10 hf12_11 hf12_13 hl12_0 hR12_0 hl12_1 hR12_1 hG12)
          | ((with_reducible refine gate_store (t := 9) (p := 111) rfl ?_); refine store_event (t := 9) (p := 111) (v := ?vo_w212) (w1 := (w112.setCell ⟨g, i * 14 + 12, none⟩ (.string (mt (wrap64 ((wrap64 ((wrap64 ((wrap64 ((wrap64 ((wrap64 ((wrap64 ((wrap64 ((((wrap64 ((wrap64 (n + 1)) + 1)) + cntN xs2_0) + cntN xs3_1) + 1)) + 1)) + 1)) + 1)) + 1)) + 1)) + 1)) + 1)))))) ?hg ?ho ?hn ?hr ?_; (case ho => rfl); (case hg => rfl); (case hn => rfl); (case hr => first | (go_simp; done) | (go_simp; rfl)); intro w212 hw; have HS2 := Aside0.mk (show Sim P w w212 by rw [hw]; exact ST12.out _ (sim_str _ _)); have HB2 := Aside0.mk (show Below base w w212 by rw [hw]; exact HB.out.setCell GB.out _); clear HS HB ST12 hw; have HS := HS2; have HB := HB2; clear HS2 HB2; clear hc12_12 hf12_12; have HK_13 := Aside0.mk (show (wrap64 ((wrap64 ((wrap64 ((wrap64 ((wrap64 ((wrap64 ((wrap64 ((wrap64 ((wrap64 ((((wrap64 ((wrap64 (n + 1)) + 1)) + cntN xs2_0) + cntN xs3_1) + 1)) + 1)) + 1)) + 1)) + 1)) + 1)) + 1)) + 1)) + 1)) = (((((((((((((n + 1) + 1) + q0) + q1) + 1) + 1) + 1) + 1) + 1) + 1) + 1) + 1) + 1) from by rw [HK_12.out]; exact mk_w1 _ (by have z1_ := HQN.out; have z2_ := HQP.out; omega) (by have z1_ := HQN.out; have z2_ := HQP.out; omega)))
          | ((with_reducible refine gate_callee (f := 21) rfl ?_); refine goesL_ (some 117) rfl rfl Tryd.func21 (by kernel_rfl) rfl #[.int .i64 (wrap64 ((wrap64 ((wrap64 ((wrap64 ((wrap64 ((wrap64 ((wrap64 ((wrap64 ((wrap64 ((((wrap64 ((wrap64 (n + 1)) + 1)) + cntN xs2_0) + cntN xs3_1) + 1)) + 1)) + 1)) + 1)) + 1)) + 1)) + 1)) + 1)) + 1))] rfl (by (try simp only [List.map_toArray, List.map_cons, List.map_nil]); first | done | rfl) ?_; obtain ⟨kt13, hkt13⟩ := (mt_ev (wrap64 ((wrap64 ((wrap64 ((wrap64 ((wrap64 ((wrap64 ((wrap64 ((wrap64 ((wrap64 ((((wrap64 ((wrap64 (n + 1)) + 1)) + cntN xs2_0) + cntN xs3_1) + 1)) + 1)) + 1)) + 1)) + 1)) + 1)) + 1)) + 1)) + 1)) (by rw [HK_13.out]; have z1_ := HQN.out; have z2_ := HQP.out; omega) (by rw [HK_13.out]; have z1_ := HQN.out; have z2_ := HQP.out; omega)); (refine (laws_markText.calls kt13 (wrap64 ((wrap64 ((wrap64 ((wrap64 ((wrap64 ((wrap64 ((wrap64 ((wrap64 ((wrap64 ((((wrap64 ((wrap64 (n + 1)) + 1)) + cntN xs2_0) + cntN xs3_1) + 1)) + 1)) + 1)) + 1)) + 1)) + 1)) + 1)) + 1)) + 1)) (mt (wrap64 ((wrap64 ((wrap64 ((wrap64 ((wrap64 ((wrap64 ((wrap64 ((wrap64 ((wrap64 ((((wrap64 ((wrap64 (n + 1)) + 1)) + cntN xs2_0) + cntN xs3_1) + 1)) + 1)) + 1)) + 1)) + 1)) + 1)) + 1)) + 1)) + 1))) _ (hkt13 kt13 (Nat.le_refl _))).mono ?_); rintro e w113 ⟨rfl, hb⟩; refine ⟨_, rfl, ?_⟩; clear hkt13; have HS2 := Aside0.mk ((show Sim P w _ from by repeat (first | exact HS.out | apply Sim.drewN | apply Sim.drew | apply Sim.alloc)).below hb); have HB2 := Aside0.mk (Below.trans (show Below base w _ from by repeat (first | exact HB.out | apply pw_below_drewN | apply below_drew1 | apply below_alloc)) (hb.mono (Nat.le_trans HBS.out (Below.size (show Below base w _ from by repeat (first | exact HB.out | apply pw_below_drewN | apply below_drew1 | apply below_alloc)))))); clear HS HB hb; have HS := HS2; have HB := HB2; clear HS2 HB2; obtain ⟨A13_0, c13_0, xs13_0, A13_1, c13_1, xs13_1, s13_0, s13_1, s13_4, s13_5, s13_6, s13_7, s13_8, s13_9, s13_10, s13_11, s13_12, s13_13, cl13, hc13_0, hc13_1, hc13_2, hc13_3, hc13_4, hc13_5, hc13_6, hc13_7, hc13_8, hc13_9, hc13_10, hc13_11, hc13_12, hc13_13, hf13_0, hf13_1, hf13_2, hf13_3, hf13_4, hf13_5, hf13_6, hf13_7, hf13_8, hf13_9, hf13_10, hf13_11, hf13_12, hf13_13, hl13_0, hR13_0, hl13_1, hR13_1, hG13⟩ := rowE_at HR.out HS.out i CI.out; have ST13 := Aside0.mk (fun (u : Value) (hv : SimV _ u) => Sim.store HS.out PG.out hG13 hc13_13 hv); clear hc13_0 hc13_1 hc13_2 hc13_3 hc13_4 hc13_5 hc13_6 hc13_7 hc13_8 hc13_9 hc13_10 hc13_11 hc13_12 hf13_0 hf13_1 hf13_2 hf13_3 hf13_4 hf13_5 hf13_6 hf13_7 hf13_8 hf13_9 hf13_10 hf13_11 hf13_12 hl13_0 hR13_0 hl13_1 hR13_1 hG13)
          | ((with_reducible refine gate_store (t := 9) (p := 119) rfl ?_); refine store_event (t := 9) (p := 119) (v := ?vo_w213) (w1 := (w113.setCell ⟨g, i * 14 + 13, none⟩ (.string (mt (wrap64 ((wrap64 ((wrap64 ((wrap64 ((wrap64 ((wrap64 ((wrap64 ((wrap64 ((wrap64 ((((wrap64 ((wrap64 (n + 1)) + 1)) + cntN xs2_0) + cntN xs3_1) + 1)) + 1)) + 1)) + 1)) + 1)) + 1)) + 1)) + 1)) + 1)))))) ?hg ?ho ?hn ?hr ?_; (case ho => rfl); (case hg => rfl); (case hn => rfl); (case hr => first | (go_simp; done) | (go_simp; rfl)); intro w213 hw; have HS2 := Aside0.mk (show Sim P w w213 by rw [hw]; exact ST13.out _ (sim_str _ _)); have HB2 := Aside0.mk (show Below base w w213 by rw [hw]; exact HB.out.setCell GB.out _); clear HS HB ST13 hw; have HS := HS2; have HB := HB2; clear HS2 HB2; clear hc13_13 hf13_13; have HK_14 := Aside0.mk (show (wrap64 ((wrap64 ((wrap64 ((wrap64 ((wrap64 ((wrap64 ((wrap64 ((wrap64 ((wrap64 ((wrap64 ((((wrap64 ((wrap64 (n + 1)) + 1)) + cntN xs2_0) + cntN xs3_1) + 1)) + 1)) + 1)) + 1)) + 1)) + 1)) + 1)) + 1)) + 1)) + 1)) = ((((((((((((((n + 1) + 1) + q0) + q1) + 1) + 1) + 1) + 1) + 1) + 1) + 1) + 1) + 1) + 1) from by rw [HK_13.out]; exact mk_w1 _ (by have z1_ := HQN.out; have z2_ := HQP.out; omega) (by have z1_ := HQN.out; have z2_ := HQP.out; omega))))
        go_roundg k1
        case rel => exact ⟨i + 1, (wrap64 ((wrap64 ((wrap64 ((wrap64 ((wrap64 ((wrap64 ((wrap64 ((wrap64 ((wrap64 ((wrap64 ((((wrap64 ((wrap64 (n + 1)) + 1)) + cntN xs2_0) + cntN xs3_1) + 1)) + 1)) + 1)) + 1)) + 1)) + 1)) + 1)) + 1)) + 1)) + 1)), (by (try simp only [i64_w])), (by (try simp only [i64_w]); rw [HW2.out]), ⟨by rw [HK_14.out]; have h_ := HQ.out.2; rw [show elE l[i] = q0 + q1 + 12 from by rw [HQ0.out, HQ1.out]; exact elE_eq _] at h_; rw [← h_]; omega⟩, ⟨by have := HI.out; have := CI.out; omega⟩, ⟨by have := HK1.out; omega⟩, ⟨by repeat (first | exact HS.out | apply Sim.drewN | apply Sim.drew | apply Sim.alloc)⟩, ⟨by repeat (first | exact HB.out | apply pw_below_drewN | apply below_drew1 | apply below_alloc)⟩⟩
        case measure => have := HK1.out; omega
      · have c0 : decide ((i : Int) < (l.length : Int)) = false := decide_eq_false (by omega)
        have HE := Aside0.mk (show n = a1 + cntE l from by rw [HN.out, List.take_of_length_le (by omega)])
        go_wp2
        go_ret
        exact ⟨by first | (rw [HE.out]; rfl) | (rw [← HE.out]; rfl) | rfl, by repeat (first | exact HS.out | apply Sim.drewN | apply Sim.drew | apply Sim.alloc), by repeat (first | exact HB.out | apply pw_below_drewN | apply below_drew1 | apply below_alloc)⟩
end Go.Proofs.YthhdodlpbpagfaaDoor.G

namespace Go.Proofs.YthhdodlpbpagfaaDoor.G
open Go.RowKit Go.Proofs.YthhdodlpbpagfaaDoorW.PrintWords Go.Proofs.YthhdodlpbpagfaaDoorW.PrintLast Go.Proofs.YthhdodlpbpagfaaDoor.B
set_option linter.unusedVariables false
theorem R_kept_flat {α : Type} {d : Kd α} {e base : Nat} {w w' : World} {ok P : Nat → Prop} {v : Value} {xs : List α} (hE : d.E = []) (h : d.R e w base ok v xs) (hk : Kept w w' P) (hp : ∀ k, P k → some k ≠ v.ownBlock) : d.R e w' base ok v xs :=
  Kd.R_mono (Kd.R_step (Kd.R_tight hE h) (fun k hk' hlt => hk.2 k hlt (fun hP => hp k hP hk'))) (fun k hk' => h.1 k hk'.symm)
theorem blk_keptP {w w' : World} {P : Nat → Prop} {g : Nat} {o : Obj} (h : w.heap[g]? = some o) (hk : Kept w w' P) (hp : ¬ P g) : w'.heap[g]? = some o := by
  have hlt : g < w.heap.size := by
    rcases Nat.lt_or_ge g w.heap.size with q | q
    · exact q
    · rw [Array.getElem?_eq_none q] at h; cases h
  exact (hk.2 g hlt hp).trans h
end Go.Proofs.YthhdodlpbpagfaaDoor.G

namespace Go.Proofs.YthhdodlpbpagfaaDoor.G
open Go.RowKit Go.Proofs.YthhdodlpbpagfaaDoorW.PrintWords Go.Proofs.YthhdodlpbpagfaaDoorW.PrintLast Go.Proofs.YthhdodlpbpagfaaDoorW.PrintMore
open Go.Proofs.YthhdodlpbpagfaaDoor.Gl Go.Proofs.YthhdodlpbpagfaaDoor.Ext
attribute [local go_sem] max2_int min2_int max_two min_two max_three min_three max_four min_four   -- for this text's walks alone
set_option linter.unusedVariables false
set_option linter.unusedSimpArgs false

/-! ### laws_markLibrary: function 10 -/
def laws_markLibrary.f (l0 : List S45) (a1 : Int) : Option Int := if 0 ≤ a1 ∧ a1 + cntE l0 ≤ 4611686018427387904 then some (a1 + cntE l0) else none
set_option maxHeartbeats 8000000 in
set_option maxRecDepth 100000 in
theorem laws_markLibrary.calls {P : Nat → Prop} {base : Nat} {A : Option Addr} {c : Nat} {l0 : List S45} {w1 : World} (hq : Kd.R k45 45 w1 base P (.slice A l0.length c) l0) (a1 r : Int) (w : World) (ho : Kd.R k45 45 w base P (.slice A l0.length c) l0) (hbs : base ≤ w.heap.size) (h : laws_markLibrary.f l0 a1 = some r) :
  Calls Tryd.prog 10 #[.agg #[.slice A l0.length c], .int .i64 a1] w fun e w' => e = .returned (.int .i64 r) ∧ Below base w w' ∧ Kept w w' P ∧ ∃ l', Kd.R k45 45 w' base P (.slice A l0.length c) l' := by
 unfold laws_markLibrary.f at h
 by_cases hl : 0 ≤ a1 ∧ a1 + cntE l0 ≤ 4611686018427387904
 ·
  rw [if_pos hl] at h
  obtain rfl := Option.some.inj h
  have HR := Aside0.mk ho
  have HL := Aside0.mk hl
  have HBS := Aside0.mk hbs
  have hu := Tryd.underlying31
  clear ho h hl hbs hq
  go_enter Tryd.func10, Tryd.ntmps10
  go_wp2_with (first
   | ((with_reducible refine gate_dst (N := 2) rfl ?_); refine box_event ?hg (N := 2) ?hd (cs := #[.slice A l0.length c]) (t := 31) ?hr ?_; (case hd => rfl); (case hg => rfl); (case hr => first | (go_simp; done) | (go_simp; rfl)); intro gb hg w3 hbox hb; have HB1 := Aside0.mk (hb.mono HBS.out); have HS1 := Aside0.mk ((Sim.refl P w).below hb); have HR1 := Aside0.mk (Kd.R_below HR.out hb); have hz : w3.cell? ⟨gb, 0, none⟩ = some (.slice A l0.length c) := (blk_cell hbox 0).trans rfl; clear hb hbox hg)
   | ((with_reducible refine gate_callee (f := 20) rfl ?_); refine goesL_ (some 8) rfl rfl Tryd.func20 (by kernel_rfl) rfl #[.slice A l0.length c, .int .i64 a1] rfl (by (try simp only [List.map_toArray, List.map_cons, List.map_nil]); first | done | rfl) ?_; (refine (markE_w base P _ l0 a1 _ HL.out.1 HL.out.2 (by (with_reducible repeat (first | apply Kd.R_alloc | apply Kd.R_drewN | apply Kd.R_drew)); exact HR1.out)).mono ?_); rintro e w5 ⟨rfl, hs, hb⟩; refine ⟨_, rfl, ?_⟩; have HB2 := Aside0.mk ((show Below base w _ from by repeat (first | exact HB1.out | apply pw_below_drewN | apply below_drew1 | apply below_alloc)).trans hb); have HS2 := Aside0.mk ((show Sim P w _ from by repeat (first | exact HS1.out | apply Sim.drewN | apply Sim.drew | apply Sim.alloc)).trans hs); clear hs hb))
  go_ret
  exact ⟨rfl, by repeat (first | exact HB2.out | apply pw_below_drewN | apply below_drew1 | apply below_alloc), (show Sim P w _ from by repeat (first | exact HS2.out | apply Sim.drewN | apply Sim.drew | apply Sim.alloc)).kept, (by obtain ⟨l', h', _⟩ := R_sim simK_entry HR.out (show Sim P w _ from by repeat (first | exact HS2.out | apply Sim.drewN | apply Sim.drew | apply Sim.alloc)); exact ⟨l', h'⟩)⟩
 ·
  rw [if_neg hl] at h; cases h


/-! ### laws_szStringS: function 55 -/
def laws_szStringS.l0 : Nat → List ByteArray → Int → Int → Option (Int)
 | 0, _, _, _ => none
 | k + 1, x0, x1, x5 => if x5 < (x0.length : Int) then (if 0 ≤ x5 then (if (wrap64 (x1 - ((rdOf ByteArray.empty x0 x5).size : Int))) < 0 then (some (-1)) else (laws_szStringS.l0 k x0 (wrap64 (x1 - ((rdOf ByteArray.empty x0 x5).size : Int))) (wrap64 (x5 + 1)))) else (none)) else (some x1)
def laws_szStringS.f (k : Nat) (l0 : List ByteArray) (a1 : Int) : Option (Int) := if (wrap64 (a1 - (l0.length : Int))) < 0 then (some (-1)) else (laws_szStringS.l0 k l0 (wrap64 (a1 - (l0.length : Int))) 0)
theorem laws_szStringS.mono_l : ∀ k, (∀ y0 y1 y2, LeO (laws_szStringS.l0 k y0 y1 y2) (laws_szStringS.l0 (k + 1) y0 y1 y2))
 | 0 => fun _ _ _ r h => by simp [laws_szStringS.l0] at h
 | k + 1 => by
  have ih0 := laws_szStringS.mono_l k
  ·
   intro y0 y1 y2
   unfold laws_szStringS.l0
   repeat' first
   | (with_reducible exact ih0 _ _ _)
   | (with_reducible exact LeO.refl _)
   | (with_reducible exact LeO.none _)
   | (with_reducible refine LeO.ite ?_ ?_)
   | (with_reducible refine LeO.bind ?_ (fun _ => ?_))
   | exact ih0 _ _ _
   | exact LeO.none _
   | refine LeO.ite ?_ ?_
   | refine LeO.bind ?_ (fun _ => ?_)
theorem laws_szStringS.mono : ∀ a0 a1 k, LeO (laws_szStringS.f k a0 a1) (laws_szStringS.f (k + 1) a0 a1) := by
 intro a0 a1 k
 have ih0 := laws_szStringS.mono_l k
 unfold laws_szStringS.f
 repeat' first
   | (with_reducible exact ih0 _ _ _)
   | (with_reducible exact LeO.refl _)
   | (with_reducible exact LeO.none _)
   | (with_reducible refine LeO.ite ?_ ?_)
   | (with_reducible refine LeO.bind ?_ (fun _ => ?_))
   | exact ih0 _ _ _
   | exact LeO.none _
   | refine LeO.ite ?_ ?_
   | refine LeO.bind ?_ (fun _ => ?_)
set_option maxHeartbeats 8000000 in
set_option maxRecDepth 100000 in
theorem laws_szStringS.calls (k : Nat) (A0 : Option Addr) (c0 : Nat) (l0 : List ByteArray) (a1 : Int) (r : Int) (w : World) (hr0 : Kd.C Kd.string w A0 l0.length l0) (hc0 : l0.length ≤ c0) (h : laws_szStringS.f k l0 a1 = some r) :
  Calls Tryd.prog 55 #[.slice A0 l0.length c0, .int .i64 a1] w fun e w' => e = .returned (.int .i64 r) ∧ Drawn0 w w' := by
 have HR0 := Aside0.mk hr0
 have HC0 := Aside0.mk hc0
 clear hr0 hc0
 have H : (if (wrap64 (a1 - (l0.length : Int))) < 0 then (some (-1)) else (laws_szStringS.l0 k l0 (wrap64 (a1 - (l0.length : Int))) 0)) = some r := h
 clear h
 by_cases c3 : (wrap64 (a1 - (l0.length : Int))) < 0
 ·
  rw [if_pos c3] at H
  have c3b0 : decide ((wrap64 (a1 - (l0.length : Int))) < 0) = true := decide_eq_true c3
  clear c3
  obtain rfl := Option.some.inj H
  go_enter Tryd.func55, Tryd.ntmps55
  go_wp2
  go_ret
  exact ax0
 ·
  rw [if_neg c3] at H
  have c3b0 : decide ((wrap64 (a1 - (l0.length : Int))) < 0) = false := decide_eq_false c3
  clear c3
  have H' := Aside0.mk H
  clear H
  go_enter Tryd.func55, Tryd.ntmps55
  go_wp2
  go_loopg [1, 5] k (fun kq v1 v5 w' => ∃ (x1_1 : Int) (x5_1 : Int), v1 = .int .i64 x1_1 ∧ v5 = .int .i64 x5_1 ∧ Aside0 (laws_szStringS.l0 kq l0 x1_1 x5_1 = some r) ∧ Aside0 (kq ≤ k) ∧ Drawn0 w w')
  case atStart => exact ⟨(wrap64 (a1 - (l0.length : Int))), (0), au72, au72, H', ⟨Nat.le_refl _⟩, by repeat (first | exact Drawn0.refl _ | apply Drawn0.step)⟩
  case round =>
   clear H'
   try clear p2
   try clear c3
   try clear c3b0
   obtain ⟨x1_1, x5_1, rfl, rfl, HA, HK1, ⟨m1, rfl⟩⟩ := hrel
   cases gk with
   | zero => exact absurd HA.out (by simp [laws_szStringS.l0])
   | succ k1 =>
    have H := HA.out
    clear HA
    simp only [laws_szStringS.l0] at H
    by_cases c4 : x5_1 < (l0.length : Int)
    ·
     rw [if_pos c4] at H
     have c4b0 : decide (x5_1 < (l0.length : Int)) = true := decide_eq_true c4
     clear c4
     by_cases c5 : 0 ≤ x5_1
     ·
      rw [if_pos c5] at H
      have c5b0 : decide (0 ≤ x5_1) = true := decide_eq_true c5
      clear c5
      by_cases c6 : (wrap64 (x1_1 - ((rdOf ByteArray.empty l0 x5_1).size : Int))) < 0
      ·
       rw [if_pos c6] at H
       have c6b0 : decide ((wrap64 (x1_1 - ((rdOf ByteArray.empty l0 x5_1).size : Int))) < 0) = true := decide_eq_true c6
       clear c6
       obtain rfl := Option.some.inj H
       have p101 : 0 ≤ (x5_1 : Int) := of_decide_eq_true au71
       have q101 : x5_1 < (l0.length : Int) := of_decide_eq_true au71
       obtain ⟨ad101, e101, hx101_0⟩ := Kd.at_string HR0.out x5_1 p101 q101
       cases e101
       replace p101 := eq_true p101
       replace q101 := eq_true q101
       go_wp2
       go_ret
       exact ax0
      ·
       rw [if_neg c6] at H
       have c6b0 : decide ((wrap64 (x1_1 - ((rdOf ByteArray.empty l0 x5_1).size : Int))) < 0) = false := decide_eq_false c6
       clear c6
       have H' := Aside0.mk H
       clear H
       have p101 : 0 ≤ (x5_1 : Int) := of_decide_eq_true au71
       have q101 : x5_1 < (l0.length : Int) := of_decide_eq_true au71
       obtain ⟨ad101, e101, hx101_0⟩ := Kd.at_string HR0.out x5_1 p101 q101
       cases e101
       replace p101 := eq_true p101
       replace q101 := eq_true q101
       go_wp2
       go_roundg k1
       case measure => have := HK1.out; omega
       case rel => exact ⟨(wrap64 (x1_1 - ((rdOf ByteArray.empty l0 x5_1).size : Int))), (wrap64 (x5_1 + 1)), au72, au72, H', ⟨by have := HK1.out; omega⟩, by repeat (first | exact Drawn0.refl _ | apply Drawn0.step)⟩
     ·
      rw [if_neg c5] at H
      exact absurd H (by simp)
    ·
     rw [if_neg c4] at H
     have c4b0 : decide (x5_1 < (l0.length : Int)) = false := decide_eq_false c4
     clear c4
     obtain rfl := Option.some.inj H
     go_wp2
     go_ret
     exact ax0


/-! ### laws_szName: function 42 -/
def laws_szName.f (k : Nat) (l0_0 : List ByteArray) (a0_1 : ByteArray) (a0_2 : ByteArray) (a0_3 : ByteArray) (a1 : Int) : Option (Int) := (laws_szStringS.f k l0_0 a1).bind fun t103 => (if t103 < 0 then (some (-1)) else (if (wrap64 (t103 - (a0_1.size : Int))) < 0 then (some (-1)) else (if (wrap64 ((wrap64 (t103 - (a0_1.size : Int))) - (a0_2.size : Int))) < 0 then (some (-1)) else (if (wrap64 ((wrap64 ((wrap64 (t103 - (a0_1.size : Int))) - (a0_2.size : Int))) - (a0_3.size : Int))) < 0 then (some (-1)) else (some (wrap64 ((wrap64 ((wrap64 (t103 - (a0_1.size : Int))) - (a0_2.size : Int))) - (a0_3.size : Int))))))))
theorem laws_szName.mono : ∀ a0 a1 a2 a3 a4 k, LeO (laws_szName.f k a0 a1 a2 a3 a4) (laws_szName.f (k + 1) a0 a1 a2 a3 a4) := by
 intro a0 a1 a2 a3 a4 k
 unfold laws_szName.f
 repeat' first
   | (with_reducible exact laws_szStringS.mono _ _ _)
   | (with_reducible exact LeO.refl _)
   | (with_reducible exact LeO.none _)
   | (with_reducible refine LeO.ite ?_ ?_)
   | (with_reducible refine LeO.bind ?_ (fun _ => ?_))
   | exact laws_szStringS.mono _ _ _
   | exact LeO.none _
   | refine LeO.ite ?_ ?_
   | refine LeO.bind ?_ (fun _ => ?_)
set_option maxRecDepth 100000 in
theorem laws_szName.L0 {P : Prop} (h : P := by
  go_enter Tryd.func42, Tryd.ntmps42
  go_wp2_with (first | ((with_reducible refine gate_dst (N := 2) rfl ?_); refine box_event ?hg (N := 2) ?hd (cs := #[.slice A0_0 l0_0.length c0_0, .string a0_1, .string a0_2, .string a0_3]) (t := 72) ?hr ?_; (case hd => rfl); (case hg => rfl); (case hr => first | (go_simp; done) | (go_simp; rfl)); intro gb102 hg w11 hbox hb; have BK102 := Aside0.mk (hbox); have GW102 := Aside0.mk (bsz hg au36); have GE102 := Aside0.mk (bsz hg au36); replace HB := Aside0.mk (below_step au36 hb); clear hb hbox hg; obtain ⟨hcz12_0, hcz12_1, hcz12_2, hcz12_3, hfz12_0, hfz12_1, hfz12_2, hfz12_3⟩ := blkc4 BK102.out) | ((with_reducible refine gate_callee (f := 55) rfl ?_); refine goesL_ (some 8) rfl rfl Tryd.func55 (by kernel_rfl) rfl #[.slice A0_0 l0_0.length c0_0, .int .i64 a1] rfl au35 ?_; (with_reducible refine (laws_szStringS.calls k _ _ l0_0 a1 t103 _ ?side1 ?side2 A3.out).mono ?_); (case side1 => repeat (first | exact (Kd.C_below HR0_0.out HB.out) | (with_reducible refine Kd.C_alloc ?_ _) | (with_reducible refine Kd.C_drewN ?_ _) | (with_reducible refine Kd.C_drew ?_))); (case side2 => exact HC0_0.out); rintro e w' ⟨rfl, ⟨nd, rfl⟩⟩; refine ⟨_, rfl, ?_⟩))
  go_ret
  exact ⟨by first | rfl | (simp [errW_none, errW_some] <;> rfl) | (simp [*, errW_none, errW_some] <;> rfl), by repeat (first | (with_reducible first | exact HB.out | apply below_alloc | apply pw_below_drewN | apply below_drew1 | refine below_set ?_ GE102.out) | exact HB.out)⟩) : P := h
set_option maxHeartbeats 8000000 in
set_option maxRecDepth 100000 in
theorem laws_szName.calls (k : Nat) (A0_0 : Option Addr) (c0_0 : Nat) (l0_0 : List ByteArray) (a0_1 : ByteArray) (a0_2 : ByteArray) (a0_3 : ByteArray) (a1 : Int) (r : Int) (w : World) (hr0_0 : Kd.C Kd.string w A0_0 l0_0.length l0_0) (hc0_0 : l0_0.length ≤ c0_0) (h : laws_szName.f k l0_0 a0_1 a0_2 a0_3 a1 = some r) :
  Calls Tryd.prog 42 #[.agg #[.slice A0_0 l0_0.length c0_0, .string a0_1, .string a0_2, .string a0_3], .int .i64 a1] w fun e w' => e = .returned (.int .i64 r) ∧ Below w.heap.size w w' := by
 have hu72 := Tryd.underlying72
 have HR0_0 := Aside0.mk hr0_0
 have HC0_0 := Aside0.mk hc0_0
 clear hr0_0 hc0_0
 have HB := Aside0.mk (Below.refl w.heap.size w)
 have H : ((laws_szStringS.f k l0_0 a1).bind fun t103 => (if t103 < 0 then (some (-1)) else (if (wrap64 (t103 - (a0_1.size : Int))) < 0 then (some (-1)) else (if (wrap64 ((wrap64 (t103 - (a0_1.size : Int))) - (a0_2.size : Int))) < 0 then (some (-1)) else (if (wrap64 ((wrap64 ((wrap64 (t103 - (a0_1.size : Int))) - (a0_2.size : Int))) - (a0_3.size : Int))) < 0 then (some (-1)) else (some (wrap64 ((wrap64 ((wrap64 (t103 - (a0_1.size : Int))) - (a0_2.size : Int))) - (a0_3.size : Int))))))))) = some r := h
 clear h
 replace H := Option.bind_eq_some_iff.mp H
 obtain ⟨t103, A30, H⟩ := H
 try dsimp only at H
 have A3 := Aside0.mk A30
 clear A30
 by_cases c4 : t103 < 0
 ·
  rw [if_pos c4] at H
  have c4b0 : decide (t103 < 0) = true := decide_eq_true c4
  clear c4
  obtain rfl := Option.some.inj H
  exact laws_szName.L0
 ·
  rw [if_neg c4] at H
  have c4b0 : decide (t103 < 0) = false := decide_eq_false c4
  clear c4
  by_cases c7 : (wrap64 (t103 - (a0_1.size : Int))) < 0
  ·
   rw [if_pos c7] at H
   have c7b0 : decide ((wrap64 (t103 - (a0_1.size : Int))) < 0) = true := decide_eq_true c7
   clear c7
   obtain rfl := Option.some.inj H
   exact laws_szName.L0
  ·
   rw [if_neg c7] at H
   have c7b0 : decide ((wrap64 (t103 - (a0_1.size : Int))) < 0) = false := decide_eq_false c7
   clear c7
   by_cases c10 : (wrap64 ((wrap64 (t103 - (a0_1.size : Int))) - (a0_2.size : Int))) < 0
   ·
    rw [if_pos c10] at H
    have c10b0 : decide ((wrap64 ((wrap64 (t103 - (a0_1.size : Int))) - (a0_2.size : Int))) < 0) = true := decide_eq_true c10
    clear c10
    obtain rfl := Option.some.inj H
    exact laws_szName.L0
   ·
    rw [if_neg c10] at H
    have c10b0 : decide ((wrap64 ((wrap64 (t103 - (a0_1.size : Int))) - (a0_2.size : Int))) < 0) = false := decide_eq_false c10
    clear c10
    by_cases c13 : (wrap64 ((wrap64 ((wrap64 (t103 - (a0_1.size : Int))) - (a0_2.size : Int))) - (a0_3.size : Int))) < 0
    ·
     rw [if_pos c13] at H
     have c13b0 : decide ((wrap64 ((wrap64 ((wrap64 (t103 - (a0_1.size : Int))) - (a0_2.size : Int))) - (a0_3.size : Int))) < 0) = true := decide_eq_true c13
     clear c13
     obtain rfl := Option.some.inj H
     exact laws_szName.L0
    ·
     rw [if_neg c13] at H
     have c13b0 : decide ((wrap64 ((wrap64 ((wrap64 (t103 - (a0_1.size : Int))) - (a0_2.size : Int))) - (a0_3.size : Int))) < 0) = false := decide_eq_false c13
     clear c13
     obtain rfl := Option.some.inj H
     exact laws_szName.L0


/-! ### laws_szNameS: function 29 -/
def laws_szNameS.l0 : Nat → List (S72) → Int → Int → Option (Int)
 | 0, _, _, _ => none
 | k + 1, x0, x1, x5 => if x5 < (x0.length : Int) then (if 0 ≤ x5 then ((laws_szName.f k ((rd_T72 x0 x5).f0) ((rd_T72 x0 x5).f1) ((rd_T72 x0 x5).f2) ((rd_T72 x0 x5).f3) x1).bind fun t105 => (if t105 < 0 then (some (-1)) else (laws_szNameS.l0 k x0 t105 (wrap64 (x5 + 1))))) else (none)) else (some x1)
def laws_szNameS.f (k : Nat) (l0 : List (S72)) (a1 : Int) : Option (Int) := if (wrap64 (a1 - (l0.length : Int))) < 0 then (some (-1)) else (laws_szNameS.l0 k l0 (wrap64 (a1 - (l0.length : Int))) 0)
theorem laws_szNameS.mono_l : ∀ k, (∀ y0 y1 y2, LeO (laws_szNameS.l0 k y0 y1 y2) (laws_szNameS.l0 (k + 1) y0 y1 y2))
 | 0 => fun _ _ _ r h => by simp [laws_szNameS.l0] at h
 | k + 1 => by
  have ih0 := laws_szNameS.mono_l k
  ·
   intro y0 y1 y2
   unfold laws_szNameS.l0
   repeat' first
   | (with_reducible exact ih0 _ _ _)
   | (with_reducible exact laws_szName.mono _ _ _ _ _ _)
   | (with_reducible exact LeO.refl _)
   | (with_reducible exact LeO.none _)
   | (with_reducible refine LeO.ite ?_ ?_)
   | (with_reducible refine LeO.bind ?_ (fun _ => ?_))
   | exact ih0 _ _ _
   | exact laws_szName.mono _ _ _ _ _ _
   | exact LeO.none _
   | refine LeO.ite ?_ ?_
   | refine LeO.bind ?_ (fun _ => ?_)
theorem laws_szNameS.mono : ∀ a0 a1 k, LeO (laws_szNameS.f k a0 a1) (laws_szNameS.f (k + 1) a0 a1) := by
 intro a0 a1 k
 have ih0 := laws_szNameS.mono_l k
 unfold laws_szNameS.f
 repeat' first
   | (with_reducible exact ih0 _ _ _)
   | (with_reducible exact laws_szName.mono _ _ _ _ _ _)
   | (with_reducible exact LeO.refl _)
   | (with_reducible exact LeO.none _)
   | (with_reducible refine LeO.ite ?_ ?_)
   | (with_reducible refine LeO.bind ?_ (fun _ => ?_))
   | exact ih0 _ _ _
   | exact laws_szName.mono _ _ _ _ _ _
   | exact LeO.none _
   | refine LeO.ite ?_ ?_
   | refine LeO.bind ?_ (fun _ => ?_)
set_option maxHeartbeats 8000000 in
set_option maxRecDepth 100000 in
theorem laws_szNameS.calls (k : Nat) (A0 : Option Addr) (c0 : Nat) (l0 : List (S72)) (a1 : Int) (r : Int) (w : World) (hr0 : Kd.C k72 w A0 l0.length l0) (hc0 : l0.length ≤ c0) (h : laws_szNameS.f k l0 a1 = some r) :
  Calls Tryd.prog 29 #[.slice A0 l0.length c0, .int .i64 a1] w fun e w' => e = .returned (.int .i64 r) ∧ Below w.heap.size w w' := by
 have hu72 := Tryd.underlying72
 have HR0 := Aside0.mk hr0
 have HC0 := Aside0.mk hc0
 clear hr0 hc0
 have HB := Aside0.mk (Below.refl w.heap.size w)
 have H : (if (wrap64 (a1 - (l0.length : Int))) < 0 then (some (-1)) else (laws_szNameS.l0 k l0 (wrap64 (a1 - (l0.length : Int))) 0)) = some r := h
 clear h
 by_cases c3 : (wrap64 (a1 - (l0.length : Int))) < 0
 ·
  rw [if_pos c3] at H
  have c3b0 : decide ((wrap64 (a1 - (l0.length : Int))) < 0) = true := decide_eq_true c3
  clear c3
  obtain rfl := Option.some.inj H
  go_enter Tryd.func29, Tryd.ntmps29
  go_wp2
  go_ret
  exact ax1
 ·
  rw [if_neg c3] at H
  have c3b0 : decide ((wrap64 (a1 - (l0.length : Int))) < 0) = false := decide_eq_false c3
  clear c3
  have H' := Aside0.mk H
  clear H
  go_enter Tryd.func29, Tryd.ntmps29
  go_wp2
  go_loopg [1, 5] k (fun kq v1 v5 w' => ∃ (x1_1 : Int) (x5_1 : Int), v1 = .int .i64 x1_1 ∧ v5 = .int .i64 x5_1 ∧ Aside0 (laws_szNameS.l0 kq l0 x1_1 x5_1 = some r) ∧ Aside0 (kq ≤ k) ∧ Aside0 (Below w.heap.size w w'))
  case atStart => exact ⟨(wrap64 (a1 - (l0.length : Int))), (0), au72, au72, H', ⟨Nat.le_refl _⟩, ⟨by repeat (first | (with_reducible first | exact HB.out | apply below_alloc | apply pw_below_drewN | apply below_drew1) | exact HB.out)⟩⟩
  case round =>
   clear H'
   try clear c2
   try clear p2
   try clear c3
   try clear c3b0
   obtain ⟨x1_1, x5_1, rfl, rfl, HA, HK1, HB⟩ := hrel
   cases gk with
   | zero => exact absurd HA.out (by simp [laws_szNameS.l0])
   | succ k1 =>
    have H := HA.out
    clear HA
    simp only [laws_szNameS.l0] at H
    by_cases c4 : x5_1 < (l0.length : Int)
    ·
     rw [if_pos c4] at H
     have c4b0 : decide (x5_1 < (l0.length : Int)) = true := decide_eq_true c4
     clear c4
     by_cases c5 : 0 ≤ x5_1
     ·
      rw [if_pos c5] at H
      have c5b0 : decide (0 ≤ x5_1) = true := decide_eq_true c5
      clear c5
      replace H := Option.bind_eq_some_iff.mp H
      obtain ⟨t105, A60, H⟩ := H
      try dsimp only at H
      have A6 := Aside0.mk A60
      clear A60
      by_cases c7 : t105 < 0
      ·
       rw [if_pos c7] at H
       have c7b0 : decide (t105 < 0) = true := decide_eq_true c7
       clear c7
       obtain rfl := Option.some.inj H
       have p104 : 0 ≤ (x5_1 : Int) := of_decide_eq_true au71
       have q104 : x5_1 < (l0.length : Int) := of_decide_eq_true au71
       obtain ⟨ad104, A104_0, c104_0, e104, hx104_0, hx104_1, hx104_2, hx104_3, hl104_0, hi104_0⟩ := at_T72 HR0.out x5_1 p104 q104
       cases e104
       replace hx104_0 := bcl HB.out hx104_0
       replace hx104_1 := bcl HB.out hx104_1
       replace hx104_2 := bcl HB.out hx104_2
       replace hx104_3 := bcl HB.out hx104_3
       have HR104_0 := Aside0.mk hi104_0
       have HC104_0 := Aside0.mk hl104_0
       clear hi104_0 hl104_0
       replace p104 := eq_true p104
       replace q104 := eq_true q104
       go_wp2_with (first | ((with_reducible refine gate_callee (f := 42) rfl ?_); refine goesL_ (some 23) rfl rfl Tryd.func42 (by kernel_rfl) rfl #[.agg #[.slice A104_0 ((rd_T72 l0 x5_1).f0).length c104_0, .string ((rd_T72 l0 x5_1).f1), .string ((rd_T72 l0 x5_1).f2), .string ((rd_T72 l0 x5_1).f3)], .int .i64 x1_1] rfl au35 ?_; (with_reducible refine (laws_szName.calls k1 _ _ ((rd_T72 l0 x5_1).f0) ((rd_T72 l0 x5_1).f1) ((rd_T72 l0 x5_1).f2) ((rd_T72 l0 x5_1).f3) x1_1 t105 _ ?side1 ?side2 A6.out).mono ?_); (case side1 => repeat (first | exact (Kd.C_below HR104_0.out HB.out) | (with_reducible refine Kd.C_alloc ?_ _) | (with_reducible refine Kd.C_drewN ?_ _) | (with_reducible refine Kd.C_drew ?_))); (case side2 => exact HC104_0.out); rintro e w8 ⟨rfl, hb⟩; refine ⟨_, rfl, ?_⟩; replace HB := Aside0.mk (below_step au36 hb); (try clear hb)))
       go_ret
       exact ax1
      ·
       rw [if_neg c7] at H
       have c7b0 : decide (t105 < 0) = false := decide_eq_false c7
       clear c7
       have H' := Aside0.mk H
       clear H
       have p104 : 0 ≤ (x5_1 : Int) := of_decide_eq_true au71
       have q104 : x5_1 < (l0.length : Int) := of_decide_eq_true au71
       obtain ⟨ad104, A104_0, c104_0, e104, hx104_0, hx104_1, hx104_2, hx104_3, hl104_0, hi104_0⟩ := at_T72 HR0.out x5_1 p104 q104
       cases e104
       replace hx104_0 := bcl HB.out hx104_0
       replace hx104_1 := bcl HB.out hx104_1
       replace hx104_2 := bcl HB.out hx104_2
       replace hx104_3 := bcl HB.out hx104_3
       have HR104_0 := Aside0.mk hi104_0
       have HC104_0 := Aside0.mk hl104_0
       clear hi104_0 hl104_0
       replace p104 := eq_true p104
       replace q104 := eq_true q104
       go_wp2_with (first | ((with_reducible refine gate_callee (f := 42) rfl ?_); refine goesL_ (some 23) rfl rfl Tryd.func42 (by kernel_rfl) rfl #[.agg #[.slice A104_0 ((rd_T72 l0 x5_1).f0).length c104_0, .string ((rd_T72 l0 x5_1).f1), .string ((rd_T72 l0 x5_1).f2), .string ((rd_T72 l0 x5_1).f3)], .int .i64 x1_1] rfl au35 ?_; (with_reducible refine (laws_szName.calls k1 _ _ ((rd_T72 l0 x5_1).f0) ((rd_T72 l0 x5_1).f1) ((rd_T72 l0 x5_1).f2) ((rd_T72 l0 x5_1).f3) x1_1 t105 _ ?side1 ?side2 A6.out).mono ?_); (case side1 => repeat (first | exact (Kd.C_below HR104_0.out HB.out) | (with_reducible refine Kd.C_alloc ?_ _) | (with_reducible refine Kd.C_drewN ?_ _) | (with_reducible refine Kd.C_drew ?_))); (case side2 => exact HC104_0.out); rintro e w9 ⟨rfl, hb⟩; refine ⟨_, rfl, ?_⟩; replace HB := Aside0.mk (below_step au36 hb); (try clear hb)))
       go_roundg k1
       case measure => have := HK1.out; omega
       case rel => exact ⟨(t105), (wrap64 (x5_1 + 1)), au72, au72, H', ⟨by have := HK1.out; omega⟩, ⟨by repeat (first | (with_reducible first | exact HB.out | apply below_alloc | apply pw_below_drewN | apply below_drew1) | exact HB.out)⟩⟩
     ·
      rw [if_neg c5] at H
      exact absurd H (by simp)
    ·
     rw [if_neg c4] at H
     have c4b0 : decide (x5_1 < (l0.length : Int)) = false := decide_eq_false c4
     clear c4
     obtain rfl := Option.some.inj H
     go_wp2
     go_ret
     exact ax1


/-! ### laws_szEntry: function 22 -/
def laws_szEntry.f (k : Nat) (a0_0 : ByteArray) (a0_1 : Int) (l0_2 : List (S72)) (l0_3 : List (S72)) (a0_4 : ByteArray) (a0_5 : ByteArray) (a0_6 : ByteArray) (a0_7 : Int) (a0_8 : Int) (a0_9 : Int) (a0_10 : Bool) (a0_11 : Int) (a0_12 : ByteArray) (a0_13 : ByteArray) (a1 : Int) : Option (Int) := if (wrap64 (a1 - (a0_0.size : Int))) < 0 then (some (-1)) else ((laws_szNameS.f k l0_2 (wrap64 (a1 - (a0_0.size : Int)))).bind fun t107 => (if t107 < 0 then (some (-1)) else ((laws_szNameS.f k l0_3 t107).bind fun t108 => (if t108 < 0 then (some (-1)) else (if (wrap64 (t108 - (a0_4.size : Int))) < 0 then (some (-1)) else (if (wrap64 ((wrap64 (t108 - (a0_4.size : Int))) - (a0_5.size : Int))) < 0 then (some (-1)) else (if (wrap64 ((wrap64 ((wrap64 (t108 - (a0_4.size : Int))) - (a0_5.size : Int))) - (a0_6.size : Int))) < 0 then (some (-1)) else (if (wrap64 ((wrap64 ((wrap64 ((wrap64 (t108 - (a0_4.size : Int))) - (a0_5.size : Int))) - (a0_6.size : Int))) - (a0_12.size : Int))) < 0 then (some (-1)) else (if (wrap64 ((wrap64 ((wrap64 ((wrap64 ((wrap64 (t108 - (a0_4.size : Int))) - (a0_5.size : Int))) - (a0_6.size : Int))) - (a0_12.size : Int))) - (a0_13.size : Int))) < 0 then (some (-1)) else (some (wrap64 ((wrap64 ((wrap64 ((wrap64 ((wrap64 (t108 - (a0_4.size : Int))) - (a0_5.size : Int))) - (a0_6.size : Int))) - (a0_12.size : Int))) - (a0_13.size : Int)))))))))))))
theorem laws_szEntry.mono : ∀ a0 a1 a2 a3 a4 a5 a6 a7 a8 a9 a10 a11 a12 a13 a14 k, LeO (laws_szEntry.f k a0 a1 a2 a3 a4 a5 a6 a7 a8 a9 a10 a11 a12 a13 a14) (laws_szEntry.f (k + 1) a0 a1 a2 a3 a4 a5 a6 a7 a8 a9 a10 a11 a12 a13 a14) := by
 intro a0 a1 a2 a3 a4 a5 a6 a7 a8 a9 a10 a11 a12 a13 a14 k
 unfold laws_szEntry.f
 repeat' first
   | (with_reducible exact laws_szNameS.mono _ _ _)
   | (with_reducible exact LeO.refl _)
   | (with_reducible exact LeO.none _)
   | (with_reducible refine LeO.ite ?_ ?_)
   | (with_reducible refine LeO.bind ?_ (fun _ => ?_))
   | exact laws_szNameS.mono _ _ _
   | exact LeO.none _
   | refine LeO.ite ?_ ?_
   | refine LeO.bind ?_ (fun _ => ?_)
set_option maxRecDepth 100000 in
theorem laws_szEntry.L0 {P : Prop} (h : P := by
  go_enter Tryd.func22, Tryd.ntmps22
  go_wp2_with (first | ((with_reducible refine gate_dst (N := 2) rfl ?_); refine box_event ?hg (N := 2) ?hd (cs := #[.string a0_0, .int .i64 a0_1, .slice A0_2 l0_2.length c0_2, .slice A0_3 l0_3.length c0_3, .string a0_4, .string a0_5, .string a0_6, .int .i64 a0_7, .int .i64 a0_8, .int .i64 a0_9, .bool a0_10, .int .i64 a0_11, .string a0_12, .string a0_13]) (t := 55) ?hr ?_; (case hd => rfl); (case hg => rfl); (case hr => first | (go_simp; done) | (go_simp; rfl)); intro gb106 hg w19 hbox hb; have BK106 := Aside0.mk (hbox); have GW106 := Aside0.mk (bsz hg au36); have GE106 := Aside0.mk (bsz hg au36); replace HB := Aside0.mk (below_step au36 hb); clear hb hbox hg; obtain ⟨hcz20_0, hcz20_1, hcz20_2, hcz20_3, hcz20_4, hcz20_5, hcz20_6, hcz20_7, hcz20_8, hcz20_9, hcz20_10, hcz20_11, hcz20_12, hcz20_13, hfz20_0, hfz20_1, hfz20_2, hfz20_3, hfz20_4, hfz20_5, hfz20_6, hfz20_7, hfz20_8, hfz20_9, hfz20_10, hfz20_11, hfz20_12, hfz20_13⟩ := blkc14 BK106.out) | ((with_reducible refine gate_callee (f := 29) rfl ?_); refine goesL_ (some 15) rfl rfl Tryd.func29 (by kernel_rfl) rfl #[.slice A0_2 l0_2.length c0_2, .int .i64 (wrap64 (a1 - (a0_0.size : Int)))] rfl au35 ?_; (with_reducible refine (laws_szNameS.calls k _ _ l0_2 (wrap64 (a1 - (a0_0.size : Int))) t107 _ ?side1 ?side2 A6.out).mono ?_); (case side1 => repeat (first | exact (Kd.C_below HR0_2.out HB.out) | (with_reducible refine Kd.C_alloc ?_ _) | (with_reducible refine Kd.C_drewN ?_ _) | (with_reducible refine Kd.C_drew ?_))); (case side2 => exact HC0_2.out); rintro e w21 ⟨rfl, hb⟩; refine ⟨_, rfl, ?_⟩; replace BK106 := Aside0.mk (blk_below (g := gb106) au38 hb); replace HB := Aside0.mk (below_step au16 hb); (try clear hb); obtain ⟨hcz22_0, hcz22_1, hcz22_2, hcz22_3, hcz22_4, hcz22_5, hcz22_6, hcz22_7, hcz22_8, hcz22_9, hcz22_10, hcz22_11, hcz22_12, hcz22_13, hfz22_0, hfz22_1, hfz22_2, hfz22_3, hfz22_4, hfz22_5, hfz22_6, hfz22_7, hfz22_8, hfz22_9, hfz22_10, hfz22_11, hfz22_12, hfz22_13⟩ := blkc14 BK106.out) | ((with_reducible refine gate_callee (f := 29) rfl ?_); refine goesL_ (some 21) rfl rfl Tryd.func29 (by kernel_rfl) rfl #[.slice A0_3 l0_3.length c0_3, .int .i64 t107] rfl au35 ?_; (with_reducible refine (laws_szNameS.calls k _ _ l0_3 t107 t108 _ ?side1 ?side2 A11.out).mono ?_); (case side1 => repeat (first | exact (Kd.C_below HR0_3.out HB.out) | (with_reducible refine Kd.C_alloc ?_ _) | (with_reducible refine Kd.C_drewN ?_ _) | (with_reducible refine Kd.C_drew ?_))); (case side2 => exact HC0_3.out); rintro e w23 ⟨rfl, hb⟩; refine ⟨_, rfl, ?_⟩; replace BK106 := Aside0.mk (blk_below (g := gb106) au38 hb); replace HB := Aside0.mk (below_step au16 hb); (try clear hb); obtain ⟨hcz24_0, hcz24_1, hcz24_2, hcz24_3, hcz24_4, hcz24_5, hcz24_6, hcz24_7, hcz24_8, hcz24_9, hcz24_10, hcz24_11, hcz24_12, hcz24_13, hfz24_0, hfz24_1, hfz24_2, hfz24_3, hfz24_4, hfz24_5, hfz24_6, hfz24_7, hfz24_8, hfz24_9, hfz24_10, hfz24_11, hfz24_12, hfz24_13⟩ := blkc14 BK106.out))
  go_ret
  exact ax2) : P := h
set_option maxHeartbeats 8000000 in
set_option maxRecDepth 100000 in
theorem laws_szEntry.calls (k : Nat) (a0_0 : ByteArray) (a0_1 : Int) (A0_2 : Option Addr) (c0_2 : Nat) (l0_2 : List (S72)) (A0_3 : Option Addr) (c0_3 : Nat) (l0_3 : List (S72)) (a0_4 : ByteArray) (a0_5 : ByteArray) (a0_6 : ByteArray) (a0_7 : Int) (a0_8 : Int) (a0_9 : Int) (a0_10 : Bool) (a0_11 : Int) (a0_12 : ByteArray) (a0_13 : ByteArray) (a1 : Int) (r : Int) (w : World) (hr0_2 : Kd.C k72 w A0_2 l0_2.length l0_2) (hc0_2 : l0_2.length ≤ c0_2) (hr0_3 : Kd.C k72 w A0_3 l0_3.length l0_3) (hc0_3 : l0_3.length ≤ c0_3) (h : laws_szEntry.f k a0_0 a0_1 l0_2 l0_3 a0_4 a0_5 a0_6 a0_7 a0_8 a0_9 a0_10 a0_11 a0_12 a0_13 a1 = some r) :
  Calls Tryd.prog 22 #[.agg #[.string a0_0, .int .i64 a0_1, .slice A0_2 l0_2.length c0_2, .slice A0_3 l0_3.length c0_3, .string a0_4, .string a0_5, .string a0_6, .int .i64 a0_7, .int .i64 a0_8, .int .i64 a0_9, .bool a0_10, .int .i64 a0_11, .string a0_12, .string a0_13], .int .i64 a1] w fun e w' => e = .returned (.int .i64 r) ∧ Below w.heap.size w w' := by
 have hu55 := Tryd.underlying55
 have HR0_2 := Aside0.mk hr0_2
 have HC0_2 := Aside0.mk hc0_2
 clear hr0_2 hc0_2
 have HR0_3 := Aside0.mk hr0_3
 have HC0_3 := Aside0.mk hc0_3
 clear hr0_3 hc0_3
 have HB := Aside0.mk (Below.refl w.heap.size w)
 have H : (if (wrap64 (a1 - (a0_0.size : Int))) < 0 then (some (-1)) else ((laws_szNameS.f k l0_2 (wrap64 (a1 - (a0_0.size : Int)))).bind fun t107 => (if t107 < 0 then (some (-1)) else ((laws_szNameS.f k l0_3 t107).bind fun t108 => (if t108 < 0 then (some (-1)) else (if (wrap64 (t108 - (a0_4.size : Int))) < 0 then (some (-1)) else (if (wrap64 ((wrap64 (t108 - (a0_4.size : Int))) - (a0_5.size : Int))) < 0 then (some (-1)) else (if (wrap64 ((wrap64 ((wrap64 (t108 - (a0_4.size : Int))) - (a0_5.size : Int))) - (a0_6.size : Int))) < 0 then (some (-1)) else (if (wrap64 ((wrap64 ((wrap64 ((wrap64 (t108 - (a0_4.size : Int))) - (a0_5.size : Int))) - (a0_6.size : Int))) - (a0_12.size : Int))) < 0 then (some (-1)) else (if (wrap64 ((wrap64 ((wrap64 ((wrap64 ((wrap64 (t108 - (a0_4.size : Int))) - (a0_5.size : Int))) - (a0_6.size : Int))) - (a0_12.size : Int))) - (a0_13.size : Int))) < 0 then (some (-1)) else (some (wrap64 ((wrap64 ((wrap64 ((wrap64 ((wrap64 (t108 - (a0_4.size : Int))) - (a0_5.size : Int))) - (a0_6.size : Int))) - (a0_12.size : Int))) - (a0_13.size : Int)))))))))))))) = some r := h
 clear h
 by_cases c3 : (wrap64 (a1 - (a0_0.size : Int))) < 0
 ·
  rw [if_pos c3] at H
  have c3b0 : decide ((wrap64 (a1 - (a0_0.size : Int))) < 0) = true := decide_eq_true c3
  clear c3
  obtain rfl := Option.some.inj H
  exact laws_szEntry.L0
 ·
  rw [if_neg c3] at H
  have c3b0 : decide ((wrap64 (a1 - (a0_0.size : Int))) < 0) = false := decide_eq_false c3
  clear c3
  replace H := Option.bind_eq_some_iff.mp H
  obtain ⟨t107, A60, H⟩ := H
  try dsimp only at H
  have A6 := Aside0.mk A60
  clear A60
  by_cases c7 : t107 < 0
  ·
   rw [if_pos c7] at H
   have c7b0 : decide (t107 < 0) = true := decide_eq_true c7
   clear c7
   obtain rfl := Option.some.inj H
   go_enter Tryd.func22, Tryd.ntmps22
   go_wp2_with (first | ((with_reducible refine gate_dst (N := 2) rfl ?_); refine box_event ?hg (N := 2) ?hd (cs := #[.string a0_0, .int .i64 a0_1, .slice A0_2 l0_2.length c0_2, .slice A0_3 l0_3.length c0_3, .string a0_4, .string a0_5, .string a0_6, .int .i64 a0_7, .int .i64 a0_8, .int .i64 a0_9, .bool a0_10, .int .i64 a0_11, .string a0_12, .string a0_13]) (t := 55) ?hr ?_; (case hd => rfl); (case hg => rfl); (case hr => first | (go_simp; done) | (go_simp; rfl)); intro gb106 hg w8 hbox hb; have BK106 := Aside0.mk (hbox); have GW106 := Aside0.mk (bsz hg au36); have GE106 := Aside0.mk (bsz hg au36); replace HB := Aside0.mk (below_step au36 hb); clear hb hbox hg; obtain ⟨hcz9_0, hcz9_1, hcz9_2, hcz9_3, hcz9_4, hcz9_5, hcz9_6, hcz9_7, hcz9_8, hcz9_9, hcz9_10, hcz9_11, hcz9_12, hcz9_13, hfz9_0, hfz9_1, hfz9_2, hfz9_3, hfz9_4, hfz9_5, hfz9_6, hfz9_7, hfz9_8, hfz9_9, hfz9_10, hfz9_11, hfz9_12, hfz9_13⟩ := blkc14 BK106.out) | ((with_reducible refine gate_callee (f := 29) rfl ?_); refine goesL_ (some 15) rfl rfl Tryd.func29 (by kernel_rfl) rfl #[.slice A0_2 l0_2.length c0_2, .int .i64 (wrap64 (a1 - (a0_0.size : Int)))] rfl au35 ?_; (with_reducible refine (laws_szNameS.calls k _ _ l0_2 (wrap64 (a1 - (a0_0.size : Int))) t107 _ ?side1 ?side2 A6.out).mono ?_); (case side1 => repeat (first | exact (Kd.C_below HR0_2.out HB.out) | (with_reducible refine Kd.C_alloc ?_ _) | (with_reducible refine Kd.C_drewN ?_ _) | (with_reducible refine Kd.C_drew ?_))); (case side2 => exact HC0_2.out); rintro e w10 ⟨rfl, hb⟩; refine ⟨_, rfl, ?_⟩; replace BK106 := Aside0.mk (blk_below (g := gb106) au38 hb); replace HB := Aside0.mk (below_step au16 hb); (try clear hb)))
   go_ret
   exact ax2
  ·
   rw [if_neg c7] at H
   have c7b0 : decide (t107 < 0) = false := decide_eq_false c7
   clear c7
   replace H := Option.bind_eq_some_iff.mp H
   obtain ⟨t108, A110, H⟩ := H
   try dsimp only at H
   have A11 := Aside0.mk A110
   clear A110
   by_cases c12 : t108 < 0
   ·
    rw [if_pos c12] at H
    have c12b0 : decide (t108 < 0) = true := decide_eq_true c12
    clear c12
    obtain rfl := Option.some.inj H
    go_enter Tryd.func22, Tryd.ntmps22
    go_wp2_with (first | ((with_reducible refine gate_dst (N := 2) rfl ?_); refine box_event ?hg (N := 2) ?hd (cs := #[.string a0_0, .int .i64 a0_1, .slice A0_2 l0_2.length c0_2, .slice A0_3 l0_3.length c0_3, .string a0_4, .string a0_5, .string a0_6, .int .i64 a0_7, .int .i64 a0_8, .int .i64 a0_9, .bool a0_10, .int .i64 a0_11, .string a0_12, .string a0_13]) (t := 55) ?hr ?_; (case hd => rfl); (case hg => rfl); (case hr => first | (go_simp; done) | (go_simp; rfl)); intro gb106 hg w13 hbox hb; have BK106 := Aside0.mk (hbox); have GW106 := Aside0.mk (bsz hg au36); have GE106 := Aside0.mk (bsz hg au36); replace HB := Aside0.mk (below_step au36 hb); clear hb hbox hg; obtain ⟨hcz14_0, hcz14_1, hcz14_2, hcz14_3, hcz14_4, hcz14_5, hcz14_6, hcz14_7, hcz14_8, hcz14_9, hcz14_10, hcz14_11, hcz14_12, hcz14_13, hfz14_0, hfz14_1, hfz14_2, hfz14_3, hfz14_4, hfz14_5, hfz14_6, hfz14_7, hfz14_8, hfz14_9, hfz14_10, hfz14_11, hfz14_12, hfz14_13⟩ := blkc14 BK106.out) | ((with_reducible refine gate_callee (f := 29) rfl ?_); refine goesL_ (some 15) rfl rfl Tryd.func29 (by kernel_rfl) rfl #[.slice A0_2 l0_2.length c0_2, .int .i64 (wrap64 (a1 - (a0_0.size : Int)))] rfl au35 ?_; (with_reducible refine (laws_szNameS.calls k _ _ l0_2 (wrap64 (a1 - (a0_0.size : Int))) t107 _ ?side1 ?side2 A6.out).mono ?_); (case side1 => repeat (first | exact (Kd.C_below HR0_2.out HB.out) | (with_reducible refine Kd.C_alloc ?_ _) | (with_reducible refine Kd.C_drewN ?_ _) | (with_reducible refine Kd.C_drew ?_))); (case side2 => exact HC0_2.out); rintro e w15 ⟨rfl, hb⟩; refine ⟨_, rfl, ?_⟩; replace BK106 := Aside0.mk (blk_below (g := gb106) au38 hb); replace HB := Aside0.mk (below_step au16 hb); (try clear hb); obtain ⟨hcz16_0, hcz16_1, hcz16_2, hcz16_3, hcz16_4, hcz16_5, hcz16_6, hcz16_7, hcz16_8, hcz16_9, hcz16_10, hcz16_11, hcz16_12, hcz16_13, hfz16_0, hfz16_1, hfz16_2, hfz16_3, hfz16_4, hfz16_5, hfz16_6, hfz16_7, hfz16_8, hfz16_9, hfz16_10, hfz16_11, hfz16_12, hfz16_13⟩ := blkc14 BK106.out) | ((with_reducible refine gate_callee (f := 29) rfl ?_); refine goesL_ (some 21) rfl rfl Tryd.func29 (by kernel_rfl) rfl #[.slice A0_3 l0_3.length c0_3, .int .i64 t107] rfl au35 ?_; (with_reducible refine (laws_szNameS.calls k _ _ l0_3 t107 t108 _ ?side1 ?side2 A11.out).mono ?_); (case side1 => repeat (first | exact (Kd.C_below HR0_3.out HB.out) | (with_reducible refine Kd.C_alloc ?_ _) | (with_reducible refine Kd.C_drewN ?_ _) | (with_reducible refine Kd.C_drew ?_))); (case side2 => exact HC0_3.out); rintro e w17 ⟨rfl, hb⟩; refine ⟨_, rfl, ?_⟩; replace BK106 := Aside0.mk (blk_below (g := gb106) au38 hb); replace HB := Aside0.mk (below_step au16 hb); (try clear hb)))
    go_ret
    exact ax2
   ·
    rw [if_neg c12] at H
    have c12b0 : decide (t108 < 0) = false := decide_eq_false c12
    clear c12
    by_cases c18 : (wrap64 (t108 - (a0_4.size : Int))) < 0
    ·
     rw [if_pos c18] at H
     have c18b0 : decide ((wrap64 (t108 - (a0_4.size : Int))) < 0) = true := decide_eq_true c18
     clear c18
     obtain rfl := Option.some.inj H
     exact laws_szEntry.L0
    ·
     rw [if_neg c18] at H
     have c18b0 : decide ((wrap64 (t108 - (a0_4.size : Int))) < 0) = false := decide_eq_false c18
     clear c18
     by_cases c25 : (wrap64 ((wrap64 (t108 - (a0_4.size : Int))) - (a0_5.size : Int))) < 0
     ·
      rw [if_pos c25] at H
      have c25b0 : decide ((wrap64 ((wrap64 (t108 - (a0_4.size : Int))) - (a0_5.size : Int))) < 0) = true := decide_eq_true c25
      clear c25
      obtain rfl := Option.some.inj H
      exact laws_szEntry.L0
     ·
      rw [if_neg c25] at H
      have c25b0 : decide ((wrap64 ((wrap64 (t108 - (a0_4.size : Int))) - (a0_5.size : Int))) < 0) = false := decide_eq_false c25
      clear c25
      by_cases c32 : (wrap64 ((wrap64 ((wrap64 (t108 - (a0_4.size : Int))) - (a0_5.size : Int))) - (a0_6.size : Int))) < 0
      ·
       rw [if_pos c32] at H
       have c32b0 : decide ((wrap64 ((wrap64 ((wrap64 (t108 - (a0_4.size : Int))) - (a0_5.size : Int))) - (a0_6.size : Int))) < 0) = true := decide_eq_true c32
       clear c32
       obtain rfl := Option.some.inj H
       exact laws_szEntry.L0
      ·
       rw [if_neg c32] at H
       have c32b0 : decide ((wrap64 ((wrap64 ((wrap64 (t108 - (a0_4.size : Int))) - (a0_5.size : Int))) - (a0_6.size : Int))) < 0) = false := decide_eq_false c32
       clear c32
       by_cases c39 : (wrap64 ((wrap64 ((wrap64 ((wrap64 (t108 - (a0_4.size : Int))) - (a0_5.size : Int))) - (a0_6.size : Int))) - (a0_12.size : Int))) < 0
       ·
        rw [if_pos c39] at H
        have c39b0 : decide ((wrap64 ((wrap64 ((wrap64 ((wrap64 (t108 - (a0_4.size : Int))) - (a0_5.size : Int))) - (a0_6.size : Int))) - (a0_12.size : Int))) < 0) = true := decide_eq_true c39
        clear c39
        obtain rfl := Option.some.inj H
        exact laws_szEntry.L0
       ·
        rw [if_neg c39] at H
        have c39b0 : decide ((wrap64 ((wrap64 ((wrap64 ((wrap64 (t108 - (a0_4.size : Int))) - (a0_5.size : Int))) - (a0_6.size : Int))) - (a0_12.size : Int))) < 0) = false := decide_eq_false c39
        clear c39
        by_cases c46 : (wrap64 ((wrap64 ((wrap64 ((wrap64 ((wrap64 (t108 - (a0_4.size : Int))) - (a0_5.size : Int))) - (a0_6.size : Int))) - (a0_12.size : Int))) - (a0_13.size : Int))) < 0
        ·
         rw [if_pos c46] at H
         have c46b0 : decide ((wrap64 ((wrap64 ((wrap64 ((wrap64 ((wrap64 (t108 - (a0_4.size : Int))) - (a0_5.size : Int))) - (a0_6.size : Int))) - (a0_12.size : Int))) - (a0_13.size : Int))) < 0) = true := decide_eq_true c46
         clear c46
         obtain rfl := Option.some.inj H
         exact laws_szEntry.L0
        ·
         rw [if_neg c46] at H
         have c46b0 : decide ((wrap64 ((wrap64 ((wrap64 ((wrap64 ((wrap64 (t108 - (a0_4.size : Int))) - (a0_5.size : Int))) - (a0_6.size : Int))) - (a0_12.size : Int))) - (a0_13.size : Int))) < 0) = false := decide_eq_false c46
         clear c46
         obtain rfl := Option.some.inj H
         exact laws_szEntry.L0


/-! ### laws_szEntryS: function 13 -/
def laws_szEntryS.l0 : Nat → List (S55) → Int → Int → Option (Int)
 | 0, _, _, _ => none
 | k + 1, x0, x1, x5 => if x5 < (x0.length : Int) then (if 0 ≤ x5 then ((laws_szEntry.f k ((rd_T55 x0 x5).f0) ((rd_T55 x0 x5).f1) ((rd_T55 x0 x5).f2) ((rd_T55 x0 x5).f3) ((rd_T55 x0 x5).f4) ((rd_T55 x0 x5).f5) ((rd_T55 x0 x5).f6) ((rd_T55 x0 x5).f7.f0) ((rd_T55 x0 x5).f7.f1) ((rd_T55 x0 x5).f7.f2) ((rd_T55 x0 x5).f7.f3) ((rd_T55 x0 x5).f8) ((rd_T55 x0 x5).f9) ((rd_T55 x0 x5).f10) x1).bind fun t110 => (if t110 < 0 then (some (-1)) else (laws_szEntryS.l0 k x0 t110 (wrap64 (x5 + 1))))) else (none)) else (some x1)
def laws_szEntryS.f (k : Nat) (l0 : List (S55)) (a1 : Int) : Option (Int) := if (wrap64 (a1 - (l0.length : Int))) < 0 then (some (-1)) else (laws_szEntryS.l0 k l0 (wrap64 (a1 - (l0.length : Int))) 0)
theorem laws_szEntryS.mono_l : ∀ k, (∀ y0 y1 y2, LeO (laws_szEntryS.l0 k y0 y1 y2) (laws_szEntryS.l0 (k + 1) y0 y1 y2))
 | 0 => fun _ _ _ r h => by simp [laws_szEntryS.l0] at h
 | k + 1 => by
  have ih0 := laws_szEntryS.mono_l k
  ·
   intro y0 y1 y2
   unfold laws_szEntryS.l0
   repeat' first
   | (with_reducible exact ih0 _ _ _)
   | (with_reducible exact laws_szEntry.mono _ _ _ _ _ _ _ _ _ _ _ _ _ _ _ _)
   | (with_reducible exact LeO.refl _)
   | (with_reducible exact LeO.none _)
   | (with_reducible refine LeO.ite ?_ ?_)
   | (with_reducible refine LeO.bind ?_ (fun _ => ?_))
   | exact ih0 _ _ _
   | exact laws_szEntry.mono _ _ _ _ _ _ _ _ _ _ _ _ _ _ _ _
   | exact LeO.none _
   | refine LeO.ite ?_ ?_
   | refine LeO.bind ?_ (fun _ => ?_)
theorem laws_szEntryS.mono : ∀ a0 a1 k, LeO (laws_szEntryS.f k a0 a1) (laws_szEntryS.f (k + 1) a0 a1) := by
 intro a0 a1 k
 have ih0 := laws_szEntryS.mono_l k
 unfold laws_szEntryS.f
 repeat' first
   | (with_reducible exact ih0 _ _ _)
   | (with_reducible exact laws_szEntry.mono _ _ _ _ _ _ _ _ _ _ _ _ _ _ _ _)
   | (with_reducible exact LeO.refl _)
   | (with_reducible exact LeO.none _)
   | (with_reducible refine LeO.ite ?_ ?_)
   | (with_reducible refine LeO.bind ?_ (fun _ => ?_))
   | exact ih0 _ _ _
   | exact laws_szEntry.mono _ _ _ _ _ _ _ _ _ _ _ _ _ _ _ _
   | exact LeO.none _
   | refine LeO.ite ?_ ?_
   | refine LeO.bind ?_ (fun _ => ?_)
set_option maxRecDepth 100000 in
theorem laws_szEntryS.L0 {P : Prop} (h : P := by
  go_wp2_with (first | ((with_reducible refine gate_callee (f := 22) rfl ?_); refine goesL_ (some 23) rfl rfl Tryd.func22 (by kernel_rfl) rfl #[.agg #[.string ((rd_T55 l0 x5_1).f0), .int .i64 ((rd_T55 l0 x5_1).f1), .slice A109_2 ((rd_T55 l0 x5_1).f2).length c109_2, .slice A109_3 ((rd_T55 l0 x5_1).f3).length c109_3, .string ((rd_T55 l0 x5_1).f4), .string ((rd_T55 l0 x5_1).f5), .string ((rd_T55 l0 x5_1).f6), .int .i64 ((rd_T55 l0 x5_1).f7.f0), .int .i64 ((rd_T55 l0 x5_1).f7.f1), .int .i64 ((rd_T55 l0 x5_1).f7.f2), .bool ((rd_T55 l0 x5_1).f7.f3), .int .i64 ((rd_T55 l0 x5_1).f8), .string ((rd_T55 l0 x5_1).f9), .string ((rd_T55 l0 x5_1).f10)], .int .i64 x1_1] rfl au35 ?_; (with_reducible refine (laws_szEntry.calls k1 ((rd_T55 l0 x5_1).f0) ((rd_T55 l0 x5_1).f1) _ _ ((rd_T55 l0 x5_1).f2) _ _ ((rd_T55 l0 x5_1).f3) ((rd_T55 l0 x5_1).f4) ((rd_T55 l0 x5_1).f5) ((rd_T55 l0 x5_1).f6) ((rd_T55 l0 x5_1).f7.f0) ((rd_T55 l0 x5_1).f7.f1) ((rd_T55 l0 x5_1).f7.f2) ((rd_T55 l0 x5_1).f7.f3) ((rd_T55 l0 x5_1).f8) ((rd_T55 l0 x5_1).f9) ((rd_T55 l0 x5_1).f10) x1_1 t110 _ ?side1 ?side2 ?side3 ?side4 A6.out).mono ?_); (case side1 => repeat (first | exact (Kd.C_below HR109_2.out HB.out) | (with_reducible refine Kd.C_alloc ?_ _) | (with_reducible refine Kd.C_drewN ?_ _) | (with_reducible refine Kd.C_drew ?_))); (case side2 => exact HC109_2.out); (case side3 => repeat (first | exact (Kd.C_below HR109_3.out HB.out) | (with_reducible refine Kd.C_alloc ?_ _) | (with_reducible refine Kd.C_drewN ?_ _) | (with_reducible refine Kd.C_drew ?_))); (case side4 => exact HC109_3.out); rintro e w8 ⟨rfl, hb⟩; refine ⟨_, rfl, ?_⟩; replace HB := Aside0.mk (below_step au36 hb); (try clear hb)))
  go_ret
  exact ax1) : P := h
set_option maxHeartbeats 8000000 in
set_option maxRecDepth 100000 in
theorem laws_szEntryS.calls (k : Nat) (A0 : Option Addr) (c0 : Nat) (l0 : List (S55)) (a1 : Int) (r : Int) (w : World) (hr0 : Kd.C k55 w A0 l0.length l0) (hc0 : l0.length ≤ c0) (h : laws_szEntryS.f k l0 a1 = some r) :
  Calls Tryd.prog 13 #[.slice A0 l0.length c0, .int .i64 a1] w fun e w' => e = .returned (.int .i64 r) ∧ Below w.heap.size w w' := by
 have hu55 := Tryd.underlying55
 have HR0 := Aside0.mk hr0
 have HC0 := Aside0.mk hc0
 clear hr0 hc0
 have HB := Aside0.mk (Below.refl w.heap.size w)
 have H : (if (wrap64 (a1 - (l0.length : Int))) < 0 then (some (-1)) else (laws_szEntryS.l0 k l0 (wrap64 (a1 - (l0.length : Int))) 0)) = some r := h
 clear h
 by_cases c3 : (wrap64 (a1 - (l0.length : Int))) < 0
 ·
  rw [if_pos c3] at H
  have c3b0 : decide ((wrap64 (a1 - (l0.length : Int))) < 0) = true := decide_eq_true c3
  clear c3
  obtain rfl := Option.some.inj H
  go_enter Tryd.func13, Tryd.ntmps13
  go_wp2
  go_ret
  exact ax1
 ·
  rw [if_neg c3] at H
  have c3b0 : decide ((wrap64 (a1 - (l0.length : Int))) < 0) = false := decide_eq_false c3
  clear c3
  have H' := Aside0.mk H
  clear H
  go_enter Tryd.func13, Tryd.ntmps13
  go_wp2
  go_loopg [1, 5] k (fun kq v1 v5 w' => ∃ (x1_1 : Int) (x5_1 : Int), v1 = .int .i64 x1_1 ∧ v5 = .int .i64 x5_1 ∧ Aside0 (laws_szEntryS.l0 kq l0 x1_1 x5_1 = some r) ∧ Aside0 (kq ≤ k) ∧ Aside0 (Below w.heap.size w w'))
  case atStart => exact ⟨(wrap64 (a1 - (l0.length : Int))), (0), au72, au72, H', ⟨Nat.le_refl _⟩, ⟨by repeat (first | (with_reducible first | exact HB.out | apply below_alloc | apply pw_below_drewN | apply below_drew1) | exact HB.out)⟩⟩
  case round =>
   clear H'
   try clear c1
   try clear p2
   try clear c3
   try clear c3b0
   obtain ⟨x1_1, x5_1, rfl, rfl, HA, HK1, HB⟩ := hrel
   cases gk with
   | zero => exact absurd HA.out (by simp [laws_szEntryS.l0])
   | succ k1 =>
    have H := HA.out
    clear HA
    simp only [laws_szEntryS.l0] at H
    by_cases c4 : x5_1 < (l0.length : Int)
    ·
     rw [if_pos c4] at H
     have c4b0 : decide (x5_1 < (l0.length : Int)) = true := decide_eq_true c4
     clear c4
     by_cases c5 : 0 ≤ x5_1
     ·
      rw [if_pos c5] at H
      have c5b0 : decide (0 ≤ x5_1) = true := decide_eq_true c5
      clear c5
      replace H := Option.bind_eq_some_iff.mp H
      obtain ⟨t110, A60, H⟩ := H
      try dsimp only at H
      have A6 := Aside0.mk A60
      clear A60
      by_cases c7 : t110 < 0
      ·
       rw [if_pos c7] at H
       have c7b0 : decide (t110 < 0) = true := decide_eq_true c7
       clear c7
       obtain rfl := Option.some.inj H
       have p109 : 0 ≤ (x5_1 : Int) := of_decide_eq_true au71
       have q109 : x5_1 < (l0.length : Int) := of_decide_eq_true au71
       obtain ⟨ad109, A109_2, c109_2, A109_3, c109_3, e109, hx109_0, hx109_1, hx109_2, hx109_3, hx109_4, hx109_5, hx109_6, hx109_7, hx109_8, hx109_9, hx109_10, hx109_11, hx109_12, hx109_13, hl109_2, hi109_2, hl109_3, hi109_3⟩ := at_T55 HR0.out x5_1 p109 q109
       cases e109
       replace hx109_0 := bcl HB.out hx109_0
       replace hx109_1 := bcl HB.out hx109_1
       replace hx109_2 := bcl HB.out hx109_2
       replace hx109_3 := bcl HB.out hx109_3
       replace hx109_4 := bcl HB.out hx109_4
       replace hx109_5 := bcl HB.out hx109_5
       replace hx109_6 := bcl HB.out hx109_6
       replace hx109_7 := bcl HB.out hx109_7
       replace hx109_8 := bcl HB.out hx109_8
       replace hx109_9 := bcl HB.out hx109_9
       replace hx109_10 := bcl HB.out hx109_10
       replace hx109_11 := bcl HB.out hx109_11
       replace hx109_12 := bcl HB.out hx109_12
       replace hx109_13 := bcl HB.out hx109_13
       have HR109_2 := Aside0.mk hi109_2
       have HC109_2 := Aside0.mk hl109_2
       clear hi109_2 hl109_2
       have HR109_3 := Aside0.mk hi109_3
       have HC109_3 := Aside0.mk hl109_3
       clear hi109_3 hl109_3
       replace p109 := eq_true p109
       replace q109 := eq_true q109
       exact laws_szEntryS.L0
      ·
       rw [if_neg c7] at H
       have c7b0 : decide (t110 < 0) = false := decide_eq_false c7
       clear c7
       have H' := Aside0.mk H
       clear H
       have p109 : 0 ≤ (x5_1 : Int) := of_decide_eq_true au71
       have q109 : x5_1 < (l0.length : Int) := of_decide_eq_true au71
       obtain ⟨ad109, A109_2, c109_2, A109_3, c109_3, e109, hx109_0, hx109_1, hx109_2, hx109_3, hx109_4, hx109_5, hx109_6, hx109_7, hx109_8, hx109_9, hx109_10, hx109_11, hx109_12, hx109_13, hl109_2, hi109_2, hl109_3, hi109_3⟩ := at_T55 HR0.out x5_1 p109 q109
       cases e109
       replace hx109_0 := bcl HB.out hx109_0
       replace hx109_1 := bcl HB.out hx109_1
       replace hx109_2 := bcl HB.out hx109_2
       replace hx109_3 := bcl HB.out hx109_3
       replace hx109_4 := bcl HB.out hx109_4
       replace hx109_5 := bcl HB.out hx109_5
       replace hx109_6 := bcl HB.out hx109_6
       replace hx109_7 := bcl HB.out hx109_7
       replace hx109_8 := bcl HB.out hx109_8
       replace hx109_9 := bcl HB.out hx109_9
       replace hx109_10 := bcl HB.out hx109_10
       replace hx109_11 := bcl HB.out hx109_11
       replace hx109_12 := bcl HB.out hx109_12
       replace hx109_13 := bcl HB.out hx109_13
       have HR109_2 := Aside0.mk hi109_2
       have HC109_2 := Aside0.mk hl109_2
       clear hi109_2 hl109_2
       have HR109_3 := Aside0.mk hi109_3
       have HC109_3 := Aside0.mk hl109_3
       clear hi109_3 hl109_3
       replace p109 := eq_true p109
       replace q109 := eq_true q109
       go_wp2_with (first | ((with_reducible refine gate_callee (f := 22) rfl ?_); refine goesL_ (some 23) rfl rfl Tryd.func22 (by kernel_rfl) rfl #[.agg #[.string ((rd_T55 l0 x5_1).f0), .int .i64 ((rd_T55 l0 x5_1).f1), .slice A109_2 ((rd_T55 l0 x5_1).f2).length c109_2, .slice A109_3 ((rd_T55 l0 x5_1).f3).length c109_3, .string ((rd_T55 l0 x5_1).f4), .string ((rd_T55 l0 x5_1).f5), .string ((rd_T55 l0 x5_1).f6), .int .i64 ((rd_T55 l0 x5_1).f7.f0), .int .i64 ((rd_T55 l0 x5_1).f7.f1), .int .i64 ((rd_T55 l0 x5_1).f7.f2), .bool ((rd_T55 l0 x5_1).f7.f3), .int .i64 ((rd_T55 l0 x5_1).f8), .string ((rd_T55 l0 x5_1).f9), .string ((rd_T55 l0 x5_1).f10)], .int .i64 x1_1] rfl au35 ?_; (with_reducible refine (laws_szEntry.calls k1 ((rd_T55 l0 x5_1).f0) ((rd_T55 l0 x5_1).f1) _ _ ((rd_T55 l0 x5_1).f2) _ _ ((rd_T55 l0 x5_1).f3) ((rd_T55 l0 x5_1).f4) ((rd_T55 l0 x5_1).f5) ((rd_T55 l0 x5_1).f6) ((rd_T55 l0 x5_1).f7.f0) ((rd_T55 l0 x5_1).f7.f1) ((rd_T55 l0 x5_1).f7.f2) ((rd_T55 l0 x5_1).f7.f3) ((rd_T55 l0 x5_1).f8) ((rd_T55 l0 x5_1).f9) ((rd_T55 l0 x5_1).f10) x1_1 t110 _ ?side1 ?side2 ?side3 ?side4 A6.out).mono ?_); (case side1 => repeat (first | exact (Kd.C_below HR109_2.out HB.out) | (with_reducible refine Kd.C_alloc ?_ _) | (with_reducible refine Kd.C_drewN ?_ _) | (with_reducible refine Kd.C_drew ?_))); (case side2 => exact HC109_2.out); (case side3 => repeat (first | exact (Kd.C_below HR109_3.out HB.out) | (with_reducible refine Kd.C_alloc ?_ _) | (with_reducible refine Kd.C_drewN ?_ _) | (with_reducible refine Kd.C_drew ?_))); (case side4 => exact HC109_3.out); rintro e w9 ⟨rfl, hb⟩; refine ⟨_, rfl, ?_⟩; replace HB := Aside0.mk (below_step au36 hb); (try clear hb)))
       go_roundg k1
       case measure => have := HK1.out; omega
       case rel => exact ⟨(t110), (wrap64 (x5_1 + 1)), au72, au72, H', ⟨by have := HK1.out; omega⟩, ⟨by repeat (first | (with_reducible first | exact HB.out | apply below_alloc | apply pw_below_drewN | apply below_drew1) | exact HB.out)⟩⟩
     ·
      rw [if_neg c5] at H
      exact absurd H (by simp)
    ·
     rw [if_neg c4] at H
     have c4b0 : decide (x5_1 < (l0.length : Int)) = false := decide_eq_false c4
     clear c4
     obtain rfl := Option.some.inj H
     exact laws_szEntryS.L0


/-! ### laws_szLibrary: function 4 -/
def laws_szLibrary.f (k : Nat) (l0_0 : List (S55)) (a1 : Int) : Option (Int) := (laws_szEntryS.f k l0_0 a1).bind fun t112 => (if t112 < 0 then (some (-1)) else (some t112))
theorem laws_szLibrary.mono : ∀ a0 a1 k, LeO (laws_szLibrary.f k a0 a1) (laws_szLibrary.f (k + 1) a0 a1) := by
 intro a0 a1 k
 unfold laws_szLibrary.f
 repeat' first
   | (with_reducible exact laws_szEntryS.mono _ _ _)
   | (with_reducible exact LeO.refl _)
   | (with_reducible exact LeO.none _)
   | (with_reducible refine LeO.ite ?_ ?_)
   | (with_reducible refine LeO.bind ?_ (fun _ => ?_))
   | exact laws_szEntryS.mono _ _ _
   | exact LeO.none _
   | refine LeO.ite ?_ ?_
   | refine LeO.bind ?_ (fun _ => ?_)
set_option maxHeartbeats 8000000 in
set_option maxRecDepth 100000 in
theorem laws_szLibrary.calls (k : Nat) (A0_0 : Option Addr) (c0_0 : Nat) (l0_0 : List (S55)) (a1 : Int) (r : Int) (w : World) (hr0_0 : Kd.C k55 w A0_0 l0_0.length l0_0) (hc0_0 : l0_0.length ≤ c0_0) (h : laws_szLibrary.f k l0_0 a1 = some r) :
  Calls Tryd.prog 4 #[.agg #[.slice A0_0 l0_0.length c0_0], .int .i64 a1] w fun e w' => e = .returned (.int .i64 r) ∧ Below w.heap.size w w' := by
 have hu24 := Tryd.underlying24
 have HR0_0 := Aside0.mk hr0_0
 have HC0_0 := Aside0.mk hc0_0
 clear hr0_0 hc0_0
 have HB := Aside0.mk (Below.refl w.heap.size w)
 have H : ((laws_szEntryS.f k l0_0 a1).bind fun t112 => (if t112 < 0 then (some (-1)) else (some t112))) = some r := h
 clear h
 replace H := Option.bind_eq_some_iff.mp H
 obtain ⟨t112, A30, H⟩ := H
 try dsimp only at H
 have A3 := Aside0.mk A30
 clear A30
 by_cases c4 : t112 < 0
 ·
  rw [if_pos c4] at H
  have c4b0 : decide (t112 < 0) = true := decide_eq_true c4
  clear c4
  obtain rfl := Option.some.inj H
  go_enter Tryd.func4, Tryd.ntmps4
  go_wp2_with (first | ((with_reducible refine gate_dst (N := 2) rfl ?_); refine box_event ?hg (N := 2) ?hd (cs := #[.slice A0_0 l0_0.length c0_0]) (t := 24) ?hr ?_; (case hd => rfl); (case hg => rfl); (case hr => first | (go_simp; done) | (go_simp; rfl)); intro gb111 hg w5 hbox hb; have BK111 := Aside0.mk (hbox); have GW111 := Aside0.mk (bsz hg au36); have GE111 := Aside0.mk (bsz hg au36); replace HB := Aside0.mk (below_step au36 hb); clear hb hbox hg; have hcz6_0 : w5.cell? ⟨gb111, 0, none⟩ = some (.slice A0_0 l0_0.length c0_0) := (blk_cell BK111.out 0).trans rfl; have hfz6_0 := blk_frozen BK111.out 0) | ((with_reducible refine gate_callee (f := 13) rfl ?_); refine goesL_ (some 8) rfl rfl Tryd.func13 (by kernel_rfl) rfl #[.slice A0_0 l0_0.length c0_0, .int .i64 a1] rfl au35 ?_; (with_reducible refine (laws_szEntryS.calls k _ _ l0_0 a1 t112 _ ?side1 ?side2 A3.out).mono ?_); (case side1 => repeat (first | exact (Kd.C_below HR0_0.out HB.out) | (with_reducible refine Kd.C_alloc ?_ _) | (with_reducible refine Kd.C_drewN ?_ _) | (with_reducible refine Kd.C_drew ?_))); (case side2 => exact HC0_0.out); rintro e w7 ⟨rfl, hb⟩; refine ⟨_, rfl, ?_⟩; replace BK111 := Aside0.mk (blk_below (g := gb111) au39 hb); replace HB := Aside0.mk (below_step au17 hb); (try clear hb)))
  go_ret
  exact ax3
 ·
  rw [if_neg c4] at H
  have c4b0 : decide (t112 < 0) = false := decide_eq_false c4
  clear c4
  obtain rfl := Option.some.inj H
  go_enter Tryd.func4, Tryd.ntmps4
  go_wp2_with (first | ((with_reducible refine gate_dst (N := 2) rfl ?_); refine box_event ?hg (N := 2) ?hd (cs := #[.slice A0_0 l0_0.length c0_0]) (t := 24) ?hr ?_; (case hd => rfl); (case hg => rfl); (case hr => first | (go_simp; done) | (go_simp; rfl)); intro gb111 hg w8 hbox hb; have BK111 := Aside0.mk (hbox); have GW111 := Aside0.mk (bsz hg au36); have GE111 := Aside0.mk (bsz hg au36); replace HB := Aside0.mk (below_step au36 hb); clear hb hbox hg; have hcz9_0 : w8.cell? ⟨gb111, 0, none⟩ = some (.slice A0_0 l0_0.length c0_0) := (blk_cell BK111.out 0).trans rfl; have hfz9_0 := blk_frozen BK111.out 0) | ((with_reducible refine gate_callee (f := 13) rfl ?_); refine goesL_ (some 8) rfl rfl Tryd.func13 (by kernel_rfl) rfl #[.slice A0_0 l0_0.length c0_0, .int .i64 a1] rfl au35 ?_; (with_reducible refine (laws_szEntryS.calls k _ _ l0_0 a1 t112 _ ?side1 ?side2 A3.out).mono ?_); (case side1 => repeat (first | exact (Kd.C_below HR0_0.out HB.out) | (with_reducible refine Kd.C_alloc ?_ _) | (with_reducible refine Kd.C_drewN ?_ _) | (with_reducible refine Kd.C_drew ?_))); (case side2 => exact HC0_0.out); rintro e w10 ⟨rfl, hb⟩; refine ⟨_, rfl, ?_⟩; replace BK111 := Aside0.mk (blk_below (g := gb111) au39 hb); replace HB := Aside0.mk (below_step au17 hb); (try clear hb)))
  go_ret
  exact ax3

end Go.Proofs.YthhdodlpbpagfaaDoor.G

namespace Go.Proofs.YthhdodlpbpagfaaDoor.Ext
set_option linter.unusedVariables false
set_option linter.unusedSimpArgs false
theorem str_tri (a : List UInt8) : ∀ b, (!(Op.bytesLess a b || a == b)) = Op.bytesLess b a := by
  induction a with
  | nil => intro b; cases b <;> simp [Op.bytesLess]
  | cons x a ih =>
    intro b
    cases b with
    | nil => simp [Op.bytesLess]
    | cons y b =>
      have h := ih b
      unfold Op.bytesLess
      by_cases h1 : x < y
      · have h2 : ¬ y < x := fun h => by have a1 : x.toNat < y.toNat := h1; have a2 : y.toNat < x.toNat := h; omega
        have h3 : ¬ x = y := fun e => by subst e; exact h2 h1
        have h4 : ¬ y = x := fun e => h3 e.symm
        simp [h1, h2, h3, h4]
      · by_cases h2 : y < x
        · have h3 : ¬ x = y := fun e => by subst e; exact h1 h2
          simp [h1, h2, h3]
        · have h3 : x = y := by
            apply UInt8.toNat_inj.1
            have a1 : ¬ x.toNat < y.toNat := h1
            have a2 : ¬ y.toNat < x.toNat := h2
            omega
          subst h3
          simpa [h1] using h
theorem gtr_s (t : TypeId) (a b : ByteArray) : binOp .gtr t (.string a) (.string b) = pure (.bool (Op.bytesLess b.toList a.toList)) := by
  rw [← str_tri]; simp [binOp, Op.stringOp]
theorem geq_s (t : TypeId) (a b : ByteArray) : binOp .geq t (.string a) (.string b) = pure (.bool (!(Op.bytesLess a.toList b.toList))) := by simp [binOp, Op.stringOp]
theorem leq_s (t : TypeId) (a b : ByteArray) : binOp .leq t (.string a) (.string b) = pure (.bool (!(Op.bytesLess b.toList a.toList))) := by
  have h := str_tri a.toList b.toList
  rw [← h]; simp [binOp, Op.stringOp]
end Go.Proofs.YthhdodlpbpagfaaDoor.Ext

namespace Go.Proofs.YthhdodlpbpagfaaDoor.G
open Go.RowKit Go.Proofs.YthhdodlpbpagfaaDoorW.PrintWords Go.Proofs.YthhdodlpbpagfaaDoorW.PrintLast Go.Proofs.YthhdodlpbpagfaaDoorW.PrintMore
open Go.Proofs.YthhdodlpbpagfaaDoor.Gl Go.Proofs.YthhdodlpbpagfaaDoor.Ext
attribute [local go_sem] max2_int min2_int max_two min_two max_three min_three max_four min_four   -- for this text's walks alone
set_option linter.unusedVariables false
set_option linter.unusedSimpArgs false

/-! ### spec_l1In: function 15 -/
def spec_l1In.f (a0 : Int) (a1 : Int) (a2 : Int) : Option (Bool) := if a0 ≥ a1 then (some (decide (a0 ≤ a2))) else (some false)
set_option maxHeartbeats 8000000 in
set_option maxRecDepth 100000 in
theorem spec_l1In.calls (a0 : Int) (a1 : Int) (a2 : Int) (r : Bool) (w : World) (h : spec_l1In.f a0 a1 a2 = some r) :
  Calls Tryd.prog 15 #[.int .i64 a0, .int .i64 a1, .int .i64 a2] w fun e w' => e = .returned (.bool r) ∧ Drawn0 w w' := by
 have H : (if a0 ≥ a1 then (some (decide (a0 ≤ a2))) else (some false)) = some r := h
 clear h
 by_cases c4 : a0 ≥ a1
 ·
  rw [if_pos c4] at H
  have c4b0 : decide (a1 ≤ a0) = true := decide_eq_true c4
  clear c4
  obtain rfl := Option.some.inj H
  go_enter Tryd.func15, Tryd.ntmps15
  go_wp2
  go_ret
  exact ax0
 ·
  rw [if_neg c4] at H
  have c4b0 : decide (a1 ≤ a0) = false := decide_eq_false c4
  clear c4
  obtain rfl := Option.some.inj H
  go_enter Tryd.func15, Tryd.ntmps15
  go_wp2
  go_ret
  exact ax0


/-! ### spec_l2Lower: function 43 -/
def spec_l2Lower.f (a0 : Int) : Option (Bool) := if a0 ≥ 97 then (some (decide (a0 ≤ 122))) else (some false)
set_option maxHeartbeats 8000000 in
set_option maxRecDepth 100000 in
theorem spec_l2Lower.calls (a0 : Int) (r : Bool) (w : World) (h : spec_l2Lower.f a0 = some r) :
  Calls Tryd.prog 43 #[.int .u8 a0] w fun e w' => e = .returned (.bool r) ∧ Drawn0 w w' := by
 have H : (if a0 ≥ 97 then (some (decide (a0 ≤ 122))) else (some false)) = some r := h
 clear h
 by_cases c2 : a0 ≥ 97
 ·
  rw [if_pos c2] at H
  have c2b0 : decide (97 ≤ a0) = true := decide_eq_true c2
  clear c2
  obtain rfl := Option.some.inj H
  go_enter Tryd.func43, Tryd.ntmps43
  go_wp2
  go_ret
  exact ax0
 ·
  rw [if_neg c2] at H
  have c2b0 : decide (97 ≤ a0) = false := decide_eq_false c2
  clear c2
  obtain rfl := Option.some.inj H
  go_enter Tryd.func43, Tryd.ntmps43
  go_wp2
  go_ret
  exact ax0


/-! ### spec_l4Key: function 30 -/
mutual
def spec_l4Key.j0 : Nat → ByteArray → Bool → Option (Bool)
 | 0, _, _ => none
 | k + 1, x0, x13 => if x13 = true then (some false) else (spec_l4Key.l0 k x0 0)
def spec_l4Key.l0 : Nat → ByteArray → Int → Option (Bool)
 | 0, _, _ => none
 | k + 1, x0, x3 => if x3 < (x0.size : Int) then (if 0 ≤ x3 then ((spec_l2Lower.f (bt x0 x3)).bind fun t115 => (if t115 = true then (spec_l4Key.l0 k x0 (wrap64 (x3 + 1))) else (if (bt x0 x3) < 48 then (some false) else (if (bt x0 x3) > 57 then (some false) else (spec_l4Key.l0 k x0 (wrap64 (x3 + 1))))))) else (none)) else (some true)
end
def spec_l4Key.f (k : Nat) (a0 : ByteArray) : Option (Bool) := (spec_l1In.f (a0.size : Int) 1 10).bind fun t113 => (if t113 = true then (if 0 < (a0.size : Int) then ((spec_l2Lower.f (bt a0 0)).bind fun t114 => (spec_l4Key.j0 k a0 (!t114))) else (none)) else (spec_l4Key.j0 k a0 true))
theorem spec_l4Key.mono_l : ∀ k, (∀ y0 y1, LeO (spec_l4Key.j0 k y0 y1) (spec_l4Key.j0 (k + 1) y0 y1)) ∧ (∀ y0 y1, LeO (spec_l4Key.l0 k y0 y1) (spec_l4Key.l0 (k + 1) y0 y1))
 | 0 => ⟨fun _ _ r h => by simp [spec_l4Key.j0] at h, fun _ _ r h => by simp [spec_l4Key.l0] at h⟩
 | k + 1 => by
  obtain ⟨ih0, ih1⟩ := spec_l4Key.mono_l k
  refine ⟨?_, ?_⟩
  ·
   intro y0 y1
   unfold spec_l4Key.j0
   repeat' first
   | (with_reducible exact ih0 _ _)
   | (with_reducible exact ih1 _ _)
   | (with_reducible exact LeO.refl _)
   | (with_reducible exact LeO.none _)
   | (with_reducible refine LeO.ite ?_ ?_)
   | (with_reducible refine LeO.bind ?_ (fun _ => ?_))
   | exact ih0 _ _
   | exact ih1 _ _
   | exact LeO.none _
   | refine LeO.ite ?_ ?_
   | refine LeO.bind ?_ (fun _ => ?_)
  ·
   intro y0 y1
   unfold spec_l4Key.l0
   repeat' first
   | (with_reducible exact ih0 _ _)
   | (with_reducible exact ih1 _ _)
   | (with_reducible exact LeO.refl _)
   | (with_reducible exact LeO.none _)
   | (with_reducible refine LeO.ite ?_ ?_)
   | (with_reducible refine LeO.bind ?_ (fun _ => ?_))
   | exact ih0 _ _
   | exact ih1 _ _
   | exact LeO.none _
   | refine LeO.ite ?_ ?_
   | refine LeO.bind ?_ (fun _ => ?_)
theorem spec_l4Key.mono : ∀ a0 k, LeO (spec_l4Key.f k a0) (spec_l4Key.f (k + 1) a0) := by
 intro a0 k
 obtain ⟨ih0, ih1⟩ := spec_l4Key.mono_l k
 unfold spec_l4Key.f
 repeat' first
   | (with_reducible exact ih0 _ _)
   | (with_reducible exact ih1 _ _)
   | (with_reducible exact LeO.refl _)
   | (with_reducible exact LeO.none _)
   | (with_reducible refine LeO.ite ?_ ?_)
   | (with_reducible refine LeO.bind ?_ (fun _ => ?_))
   | exact ih0 _ _
   | exact ih1 _ _
   | exact LeO.none _
   | refine LeO.ite ?_ ?_
   | refine LeO.bind ?_ (fun _ => ?_)
set_option maxRecDepth 100000 in
theorem spec_l4Key.L0 {P : Prop} (h : P := by
  go_wp2_with (first | ((with_reducible refine gate_callee (f := 43) rfl ?_); refine goesL_ (some 23) rfl rfl Tryd.func43 (by kernel_rfl) rfl #[.int .u8 (bt a0 x3_2)] rfl au35 ?_; (with_reducible refine (spec_l2Lower.calls (bt a0 x3_2) _ _ A12.out).mono ?_); rintro e w' ⟨rfl, ⟨nd, rfl⟩⟩; refine ⟨_, rfl, ?_⟩; have p14 : 0 ≤ (x3_2 : Int) := of_decide_eq_true au71; have q14 : x3_2 < (a0.size : Int) := of_decide_eq_true au71; have hx14 := bt_at a0 x3_2; replace p14 := eq_true p14; replace q14 := eq_true q14; have p16 : 0 ≤ (x3_2 : Int) := of_decide_eq_true au71; have q16 : x3_2 < (a0.size : Int) := of_decide_eq_true au71; have hx16 := bt_at a0 x3_2; replace p16 := eq_true p16; replace q16 := eq_true q16))
  go_ret
  exact ax0) : P := h
set_option maxHeartbeats 8000000 in
set_option maxRecDepth 100000 in
theorem spec_l4Key.calls (k : Nat) (a0 : ByteArray) (r : Bool) (w : World) (h : spec_l4Key.f k a0 = some r) :
  Calls Tryd.prog 30 #[.string a0] w fun e w' => e = .returned (.bool r) ∧ Drawn0 w w' := by
 have H : ((spec_l1In.f (a0.size : Int) 1 10).bind fun t113 => (if t113 = true then (if 0 < (a0.size : Int) then ((spec_l2Lower.f (bt a0 0)).bind fun t114 => (spec_l4Key.j0 k a0 (!t114))) else (none)) else (spec_l4Key.j0 k a0 true))) = some r := h
 clear h
 have HC2 := Aside0.mk H
 clear H
 go_enter Tryd.func30, Tryd.ntmps30
 go_upto_region 1 with (fail)
 go_cut [13] (fun v13 wc => ∃ (kq : Nat) (x13_1 : Bool), v13 = .bool x13_1 ∧ Aside0 (spec_l4Key.j0 kq a0 x13_1 = some r) ∧ Aside0 (kq ≤ k) ∧ Drawn0 w wc)
 case first =>
  have H := HC2.out
  clear HC2
  replace H := Option.bind_eq_some_iff.mp H
  obtain ⟨t113, A30, H⟩ := H
  try dsimp only at H
  have A3 := Aside0.mk A30
  clear A30
  by_cases c4 : t113 = true
  ·
   subst c4
   replace H := (if_pos rfl).symm.trans H
   by_cases c5 : 0 < (a0.size : Int)
   ·
    rw [if_pos c5] at H
    have c5b0 : decide (0 < (a0.size : Int)) = true := decide_eq_true c5
    have c5b1 : decide (0 < a0.size) = true := decide_eq_true (by omega)
    clear c5
    (first | rw [c5b0] | (simp only [i64_w, i32_w]; rw [c5b0]) | skip)
    replace H := Option.bind_eq_some_iff.mp H
    obtain ⟨t114, A70, H⟩ := H
    try dsimp only at H
    have A7 := Aside0.mk A70
    clear A70
    have H' := Aside0.mk H
    clear H
    go_wp2_with (first | ((with_reducible refine gate_callee (f := 15) rfl ?_); refine goesL_ (some 6) rfl rfl Tryd.func15 (by kernel_rfl) rfl #[.int .i64 (a0.size : Int), .int .i64 1, .int .i64 10] rfl au35 ?_; (with_reducible refine (spec_l1In.calls (a0.size : Int) 1 10 _ _ A3.out).mono ?_); rintro e w' ⟨rfl, ⟨nd, rfl⟩⟩; refine ⟨_, rfl, ?_⟩; have p6 : 0 ≤ (0 : Int) := (by omega); have q6 : 0 < a0.size := (by have : (0 : Int) < (a0.size : Int) := of_decide_eq_true au71; omega); have hx6 : ∀ h : 0 < a0.size, ((a0[0]'h).toNat : Int) = bt a0 0 := bt_at a0 0; clear p6; have qi6 : (0 < (a0.size : Int)) = True := eq_true (of_decide_eq_true au71); replace q6 := eq_true q6) | (go_at_call 43; (with_reducible refine (spec_l2Lower.calls (bt a0 0) t114 _ A7.out).mono ?_); rintro e w' ⟨rfl, ⟨nd, rfl⟩⟩))
    go_meet
    case rel => exact ⟨_, (!t114), au72, H', ⟨by first | omega | exact Nat.le_refl _⟩, by repeat (first | exact Drawn0.refl _ | apply Drawn0.step)⟩
   ·
    rw [if_neg c5] at H
    exact absurd H (by simp)
  ·
   replace c4 := Bool.eq_false_iff.mpr c4
   subst c4
   replace H := (if_neg (show ¬ (false = true) by decide)).symm.trans H
   have H' := Aside0.mk H
   clear H
   go_wp2_with (first | ((with_reducible refine gate_callee (f := 15) rfl ?_); refine goesL_ (some 6) rfl rfl Tryd.func15 (by kernel_rfl) rfl #[.int .i64 (a0.size : Int), .int .i64 1, .int .i64 10] rfl au35 ?_; (with_reducible refine (spec_l1In.calls (a0.size : Int) 1 10 _ _ A3.out).mono ?_); rintro e w' ⟨rfl, ⟨nd, rfl⟩⟩; refine ⟨_, rfl, ?_⟩))
   go_meet
   case rel => exact ⟨_, (true), au72, H', ⟨by first | omega | exact Nat.le_refl _⟩, by repeat (first | exact Drawn0.refl _ | apply Drawn0.step)⟩
 case rest =>
  clear HC2
  try clear c1
  try clear p2
  try clear c3
  try clear c4
  try clear c5
  try clear c5b0
  try clear c5b1
  try clear p6
  try clear q6
  try clear hx6
  try clear qi6
  try clear p6
  try clear q6
  obtain ⟨kq, x13_1, rfl, HA, HJ1, ⟨mc1, rfl⟩⟩ := hcut
  cases kq with
  | zero => exact absurd HA.out (by simp [spec_l4Key.j0])
  | succ kj1 =>
   have H := HA.out
   clear HA
   simp only [spec_l4Key.j0] at H
   by_cases c8 : x13_1 = true
   ·
    subst c8
    replace H := (if_pos rfl).symm.trans H
    obtain rfl := Option.some.inj H
    exact spec_l4Key.L0
   ·
    replace c8 := Bool.eq_false_iff.mpr c8
    subst c8
    replace H := (if_neg (show ¬ (false = true) by decide)).symm.trans H
    have H' := Aside0.mk H
    clear H
    go_wp2
    go_loopg [3] kj1 (fun kq v3 w' => ∃ (x3_2 : Int), v3 = .int .i64 x3_2 ∧ Aside0 (spec_l4Key.l0 kq a0 x3_2 = some r) ∧ Aside0 (kq ≤ kj1) ∧ Drawn0 w w')
    case atStart => exact ⟨(0), au72, H', ⟨Nat.le_refl _⟩, by repeat (first | exact Drawn0.refl _ | apply Drawn0.step)⟩
    case round =>
     clear H'
     try clear c1
     try clear p2
     try clear c3
     try clear c4
     try clear c5
     try clear c5b0
     try clear c5b1
     try clear p6
     try clear q6
     try clear hx6
     try clear qi6
     try clear c8
     try clear p2
     try clear p6
     try clear q6
     obtain ⟨x3_2, rfl, HA, HK2, ⟨m2, rfl⟩⟩ := hrel
     cases gk with
     | zero => exact absurd HA.out (by simp [spec_l4Key.l0])
     | succ k2 =>
      have H := HA.out
      clear HA
      simp only [spec_l4Key.l0] at H
      by_cases c9 : x3_2 < (a0.size : Int)
      ·
       rw [if_pos c9] at H
       have c9b0 : decide (x3_2 < (a0.size : Int)) = true := decide_eq_true c9
       clear c9
       by_cases c10 : 0 ≤ x3_2
       ·
        rw [if_pos c10] at H
        have c10b0 : decide (0 ≤ x3_2) = true := decide_eq_true c10
        clear c10
        replace H := Option.bind_eq_some_iff.mp H
        obtain ⟨t115, A120, H⟩ := H
        try dsimp only at H
        have A12 := Aside0.mk A120
        clear A120
        by_cases c13 : t115 = true
        ·
         subst c13
         replace H := (if_pos rfl).symm.trans H
         have H' := Aside0.mk H
         clear H
         have p11 : 0 ≤ (x3_2 : Int) := of_decide_eq_true au71
         have q11 : x3_2 < (a0.size : Int) := of_decide_eq_true au71
         have hx11 := bt_at a0 x3_2
         replace p11 := eq_true p11
         replace q11 := eq_true q11
         go_wp2_with (first | ((with_reducible refine gate_callee (f := 43) rfl ?_); refine goesL_ (some 23) rfl rfl Tryd.func43 (by kernel_rfl) rfl #[.int .u8 (bt a0 x3_2)] rfl au35 ?_; (with_reducible refine (spec_l2Lower.calls (bt a0 x3_2) _ _ A12.out).mono ?_); rintro e w' ⟨rfl, ⟨nd, rfl⟩⟩; refine ⟨_, rfl, ?_⟩))
         go_roundg k2
         case measure => have := HJ1.out; have := HK2.out; omega
         case rel => exact ⟨(wrap64 (x3_2 + 1)), au72, H', ⟨by have := HJ1.out; have := HK2.out; omega⟩, by repeat (first | exact Drawn0.refl _ | apply Drawn0.step)⟩
        ·
         replace c13 := Bool.eq_false_iff.mpr c13
         subst c13
         replace H := (if_neg (show ¬ (false = true) by decide)).symm.trans H
         by_cases c15 : (bt a0 x3_2) < 48
         ·
          rw [if_pos c15] at H
          have c15b0 : decide ((bt a0 x3_2) < 48) = true := decide_eq_true c15
          clear c15
          obtain rfl := Option.some.inj H
          have p11 : 0 ≤ (x3_2 : Int) := of_decide_eq_true au71
          have q11 : x3_2 < (a0.size : Int) := of_decide_eq_true au71
          have hx11 := bt_at a0 x3_2
          replace p11 := eq_true p11
          replace q11 := eq_true q11
          go_wp2_with (first | ((with_reducible refine gate_callee (f := 43) rfl ?_); refine goesL_ (some 23) rfl rfl Tryd.func43 (by kernel_rfl) rfl #[.int .u8 (bt a0 x3_2)] rfl au35 ?_; (with_reducible refine (spec_l2Lower.calls (bt a0 x3_2) _ _ A12.out).mono ?_); rintro e w' ⟨rfl, ⟨nd, rfl⟩⟩; refine ⟨_, rfl, ?_⟩; have p14 : 0 ≤ (x3_2 : Int) := of_decide_eq_true au71; have q14 : x3_2 < (a0.size : Int) := of_decide_eq_true au71; have hx14 := bt_at a0 x3_2; replace p14 := eq_true p14; replace q14 := eq_true q14))
          go_ret
          exact ax0
         ·
          rw [if_neg c15] at H
          have c15b0 : decide ((bt a0 x3_2) < 48) = false := decide_eq_false c15
          clear c15
          by_cases c17 : (bt a0 x3_2) > 57
          ·
           rw [if_pos c17] at H
           have c17b0 : decide (57 < (bt a0 x3_2)) = true := decide_eq_true c17
           clear c17
           obtain rfl := Option.some.inj H
           have p11 : 0 ≤ (x3_2 : Int) := of_decide_eq_true au71
           have q11 : x3_2 < (a0.size : Int) := of_decide_eq_true au71
           have hx11 := bt_at a0 x3_2
           replace p11 := eq_true p11
           replace q11 := eq_true q11
           exact spec_l4Key.L0
          ·
           rw [if_neg c17] at H
           have c17b0 : decide (57 < (bt a0 x3_2)) = false := decide_eq_false c17
           clear c17
           have H' := Aside0.mk H
           clear H
           have p11 : 0 ≤ (x3_2 : Int) := of_decide_eq_true au71
           have q11 : x3_2 < (a0.size : Int) := of_decide_eq_true au71
           have hx11 := bt_at a0 x3_2
           replace p11 := eq_true p11
           replace q11 := eq_true q11
           go_wp2_with (first | ((with_reducible refine gate_callee (f := 43) rfl ?_); refine goesL_ (some 23) rfl rfl Tryd.func43 (by kernel_rfl) rfl #[.int .u8 (bt a0 x3_2)] rfl au35 ?_; (with_reducible refine (spec_l2Lower.calls (bt a0 x3_2) _ _ A12.out).mono ?_); rintro e w' ⟨rfl, ⟨nd, rfl⟩⟩; refine ⟨_, rfl, ?_⟩; have p14 : 0 ≤ (x3_2 : Int) := of_decide_eq_true au71; have q14 : x3_2 < (a0.size : Int) := of_decide_eq_true au71; have hx14 := bt_at a0 x3_2; replace p14 := eq_true p14; replace q14 := eq_true q14; have p16 : 0 ≤ (x3_2 : Int) := of_decide_eq_true au71; have q16 : x3_2 < (a0.size : Int) := of_decide_eq_true au71; have hx16 := bt_at a0 x3_2; replace p16 := eq_true p16; replace q16 := eq_true q16))
           go_roundg k2
           case measure => have := HJ1.out; have := HK2.out; omega
           case rel => exact ⟨(wrap64 (x3_2 + 1)), au72, H', ⟨by have := HJ1.out; have := HK2.out; omega⟩, by repeat (first | exact Drawn0.refl _ | apply Drawn0.step)⟩
       ·
        rw [if_neg c10] at H
        exact absurd H (by simp)
      ·
       rw [if_neg c9] at H
       have c9b0 : decide (x3_2 < (a0.size : Int)) = false := decide_eq_false c9
       clear c9
       obtain rfl := Option.some.inj H
       exact spec_l4Key.L0


/-! ### spec_l2Upper: function 57 -/
def spec_l2Upper.f (a0 : Int) : Option (Bool) := if a0 ≥ 65 then (some (decide (a0 ≤ 90))) else (some false)
set_option maxHeartbeats 8000000 in
set_option maxRecDepth 100000 in
theorem spec_l2Upper.calls (a0 : Int) (r : Bool) (w : World) (h : spec_l2Upper.f a0 = some r) :
  Calls Tryd.prog 57 #[.int .u8 a0] w fun e w' => e = .returned (.bool r) ∧ Drawn0 w w' := by
 have H : (if a0 ≥ 65 then (some (decide (a0 ≤ 90))) else (some false)) = some r := h
 clear h
 by_cases c2 : a0 ≥ 65
 ·
  rw [if_pos c2] at H
  have c2b0 : decide (65 ≤ a0) = true := decide_eq_true c2
  clear c2
  obtain rfl := Option.some.inj H
  go_enter Tryd.func57, Tryd.ntmps57
  go_wp2
  go_ret
  exact ax0
 ·
  rw [if_neg c2] at H
  have c2b0 : decide (65 ≤ a0) = false := decide_eq_false c2
  clear c2
  obtain rfl := Option.some.inj H
  go_enter Tryd.func57, Tryd.ntmps57
  go_wp2
  go_ret
  exact ax0


/-! ### spec_l2Letter: function 67 -/
def spec_l2Letter.f (a0 : Int) : Option (Bool) := (spec_l2Upper.f a0).bind fun t116 => (if t116 = true then (some true) else ((spec_l2Lower.f a0).bind fun t117 => (some t117)))
set_option maxHeartbeats 8000000 in
set_option maxRecDepth 100000 in
theorem spec_l2Letter.calls (a0 : Int) (r : Bool) (w : World) (h : spec_l2Letter.f a0 = some r) :
  Calls Tryd.prog 67 #[.int .u8 a0] w fun e w' => e = .returned (.bool r) ∧ Drawn0 w w' := by
 have H : ((spec_l2Upper.f a0).bind fun t116 => (if t116 = true then (some true) else ((spec_l2Lower.f a0).bind fun t117 => (some t117)))) = some r := h
 clear h
 replace H := Option.bind_eq_some_iff.mp H
 obtain ⟨t116, A20, H⟩ := H
 try dsimp only at H
 have A2 := Aside0.mk A20
 clear A20
 by_cases c3 : t116 = true
 ·
  subst c3
  replace H := (if_pos rfl).symm.trans H
  obtain rfl := Option.some.inj H
  go_enter Tryd.func67, Tryd.ntmps67
  go_wp2_with (first | ((with_reducible refine gate_callee (f := 57) rfl ?_); refine goesL_ (some 4) rfl rfl Tryd.func57 (by kernel_rfl) rfl #[.int .u8 a0] rfl au35 ?_; (with_reducible refine (spec_l2Upper.calls a0 true _ A2.out).mono ?_); rintro e w' ⟨rfl, ⟨nd, rfl⟩⟩; refine ⟨_, rfl, ?_⟩))
  go_ret
  exact ax0
 ·
  replace c3 := Bool.eq_false_iff.mpr c3
  subst c3
  replace H := (if_neg (show ¬ (false = true) by decide)).symm.trans H
  replace H := Option.bind_eq_some_iff.mp H
  obtain ⟨t117, A40, H⟩ := H
  try dsimp only at H
  have A4 := Aside0.mk A40
  clear A40
  obtain rfl := Option.some.inj H
  go_enter Tryd.func67, Tryd.ntmps67
  go_wp2_with (first | ((with_reducible refine gate_callee (f := 57) rfl ?_); refine goesL_ (some 4) rfl rfl Tryd.func57 (by kernel_rfl) rfl #[.int .u8 a0] rfl au35 ?_; (with_reducible refine (spec_l2Upper.calls a0 false _ A2.out).mono ?_); rintro e w' ⟨rfl, ⟨nd, rfl⟩⟩; refine ⟨_, rfl, ?_⟩) | (go_at_call 43; (with_reducible refine (spec_l2Lower.calls a0 t117 _ A4.out).mono ?_); rintro e w' ⟨rfl, ⟨nd, rfl⟩⟩))
  go_ret
  exact ax0

end Go.Proofs.YthhdodlpbpagfaaDoor.G
