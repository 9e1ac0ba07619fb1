/- Texts of this session for the law FnSplitJoin, put together by a program (merge.py): each ends with its namespace; conditions stand with each theorem. -/
import Derived.Test.YtbjlofabbikanaaKFnSplitJoin1
import Derived.Test.YtbjlofabbikanaaProg
import Derived.Lib.LaidTab
import Derived.Below
import Derived.Deep.Draws
import Derived.Deep.AppendLies
import Derived.Maps.AppendAt
import Derived.OwnWalk
import Derived.Laws.BytesArg
import Derived.Laws.MakeOwn
import Derived.Laws.OwnMore
import Derived.Deep.OwnRows
import Derived.Tactics
import Derived.Lib.ConvBytes
import Derived.Laws.Slices
import Derived.WalkKit
import Derived.KernelRfl
import Derived.RowKit3
import Derived.Deep.LoopGhost
import Derived.Deep.QuietTactic
import Derived.BigQuiet
import Derived.WideLaws
import Derived.Deep.DeepCutAuto
import Derived.Deep.CutBlock
import Derived.Deep.RegionHeld3
import Derived.Laws.Rows
import Derived.Lib.AppendStr
import Derived.ArgAppend
import Derived.Laws.IdiomCopy
import Derived.OrdersHeld
import Derived.Laws.BitsLemmas
import Derived.RowKit
import Derived.Shelf.Strings.Builder1
import Derived.Shelf.Strings.Builder2
import Derived.Shelf.Strings.OnBuilder
import Derived.Shelf.Small.Strs
import Derived.Shelf.Strings.Builder2Cap
import Derived.Shelf.Strings.Search1
import Derived.Deep.Slices
import Derived.Lib.Strings
import Derived.Laws.Bits64b
import Derived.Lib.Bytealg
import Derived.Lib.Join
namespace Go.Proofs.Ytbjlofabbikanaa.Ext
open Go.RowKit Go.Proofs.YtbjlofabbikanaaW.PrintWords Go.Proofs.YtbjlofabbikanaaW.PrintLast
set_option linter.unusedVariables false
set_option linter.unusedSimpArgs false
theorem cell_lt {w : World} {a : Addr} {v : Value} (h : w.cell? a = some v) : a.block < w.heap.size := by
  unfold World.cell? at h
  by_cases hb : a.block < w.heap.size
  · exact hb
  · rw [Array.getElem?_eq_none (by omega)] at h; cases h
theorem cell_spot {w : World} {a : Addr} {v : Value} (h : w.cell? a = some v) : a.spot = none := by
  unfold World.cell? at h
  split at h
  · by_cases hs : a.spot.isSome = true
    · rw [if_pos hs] at h; cases h
    · simpa using hs
  · cases h
theorem add_zero (a : Addr) : a.add 0 = a := rfl
theorem plain_add (b o j : Nat) : (⟨b, o, none⟩ : Addr).add j = ⟨b, o + j, none⟩ := by
  unfold Addr.add
  by_cases h : j = 0 <;> simp [h]
theorem strs_read {w : World} {A : Option Addr} {xs : List ByteArray} (h : Kd.C Kd.string w A xs.length xs) (hn : 0 < xs.length) :
    ∃ b o, A = some ⟨b, o, none⟩ ∧ b < w.heap.size ∧ ∀ (j : Nat) y, xs[j]? = some y → w.cell? ⟨b, o + j, none⟩ = some (.string y) := by
  obtain ⟨ad, rfl, hc⟩ := h.2.2 hn
  have hcell : ∀ (j : Nat) y, xs[j]? = some y → w.cell? (ad.add j) = some (.string y) := by
    intro j y hj
    obtain ⟨c, _, hk, hcc⟩ := hc j y hj
    have := hcc 0 (.string y) (by rw [hk]; rfl)
    simpa [Kd.string, Kd.scalar] using this
  have h0 := hcell 0 xs[0] (List.getElem?_eq_getElem hn)
  rw [add_zero] at h0
  obtain ⟨b, o, s⟩ := ad
  have hs : s = none := cell_spot h0
  subst hs
  exact ⟨b, o, rfl, cell_lt h0, fun j y hj => by have := hcell j y hj; rwa [plain_add] at this⟩
theorem cell_below {w w' : World} {a : Addr} {v : Value} (hb : Below w.heap.size w w') (h : w.cell? a = some v) : w'.cell? a = some v := (hb.cell (cell_lt h)).trans h
end Go.Proofs.Ytbjlofabbikanaa.Ext

namespace Go.Proofs.Ytbjlofabbikanaa.Gl
open Go.RowKit Go.Proofs.YtbjlofabbikanaaW.PrintWords Go.Proofs.Ytbjlofabbikanaa.Ext
structure GL (gF1 gF2 gF3 : Bool) (w : World) : Prop where
  mx : ∃ m, w.cell? ⟨0, 0, none⟩ = some (.int .i64 m)
theorem GL.below {gF1 gF2 gF3 : Bool} {w w' : World} (h : GL gF1 gF2 gF3 w) (hb : Below w.heap.size w w') : GL gF1 gF2 gF3 w' where
  mx := by obtain ⟨m, hm⟩ := h.mx; exact ⟨m, cell_below hb hm⟩
theorem GL.drawn {gF1 gF2 gF3 : Bool} {w w' : World} (h : GL gF1 gF2 gF3 w) (hd : Drawn0 w w') : GL gF1 gF2 gF3 w' := h.below hd.below
end Go.Proofs.Ytbjlofabbikanaa.Gl

namespace Go.Proofs.Ytbjlofabbikanaa.G
open Go.RowKit Go.Proofs.YtbjlofabbikanaaW.PrintWords Go.Proofs.YtbjlofabbikanaaW.PrintLast Go.Proofs.YtbjlofabbikanaaW.PrintMore
open Go.Proofs.Ytbjlofabbikanaa.Gl Go.Proofs.Ytbjlofabbikanaa.Ext
attribute [local go_sem] max2_int min2_int max_two min_two max_three min_three max_four min_four   -- for this text's walks alone
set_option linter.unusedVariables false
set_option linter.unusedSimpArgs false

def errW : Option Int → Value
  | none => .nilIface
  | some c => .iface 0 (.int .i64 c)
theorem errW_none : errW none = .nilIface := rfl
theorem errW_some (c : Int) : errW (some c) = .iface 0 (.int .i64 c) := rfl

theorem info5 : (Try.prog.info? 5).map (fun i => (i.zero, i.size, i.bytes)) = some (some (.int .u8 0), 1, 1) := by kernel_rfl
theorem info9 : (Try.prog.info? 9).map (fun i => (i.zero, i.size, i.bytes)) = some (some (.string ⟨#[]⟩), 1, 16) := by kernel_rfl
-- the values' own types
theorem au0 {P : Prop} (h : P := by repeat (first | (with_reducible first | exact HB.out | apply below_alloc | apply pw_below_drewN | apply below_drew1 | refine below_set ?_ (IsS47.ge HI296.out)) | exact HB.out)) : P := h
theorem au1 {P : Prop} (h : P := by repeat (first | (with_reducible first | exact HB.out | apply below_alloc | apply pw_below_drewN | apply below_drew1 | refine below_set ?_ (IsS47.ge HI315.out)) | exact HB.out)) : P := h
theorem au2 {P : Prop} (h : P := by repeat (first | (with_reducible first | exact HI315.out | apply IsS47.alloc | apply IsS47.drewN | apply IsS47.drew | apply IsS47.set_1 | apply IsS47.set_2) | exact HI315.out)) : P := h
theorem au3 {P : Prop} (h : P := by repeat (first | (with_reducible first | exact HK.out | apply KeepBut.set_ | apply keep_drewN | apply keep_drew | apply keep_alloc) | exact HK.out)) : P := h
theorem au4 {P : Prop} (h : P := by (try simp only [List.map_toArray, List.map_cons, List.map_nil]); first | done | rfl | (simp only [List.length_drop, List.length_take]; rfl)) : P := h
theorem au5 {P : Prop} (h : P := by repeat (first | (with_reducible first | exact HB.out | apply below_alloc | apply pw_below_drewN | apply below_drew1) | exact HB.out)) : P := h
theorem au6 {P : Prop} (h : P := by (with_reducible repeat (first | apply Kd.R_alloc | apply Kd.R_drewN | apply Kd.R_drew)); exact HO336.out) : P := h
theorem au7 {P : Prop} (h : P := by (with_reducible repeat (first | apply Kd.R_alloc | apply Kd.R_drewN | apply Kd.R_drew)); exact HO339.out) : P := h
theorem au8 {P : Prop} (h : P := by (with_reducible repeat (first | apply Kd.R_alloc | apply Kd.R_drewN | apply Kd.R_drew)); exact HO372.out) : P := h
theorem au9 {P : Prop} (h : P := by (with_reducible repeat (first | apply Kd.R_alloc | apply Kd.R_drewN | apply Kd.R_drew)); exact HO376.out) : P := h
theorem au10 {P : Prop} (h : P := by (with_reducible repeat (first | apply Kd.R_alloc | apply Kd.R_drewN | apply Kd.R_drew)); exact HO_6.out) : P := h
theorem au11 {P : Prop} (h : P := by (with_reducible repeat (first | apply Kd.R_alloc | apply Kd.R_drewN | apply Kd.R_drew)); exact HO_5.out) : P := h
theorem au12 {P : Prop} (h : P := by first | (with_reducible assumption) | assumption) : P := h
theorem au13 {P : Prop} (h : P := by first | rfl | (simp; done) | (simp [*]; done)) : P := h
theorem ax0 {P : Prop} (h : P := by exact ⟨by first | rfl | (simp [errW_none, errW_some] <;> rfl) | (simp [*, errW_none, errW_some] <;> rfl), by repeat (first | (with_reducible first | exact HI0.out | apply IsS47.alloc | apply IsS47.drewN | apply IsS47.drew | apply IsS47.set_1 | apply IsS47.set_2) | exact HI0.out), by repeat (first | (with_reducible first | exact HB.out | apply below_alloc | apply pw_below_drewN | apply below_drew1 | refine below_set ?_ (IsS47.ge HI0.out)) | exact HB.out), by repeat (first | (with_reducible first | exact HK.out | apply KeepBut.set_ | apply keep_drewN | apply keep_drew | apply keep_alloc) | exact HK.out)⟩) : P := h
theorem ax1 {P : Prop} (h : P := by exact ⟨by first | rfl | (simp [errW_none, errW_some] <;> rfl) | (simp [*, errW_none, errW_some] <;> rfl), by repeat (first | (with_reducible first | exact HB.out | apply below_alloc | apply pw_below_drewN | apply below_drew1) | exact HB.out)⟩) : P := h
theorem ax2 {P : Prop} (h : P := by exact ⟨by first | rfl | (simp; done) | (simp [*]; done), by repeat (first | exact Drawn0.refl _ | apply Drawn0.step)⟩) : P := h

def IsS47 (w0 W : World) (g : Nat) (f0 : List Int) (f1 : Int) (f2 : Int) : Prop := ∃ A0 c0, W.heap[g]? = some (.cells #[.slice A0 f0.length c0, .int .i64 f1, .int .u64 f2] 47 (0, 0)) ∧ w0.heap.size ≤ g ∧ Kd.C (Kd.int .u8) w0 A0 f0.length f0
theorem IsS47.grown {w0 W : World} {g : Nat} {f0 : List Int} {f1 : Int} {f2 : Int} {W1 : World} {row : Option Nat} (h : IsS47 w0 W g f0 f1 f2) (hw : W.grownBy W1 row) (hne : some g ≠ row) : IsS47 w0 W1 g f0 f1 f2 := by
 obtain ⟨A0, c0, hb, hg, hr0⟩ := h
 exact ⟨A0, c0, blk_grown hb hw hne, hg, hr0⟩
theorem IsS47.kept {w0 W : World} {g : Nat} {f0 : List Int} {f1 : Int} {f2 : Int} {W1 : World} {S : Nat → Prop} (h : IsS47 w0 W g f0 f1 f2) (hk : Kept W W1 S) (hne : ¬ S g) : IsS47 w0 W1 g f0 f1 f2 := by
 obtain ⟨A0, c0, hb, hg, hr0⟩ := h
 exact ⟨A0, c0, blk_kept hb hk hne, hg, hr0⟩
theorem IsS47.below {w0 W : World} {g : Nat} {f0 : List Int} {f1 : Int} {f2 : Int} {W1 : World} (h : IsS47 w0 W g f0 f1 f2) (hw : Below W.heap.size W W1) : IsS47 w0 W1 g f0 f1 f2 := h.grown (grown_of_below hw none) (by simp)
theorem IsS47.alloc {w0 W : World} {g : Nat} {f0 : List Int} {f1 : Int} {f2 : Int} (h : IsS47 w0 W g f0 f1 f2) (o : Obj) : IsS47 w0 (W.alloc o) g f0 f1 f2 := h.below (below_alloc (Below.refl _ _) o)
theorem IsS47.drewN {w0 W : World} {g : Nat} {f0 : List Int} {f1 : Int} {f2 : Int} (h : IsS47 w0 W g f0 f1 f2) (m : Nat) : IsS47 w0 (W.drewN m) g f0 f1 f2 := h
theorem IsS47.drew {w0 W : World} {g : Nat} {f0 : List Int} {f1 : Int} {f2 : Int} (h : IsS47 w0 W g f0 f1 f2) : IsS47 w0 W.drew g f0 f1 f2 := h
theorem IsS47.at_ {w0 W : World} {g : Nat} {f0 : List Int} {f1 : Int} {f2 : Int} {w' : World} {m : Nat} (hq : W.drewN m = w') (h : IsS47 w0 W g f0 f1 f2) : IsS47 w0 w' g f0 f1 f2 := by subst hq; exact IsS47.drewN h m
theorem IsS47.apart {w0 W : World} {g : Nat} {f0 : List Int} {f1 : Int} {f2 : Int} {α : Type} {d : Kd α} {e : Nat} {base : Nat} {ok : Nat → Prop} {v : Value} {xs : List α} (h : IsS47 w0 W g f0 f1 f2) (ho : d.R e W base ok v xs) (ht : ∀ q, q ∈ e :: d.E → q ≠ 47) : d.R e W base (fun k => ok k ∧ k ≠ g) v xs := by
 obtain ⟨A0, c0, hb, hg, hr0⟩ := h
 exact Kd.R_types ho hb ht
theorem IsS47.own_ne {w0 W : World} {g : Nat} {f0 : List Int} {f1 : Int} {f2 : Int} {α : Type} {d : Kd α} {e : Nat} {base : Nat} {ok : Nat → Prop} {v : Value} {xs : List α} (h : IsS47 w0 W g f0 f1 f2) (ho : d.R e W base ok v xs) (ht : e ≠ 47) : some g ≠ v.ownBlock := by
 obtain ⟨A0, c0, hb, hg, hr0⟩ := h
 exact Kd.R_ne ho hb ht
theorem IsS47.ge {w0 W : World} {g : Nat} {f0 : List Int} {f1 : Int} {f2 : Int} (h : IsS47 w0 W g f0 f1 f2) : w0.heap.size ≤ g := by
 obtain ⟨A0, c0, hb, hg, hr0⟩ := h
 exact hg
theorem IsS47.far {w0 W : World} {g : Nat} {f0 : List Int} {f1 : Int} {f2 : Int} {p : Addr} (h : IsS47 w0 W g f0 f1 f2) (hne : g ≠ p.block) (u : Value) : IsS47 w0 (W.setCell p u) g f0 f1 f2 := by
 obtain ⟨A0, c0, hb, hg, hr0⟩ := h
 exact ⟨A0, c0, blk_far hb hne u, hg, hr0⟩
theorem cellS47_0 {W : World} {g : Nat} {A0 : Option Addr} {c0 : Nat} {f0 : List Int} {f1 : Int} {f2 : Int} (h : W.heap[g]? = some (.cells #[.slice A0 f0.length c0, .int .i64 f1, .int .u64 f2] 47 (0, 0))) : W.cell? ⟨g, 0, none⟩ = some (.slice A0 f0.length c0) := (blk_cell h 0).trans rfl
theorem cellS47_1 {W : World} {g : Nat} {A0 : Option Addr} {c0 : Nat} {f0 : List Int} {f1 : Int} {f2 : Int} (h : W.heap[g]? = some (.cells #[.slice A0 f0.length c0, .int .i64 f1, .int .u64 f2] 47 (0, 0))) : W.cell? ⟨g, 1, none⟩ = some (.int .i64 f1) := (blk_cell h 1).trans rfl
theorem IsS47.set_1 {w0 W : World} {g : Nat} {f0 : List Int} {f1 : Int} {f2 : Int} (h : IsS47 w0 W g f0 f1 f2) (x : Int) : IsS47 w0 (W.setCell ⟨g, 1, none⟩ (.int .i64 x)) g f0 x f2 := by
 obtain ⟨A0, c0, hb, hg, hr0⟩ := h
 exact ⟨A0, c0, by simpa using blk_set hb 1 (.int .i64 x), hg, hr0⟩
theorem cellS47_2 {W : World} {g : Nat} {A0 : Option Addr} {c0 : Nat} {f0 : List Int} {f1 : Int} {f2 : Int} (h : W.heap[g]? = some (.cells #[.slice A0 f0.length c0, .int .i64 f1, .int .u64 f2] 47 (0, 0))) : W.cell? ⟨g, 2, none⟩ = some (.int .u64 f2) := (blk_cell h 2).trans rfl
theorem IsS47.set_2 {w0 W : World} {g : Nat} {f0 : List Int} {f1 : Int} {f2 : Int} (h : IsS47 w0 W g f0 f1 f2) (x : Int) : IsS47 w0 (W.setCell ⟨g, 2, none⟩ (.int .u64 x)) g f0 f1 x := by
 obtain ⟨A0, c0, hb, hg, hr0⟩ := h
 exact ⟨A0, c0, by simpa using blk_set hb 2 (.int .u64 x), hg, hr0⟩
theorem IsS47.new (w0 W : World) (A0 : Option Addr) (c0 : Nat) (f0 : List Int) (f1 : Int) (f2 : Int) (hB : Below w0.heap.size w0 W) (hr0 : Kd.C (Kd.int .u8) w0 A0 f0.length f0) : IsS47 w0 (W.alloc (.cells #[.slice A0 f0.length c0, .int .i64 f1, .int .u64 f2] 47)) W.heap.size f0 f1 f2 := ⟨A0, c0, by simpa using heap_alloc_new W _, hB.size, hr0⟩

/-! ### spec_l1Cur_next: function 36 -/
def spec_l1Cur_next.f (s0_0 : List Int) (s0_1 : Int) (s0_2 : Int) : Option (Int × Int × Int) := if s0_1 < (s0_0.length : Int) then (if 0 ≤ s0_1 then (if (wrap64 (s0_1 + 1)) ≤ (s0_0.length : Int) then (some (wrap64 (rd s0_0 s0_1), wrap64 (s0_1 + 1), IntKind.u64.wrap ((IntKind.u64.wrap ((IntKind.u64.wrap (s0_2 * 6364136223846793005)) + (IntKind.u64.wrap (wrap64 (rd s0_0 s0_1))))) + 896896))) else (some (wrap64 (Go.bits .and .u64 ((IntKind.u64.wrap ((IntKind.u64.wrap ((IntKind.u64.wrap (s0_2 * 6364136223846793005)) + (IntKind.u64.wrap (wrap64 (rd s0_0 s0_1))))) + 896896)) / 1099511627776) 255), wrap64 (s0_1 + 1), IntKind.u64.wrap ((IntKind.u64.wrap ((IntKind.u64.wrap (s0_2 * 6364136223846793005)) + (IntKind.u64.wrap (wrap64 (rd s0_0 s0_1))))) + 896896)))) else (none)) else (if (wrap64 (s0_1 + 1)) ≤ (s0_0.length : Int) then (some (0, wrap64 (s0_1 + 1), IntKind.u64.wrap ((IntKind.u64.wrap ((IntKind.u64.wrap (s0_2 * 6364136223846793005)) + 0)) + 896896))) else (some (wrap64 (Go.bits .and .u64 ((IntKind.u64.wrap ((IntKind.u64.wrap ((IntKind.u64.wrap (s0_2 * 6364136223846793005)) + 0)) + 896896)) / 1099511627776) 255), wrap64 (s0_1 + 1), IntKind.u64.wrap ((IntKind.u64.wrap ((IntKind.u64.wrap (s0_2 * 6364136223846793005)) + 0)) + 896896))))
set_option maxRecDepth 100000 in
theorem spec_l1Cur_next.L0 {P : Prop} (h : P := by
  go_enter Try.func36, Try.ntmps36
  go_wp2
  repeat (go_quiet (fail); try go_wp2)
  go_ret
  exact ⟨by first | rfl | (simp [errW_none, errW_some] <;> rfl) | (simp [*, errW_none, errW_some] <;> rfl), by (try simp only [Int.add_zero]); repeat (first | (with_reducible first | exact HI0.out | apply IsS47.alloc | apply IsS47.drewN | apply IsS47.drew | apply IsS47.set_1 | apply IsS47.set_2) | exact HI0.out), by repeat (first | (with_reducible first | exact HB.out | apply below_alloc | apply pw_below_drewN | apply below_drew1 | refine below_set ?_ (IsS47.ge HI0.out)) | exact HB.out), by repeat (first | (with_reducible first | exact HK.out | apply KeepBut.set_ | apply keep_drewN | apply keep_drew | apply keep_alloc) | exact HK.out)⟩) : P := h
set_option maxHeartbeats 8000000 in
set_option maxRecDepth 100000 in
theorem spec_l1Cur_next.calls (g : Nat) (s0_0 : List Int) (s0_1 : Int) (s0_2 : Int) (r1 : Int) (r2 : Int) (r3 : Int) (w0 w : World) (hI : IsS47 w0 w g s0_0 s0_1 s0_2) (hB : Below w0.heap.size w0 w) (h : spec_l1Cur_next.f s0_0 s0_1 s0_2 = some (r1, r2, r3)) :
  Calls Try.prog 36 #[.pointer (some ⟨g, 0, none⟩)] w fun e w' => e = .returned (.int .i64 r1) ∧ IsS47 w0 w' g s0_0 r2 r3 ∧ Below w0.heap.size w0 w' ∧ KeepBut w w' g none := by
 have HI0 := Aside0.mk hI
 have HK := Aside0.mk (KeepBut.refl w g none)
 have HL := Aside0.mk hB.size
 clear hI
 have HW0 := Aside0.mk hB.size
 have HB := Aside0.mk hB
 clear hB
 have H : (if s0_1 < (s0_0.length : Int) then (if 0 ≤ s0_1 then (if (wrap64 (s0_1 + 1)) ≤ (s0_0.length : Int) then (some (wrap64 (rd s0_0 s0_1), wrap64 (s0_1 + 1), IntKind.u64.wrap ((IntKind.u64.wrap ((IntKind.u64.wrap (s0_2 * 6364136223846793005)) + (IntKind.u64.wrap (wrap64 (rd s0_0 s0_1))))) + 896896))) else (some (wrap64 (Go.bits .and .u64 ((IntKind.u64.wrap ((IntKind.u64.wrap ((IntKind.u64.wrap (s0_2 * 6364136223846793005)) + (IntKind.u64.wrap (wrap64 (rd s0_0 s0_1))))) + 896896)) / 1099511627776) 255), wrap64 (s0_1 + 1), IntKind.u64.wrap ((IntKind.u64.wrap ((IntKind.u64.wrap (s0_2 * 6364136223846793005)) + (IntKind.u64.wrap (wrap64 (rd s0_0 s0_1))))) + 896896)))) else (none)) else (if (wrap64 (s0_1 + 1)) ≤ (s0_0.length : Int) then (some (0, wrap64 (s0_1 + 1), IntKind.u64.wrap ((IntKind.u64.wrap ((IntKind.u64.wrap (s0_2 * 6364136223846793005)) + 0)) + 896896))) else (some (wrap64 (Go.bits .and .u64 ((IntKind.u64.wrap ((IntKind.u64.wrap ((IntKind.u64.wrap (s0_2 * 6364136223846793005)) + 0)) + 896896)) / 1099511627776) 255), wrap64 (s0_1 + 1), IntKind.u64.wrap ((IntKind.u64.wrap ((IntKind.u64.wrap (s0_2 * 6364136223846793005)) + 0)) + 896896))))) = some (r1, r2, r3) := h
 clear h
 by_cases c2 : s0_1 < (s0_0.length : Int)
 ·
  rw [if_pos c2] at H
  have c2b0 : decide (s0_1 < (s0_0.length : Int)) = true := decide_eq_true c2
  clear c2
  by_cases c3 : 0 ≤ s0_1
  ·
   rw [if_pos c3] at H
   have c3b0 : decide (0 ≤ s0_1) = true := decide_eq_true c3
   clear c3
   by_cases c4 : (wrap64 (s0_1 + 1)) ≤ (s0_0.length : Int)
   ·
    rw [if_pos c4] at H
    have c4b0 : decide ((wrap64 (s0_1 + 1)) ≤ (s0_0.length : Int)) = true := decide_eq_true c4
    clear c4
    simp only [Option.some.injEq, Prod.mk.injEq] at H
    obtain ⟨rfl, rfl, rfl⟩ := H
    obtain ⟨ASz5_0, cSz5_0, HGz5, hgz5, HSz5_0⟩ := HI0.out
    have hcz5_0 := cellS47_0 HGz5
    have hcz5_1 := cellS47_1 HGz5
    have hcz5_2 := cellS47_2 HGz5
    have hfz5_1 := blk_frozen HGz5 1
    have hfz5_2 := blk_frozen HGz5 2
    clear HGz5 hgz5
    have p101 : 0 ≤ (s0_1 : Int) := of_decide_eq_true au12
    have q101 : s0_1 < (s0_0.length : Int) := of_decide_eq_true au12
    obtain ⟨ad101, e101, hx101_0⟩ := Kd.at_int HSz5_0 s0_1 p101 q101
    cases e101
    replace hx101_0 := pw_cell_below HB.out hx101_0
    replace p101 := eq_true p101
    replace q101 := eq_true q101
    exact spec_l1Cur_next.L0
   ·
    rw [if_neg c4] at H
    have c4b0 : decide ((wrap64 (s0_1 + 1)) ≤ (s0_0.length : Int)) = false := decide_eq_false c4
    clear c4
    simp only [Option.some.injEq, Prod.mk.injEq] at H
    obtain ⟨rfl, rfl, rfl⟩ := H
    obtain ⟨ASz6_0, cSz6_0, HGz6, hgz6, HSz6_0⟩ := HI0.out
    have hcz6_0 := cellS47_0 HGz6
    have hcz6_1 := cellS47_1 HGz6
    have hcz6_2 := cellS47_2 HGz6
    have hfz6_1 := blk_frozen HGz6 1
    have hfz6_2 := blk_frozen HGz6 2
    clear HGz6 hgz6
    have p101 : 0 ≤ (s0_1 : Int) := of_decide_eq_true au12
    have q101 : s0_1 < (s0_0.length : Int) := of_decide_eq_true au12
    obtain ⟨ad101, e101, hx101_0⟩ := Kd.at_int HSz6_0 s0_1 p101 q101
    cases e101
    replace hx101_0 := pw_cell_below HB.out hx101_0
    replace p101 := eq_true p101
    replace q101 := eq_true q101
    exact spec_l1Cur_next.L0
  ·
   rw [if_neg c3] at H
   exact absurd H (by simp)
 ·
  rw [if_neg c2] at H
  have c2b0 : decide (s0_1 < (s0_0.length : Int)) = false := decide_eq_false c2
  clear c2
  by_cases c7 : (wrap64 (s0_1 + 1)) ≤ (s0_0.length : Int)
  ·
   rw [if_pos c7] at H
   have c7b0 : decide ((wrap64 (s0_1 + 1)) ≤ (s0_0.length : Int)) = true := decide_eq_true c7
   clear c7
   simp only [Option.some.injEq, Prod.mk.injEq] at H
   obtain ⟨rfl, rfl, rfl⟩ := H
   obtain ⟨ASz8_0, cSz8_0, HGz8, hgz8, HSz8_0⟩ := HI0.out
   have hcz8_0 := cellS47_0 HGz8
   have hcz8_1 := cellS47_1 HGz8
   have hcz8_2 := cellS47_2 HGz8
   have hfz8_1 := blk_frozen HGz8 1
   have hfz8_2 := blk_frozen HGz8 2
   clear HGz8 hgz8
   exact spec_l1Cur_next.L0
  ·
   rw [if_neg c7] at H
   have c7b0 : decide ((wrap64 (s0_1 + 1)) ≤ (s0_0.length : Int)) = false := decide_eq_false c7
   clear c7
   simp only [Option.some.injEq, Prod.mk.injEq] at H
   obtain ⟨rfl, rfl, rfl⟩ := H
   obtain ⟨ASz9_0, cSz9_0, HGz9, hgz9, HSz9_0⟩ := HI0.out
   have hcz9_0 := cellS47_0 HGz9
   have hcz9_1 := cellS47_1 HGz9
   have hcz9_2 := cellS47_2 HGz9
   have hfz9_1 := blk_frozen HGz9 1
   have hfz9_2 := blk_frozen HGz9 2
   clear HGz9 hgz9
   exact spec_l1Cur_next.L0


/-! ### spec_l1Cur_pick: function 26 -/
def spec_l1Cur_pick.f (s0_0 : List Int) (s0_1 : Int) (s0_2 : Int) (a1 : Int) : Option (Int × Int × Int) := if a1 ≤ 1 then (some (0, s0_1, s0_2)) else ((spec_l1Cur_next.f s0_0 s0_1 s0_2).bind fun bt102 => (if a1 > 200 then ((spec_l1Cur_next.f s0_0 bt102.2.1 bt102.2.2).bind fun bt105 => (if a1 = 0 then (none) else (some (Int.tmod (wrap64 ((wrap64 (bt102.1 * 256)) + bt105.1)) a1, bt105.2.1, bt105.2.2)))) else (if a1 = 0 then (none) else (some (Int.tmod bt102.1 a1, bt102.2.1, bt102.2.2)))))
set_option maxHeartbeats 8000000 in
set_option maxRecDepth 100000 in
theorem spec_l1Cur_pick.calls (g : Nat) (s0_0 : List Int) (s0_1 : Int) (s0_2 : Int) (a1 : Int) (r1 : Int) (r2 : Int) (r3 : Int) (w0 w : World) (hI : IsS47 w0 w g s0_0 s0_1 s0_2) (hB : Below w0.heap.size w0 w) (h : spec_l1Cur_pick.f s0_0 s0_1 s0_2 a1 = some (r1, r2, r3)) :
  Calls Try.prog 26 #[.pointer (some ⟨g, 0, none⟩), .int .i64 a1] w fun e w' => e = .returned (.int .i64 r1) ∧ IsS47 w0 w' g s0_0 r2 r3 ∧ Below w0.heap.size w0 w' ∧ KeepBut w w' g none := by
 have HI0 := Aside0.mk hI
 have HK := Aside0.mk (KeepBut.refl w g none)
 have HL := Aside0.mk hB.size
 clear hI
 have HW0 := Aside0.mk hB.size
 have HB := Aside0.mk hB
 clear hB
 have H : (if a1 ≤ 1 then (some (0, s0_1, s0_2)) else ((spec_l1Cur_next.f s0_0 s0_1 s0_2).bind fun bt102 => (if a1 > 200 then ((spec_l1Cur_next.f s0_0 bt102.2.1 bt102.2.2).bind fun bt105 => (if a1 = 0 then (none) else (some (Int.tmod (wrap64 ((wrap64 (bt102.1 * 256)) + bt105.1)) a1, bt105.2.1, bt105.2.2)))) else (if a1 = 0 then (none) else (some (Int.tmod bt102.1 a1, bt102.2.1, bt102.2.2)))))) = some (r1, r2, r3) := h
 clear h
 by_cases c3 : a1 ≤ 1
 ·
  rw [if_pos c3] at H
  have c3b0 : decide (a1 ≤ 1) = true := decide_eq_true c3
  clear c3
  simp only [Option.some.injEq, Prod.mk.injEq] at H
  obtain ⟨rfl, rfl, rfl⟩ := H
  go_enter Try.func26, Try.ntmps26
  go_wp2
  go_ret
  exact ax0
 ·
  rw [if_neg c3] at H
  have c3b0 : decide (a1 ≤ 1) = false := decide_eq_false c3
  clear c3
  replace H := Option.bind_eq_some_iff.mp H
  obtain ⟨⟨t102, t103, t104⟩, A40, H⟩ := H
  replace H : (if a1 > 200 then ((spec_l1Cur_next.f s0_0 t103 t104).bind fun bt105 => (if a1 = 0 then (none) else (some (Int.tmod (wrap64 ((wrap64 (t102 * 256)) + bt105.1)) a1, bt105.2.1, bt105.2.2)))) else (if a1 = 0 then (none) else (some (Int.tmod t102 a1, t103, t104)))) = some (r1, r2, r3) := H
  have A4 := Aside0.mk A40
  clear A40
  by_cases c5 : a1 > 200
  ·
   rw [if_pos c5] at H
   have c5b0 : decide (200 < a1) = true := decide_eq_true c5
   clear c5
   replace H := Option.bind_eq_some_iff.mp H
   obtain ⟨⟨t105, t106, t107⟩, A60, H⟩ := H
   replace H : (if a1 = 0 then (none) else (some (Int.tmod (wrap64 ((wrap64 (t102 * 256)) + t105)) a1, t106, t107))) = some (r1, r2, r3) := H
   have A6 := Aside0.mk A60
   clear A60
   by_cases c7 : a1 = 0
   ·
    rw [if_pos c7] at H
    exact absurd H (by simp)
   ·
    rw [if_neg c7] at H
    have c7b0 : (a1 == 0) = false := beq_eq_false_iff_ne.mpr c7
    have c7b1 : (a1 != 0) = true := bne_iff_ne.mpr c7
    simp only [Option.some.injEq, Prod.mk.injEq] at H
    obtain ⟨rfl, rfl, rfl⟩ := H
    go_enter Try.func26, Try.ntmps26
    go_wp2_with (first | ((with_reducible refine gate_callee (f := 36) rfl ?_); refine goesL_ (some 9) rfl rfl Try.func36 (by kernel_rfl) rfl #[.pointer (some ⟨g, 0, none⟩)] rfl au4 ?_; (with_reducible refine (spec_l1Cur_next.calls g s0_0 s0_1 s0_2 t102 t103 t104 w0 _ ?side1 ?side2 A4.out).mono ?_); (case side1 => repeat (first | (with_reducible first | exact HI0.out | apply IsS47.alloc | apply IsS47.drewN | apply IsS47.drew | apply IsS47.set_1 | apply IsS47.set_2) | exact HI0.out)); (case side2 => repeat (first | (with_reducible first | exact HB.out | apply below_alloc | apply pw_below_drewN | apply below_drew1 | refine below_set ?_ (IsS47.ge HI0.out)) | exact HB.out)); rintro e w8 ⟨rfl, hi, hb, hk⟩; refine ⟨_, rfl, ?_⟩; have n0_ := Aside0.mk (KeepBut.trans au3 hk (.inl rfl)); have n1_ := Aside0.mk (hb); have n2_ := Aside0.mk (hi); clear HK; clear HB; clear HI0; have HK := n0_; have HB := n1_; have HI0 := n2_; clear n0_ n1_ n2_; (try clear hb); (try clear hb2); (try clear hk); (try clear hi)) | ((with_reducible refine gate_callee (f := 36) rfl ?_); refine goesL_ (some 15) rfl rfl Try.func36 (by kernel_rfl) rfl #[.pointer (some ⟨g, 0, none⟩)] rfl au4 ?_; (with_reducible refine (spec_l1Cur_next.calls g s0_0 t103 t104 t105 t106 t107 w0 _ ?side1 ?side2 A6.out).mono ?_); (case side1 => repeat (first | (with_reducible first | exact HI0.out | apply IsS47.alloc | apply IsS47.drewN | apply IsS47.drew | apply IsS47.set_1 | apply IsS47.set_2) | exact HI0.out)); (case side2 => repeat (first | (with_reducible first | exact HB.out | apply below_alloc | apply pw_below_drewN | apply below_drew1 | refine below_set ?_ (IsS47.ge HI0.out)) | exact HB.out)); rintro e w9 ⟨rfl, hi, hb, hk⟩; refine ⟨_, rfl, ?_⟩; have n0_ := Aside0.mk (KeepBut.trans au3 hk (.inl rfl)); have n1_ := Aside0.mk (hb); have n2_ := Aside0.mk (hi); clear HK; clear HB; clear HI0; have HK := n0_; have HB := n1_; have HI0 := n2_; clear n0_ n1_ n2_; (try clear hb); (try clear hb2); (try clear hk); (try clear hi)))
    go_ret
    exact ax0
  ·
   rw [if_neg c5] at H
   have c5b0 : decide (200 < a1) = false := decide_eq_false c5
   clear c5
   by_cases c10 : a1 = 0
   ·
    rw [if_pos c10] at H
    exact absurd H (by simp)
   ·
    rw [if_neg c10] at H
    have c10b0 : (a1 == 0) = false := beq_eq_false_iff_ne.mpr c10
    have c10b1 : (a1 != 0) = true := bne_iff_ne.mpr c10
    simp only [Option.some.injEq, Prod.mk.injEq] at H
    obtain ⟨rfl, rfl, rfl⟩ := H
    go_enter Try.func26, Try.ntmps26
    go_wp2_with (first | ((with_reducible refine gate_callee (f := 36) rfl ?_); refine goesL_ (some 9) rfl rfl Try.func36 (by kernel_rfl) rfl #[.pointer (some ⟨g, 0, none⟩)] rfl au4 ?_; (with_reducible refine (spec_l1Cur_next.calls g s0_0 s0_1 s0_2 t102 t103 t104 w0 _ ?side1 ?side2 A4.out).mono ?_); (case side1 => repeat (first | (with_reducible first | exact HI0.out | apply IsS47.alloc | apply IsS47.drewN | apply IsS47.drew | apply IsS47.set_1 | apply IsS47.set_2) | exact HI0.out)); (case side2 => repeat (first | (with_reducible first | exact HB.out | apply below_alloc | apply pw_below_drewN | apply below_drew1 | refine below_set ?_ (IsS47.ge HI0.out)) | exact HB.out)); rintro e w11 ⟨rfl, hi, hb, hk⟩; refine ⟨_, rfl, ?_⟩; have n0_ := Aside0.mk (KeepBut.trans au3 hk (.inl rfl)); have n1_ := Aside0.mk (hb); have n2_ := Aside0.mk (hi); clear HK; clear HB; clear HI0; have HK := n0_; have HB := n1_; have HI0 := n2_; clear n0_ n1_ n2_; (try clear hb); (try clear hb2); (try clear hk); (try clear hi)))
    go_ret
    exact ax0


/-! ### spec_l1Cur_of: function 25 -/
def spec_l1Cur_of.f (s0_0 : List Int) (s0_1 : Int) (s0_2 : Int) (l1 : List ByteArray) : Option (ByteArray × Int × Int) := (spec_l1Cur_pick.f s0_0 s0_1 s0_2 (l1.length : Int)).bind fun bt286 => (if 0 ≤ bt286.1 then (if bt286.1 < (l1.length : Int) then (some (rdOf ByteArray.empty l1 bt286.1, bt286.2.1, bt286.2.2)) else (none)) else (none))
set_option maxHeartbeats 8000000 in
set_option maxRecDepth 100000 in
theorem spec_l1Cur_of.calls (g : Nat) (s0_0 : List Int) (s0_1 : Int) (s0_2 : Int) (A1 : Option Addr) (c1 : Nat) (l1 : List ByteArray) (r1 : ByteArray) (r2 : Int) (r3 : Int) (w0 w : World) (hI : IsS47 w0 w g s0_0 s0_1 s0_2) (hB : Below w0.heap.size w0 w) (hr1 : Kd.C Kd.string w A1 l1.length l1) (hc1 : l1.length ≤ c1) (hf1 : ∀ ad, A1 = some ad → 0 < l1.length → ad.block ≠ g) (h : spec_l1Cur_of.f s0_0 s0_1 s0_2 l1 = some (r1, r2, r3)) :
  Calls Try.prog 25 #[.pointer (some ⟨g, 0, none⟩), .slice A1 l1.length c1] w fun e w' => e = .returned (.string r1) ∧ IsS47 w0 w' g s0_0 r2 r3 ∧ Below w0.heap.size w0 w' ∧ KeepBut w w' g none := by
 have HR1 := Aside0.mk hr1
 have HC1 := Aside0.mk hc1
 clear hr1 hc1
 have HI0 := Aside0.mk hI
 have HK := Aside0.mk (KeepBut.refl w g none)
 have HL := Aside0.mk hB.size
 clear hI
 have HW0 := Aside0.mk hB.size
 have HB := Aside0.mk hB
 clear hB
 have H : ((spec_l1Cur_pick.f s0_0 s0_1 s0_2 (l1.length : Int)).bind fun bt286 => (if 0 ≤ bt286.1 then (if bt286.1 < (l1.length : Int) then (some (rdOf ByteArray.empty l1 bt286.1, bt286.2.1, bt286.2.2)) else (none)) else (none))) = some (r1, r2, r3) := h
 clear h
 replace H := Option.bind_eq_some_iff.mp H
 obtain ⟨⟨t286, t287, t288⟩, A30, H⟩ := H
 replace H : (if 0 ≤ t286 then (if t286 < (l1.length : Int) then (some (rdOf ByteArray.empty l1 t286, t287, t288)) else (none)) else (none)) = some (r1, r2, r3) := H
 have A3 := Aside0.mk A30
 clear A30
 by_cases c4 : 0 ≤ t286
 ·
  rw [if_pos c4] at H
  have c4b0 : decide (0 ≤ t286) = true := decide_eq_true c4
  clear c4
  by_cases c5 : t286 < (l1.length : Int)
  ·
   rw [if_pos c5] at H
   have c5b0 : decide (t286 < (l1.length : Int)) = true := decide_eq_true c5
   clear c5
   simp only [Option.some.injEq, Prod.mk.injEq] at H
   obtain ⟨rfl, rfl, rfl⟩ := H
   go_enter Try.func25, Try.ntmps25
   go_wp2_with (first | ((with_reducible refine gate_callee (f := 26) rfl ?_); refine goesL_ (some 9) rfl rfl Try.func26 (by kernel_rfl) rfl #[.pointer (some ⟨g, 0, none⟩), .int .i64 (l1.length : Int)] rfl au4 ?_; (with_reducible refine (spec_l1Cur_pick.calls g s0_0 s0_1 s0_2 (l1.length : Int) t286 t287 t288 w0 _ ?side1 ?side2 A3.out).mono ?_); (case side1 => repeat (first | (with_reducible first | exact HI0.out | apply IsS47.alloc | apply IsS47.drewN | apply IsS47.drew | apply IsS47.set_1 | apply IsS47.set_2) | exact HI0.out)); (case side2 => repeat (first | (with_reducible first | exact HB.out | apply below_alloc | apply pw_below_drewN | apply below_drew1 | refine below_set ?_ (IsS47.ge HI0.out)) | exact HB.out)); rintro e w6 ⟨rfl, hi, hb, hk⟩; refine ⟨_, rfl, ?_⟩; have n0_ := Aside0.mk (KeepBut.trans au3 hk (.inl rfl)); have n1_ := Aside0.mk (hb); have n2_ := Aside0.mk (hi); clear HK; clear HB; clear HI0; have HK := n0_; have HB := n1_; have HI0 := n2_; clear n0_ n1_ n2_; (try clear hb); (try clear hb2); (try clear hk); (try clear hi); have p289 : 0 ≤ (t286 : Int) := of_decide_eq_true au12; have q289 : t286 < (l1.length : Int) := of_decide_eq_true au12; obtain ⟨ad289, e289, hx289_0⟩ := Kd.at_string HR1.out t286 p289 q289; cases e289; replace hx289_0 := keep_cell HK.out hx289_0 (by first | (rw [add_block]; exact hf1 _ rfl (by omega)) | exact hf1 _ rfl (by omega) | exact hf1 ad289 rfl (by omega)); replace p289 := eq_true p289; replace q289 := eq_true q289))
   go_ret
   exact ax0
  ·
   rw [if_neg c5] at H
   exact absurd H (by simp)
 ·
  rw [if_neg c4] at H
  exact absurd H (by simp)


/-! ### spec_l1Cur_any1: function 24 -/
def spec_l1Cur_any1.f (s0_0 : List Int) (s0_1 : Int) (s0_2 : Int) : Option (ByteArray × Int × Int) := (spec_l1Cur_of.f s0_0 s0_1 s0_2 (([(⟨#[]⟩ : ByteArray), (⟨#[97]⟩ : ByteArray), (⟨#[97, 44, 98]⟩ : ByteArray), (⟨#[115, 111, 109, 101, 32, 119, 111, 114, 100, 115]⟩ : ByteArray), (⟨#[120, 35, 121]⟩ : ByteArray), (⟨#[45, 49, 50]⟩ : ByteArray), (⟨#[0, 255]⟩ : ByteArray), (⟨#[44, 44]⟩ : ByteArray), (⟨#[48]⟩ : ByteArray)] : List ByteArray))).bind fun bt293 => (some (bt293.1, bt293.2.1, bt293.2.2))
set_option maxHeartbeats 8000000 in
set_option maxRecDepth 100000 in
theorem spec_l1Cur_any1.calls (g : Nat) (s0_0 : List Int) (s0_1 : Int) (s0_2 : Int) (r1 : ByteArray) (r2 : Int) (r3 : Int) (w0 w : World) (hI : IsS47 w0 w g s0_0 s0_1 s0_2) (hB : Below w0.heap.size w0 w) (h : spec_l1Cur_any1.f s0_0 s0_1 s0_2 = some (r1, r2, r3)) :
  Calls Try.prog 24 #[.pointer (some ⟨g, 0, none⟩)] w fun e w' => e = .returned (.string r1) ∧ IsS47 w0 w' g s0_0 r2 r3 ∧ Below w0.heap.size w0 w' ∧ KeepBut w w' g none := by
 have HI0 := Aside0.mk hI
 have HK := Aside0.mk (KeepBut.refl w g none)
 have HL := Aside0.mk hB.size
 clear hI
 have HW0 := Aside0.mk hB.size
 have HB := Aside0.mk hB
 clear hB
 have H : ((spec_l1Cur_of.f s0_0 s0_1 s0_2 (([(⟨#[]⟩ : ByteArray), (⟨#[97]⟩ : ByteArray), (⟨#[97, 44, 98]⟩ : ByteArray), (⟨#[115, 111, 109, 101, 32, 119, 111, 114, 100, 115]⟩ : ByteArray), (⟨#[120, 35, 121]⟩ : ByteArray), (⟨#[45, 49, 50]⟩ : ByteArray), (⟨#[0, 255]⟩ : ByteArray), (⟨#[44, 44]⟩ : ByteArray), (⟨#[48]⟩ : ByteArray)] : List ByteArray))).bind fun bt293 => (some (bt293.1, bt293.2.1, bt293.2.2))) = some (r1, r2, r3) := h
 clear h
 obtain ⟨y290, hy290⟩ : ∃ y_ : List ByteArray, y_ = (([(⟨#[]⟩ : ByteArray), (⟨#[97]⟩ : ByteArray), (⟨#[97, 44, 98]⟩ : ByteArray), (⟨#[115, 111, 109, 101, 32, 119, 111, 114, 100, 115]⟩ : ByteArray), (⟨#[120, 35, 121]⟩ : ByteArray), (⟨#[45, 49, 50]⟩ : ByteArray), (⟨#[0, 255]⟩ : ByteArray), (⟨#[44, 44]⟩ : ByteArray), (⟨#[48]⟩ : ByteArray)] : List ByteArray)) := ⟨_, rfl⟩
 replace H : ((spec_l1Cur_of.f s0_0 s0_1 s0_2 y290).bind fun bt293 => (some (bt293.1, bt293.2.1, bt293.2.2))) = some (r1, r2, r3) := by first | (rw [hy290]; with_reducible exact H) | (have H2_ := (Option.bind_some _ _).symm.trans H; rw [hy290]; with_reducible exact H2_) | (have H2_ := (Option.bind_some _ _).symm.trans H; with_reducible exact H2_) | with_reducible exact H | (rw [hy290]; exact H) | exact H
 have Ny290 := Aside0.mk hy290
 clear hy290
 replace H := Option.bind_eq_some_iff.mp H
 obtain ⟨⟨t293, t294, t295⟩, A20, H⟩ := H
 replace H : (some (t293, t294, t295)) = some (r1, r2, r3) := H
 have A2 := Aside0.mk A20
 clear A20
 simp only [Option.some.injEq, Prod.mk.injEq] at H
 obtain ⟨rfl, rfl, rfl⟩ := H
 go_enter Try.func24, Try.ntmps24
 go_wp2_with (first | ((with_reducible refine gate_dst (N := 4) rfl ?_); refine Kd.R_lit Kd.string _ 9 ?hg (N := 4) ?hd (xs := ([(⟨#[]⟩ : ByteArray), (⟨#[97]⟩ : ByteArray), (⟨#[97, 44, 98]⟩ : ByteArray), (⟨#[115, 111, 109, 101, 32, 119, 111, 114, 100, 115]⟩ : ByteArray), (⟨#[120, 35, 121]⟩ : ByteArray), (⟨#[45, 49, 50]⟩ : ByteArray), (⟨#[0, 255]⟩ : ByteArray), (⟨#[44, 44]⟩ : ByteArray), (⟨#[48]⟩ : ByteArray)] : List ByteArray)) (inner := [.string (⟨#[]⟩ : ByteArray), .string (⟨#[97]⟩ : ByteArray), .string (⟨#[97, 44, 98]⟩ : ByteArray), .string (⟨#[115, 111, 109, 101, 32, 119, 111, 114, 100, 115]⟩ : ByteArray), .string (⟨#[120, 35, 121]⟩ : ByteArray), .string (⟨#[45, 49, 50]⟩ : ByteArray), .string (⟨#[0, 255]⟩ : ByteArray), .string (⟨#[44, 44]⟩ : ByteArray), .string (⟨#[48]⟩ : ByteArray)]) (ok := fun _ => True) (okp := fun _ => True) ?hr ?hp (fun _ hk => hk) trivial (Below.refl _ _) (Nat.le_refl _) (by simp) ?_; (case hd => rfl); (case hg => rfl); (case hr => first | (go_simp; done) | (go_simp; rfl)); (case hp => exact (Reps.one (show Kd.M Kd.string _ _ _ (⟨#[]⟩ : ByteArray) [.string (⟨#[]⟩ : ByteArray)] from rfl) (Reps.one (show Kd.M Kd.string _ _ _ (⟨#[97]⟩ : ByteArray) [.string (⟨#[97]⟩ : ByteArray)] from rfl) (Reps.one (show Kd.M Kd.string _ _ _ (⟨#[97, 44, 98]⟩ : ByteArray) [.string (⟨#[97, 44, 98]⟩ : ByteArray)] from rfl) (Reps.one (show Kd.M Kd.string _ _ _ (⟨#[115, 111, 109, 101, 32, 119, 111, 114, 100, 115]⟩ : ByteArray) [.string (⟨#[115, 111, 109, 101, 32, 119, 111, 114, 100, 115]⟩ : ByteArray)] from rfl) (Reps.one (show Kd.M Kd.string _ _ _ (⟨#[120, 35, 121]⟩ : ByteArray) [.string (⟨#[120, 35, 121]⟩ : ByteArray)] from rfl) (Reps.one (show Kd.M Kd.string _ _ _ (⟨#[45, 49, 50]⟩ : ByteArray) [.string (⟨#[45, 49, 50]⟩ : ByteArray)] from rfl) (Reps.one (show Kd.M Kd.string _ _ _ (⟨#[0, 255]⟩ : ByteArray) [.string (⟨#[0, 255]⟩ : ByteArray)] from rfl) (Reps.one (show Kd.M Kd.string _ _ _ (⟨#[44, 44]⟩ : ByteArray) [.string (⟨#[44, 44]⟩ : ByteArray)] from rfl) (Reps.one (show Kd.M Kd.string _ _ _ (⟨#[48]⟩ : ByteArray) [.string (⟨#[48]⟩ : ByteArray)] from rfl) (Reps.none _ _))))))))))); intro v291 w3 ho4 hb hg_ hnew_; clear hg_ hnew_; (first | rw [← Ny290.out] at ho4 | (simp only [Int.reduceToNat] at ho4; rw [← Ny290.out] at ho4)); have n0_ := Aside0.mk (Kd.R_lower ho4 (keep_size (w := w) (g := g) (row := none) au3)); have n1_ := Aside0.mk (IsS47.below (by repeat (first | (with_reducible first | exact HI0.out | apply IsS47.alloc | apply IsS47.drewN | apply IsS47.drew | apply IsS47.set_1 | apply IsS47.set_2) | exact HI0.out)) hb); have n2_ := Aside0.mk (KeepBut.trans au3 (KeepBut.of_below hb g none) (.inl rfl)); have n3_ := Aside0.mk (below_step (by repeat (first | (with_reducible first | exact HB.out | apply below_alloc | apply pw_below_drewN | apply below_drew1 | refine below_set ?_ (IsS47.ge HI0.out)) | exact HB.out)) hb); clear HI0; clear HK; clear HB; have HO292 := n0_; have HI0 := n1_; have HK := n2_; have HB := n3_; clear n0_ n1_ n2_ n3_; clear hb ho4; obtain ⟨Ao5, co5, eo5⟩ := Kd.R_slice HO292.out; subst eo5) | ((with_reducible refine gate_callee (f := 25) rfl ?_); refine goesL_ (some 5) rfl rfl Try.func25 (by kernel_rfl) rfl #[.pointer (some ⟨g, 0, none⟩), .slice Ao5 y290.length co5] rfl au4 ?_; (with_reducible refine (spec_l1Cur_of.calls g s0_0 s0_1 s0_2 _ _ y290 t293 t294 t295 w0 _ ?side1 ?side2 ?side3 ?side4 ?side5 A2.out).mono ?_); (case side1 => repeat (first | (with_reducible first | exact HI0.out | apply IsS47.alloc | apply IsS47.drewN | apply IsS47.drew | apply IsS47.set_1 | apply IsS47.set_2) | exact HI0.out)); (case side2 => repeat (first | (with_reducible first | exact HB.out | apply below_alloc | apply pw_below_drewN | apply below_drew1 | refine below_set ?_ (IsS47.ge HI0.out)) | exact HB.out)); (case side3 => repeat (first | exact (Kd.R_reads' HO292.out).2.2 | (with_reducible refine Kd.C_alloc ?_ _) | (with_reducible refine Kd.C_drewN ?_ _) | (with_reducible refine Kd.C_drew ?_))); (case side4 => exact (Kd.R_reads' HO292.out).2.1); (case side5 => exact far_slice (IsS47.own_ne HI0.out HO292.out (by decide))); rintro e w6 ⟨rfl, hi, hb, hk⟩; refine ⟨_, rfl, ?_⟩; have n0_ := Aside0.mk (Kd.R_mono (Kd.R_keep (IsS47.apart (show IsS47 w0 _ g s0_0 s0_1 s0_2 from by repeat (first | (with_reducible first | exact HI0.out | apply IsS47.alloc | apply IsS47.drewN | apply IsS47.drew | apply IsS47.set_1 | apply IsS47.set_2) | exact HI0.out)) (by (with_reducible repeat (first | apply Kd.R_alloc | apply Kd.R_drewN | apply Kd.R_drew)); exact HO292.out) (by decide)) hk (fun _ h => h.2)) (fun _ h => h.1)); have n1_ := Aside0.mk (KeepBut.trans au3 hk (.inl rfl)); have n2_ := Aside0.mk (hb); have n3_ := Aside0.mk (hi); clear HO292; clear HK; clear HB; clear HI0; have HO292 := n0_; have HK := n1_; have HB := n2_; have HI0 := n3_; clear n0_ n1_ n2_ n3_; (try clear hb); (try clear hb2); (try clear hk); (try clear hi)))
 go_ret
 exact ax0


/-! ### spec_DrawSplitString: function 10 -/
def spec_DrawSplitString.f (l0 : List Int) : Option (ByteArray × ByteArray) := (spec_l1Cur_any1.f l0 0 0).bind fun bt297 => ((spec_l1Cur_of.f l0 bt297.2.1 bt297.2.2 (([(⟨#[44]⟩ : ByteArray), (⟨#[44]⟩ : ByteArray), (⟨#[32]⟩ : ByteArray), (⟨#[]⟩ : ByteArray), (⟨#[44, 44]⟩ : ByteArray)] : List ByteArray))).bind fun bt303 => (some (bt297.1, bt303.1)))
set_option maxHeartbeats 8000000 in
set_option maxRecDepth 100000 in
theorem spec_DrawSplitString.calls (A0 : Option Addr) (c0 : Nat) (l0 : List Int) (r1 : ByteArray) (r2 : ByteArray) (w : World) (hr0 : Kd.C (Kd.int .u8) w A0 l0.length l0) (hc0 : l0.length ≤ c0) (h : spec_DrawSplitString.f l0 = some (r1, r2)) :
  Calls Try.prog 10 #[.slice A0 l0.length c0] w fun e w' => e = .returned (.tuple #[.string r1, .string r2]) ∧ Below w.heap.size w w' := by
 have hu47 := Try.underlying47
 have HR0 := Aside0.mk hr0
 have HC0 := Aside0.mk hc0
 clear hr0 hc0
 have HB := Aside0.mk (Below.refl w.heap.size w)
 have H : ((spec_l1Cur_any1.f l0 0 0).bind fun bt297 => ((spec_l1Cur_of.f l0 bt297.2.1 bt297.2.2 (([(⟨#[44]⟩ : ByteArray), (⟨#[44]⟩ : ByteArray), (⟨#[32]⟩ : ByteArray), (⟨#[]⟩ : ByteArray), (⟨#[44, 44]⟩ : ByteArray)] : List ByteArray))).bind fun bt303 => (some (bt297.1, bt303.1)))) = some (r1, r2) := h
 clear h
 replace H := Option.bind_eq_some_iff.mp H
 obtain ⟨⟨t297, t298, t299⟩, A20, H⟩ := H
 replace H : ((spec_l1Cur_of.f l0 t298 t299 (([(⟨#[44]⟩ : ByteArray), (⟨#[44]⟩ : ByteArray), (⟨#[32]⟩ : ByteArray), (⟨#[]⟩ : ByteArray), (⟨#[44, 44]⟩ : ByteArray)] : List ByteArray))).bind fun bt303 => (some (t297, bt303.1))) = some (r1, r2) := H
 have A2 := Aside0.mk A20
 clear A20
 obtain ⟨y300, hy300⟩ : ∃ y_ : List ByteArray, y_ = (([(⟨#[44]⟩ : ByteArray), (⟨#[44]⟩ : ByteArray), (⟨#[32]⟩ : ByteArray), (⟨#[]⟩ : ByteArray), (⟨#[44, 44]⟩ : ByteArray)] : List ByteArray)) := ⟨_, rfl⟩
 replace H : ((spec_l1Cur_of.f l0 t298 t299 y300).bind fun bt303 => (some (t297, bt303.1))) = some (r1, r2) := by first | (rw [hy300]; with_reducible exact H) | (have H2_ := (Option.bind_some _ _).symm.trans H; rw [hy300]; with_reducible exact H2_) | (have H2_ := (Option.bind_some _ _).symm.trans H; with_reducible exact H2_) | with_reducible exact H | (rw [hy300]; exact H) | exact H
 have Ny300 := Aside0.mk hy300
 clear hy300
 replace H := Option.bind_eq_some_iff.mp H
 obtain ⟨⟨t303, t304, t305⟩, A30, H⟩ := H
 replace H : (some (t297, t303)) = some (r1, r2) := H
 have A3 := Aside0.mk A30
 clear A30
 simp only [Option.some.injEq, Prod.mk.injEq] at H
 obtain ⟨rfl, rfl⟩ := H
 go_enter Try.func10, Try.ntmps10
 go_wp2_with (first | ((with_reducible refine gate_dst (N := 8) rfl ?_); refine box_event ?hg (N := 8) ?hd (cs := #[.slice A0 l0.length c0, .int .i64 0, .int .u64 0]) (t := 47) ?hr ?_; (case hd => rfl); (case hg => rfl); (case hr => first | (go_simp; done) | (go_simp; rfl)); intro gb296 hg w4 hbox hb; have n0_ := Aside0.mk (below_step au5 hb); have n1_ := Aside0.mk ((show IsS47 w w4 gb296 l0 0 0 from ⟨_, _, hbox, by rw [hg]; exact (below_size au5), HR0.out⟩)); clear HB; have HB := n0_; have HI296 := n1_; clear n0_ n1_; clear hb hbox hg) | ((with_reducible refine gate_callee (f := 24) rfl ?_); refine goesL_ (some 10) rfl rfl Try.func24 (by kernel_rfl) rfl #[.pointer (some ⟨gb296, 0, none⟩)] rfl au4 ?_; (with_reducible refine (spec_l1Cur_any1.calls gb296 l0 0 0 t297 t298 t299 w _ ?side1 ?side2 A2.out).mono ?_); (case side1 => repeat (first | (with_reducible first | exact HI296.out | apply IsS47.alloc | apply IsS47.drewN | apply IsS47.drew | apply IsS47.set_1 | apply IsS47.set_2) | exact HI296.out)); (case side2 => repeat (first | (with_reducible first | exact HB.out | apply below_alloc | apply pw_below_drewN | apply below_drew1 | refine below_set ?_ (IsS47.ge HI296.out)) | exact HB.out)); rintro e w5 ⟨rfl, hi, hb, hk⟩; refine ⟨_, rfl, ?_⟩; have n0_ := Aside0.mk (hb); have n1_ := Aside0.mk (hi); clear HB; clear HI296; have HB := n0_; have HI296 := n1_; clear n0_ n1_; (try clear hb); (try clear hb2); (try clear hk); (try clear hi)) | ((with_reducible refine gate_dst (N := 13) rfl ?_); refine Kd.R_lit Kd.string _ 9 ?hg (N := 13) ?hd (xs := ([(⟨#[44]⟩ : ByteArray), (⟨#[44]⟩ : ByteArray), (⟨#[32]⟩ : ByteArray), (⟨#[]⟩ : ByteArray), (⟨#[44, 44]⟩ : ByteArray)] : List ByteArray)) (inner := [.string (⟨#[44]⟩ : ByteArray), .string (⟨#[44]⟩ : ByteArray), .string (⟨#[32]⟩ : ByteArray), .string (⟨#[]⟩ : ByteArray), .string (⟨#[44, 44]⟩ : ByteArray)]) (ok := fun _ => True) (okp := fun _ => True) ?hr ?hp (fun _ hk => hk) trivial (Below.refl _ _) (Nat.le_refl _) (by simp) ?_; (case hd => rfl); (case hg => rfl); (case hr => first | (go_simp; done) | (go_simp; rfl)); (case hp => exact (Reps.one (show Kd.M Kd.string _ _ _ (⟨#[44]⟩ : ByteArray) [.string (⟨#[44]⟩ : ByteArray)] from rfl) (Reps.one (show Kd.M Kd.string _ _ _ (⟨#[44]⟩ : ByteArray) [.string (⟨#[44]⟩ : ByteArray)] from rfl) (Reps.one (show Kd.M Kd.string _ _ _ (⟨#[32]⟩ : ByteArray) [.string (⟨#[32]⟩ : ByteArray)] from rfl) (Reps.one (show Kd.M Kd.string _ _ _ (⟨#[]⟩ : ByteArray) [.string (⟨#[]⟩ : ByteArray)] from rfl) (Reps.one (show Kd.M Kd.string _ _ _ (⟨#[44, 44]⟩ : ByteArray) [.string (⟨#[44, 44]⟩ : ByteArray)] from rfl) (Reps.none _ _))))))); intro v301 w6 ho7 hb hg_ hnew_; clear hg_ hnew_; (first | rw [← Ny300.out] at ho7 | (simp only [Int.reduceToNat] at ho7; rw [← Ny300.out] at ho7)); have n0_ := Aside0.mk (Kd.R_lower ho7 (below_size au0)); have n1_ := Aside0.mk (IsS47.below (by repeat (first | (with_reducible first | exact HI296.out | apply IsS47.alloc | apply IsS47.drewN | apply IsS47.drew | apply IsS47.set_1 | apply IsS47.set_2) | exact HI296.out)) hb); have n2_ := Aside0.mk (below_step au0 hb); clear HI296; clear HB; have HO302 := n0_; have HI296 := n1_; have HB := n2_; clear n0_ n1_ n2_; clear hb ho7; obtain ⟨Ao8, co8, eo8⟩ := Kd.R_slice HO302.out; subst eo8) | ((with_reducible refine gate_callee (f := 25) rfl ?_); refine goesL_ (some 14) rfl rfl Try.func25 (by kernel_rfl) rfl #[.pointer (some ⟨gb296, 0, none⟩), .slice Ao8 y300.length co8] rfl au4 ?_; (with_reducible refine (spec_l1Cur_of.calls gb296 l0 t298 t299 _ _ y300 t303 t304 t305 w _ ?side1 ?side2 ?side3 ?side4 ?side5 A3.out).mono ?_); (case side1 => repeat (first | (with_reducible first | exact HI296.out | apply IsS47.alloc | apply IsS47.drewN | apply IsS47.drew | apply IsS47.set_1 | apply IsS47.set_2) | exact HI296.out)); (case side2 => repeat (first | (with_reducible first | exact HB.out | apply below_alloc | apply pw_below_drewN | apply below_drew1 | refine below_set ?_ (IsS47.ge HI296.out)) | exact HB.out)); (case side3 => repeat (first | exact (Kd.R_reads' HO302.out).2.2 | (with_reducible refine Kd.C_alloc ?_ _) | (with_reducible refine Kd.C_drewN ?_ _) | (with_reducible refine Kd.C_drew ?_))); (case side4 => exact (Kd.R_reads' HO302.out).2.1); (case side5 => exact far_slice (IsS47.own_ne HI296.out HO302.out (by decide))); rintro e w9 ⟨rfl, hi, hb, hk⟩; refine ⟨_, rfl, ?_⟩; have n0_ := Aside0.mk (Kd.R_mono (Kd.R_keep (IsS47.apart (show IsS47 w _ gb296 l0 t298 t299 from by repeat (first | (with_reducible first | exact HI296.out | apply IsS47.alloc | apply IsS47.drewN | apply IsS47.drew | apply IsS47.set_1 | apply IsS47.set_2) | exact HI296.out)) (by (with_reducible repeat (first | apply Kd.R_alloc | apply Kd.R_drewN | apply Kd.R_drew)); exact HO302.out) (by decide)) hk (fun _ h => h.2)) (fun _ h => h.1)); have n1_ := Aside0.mk (hb); have n2_ := Aside0.mk (hi); clear HO302; clear HB; clear HI296; have HO302 := n0_; have HB := n1_; have HI296 := n2_; clear n0_ n1_ n2_; (try clear hb); (try clear hb2); (try clear hk); (try clear hi)))
 go_ret2
 exact ⟨by first | rfl | (simp [errW_none, errW_some] <;> rfl) | (simp [*, errW_none, errW_some] <;> rfl), by repeat (first | (with_reducible first | exact HB.out | apply below_alloc | apply pw_below_drewN | apply below_drew1 | refine below_set ?_ (IsS47.ge HI296.out)) | exact HB.out)⟩


/-! ### impl_SplitString: function 11 -/
mutual
def impl_SplitString.j0 : Nat → ByteArray → ByteArray → Bool → Option (List ByteArray × Bool)
 | 0, _, _, _ => none
 | k + 1, x0, x1, x16 => if x16 = true then (some (([] : List ByteArray), false)) else (impl_SplitString.l0 k x0 x1 (([] : List ByteArray)) 0 0)
def impl_SplitString.l0 : Nat → ByteArray → ByteArray → List ByteArray → Int → Int → Option (List ByteArray × Bool)
 | 0, _, _, _, _, _ => none
 | k + 1, x0, x1, x6, x7, x8 => if x8 < (x0.size : Int) then (if 0 ≤ x8 then (if 0 < (x1.size : Int) then (if (bt x0 x8) = (bt x1 0) then (if 0 ≤ x7 then (if x7 ≤ x8 then (if x8 ≤ (x0.size : Int) then (if x6.length < 8796093022208 then (impl_SplitString.l0 k x0 x1 (x6 ++ [x0.extract (x7 : Int).toNat (x8 : Int).toNat]) (wrap64 (x8 + 1)) (wrap64 (x8 + 1))) else (none)) else (none)) else (none)) else (none)) else (impl_SplitString.l0 k x0 x1 x6 x7 (wrap64 (x8 + 1)))) else (none)) else (none)) else (if 0 ≤ x7 then (if x7 ≤ (x0.size : Int) then (if x6.length < 8796093022208 then (some ((x6 ++ [x0.extract (x7 : Int).toNat x0.size]), true)) else (none)) else (none)) else (none))
end
def impl_SplitString.f (k : Nat) (a0 : ByteArray) (a1 : ByteArray) : Option (List ByteArray × Bool) := if (a0.size : Int) > 4000 then (impl_SplitString.j0 k a0 a1 true) else (impl_SplitString.j0 k a0 a1 ((a1.size : Int) != 1))
theorem impl_SplitString.mono_l : ∀ k, (∀ y0 y1 y2, LeO (impl_SplitString.j0 k y0 y1 y2) (impl_SplitString.j0 (k + 1) y0 y1 y2)) ∧ (∀ y0 y1 y2 y3 y4, LeO (impl_SplitString.l0 k y0 y1 y2 y3 y4) (impl_SplitString.l0 (k + 1) y0 y1 y2 y3 y4))
 | 0 => ⟨fun _ _ _ r h => by simp [impl_SplitString.j0] at h, fun _ _ _ _ _ r h => by simp [impl_SplitString.l0] at h⟩
 | k + 1 => by
  obtain ⟨ih0, ih1⟩ := impl_SplitString.mono_l k
  refine ⟨?_, ?_⟩
  ·
   intro y0 y1 y2
   unfold impl_SplitString.j0
   repeat' first
   | (with_reducible exact ih0 _ _ _)
   | (with_reducible exact ih1 _ _ _ _ _)
   | (with_reducible exact LeO.refl _)
   | (with_reducible exact LeO.none _)
   | (with_reducible refine LeO.ite ?_ ?_)
   | (with_reducible refine LeO.bind ?_ (fun _ => ?_))
   | exact ih0 _ _ _
   | exact ih1 _ _ _ _ _
   | exact LeO.none _
   | refine LeO.ite ?_ ?_
   | refine LeO.bind ?_ (fun _ => ?_)
  ·
   intro y0 y1 y2 y3 y4
   unfold impl_SplitString.l0
   repeat' first
   | (with_reducible exact ih0 _ _ _)
   | (with_reducible exact ih1 _ _ _ _ _)
   | (with_reducible exact LeO.refl _)
   | (with_reducible exact LeO.none _)
   | (with_reducible refine LeO.ite ?_ ?_)
   | (with_reducible refine LeO.bind ?_ (fun _ => ?_))
   | exact ih0 _ _ _
   | exact ih1 _ _ _ _ _
   | exact LeO.none _
   | refine LeO.ite ?_ ?_
   | refine LeO.bind ?_ (fun _ => ?_)
theorem impl_SplitString.mono : ∀ a0 a1 k, LeO (impl_SplitString.f k a0 a1) (impl_SplitString.f (k + 1) a0 a1) := by
 intro a0 a1 k
 obtain ⟨ih0, ih1⟩ := impl_SplitString.mono_l k
 unfold impl_SplitString.f
 repeat' first
   | (with_reducible exact ih0 _ _ _)
   | (with_reducible exact ih1 _ _ _ _ _)
   | (with_reducible exact LeO.refl _)
   | (with_reducible exact LeO.none _)
   | (with_reducible refine LeO.ite ?_ ?_)
   | (with_reducible refine LeO.bind ?_ (fun _ => ?_))
   | exact ih0 _ _ _
   | exact ih1 _ _ _ _ _
   | exact LeO.none _
   | refine LeO.ite ?_ ?_
   | refine LeO.bind ?_ (fun _ => ?_)
set_option maxHeartbeats 8000000 in
set_option maxRecDepth 100000 in
theorem impl_SplitString.calls (k : Nat) (a0 : ByteArray) (a1 : ByteArray) (r1 : List ByteArray) (r2 : Bool) (w : World) (h : impl_SplitString.f k a0 a1 = some (r1, r2)) :
  Calls Try.prog 11 #[.string a0, .string a1] w fun e w' => ∃ v0_ : Value, e = .returned (.tuple #[v0_, .bool r2]) ∧ Kd.R Kd.string 9 w' w.heap.size (fun _ => True) v0_ r1 ∧ Below w.heap.size w w' := by
 have HB := Aside0.mk (Below.refl w.heap.size w)
 have H : (if (a0.size : Int) > 4000 then (impl_SplitString.j0 k a0 a1 true) else (impl_SplitString.j0 k a0 a1 ((a1.size : Int) != 1))) = some (r1, r2) := h
 clear h
 have HC3 := Aside0.mk H
 clear H
 go_enter Try.func11, Try.ntmps11
 go_upto_region 1 with (fail)
 repeat (go_quiet (fail); go_upto_region 1 with (fail))
 go_cut [16] (fun v16 wc => ∃ (kq : Nat) (x16_2 : Bool), v16 = .bool x16_2 ∧ Aside0 (impl_SplitString.j0 kq a0 a1 x16_2 = some (r1, r2)) ∧ Aside0 (kq ≤ k) ∧ Aside0 (Below w.heap.size w wc))
 case first =>
  have H := HC3.out
  clear HC3
  by_cases c4 : (a0.size : Int) > 4000
  ·
   rw [if_pos c4] at H
   have c4b0 : decide (4000 < (a0.size : Int)) = true := decide_eq_true c4
   have c4b1 : decide (4000 < a0.size) = true := decide_eq_true (by omega)
   clear c4
   (first | rw [c4b0] | (simp only [i64_w, i32_w]; rw [c4b0]) | skip)
   have H' := Aside0.mk H
   clear H
   go_wp2
   repeat (go_quiet (fail); try go_wp2)
   go_meet
   case rel => exact ⟨_, (true), au13, H', ⟨by first | omega | exact Nat.le_refl _⟩, ⟨by repeat (first | (with_reducible first | exact HB.out | apply below_alloc | apply pw_below_drewN | apply below_drew1) | exact HB.out)⟩⟩
  ·
   rw [if_neg c4] at H
   have c4b0 : decide (4000 < (a0.size : Int)) = false := decide_eq_false c4
   have c4b1 : decide (4000 < a0.size) = false := decide_eq_false (by omega)
   clear c4
   (first | rw [c4b0] | (simp only [i64_w, i32_w]; rw [c4b0]) | skip)
   have H' := Aside0.mk H
   clear H
   go_wp2
   repeat (go_quiet (fail); try go_wp2)
   go_meet
   case rel => exact ⟨_, (((a1.size : Int) != 1)), au13, H', ⟨by first | omega | exact Nat.le_refl _⟩, ⟨by repeat (first | (with_reducible first | exact HB.out | apply below_alloc | apply pw_below_drewN | apply below_drew1) | exact HB.out)⟩⟩
 case rest =>
  clear HC3
  try clear c1
  try clear p2
  try clear c4
  try clear c4b0
  try clear c4b1
  obtain ⟨kq, x16_2, rfl, HA, HJ2, HB⟩ := hcut
  cases kq with
  | zero => exact absurd HA.out (by simp [impl_SplitString.j0])
  | succ kj2 =>
   have H := HA.out
   clear HA
   simp only [impl_SplitString.j0] at H
   by_cases c5 : x16_2 = true
   ·
    subst c5
    replace H := (if_pos rfl).symm.trans H
    simp only [Option.some.injEq, Prod.mk.injEq] at H
    obtain ⟨rfl, rfl⟩ := H
    go_wp2
    repeat (go_quiet (fail); try go_wp2)
    go_ret2
    exact ⟨_, by first | rfl | (simp [errW_none, errW_some] <;> rfl) | (simp [*, errW_none, errW_some] <;> rfl), by first | exact Kd.R_nil _ _ _ _ _ | exact Kd.N_nil _ _ _ _ _ | exact Kd.V_nil _ _ _ _ _ | exact Kd.Q_nil _ _ _ _ _ | exact Kd.S_nil _ _ _ _ _, by repeat (first | (with_reducible first | exact HB.out | apply below_alloc | apply pw_below_drewN | apply below_drew1) | exact HB.out)⟩
   ·
    replace c5 := Bool.eq_false_iff.mpr c5
    subst c5
    replace H := (if_neg (show ¬ (false = true) by decide)).symm.trans H
    obtain ⟨y306, hy306⟩ : ∃ y_ : List ByteArray, y_ = (([] : List ByteArray)) := ⟨_, rfl⟩
    replace H : (impl_SplitString.l0 kj2 a0 a1 y306 0 0) = some (r1, r2) := by first | (rw [hy306]; with_reducible exact H) | (have H2_ := (Option.bind_some _ _).symm.trans H; rw [hy306]; with_reducible exact H2_) | (have H2_ := (Option.bind_some _ _).symm.trans H; with_reducible exact H2_) | with_reducible exact H | (rw [hy306]; exact H) | exact H
    have Ny306 := Aside0.mk hy306
    clear hy306
    have H' := Aside0.mk H
    clear H
    go_wp2_with (first | ((with_reducible refine gate_dst (N := 17) rfl ?_); (try (refine gate_guard (by rfl) ?_; dsimp only)); refine Kd.R_lit Kd.string _ 9 ?hg (N := 17) ?hd (xs := ([] : List ByteArray)) (inner := []) (ok := fun _ => True) (okp := fun _ => True) ?hr ?hp (fun _ hk => hk) trivial (Below.refl _ _) (Nat.le_refl _) (by simp) ?_; (case hd => rfl); (case hg => rfl); (case hr => first | (go_simp; done) | (go_simp; rfl)); (case hp => exact (Reps.none _ _)); intro v307 w6 ho7 hb hg_ hnew_; clear hg_ hnew_; (first | rw [← Ny306.out] at ho7 | (simp only [Int.reduceToNat] at ho7; rw [← Ny306.out] at ho7)); have n0_ := Aside0.mk (Kd.R_lower ho7 (below_size au5)); have n1_ := Aside0.mk (below_step au5 hb); clear HB; have HO308 := n0_; have HB := n1_; clear n0_ n1_; clear hb ho7))
    repeat (go_quiet (first | ((with_reducible refine gate_dst (N := 17) rfl ?_); (try (refine gate_guard (by rfl) ?_; dsimp only)); refine Kd.R_lit Kd.string _ 9 ?hg (N := 17) ?hd (xs := ([] : List ByteArray)) (inner := []) (ok := fun _ => True) (okp := fun _ => True) ?hr ?hp (fun _ hk => hk) trivial (Below.refl _ _) (Nat.le_refl _) (by simp) ?_; (case hd => rfl); (case hg => rfl); (case hr => first | (go_simp; done) | (go_simp; rfl)); (case hp => exact (Reps.none _ _)); intro v307 w6 ho7 hb hg_ hnew_; clear hg_ hnew_; (first | rw [← Ny306.out] at ho7 | (simp only [Int.reduceToNat] at ho7; rw [← Ny306.out] at ho7)); have n0_ := Aside0.mk (Kd.R_lower ho7 (below_size au5)); have n1_ := Aside0.mk (below_step au5 hb); clear HB; have HO308 := n0_; have HB := n1_; clear n0_ n1_; clear hb ho7)); try go_wp2_with (first | ((with_reducible refine gate_dst (N := 17) rfl ?_); (try (refine gate_guard (by rfl) ?_; dsimp only)); refine Kd.R_lit Kd.string _ 9 ?hg (N := 17) ?hd (xs := ([] : List ByteArray)) (inner := []) (ok := fun _ => True) (okp := fun _ => True) ?hr ?hp (fun _ hk => hk) trivial (Below.refl _ _) (Nat.le_refl _) (by simp) ?_; (case hd => rfl); (case hg => rfl); (case hr => first | (go_simp; done) | (go_simp; rfl)); (case hp => exact (Reps.none _ _)); intro v307 w6 ho7 hb hg_ hnew_; clear hg_ hnew_; (first | rw [← Ny306.out] at ho7 | (simp only [Int.reduceToNat] at ho7; rw [← Ny306.out] at ho7)); have n0_ := Aside0.mk (Kd.R_lower ho7 (below_size au5)); have n1_ := Aside0.mk (below_step au5 hb); clear HB; have HO308 := n0_; have HB := n1_; clear n0_ n1_; clear hb ho7)))
    go_loopg [6, 7, 8] kj2 (fun kq v6 v7 v8 w' => ∃ (x6_2 : List ByteArray) (x7_2 : Int) (x8_2 : Int), v7 = .int .i64 x7_2 ∧ v8 = .int .i64 x8_2 ∧ Aside0 (impl_SplitString.l0 kq a0 a1 x6_2 x7_2 x8_2 = some (r1, r2)) ∧ Aside0 (kq ≤ kj2) ∧ Aside0 (Kd.R Kd.string 9 w' w.heap.size (fun _ => True) v6 x6_2) ∧ Aside0 (Below w.heap.size w w'))
    case atStart => exact ⟨(y306), (0), (0), au13, au13, H', ⟨Nat.le_refl _⟩, ⟨by (with_reducible repeat (first | apply Kd.R_alloc | apply Kd.R_drewN | apply Kd.R_drew)); exact HO308.out⟩, ⟨by repeat (first | (with_reducible first | exact HB.out | apply below_alloc | apply pw_below_drewN | apply below_drew1) | exact HB.out)⟩⟩
    case round =>
     clear H'
     try clear c1
     try clear p2
     try clear c4
     try clear c4b0
     try clear c4b1
     try clear c5
     try clear p2
     obtain ⟨x6_2, x7_2, x8_2, rfl, rfl, HA, HK2, HO_6, HB⟩ := hrel
     cases gk with
     | zero => exact absurd HA.out (by simp [impl_SplitString.l0])
     | succ k2 =>
      have H := HA.out
      clear HA
      simp only [impl_SplitString.l0] at H
      by_cases c8 : x8_2 < (a0.size : Int)
      ·
       rw [if_pos c8] at H
       have c8b0 : decide (x8_2 < (a0.size : Int)) = true := decide_eq_true c8
       clear c8
       by_cases c9 : 0 ≤ x8_2
       ·
        rw [if_pos c9] at H
        have c9b0 : decide (0 ≤ x8_2) = true := decide_eq_true c9
        clear c9
        by_cases c11 : 0 < (a1.size : Int)
        ·
         rw [if_pos c11] at H
         have c11b0 : decide (0 < (a1.size : Int)) = true := decide_eq_true c11
         have c11b1 : decide (0 < a1.size) = true := decide_eq_true (by omega)
         clear c11
         by_cases c13 : (bt a0 x8_2) = (bt a1 0)
         ·
          rw [if_pos c13] at H
          have c13b0 : ((bt a0 x8_2) == (bt a1 0)) = true := beq_iff_eq.mpr c13
          have c13b1 : ((bt a0 x8_2) != (bt a1 0)) = false := bne_eq_false_iff_eq.mpr c13
          clear c13
          by_cases c14 : 0 ≤ x7_2
          ·
           rw [if_pos c14] at H
           have c14b0 := eq_true c14
           have c14b1 : decide (0 ≤ x7_2) = true := decide_eq_true c14
           clear c14
           by_cases c15 : x7_2 ≤ x8_2
           ·
            rw [if_pos c15] at H
            have c15b0 := eq_true c15
            have c15b1 : decide (x7_2 ≤ x8_2) = true := decide_eq_true c15
            clear c15
            by_cases c16 : x8_2 ≤ (a0.size : Int)
            ·
             rw [if_pos c16] at H
             have c16b0 := eq_true c16
             have c16b1 : decide (x8_2 ≤ (a0.size : Int)) = true := decide_eq_true c16
             clear c16
             by_cases c17 : x6_2.length < 8796093022208
             ·
              rw [if_pos c17] at H
              have LMc17 := Aside0.mk c17
              clear c17
              obtain ⟨y309, hy309⟩ : ∃ y_ : List ByteArray, y_ = (x6_2 ++ [a0.extract (x7_2 : Int).toNat (x8_2 : Int).toNat]) := ⟨_, rfl⟩
              replace H : (impl_SplitString.l0 k2 a0 a1 y309 (wrap64 (x8_2 + 1)) (wrap64 (x8_2 + 1))) = some (r1, r2) := by first | (rw [hy309]; with_reducible exact H) | (have H2_ := (Option.bind_some _ _).symm.trans H; rw [hy309]; with_reducible exact H2_) | (have H2_ := (Option.bind_some _ _).symm.trans H; with_reducible exact H2_) | with_reducible exact H | (rw [hy309]; exact H) | exact H
              have Ny309 := Aside0.mk hy309
              clear hy309
              have H' := Aside0.mk H
              clear H
              have p10 : 0 ≤ (x8_2 : Int) := of_decide_eq_true au12
              have q10 : x8_2 < (a0.size : Int) := of_decide_eq_true au12
              have hx10 := bt_at a0 x8_2
              replace p10 := eq_true p10
              replace q10 := eq_true q10
              have p12 : 0 ≤ (0 : Int) := (by omega)
              have q12 : 0 < a1.size := (by have : (0 : Int) < (a1.size : Int) := of_decide_eq_true au12; omega)
              have hx12 : ∀ h : 0 < a1.size, ((a1[0]'h).toNat : Int) = bt a1 0 := bt_at a1 0
              clear p12
              have qi12 : (0 < (a1.size : Int)) = True := eq_true (of_decide_eq_true au12)
              replace q12 := eq_true q12
              go_wp2_with (first | ((with_reducible refine gate_builtin (b := .append) (xs := #[.tmp 30, .tmp 35]) rfl ?_); (try (refine gate_guard (by rfl) ?_; dsimp only)); at_builtin; refine Kd.R_append Kd.string (w0 := w) w.heap.size rfl (.tmp 30) (.tmp 35) 34 9 (.string ⟨#[]⟩) 16 rfl Try.underlying34 info9 rfl (by decide) (by omega) u6 x6_2 (a0.extract (x7_2 : Int).toNat (x8_2 : Int).toNat) [.string (a0.extract (x7_2 : Int).toNat (x8_2 : Int).toNat)] (fun _ => True) (fun _ => False) rfl rfl ?aP (fun _ hk => hk.elim) ?aF ?aO ?aB ?aS ?aL ?_; (case aP => exact rfl); (case aB => exact au5); (case aF => exact (fun _ _ => trivial)); (case aO => exact au10); (case aS => exact (below_size au5)); (case aL => have := LMc17.out; omega); intro v310 w18 ho hb hg hat; rw [← Ny309.out] at ho; have n0_ := Aside0.mk (hb); have n1_ := Aside0.mk (ho); clear HB; clear HO_6; have HB := n0_; have HO311 := n1_; clear n0_ n1_; clear ho hb hg hat))
              repeat (go_quiet (first | ((with_reducible refine gate_builtin (b := .append) (xs := #[.tmp 30, .tmp 35]) rfl ?_); (try (refine gate_guard (by rfl) ?_; dsimp only)); at_builtin; refine Kd.R_append Kd.string (w0 := w) w.heap.size rfl (.tmp 30) (.tmp 35) 34 9 (.string ⟨#[]⟩) 16 rfl Try.underlying34 info9 rfl (by decide) (by omega) u6 x6_2 (a0.extract (x7_2 : Int).toNat (x8_2 : Int).toNat) [.string (a0.extract (x7_2 : Int).toNat (x8_2 : Int).toNat)] (fun _ => True) (fun _ => False) rfl rfl ?aP (fun _ hk => hk.elim) ?aF ?aO ?aB ?aS ?aL ?_; (case aP => exact rfl); (case aB => exact au5); (case aF => exact (fun _ _ => trivial)); (case aO => exact au10); (case aS => exact (below_size au5)); (case aL => have := LMc17.out; omega); intro v310 w18 ho hb hg hat; rw [← Ny309.out] at ho; have n0_ := Aside0.mk (hb); have n1_ := Aside0.mk (ho); clear HB; clear HO_6; have HB := n0_; have HO311 := n1_; clear n0_ n1_; clear ho hb hg hat)); try go_wp2_with (first | ((with_reducible refine gate_builtin (b := .append) (xs := #[.tmp 30, .tmp 35]) rfl ?_); (try (refine gate_guard (by rfl) ?_; dsimp only)); at_builtin; refine Kd.R_append Kd.string (w0 := w) w.heap.size rfl (.tmp 30) (.tmp 35) 34 9 (.string ⟨#[]⟩) 16 rfl Try.underlying34 info9 rfl (by decide) (by omega) u6 x6_2 (a0.extract (x7_2 : Int).toNat (x8_2 : Int).toNat) [.string (a0.extract (x7_2 : Int).toNat (x8_2 : Int).toNat)] (fun _ => True) (fun _ => False) rfl rfl ?aP (fun _ hk => hk.elim) ?aF ?aO ?aB ?aS ?aL ?_; (case aP => exact rfl); (case aB => exact au5); (case aF => exact (fun _ _ => trivial)); (case aO => exact au10); (case aS => exact (below_size au5)); (case aL => have := LMc17.out; omega); intro v310 w18 ho hb hg hat; rw [← Ny309.out] at ho; have n0_ := Aside0.mk (hb); have n1_ := Aside0.mk (ho); clear HB; clear HO_6; have HB := n0_; have HO311 := n1_; clear n0_ n1_; clear ho hb hg hat)))
              go_roundg k2
              case measure => have := HJ2.out; have := HK2.out; omega
              case rel => exact ⟨(y309), (wrap64 (x8_2 + 1)), (wrap64 (x8_2 + 1)), au13, au13, H', ⟨by have := HJ2.out; have := HK2.out; omega⟩, ⟨by (with_reducible repeat (first | apply Kd.R_alloc | apply Kd.R_drewN | apply Kd.R_drew)); exact HO311.out⟩, ⟨by repeat (first | (with_reducible first | exact HB.out | apply below_alloc | apply pw_below_drewN | apply below_drew1) | exact HB.out)⟩⟩
             ·
              rw [if_neg c17] at H
              exact absurd H (by simp)
            ·
             rw [if_neg c16] at H
             exact absurd H (by simp)
           ·
            rw [if_neg c15] at H
            exact absurd H (by simp)
          ·
           rw [if_neg c14] at H
           exact absurd H (by simp)
         ·
          rw [if_neg c13] at H
          have c13b0 : ((bt a0 x8_2) == (bt a1 0)) = false := beq_eq_false_iff_ne.mpr c13
          have c13b1 : ((bt a0 x8_2) != (bt a1 0)) = true := bne_iff_ne.mpr c13
          have H' := Aside0.mk H
          clear H
          have p10 : 0 ≤ (x8_2 : Int) := of_decide_eq_true au12
          have q10 : x8_2 < (a0.size : Int) := of_decide_eq_true au12
          have hx10 := bt_at a0 x8_2
          replace p10 := eq_true p10
          replace q10 := eq_true q10
          have p12 : 0 ≤ (0 : Int) := (by omega)
          have q12 : 0 < a1.size := (by have : (0 : Int) < (a1.size : Int) := of_decide_eq_true au12; omega)
          have hx12 : ∀ h : 0 < a1.size, ((a1[0]'h).toNat : Int) = bt a1 0 := bt_at a1 0
          clear p12
          have qi12 : (0 < (a1.size : Int)) = True := eq_true (of_decide_eq_true au12)
          replace q12 := eq_true q12
          go_wp2
          repeat (go_quiet (fail); try go_wp2)
          go_roundg k2
          case measure => have := HJ2.out; have := HK2.out; omega
          case rel => exact ⟨(x6_2), (x7_2), (wrap64 (x8_2 + 1)), au13, au13, H', ⟨by have := HJ2.out; have := HK2.out; omega⟩, ⟨by (with_reducible repeat (first | apply Kd.R_alloc | apply Kd.R_drewN | apply Kd.R_drew)); exact HO_6.out⟩, ⟨by repeat (first | (with_reducible first | exact HB.out | apply below_alloc | apply pw_below_drewN | apply below_drew1) | exact HB.out)⟩⟩
        ·
         rw [if_neg c11] at H
         exact absurd H (by simp)
       ·
        rw [if_neg c9] at H
        exact absurd H (by simp)
      ·
       rw [if_neg c8] at H
       have c8b0 : decide (x8_2 < (a0.size : Int)) = false := decide_eq_false c8
       clear c8
       by_cases c19 : 0 ≤ x7_2
       ·
        rw [if_pos c19] at H
        have c19b0 := eq_true c19
        have c19b1 : decide (0 ≤ x7_2) = true := decide_eq_true c19
        clear c19
        by_cases c20 : x7_2 ≤ (a0.size : Int)
        ·
         rw [if_pos c20] at H
         have c20b0 := eq_true c20
         have c20b1 : decide (x7_2 ≤ (a0.size : Int)) = true := decide_eq_true c20
         clear c20
         by_cases c21 : x6_2.length < 8796093022208
         ·
          rw [if_pos c21] at H
          have LMc21 := Aside0.mk c21
          clear c21
          obtain ⟨y312, hy312⟩ : ∃ y_ : List ByteArray, y_ = (x6_2 ++ [a0.extract (x7_2 : Int).toNat a0.size]) := ⟨_, rfl⟩
          replace H : (some (y312, true)) = some (r1, r2) := by first | (rw [hy312]; with_reducible exact H) | (have H2_ := (Option.bind_some _ _).symm.trans H; rw [hy312]; with_reducible exact H2_) | (have H2_ := (Option.bind_some _ _).symm.trans H; with_reducible exact H2_) | with_reducible exact H | (rw [hy312]; exact H) | exact H
          have Ny312 := Aside0.mk hy312
          clear hy312
          simp only [Option.some.injEq, Prod.mk.injEq] at H
          obtain ⟨rfl, rfl⟩ := H
          go_wp2_with (first | ((with_reducible refine gate_builtin (b := .append) (xs := #[.tmp 39, .tmp 43]) rfl ?_); (try (refine gate_guard (by rfl) ?_; dsimp only)); at_builtin; refine Kd.R_append Kd.string (w0 := w) w.heap.size rfl (.tmp 39) (.tmp 43) 34 9 (.string ⟨#[]⟩) 16 rfl Try.underlying34 info9 rfl (by decide) (by omega) u6 x6_2 (a0.extract (x7_2 : Int).toNat a0.size) [.string (a0.extract (x7_2 : Int).toNat a0.size)] (fun _ => True) (fun _ => False) rfl rfl ?aP (fun _ hk => hk.elim) ?aF ?aO ?aB ?aS ?aL ?_; (case aP => exact rfl); (case aB => exact au5); (case aF => exact (fun _ _ => trivial)); (case aO => exact au10); (case aS => exact (below_size au5)); (case aL => have := LMc21.out; omega); intro v313 w22 ho hb hg hat; rw [← Ny312.out] at ho; have n0_ := Aside0.mk (hb); have n1_ := Aside0.mk (ho); clear HB; clear HO_6; have HB := n0_; have HO314 := n1_; clear n0_ n1_; clear ho hb hg hat))
          repeat (go_quiet (first | ((with_reducible refine gate_builtin (b := .append) (xs := #[.tmp 39, .tmp 43]) rfl ?_); (try (refine gate_guard (by rfl) ?_; dsimp only)); at_builtin; refine Kd.R_append Kd.string (w0 := w) w.heap.size rfl (.tmp 39) (.tmp 43) 34 9 (.string ⟨#[]⟩) 16 rfl Try.underlying34 info9 rfl (by decide) (by omega) u6 x6_2 (a0.extract (x7_2 : Int).toNat a0.size) [.string (a0.extract (x7_2 : Int).toNat a0.size)] (fun _ => True) (fun _ => False) rfl rfl ?aP (fun _ hk => hk.elim) ?aF ?aO ?aB ?aS ?aL ?_; (case aP => exact rfl); (case aB => exact au5); (case aF => exact (fun _ _ => trivial)); (case aO => exact au10); (case aS => exact (below_size au5)); (case aL => have := LMc21.out; omega); intro v313 w22 ho hb hg hat; rw [← Ny312.out] at ho; have n0_ := Aside0.mk (hb); have n1_ := Aside0.mk (ho); clear HB; clear HO_6; have HB := n0_; have HO314 := n1_; clear n0_ n1_; clear ho hb hg hat)); try go_wp2_with (first | ((with_reducible refine gate_builtin (b := .append) (xs := #[.tmp 39, .tmp 43]) rfl ?_); (try (refine gate_guard (by rfl) ?_; dsimp only)); at_builtin; refine Kd.R_append Kd.string (w0 := w) w.heap.size rfl (.tmp 39) (.tmp 43) 34 9 (.string ⟨#[]⟩) 16 rfl Try.underlying34 info9 rfl (by decide) (by omega) u6 x6_2 (a0.extract (x7_2 : Int).toNat a0.size) [.string (a0.extract (x7_2 : Int).toNat a0.size)] (fun _ => True) (fun _ => False) rfl rfl ?aP (fun _ hk => hk.elim) ?aF ?aO ?aB ?aS ?aL ?_; (case aP => exact rfl); (case aB => exact au5); (case aF => exact (fun _ _ => trivial)); (case aO => exact au10); (case aS => exact (below_size au5)); (case aL => have := LMc21.out; omega); intro v313 w22 ho hb hg hat; rw [← Ny312.out] at ho; have n0_ := Aside0.mk (hb); have n1_ := Aside0.mk (ho); clear HB; clear HO_6; have HB := n0_; have HO314 := n1_; clear n0_ n1_; clear ho hb hg hat)))
          go_ret2
          exact ⟨_, by first | rfl | (simp [errW_none, errW_some] <;> rfl) | (simp [*, errW_none, errW_some] <;> rfl), by (with_reducible repeat (first | apply Kd.R_alloc | apply Kd.R_drewN | apply Kd.R_drew)); exact HO314.out, by repeat (first | (with_reducible first | exact HB.out | apply below_alloc | apply pw_below_drewN | apply below_drew1) | exact HB.out)⟩
         ·
          rw [if_neg c21] at H
          exact absurd H (by simp)
        ·
         rw [if_neg c20] at H
         exact absurd H (by simp)
       ·
        rw [if_neg c19] at H
        exact absurd H (by simp)


/-! ### spec_l1Cur_one: function 27 -/
def spec_l1Cur_one.f (s0_0 : List Int) (s0_1 : Int) (s0_2 : Int) (a1 : Int) : Option (Bool × Int × Int) := (spec_l1Cur_pick.f s0_0 s0_1 s0_2 a1).bind fun bt108 => (some ((bt108.1 == 0), bt108.2.1, bt108.2.2))
set_option maxHeartbeats 8000000 in
set_option maxRecDepth 100000 in
theorem spec_l1Cur_one.calls (g : Nat) (s0_0 : List Int) (s0_1 : Int) (s0_2 : Int) (a1 : Int) (r1 : Bool) (r2 : Int) (r3 : Int) (w0 w : World) (hI : IsS47 w0 w g s0_0 s0_1 s0_2) (hB : Below w0.heap.size w0 w) (h : spec_l1Cur_one.f s0_0 s0_1 s0_2 a1 = some (r1, r2, r3)) :
  Calls Try.prog 27 #[.pointer (some ⟨g, 0, none⟩), .int .i64 a1] w fun e w' => e = .returned (.bool r1) ∧ IsS47 w0 w' g s0_0 r2 r3 ∧ Below w0.heap.size w0 w' ∧ KeepBut w w' g none := by
 have HI0 := Aside0.mk hI
 have HK := Aside0.mk (KeepBut.refl w g none)
 have HL := Aside0.mk hB.size
 clear hI
 have HW0 := Aside0.mk hB.size
 have HB := Aside0.mk hB
 clear hB
 have H : ((spec_l1Cur_pick.f s0_0 s0_1 s0_2 a1).bind fun bt108 => (some ((bt108.1 == 0), bt108.2.1, bt108.2.2))) = some (r1, r2, r3) := h
 clear h
 replace H := Option.bind_eq_some_iff.mp H
 obtain ⟨⟨t108, t109, t110⟩, A30, H⟩ := H
 replace H : (some ((t108 == 0), t109, t110)) = some (r1, r2, r3) := H
 have A3 := Aside0.mk A30
 clear A30
 simp only [Option.some.injEq, Prod.mk.injEq] at H
 obtain ⟨rfl, rfl, rfl⟩ := H
 go_enter Try.func27, Try.ntmps27
 go_wp2_with (first | ((with_reducible refine gate_callee (f := 26) rfl ?_); refine goesL_ (some 7) rfl rfl Try.func26 (by kernel_rfl) rfl #[.pointer (some ⟨g, 0, none⟩), .int .i64 a1] rfl au4 ?_; (with_reducible refine (spec_l1Cur_pick.calls g s0_0 s0_1 s0_2 a1 t108 t109 t110 w0 _ ?side1 ?side2 A3.out).mono ?_); (case side1 => repeat (first | (with_reducible first | exact HI0.out | apply IsS47.alloc | apply IsS47.drewN | apply IsS47.drew | apply IsS47.set_1 | apply IsS47.set_2) | exact HI0.out)); (case side2 => repeat (first | (with_reducible first | exact HB.out | apply below_alloc | apply pw_below_drewN | apply below_drew1 | refine below_set ?_ (IsS47.ge HI0.out)) | exact HB.out)); rintro e w4 ⟨rfl, hi, hb, hk⟩; refine ⟨_, rfl, ?_⟩; have n0_ := Aside0.mk (KeepBut.trans au3 hk (.inl rfl)); have n1_ := Aside0.mk (hb); have n2_ := Aside0.mk (hi); clear HK; clear HB; clear HI0; have HK := n0_; have HB := n1_; have HI0 := n2_; clear n0_ n1_ n2_; (try clear hb); (try clear hb2); (try clear hk); (try clear hi)))
 go_ret
 exact ax0


/-! ### spec_DrawJoinStrings: function 12 -/
def spec_DrawJoinStrings.l0 : Nat → List ByteArray → Int → Int → List Int → Int → Int → Option (List ByteArray × ByteArray)
 | 0, _, _, _, _, _, _ => none
 | k + 1, x5, x6, x7, x316000, x316001, x316002 => if x7 < x6 then ((spec_l1Cur_any1.f x316000 x316001 x316002).bind fun bt322 => (if x5.length < 8796093022208 then (spec_DrawJoinStrings.l0 k (x5 ++ [bt322.1]) x6 (wrap64 (x7 + 1)) x316000 bt322.2.1 bt322.2.2) else (none))) else ((spec_l1Cur_one.f x316000 x316001 x316002 20).bind fun bt328 => (if bt328.1 = true then ((spec_l1Cur_pick.f x316000 bt328.2.1 bt328.2.2 20).bind fun bt331 => (if 0 ≤ (wrap64 (3990 + bt331.1)) then (if (wrap64 (3990 + bt331.1) : Int).toNat ≤ 281474976710656 then (if x5.length < 8796093022208 then ((spec_l1Cur_of.f x316000 bt331.2.1 bt331.2.2 (([(⟨#[44]⟩ : ByteArray), (⟨#[59]⟩ : ByteArray), (⟨#[59]⟩ : ByteArray), (⟨#[]⟩ : ByteArray), (⟨#[97, 98]⟩ : ByteArray)] : List ByteArray))).bind fun bt343 => (some ((x5 ++ [strOfNums (List.replicate (wrap64 (3990 + bt331.1) : Int).toNat 0)]), bt343.1))) else (none)) else (none)) else (none))) else ((spec_l1Cur_of.f x316000 bt328.2.1 bt328.2.2 (([(⟨#[44]⟩ : ByteArray), (⟨#[59]⟩ : ByteArray), (⟨#[59]⟩ : ByteArray), (⟨#[]⟩ : ByteArray), (⟨#[97, 98]⟩ : ByteArray)] : List ByteArray))).bind fun bt349 => (some (x5, bt349.1)))))
def spec_DrawJoinStrings.f (k : Nat) (l0 : List Int) : Option (List ByteArray × ByteArray) := (spec_l1Cur_pick.f l0 0 0 4).bind fun bt319 => (spec_DrawJoinStrings.l0 k (([] : List ByteArray)) bt319.1 0 l0 bt319.2.1 bt319.2.2)
theorem spec_DrawJoinStrings.mono_l : ∀ k, (∀ y0 y1 y2 y3 y4 y5, LeO (spec_DrawJoinStrings.l0 k y0 y1 y2 y3 y4 y5) (spec_DrawJoinStrings.l0 (k + 1) y0 y1 y2 y3 y4 y5))
 | 0 => fun _ _ _ _ _ _ r h => by simp [spec_DrawJoinStrings.l0] at h
 | k + 1 => by
  have ih0 := spec_DrawJoinStrings.mono_l k
  ·
   intro y0 y1 y2 y3 y4 y5
   unfold spec_DrawJoinStrings.l0
   repeat' first
   | (with_reducible exact ih0 _ _ _ _ _ _)
   | (with_reducible exact LeO.refl _)
   | (with_reducible exact LeO.none _)
   | (with_reducible refine LeO.ite ?_ ?_)
   | (with_reducible refine LeO.bind ?_ (fun _ => ?_))
   | exact ih0 _ _ _ _ _ _
   | exact LeO.none _
   | refine LeO.ite ?_ ?_
   | refine LeO.bind ?_ (fun _ => ?_)
theorem spec_DrawJoinStrings.mono : ∀ a0 k, LeO (spec_DrawJoinStrings.f k a0) (spec_DrawJoinStrings.f (k + 1) a0) := by
 intro a0 k
 have ih0 := spec_DrawJoinStrings.mono_l k
 unfold spec_DrawJoinStrings.f
 repeat' first
   | (with_reducible exact ih0 _ _ _ _ _ _)
   | (with_reducible exact LeO.refl _)
   | (with_reducible exact LeO.none _)
   | (with_reducible refine LeO.ite ?_ ?_)
   | (with_reducible refine LeO.bind ?_ (fun _ => ?_))
   | exact ih0 _ _ _ _ _ _
   | exact LeO.none _
   | refine LeO.ite ?_ ?_
   | refine LeO.bind ?_ (fun _ => ?_)
set_option maxHeartbeats 8000000 in
set_option maxRecDepth 100000 in
theorem spec_DrawJoinStrings.calls (k : Nat) (A0 : Option Addr) (c0 : Nat) (l0 : List Int) (r1 : List ByteArray) (r2 : ByteArray) (w : World) (hr0 : Kd.C (Kd.int .u8) w A0 l0.length l0) (hc0 : l0.length ≤ c0) (h : spec_DrawJoinStrings.f k l0 = some (r1, r2)) :
  Calls Try.prog 12 #[.slice A0 l0.length c0] w fun e w' => ∃ v0_ : Value, e = .returned (.tuple #[v0_, .string r2]) ∧ Kd.R Kd.string 9 w' w.heap.size (fun _ => True) v0_ r1 ∧ Below w.heap.size w w' := by
 have hu47 := Try.underlying47
 have HR0 := Aside0.mk hr0
 have HC0 := Aside0.mk hc0
 clear hr0 hc0
 have HB := Aside0.mk (Below.refl w.heap.size w)
 have H : ((spec_l1Cur_pick.f l0 0 0 4).bind fun bt319 => (spec_DrawJoinStrings.l0 k (([] : List ByteArray)) bt319.1 0 l0 bt319.2.1 bt319.2.2)) = some (r1, r2) := h
 clear h
 obtain ⟨y316, hy316⟩ : ∃ y_ : List ByteArray, y_ = (([] : List ByteArray)) := ⟨_, rfl⟩
 replace H : ((spec_l1Cur_pick.f l0 0 0 4).bind fun bt319 => (spec_DrawJoinStrings.l0 k y316 bt319.1 0 l0 bt319.2.1 bt319.2.2)) = some (r1, r2) := by first | (rw [hy316]; with_reducible exact H) | (have H2_ := (Option.bind_some _ _).symm.trans H; rw [hy316]; with_reducible exact H2_) | (have H2_ := (Option.bind_some _ _).symm.trans H; with_reducible exact H2_) | with_reducible exact H | (rw [hy316]; exact H) | exact H
 have Ny316 := Aside0.mk hy316
 clear hy316
 replace H := Option.bind_eq_some_iff.mp H
 obtain ⟨⟨t319, t320, t321⟩, A20, H⟩ := H
 replace H : (spec_DrawJoinStrings.l0 k y316 t319 0 l0 t320 t321) = some (r1, r2) := H
 have A2 := Aside0.mk A20
 clear A20
 have H' := Aside0.mk H
 clear H
 go_enter Try.func12, Try.ntmps12
 go_wp2_with (first | ((with_reducible refine gate_dst (N := 10) rfl ?_); refine box_event ?hg (N := 10) ?hd (cs := #[.slice A0 l0.length c0, .int .i64 0, .int .u64 0]) (t := 47) ?hr ?_; (case hd => rfl); (case hg => rfl); (case hr => first | (go_simp; done) | (go_simp; rfl)); intro gb315 hg w3 hbox hb; have n0_ := Aside0.mk (below_step au5 hb); have n1_ := Aside0.mk ((show IsS47 w w3 gb315 l0 0 0 from ⟨_, _, hbox, by rw [hg]; exact (below_size au5), HR0.out⟩)); clear HB; have HB := n0_; have HI315 := n1_; clear n0_ n1_; clear hb hbox hg) | ((with_reducible refine gate_dst (N := 11) rfl ?_); refine Kd.R_lit Kd.string _ 9 ?hg (N := 11) ?hd (xs := ([] : List ByteArray)) (inner := []) (ok := fun _ => True) (okp := fun _ => True) ?hr ?hp (fun _ hk => hk) trivial (Below.refl _ _) (Nat.le_refl _) (by simp) ?_; (case hd => rfl); (case hg => rfl); (case hr => first | (go_simp; done) | (go_simp; rfl)); (case hp => exact (Reps.none _ _)); intro v317 w4 ho5 hb hg_ hnew_; clear hg_ hnew_; (first | rw [← Ny316.out] at ho5 | (simp only [Int.reduceToNat] at ho5; rw [← Ny316.out] at ho5)); have n0_ := Aside0.mk (Kd.R_lower ho5 (below_size au1)); have n1_ := Aside0.mk (IsS47.below au2 hb); have n2_ := Aside0.mk (below_step au1 hb); clear HI315; clear HB; have HO318 := n0_; have HI315 := n1_; have HB := n2_; clear n0_ n1_ n2_; clear hb ho5) | ((with_reducible refine gate_callee (f := 26) rfl ?_); refine goesL_ (some 13) rfl rfl Try.func26 (by kernel_rfl) rfl #[.pointer (some ⟨gb315, 0, none⟩), .int .i64 4] rfl au4 ?_; (with_reducible refine (spec_l1Cur_pick.calls gb315 l0 0 0 4 t319 t320 t321 w _ ?side1 ?side2 A2.out).mono ?_); (case side1 => repeat (first | (with_reducible first | exact HI315.out | apply IsS47.alloc | apply IsS47.drewN | apply IsS47.drew | apply IsS47.set_1 | apply IsS47.set_2) | exact HI315.out)); (case side2 => repeat (first | (with_reducible first | exact HB.out | apply below_alloc | apply pw_below_drewN | apply below_drew1 | refine below_set ?_ (IsS47.ge HI315.out)) | exact HB.out)); rintro e w6 ⟨rfl, hi, hb, hk⟩; refine ⟨_, rfl, ?_⟩; have n0_ := Aside0.mk (Kd.R_mono (Kd.R_keep (IsS47.apart (show IsS47 w _ gb315 l0 0 0 from by repeat (first | (with_reducible first | exact HI315.out | apply IsS47.alloc | apply IsS47.drewN | apply IsS47.drew | apply IsS47.set_1 | apply IsS47.set_2) | exact HI315.out)) (by (with_reducible repeat (first | apply Kd.R_alloc | apply Kd.R_drewN | apply Kd.R_drew)); exact HO318.out) (by decide)) hk (fun _ h => h.2)) (fun _ h => h.1)); have n1_ := Aside0.mk (hb); have n2_ := Aside0.mk (hi); clear HO318; clear HB; clear HI315; have HO318 := n0_; have HB := n1_; have HI315 := n2_; clear n0_ n1_ n2_; (try clear hb); (try clear hb2); (try clear hk); (try clear hi)))
 go_loopg [5, 7] k (fun kq v5 v7 w' => ∃ (x5_1 : List ByteArray) (x7_1 : Int) (x316001_1 : Int) (x316002_1 : Int), v7 = .int .i64 x7_1 ∧ Aside0 (spec_DrawJoinStrings.l0 kq x5_1 t319 x7_1 l0 x316001_1 x316002_1 = some (r1, r2)) ∧ Aside0 (kq ≤ k) ∧ Aside0 (Kd.R Kd.string 9 w' w.heap.size (fun _ => True) v5 x5_1) ∧ Aside0 (IsS47 w w' gb315 l0 x316001_1 x316002_1) ∧ Aside0 (Below w.heap.size w w'))
 case atStart => exact ⟨(y316), (0), (t320), (t321), au13, H', ⟨Nat.le_refl _⟩, ⟨by (with_reducible repeat (first | apply Kd.R_alloc | apply Kd.R_drewN | apply Kd.R_drew)); exact HO318.out⟩, ⟨by repeat (first | (with_reducible first | exact HI315.out | apply IsS47.alloc | apply IsS47.drewN | apply IsS47.drew | apply IsS47.set_1 | apply IsS47.set_2) | exact HI315.out)⟩, ⟨by repeat (first | (with_reducible first | exact HB.out | apply below_alloc | apply pw_below_drewN | apply below_drew1 | refine below_set ?_ (IsS47.ge HI315.out)) | exact HB.out)⟩⟩
 case round =>
  clear H'
  try clear c1
  try clear c2
  try clear p2
  obtain ⟨x5_1, x7_1, x316001_1, x316002_1, rfl, HA, HK1, HO_5, HI315, HB⟩ := hrel
  cases gk with
  | zero => exact absurd HA.out (by simp [spec_DrawJoinStrings.l0])
  | succ k1 =>
   have H := HA.out
   clear HA
   simp only [spec_DrawJoinStrings.l0] at H
   by_cases c7 : x7_1 < t319
   ·
    rw [if_pos c7] at H
    have c7b0 : decide (x7_1 < t319) = true := decide_eq_true c7
    clear c7
    replace H := Option.bind_eq_some_iff.mp H
    obtain ⟨⟨t322, t323, t324⟩, A80, H⟩ := H
    replace H : (if x5_1.length < 8796093022208 then (spec_DrawJoinStrings.l0 k1 (x5_1 ++ [t322]) t319 (wrap64 (x7_1 + 1)) l0 t323 t324) else (none)) = some (r1, r2) := H
    have A8 := Aside0.mk A80
    clear A80
    by_cases c9 : x5_1.length < 8796093022208
    ·
     rw [if_pos c9] at H
     have LMc9 := Aside0.mk c9
     clear c9
     obtain ⟨y325, hy325⟩ : ∃ y_ : List ByteArray, y_ = (x5_1 ++ [t322]) := ⟨_, rfl⟩
     replace H : (spec_DrawJoinStrings.l0 k1 y325 t319 (wrap64 (x7_1 + 1)) l0 t323 t324) = some (r1, r2) := by first | (rw [hy325]; with_reducible exact H) | (have H2_ := (Option.bind_some _ _).symm.trans H; rw [hy325]; with_reducible exact H2_) | (have H2_ := (Option.bind_some _ _).symm.trans H; with_reducible exact H2_) | with_reducible exact H | (rw [hy325]; exact H) | exact H
     have Ny325 := Aside0.mk hy325
     clear hy325
     have H' := Aside0.mk H
     clear H
     go_wp2_with (first | ((with_reducible refine gate_callee (f := 24) rfl ?_); refine goesL_ (some 21) rfl rfl Try.func24 (by kernel_rfl) rfl #[.pointer (some ⟨gb315, 0, none⟩)] rfl au4 ?_; (with_reducible refine (spec_l1Cur_any1.calls gb315 l0 x316001_1 x316002_1 t322 t323 t324 w _ ?side1 ?side2 A8.out).mono ?_); (case side1 => repeat (first | (with_reducible first | exact HI315.out | apply IsS47.alloc | apply IsS47.drewN | apply IsS47.drew | apply IsS47.set_1 | apply IsS47.set_2) | exact HI315.out)); (case side2 => repeat (first | (with_reducible first | exact HB.out | apply below_alloc | apply pw_below_drewN | apply below_drew1 | refine below_set ?_ (IsS47.ge HI315.out)) | exact HB.out)); rintro e w10 ⟨rfl, hi, hb, hk⟩; refine ⟨_, rfl, ?_⟩; have n0_ := Aside0.mk (Kd.R_mono (Kd.R_keep (IsS47.apart (show IsS47 w _ gb315 l0 x316001_1 x316002_1 from by repeat (first | (with_reducible first | exact HI315.out | apply IsS47.alloc | apply IsS47.drewN | apply IsS47.drew | apply IsS47.set_1 | apply IsS47.set_2) | exact HI315.out)) au11 (by decide)) hk (fun _ h => h.2)) (fun _ h => h.1)); have n1_ := Aside0.mk (hb); have n2_ := Aside0.mk (hi); clear HO_5; clear HB; clear HI315; have HO_5 := n0_; have HB := n1_; have HI315 := n2_; clear n0_ n1_ n2_; (try clear hb); (try clear hb2); (try clear hk); (try clear hi)) | ((with_reducible refine gate_builtin (b := .append) (xs := #[.tmp 19, .tmp 22]) rfl ?_); at_builtin; refine Kd.R_append Kd.string (w0 := w) w.heap.size rfl (.tmp 19) (.tmp 22) 34 9 (.string ⟨#[]⟩) 16 rfl Try.underlying34 info9 rfl (by decide) (by omega) u5 x5_1 t322 [.string t322] (fun _ => True) (fun _ => False) rfl rfl ?aP (fun _ hk => hk.elim) ?aF ?aO ?aB ?aS ?aL ?_; (case aP => exact rfl); (case aB => exact au1); (case aF => exact (fun _ _ => trivial)); (case aO => exact au11); (case aS => exact (below_size au1)); (case aL => have := LMc9.out; omega); intro v326 w11 ho hb hg hat; rw [← Ny325.out] at ho; have n0_ := Aside0.mk (IsS47.grown au2 hg (IsS47.own_ne HI315.out HO_5.out (by decide))); have n1_ := Aside0.mk (hb); have n2_ := Aside0.mk (ho); clear HI315; clear HB; clear HO_5; have HI315 := n0_; have HB := n1_; have HO327 := n2_; clear n0_ n1_ n2_; clear ho hb hg hat))
     go_roundg k1
     case measure => have := HK1.out; omega
     case rel => exact ⟨(y325), (wrap64 (x7_1 + 1)), (t323), (t324), au13, H', ⟨by have := HK1.out; omega⟩, ⟨by (with_reducible repeat (first | apply Kd.R_alloc | apply Kd.R_drewN | apply Kd.R_drew)); exact HO327.out⟩, ⟨by repeat (first | (with_reducible first | exact HI315.out | apply IsS47.alloc | apply IsS47.drewN | apply IsS47.drew | apply IsS47.set_1 | apply IsS47.set_2) | exact HI315.out)⟩, ⟨by repeat (first | (with_reducible first | exact HB.out | apply below_alloc | apply pw_below_drewN | apply below_drew1 | refine below_set ?_ (IsS47.ge HI315.out)) | exact HB.out)⟩⟩
    ·
     rw [if_neg c9] at H
     exact absurd H (by simp)
   ·
    rw [if_neg c7] at H
    have c7b0 : decide (x7_1 < t319) = false := decide_eq_false c7
    clear c7
    replace H := Option.bind_eq_some_iff.mp H
    obtain ⟨⟨t328, t329, t330⟩, A120, H⟩ := H
    replace H : (if t328 = true then ((spec_l1Cur_pick.f l0 t329 t330 20).bind fun bt331 => (if 0 ≤ (wrap64 (3990 + bt331.1)) then (if (wrap64 (3990 + bt331.1) : Int).toNat ≤ 281474976710656 then (if x5_1.length < 8796093022208 then ((spec_l1Cur_of.f l0 bt331.2.1 bt331.2.2 (([(⟨#[44]⟩ : ByteArray), (⟨#[59]⟩ : ByteArray), (⟨#[59]⟩ : ByteArray), (⟨#[]⟩ : ByteArray), (⟨#[97, 98]⟩ : ByteArray)] : List ByteArray))).bind fun bt343 => (some ((x5_1 ++ [strOfNums (List.replicate (wrap64 (3990 + bt331.1) : Int).toNat 0)]), bt343.1))) else (none)) else (none)) else (none))) else ((spec_l1Cur_of.f l0 t329 t330 (([(⟨#[44]⟩ : ByteArray), (⟨#[59]⟩ : ByteArray), (⟨#[59]⟩ : ByteArray), (⟨#[]⟩ : ByteArray), (⟨#[97, 98]⟩ : ByteArray)] : List ByteArray))).bind fun bt349 => (some (x5_1, bt349.1)))) = some (r1, r2) := H
    have A12 := Aside0.mk A120
    clear A120
    by_cases c13 : t328 = true
    ·
     subst c13
     replace H := (if_pos rfl).symm.trans H
     replace H := Option.bind_eq_some_iff.mp H
     obtain ⟨⟨t331, t332, t333⟩, A140, H⟩ := H
     replace H : (if 0 ≤ (wrap64 (3990 + t331)) then (if (wrap64 (3990 + t331) : Int).toNat ≤ 281474976710656 then (if x5_1.length < 8796093022208 then ((spec_l1Cur_of.f l0 t332 t333 (([(⟨#[44]⟩ : ByteArray), (⟨#[59]⟩ : ByteArray), (⟨#[59]⟩ : ByteArray), (⟨#[]⟩ : ByteArray), (⟨#[97, 98]⟩ : ByteArray)] : List ByteArray))).bind fun bt343 => (some ((x5_1 ++ [strOfNums (List.replicate (wrap64 (3990 + t331) : Int).toNat 0)]), bt343.1))) else (none)) else (none)) else (none)) = some (r1, r2) := H
     have A14 := Aside0.mk A140
     clear A140
     obtain ⟨ji15, hji15⟩ : ∃ j_ : Int, (wrap64 (3990 + t331)) = j_ := ⟨_, rfl⟩
     replace H : (if 0 ≤ (ji15) then (if (ji15 : Int).toNat ≤ 281474976710656 then (if x5_1.length < 8796093022208 then ((spec_l1Cur_of.f l0 t332 t333 (([(⟨#[44]⟩ : ByteArray), (⟨#[59]⟩ : ByteArray), (⟨#[59]⟩ : ByteArray), (⟨#[]⟩ : ByteArray), (⟨#[97, 98]⟩ : ByteArray)] : List ByteArray))).bind fun bt343 => (some ((x5_1 ++ [strOfNums (List.replicate (ji15 : Int).toNat 0)]), bt343.1))) else (none)) else (none)) else (none)) = some (r1, r2) := by first | (rw [hji15] at H; exact H) | (simp only [hji15] at H ⊢; exact H)
     (try rw [hji15] at A12)
     (try rw [hji15] at A14)
     have hji15w : (IntKind.i64.wrap (3990 + t331)) = ji15 := (i64_w _).trans hji15
     by_cases c16 : 0 ≤ (ji15)
     ·
      rw [if_pos c16] at H
      have c16b0 := eq_true c16
      have c16b1 : decide (0 ≤ (ji15)) = true := decide_eq_true c16
      clear c16
      by_cases c17 : (ji15 : Int).toNat ≤ 281474976710656
      ·
       rw [if_pos c17] at H
       have c17b0 := eq_true c17
       have c17b1 : decide ((ji15 : Int).toNat ≤ 281474976710656) = true := decide_eq_true c17
       clear c17
       obtain ⟨y334, hy334⟩ : ∃ y_ : List Int, y_ = (List.replicate (ji15 : Int).toNat 0) := ⟨_, rfl⟩
       replace H : (if x5_1.length < 8796093022208 then ((spec_l1Cur_of.f l0 t332 t333 (([(⟨#[44]⟩ : ByteArray), (⟨#[59]⟩ : ByteArray), (⟨#[59]⟩ : ByteArray), (⟨#[]⟩ : ByteArray), (⟨#[97, 98]⟩ : ByteArray)] : List ByteArray))).bind fun bt343 => (some ((x5_1 ++ [strOfNums y334]), bt343.1))) else (none)) = some (r1, r2) := by first | (rw [hy334]; with_reducible exact H) | (have H2_ := (Option.bind_some _ _).symm.trans H; rw [hy334]; with_reducible exact H2_) | (have H2_ := (Option.bind_some _ _).symm.trans H; with_reducible exact H2_) | with_reducible exact H | (rw [hy334]; exact H) | exact H
       have Ny334 := Aside0.mk hy334
       clear hy334
       by_cases c18 : x5_1.length < 8796093022208
       ·
        rw [if_pos c18] at H
        have LMc18 := Aside0.mk c18
        clear c18
        obtain ⟨y337, hy337⟩ : ∃ y_ : List ByteArray, y_ = (x5_1 ++ [strOfNums y334]) := ⟨_, rfl⟩
        replace H : ((spec_l1Cur_of.f l0 t332 t333 (([(⟨#[44]⟩ : ByteArray), (⟨#[59]⟩ : ByteArray), (⟨#[59]⟩ : ByteArray), (⟨#[]⟩ : ByteArray), (⟨#[97, 98]⟩ : ByteArray)] : List ByteArray))).bind fun bt343 => (some (y337, bt343.1))) = some (r1, r2) := by first | (rw [hy337]; with_reducible exact H) | (have H2_ := (Option.bind_some _ _).symm.trans H; rw [hy337]; with_reducible exact H2_) | (have H2_ := (Option.bind_some _ _).symm.trans H; with_reducible exact H2_) | with_reducible exact H | (rw [hy337]; exact H) | exact H
        have Ny337 := Aside0.mk hy337
        clear hy337
        obtain ⟨y340, hy340⟩ : ∃ y_ : List ByteArray, y_ = (([(⟨#[44]⟩ : ByteArray), (⟨#[59]⟩ : ByteArray), (⟨#[59]⟩ : ByteArray), (⟨#[]⟩ : ByteArray), (⟨#[97, 98]⟩ : ByteArray)] : List ByteArray)) := ⟨_, rfl⟩
        replace H : ((spec_l1Cur_of.f l0 t332 t333 y340).bind fun bt343 => (some (y337, bt343.1))) = some (r1, r2) := by first | (rw [hy340]; with_reducible exact H) | (have H2_ := (Option.bind_some _ _).symm.trans H; rw [hy340]; with_reducible exact H2_) | (have H2_ := (Option.bind_some _ _).symm.trans H; with_reducible exact H2_) | with_reducible exact H | (rw [hy340]; exact H) | exact H
        have Ny340 := Aside0.mk hy340
        clear hy340
        replace H := Option.bind_eq_some_iff.mp H
        obtain ⟨⟨t343, t344, t345⟩, A190, H⟩ := H
        replace H : (some (y337, t343)) = some (r1, r2) := H
        have A19 := Aside0.mk A190
        clear A190
        simp only [Option.some.injEq, Prod.mk.injEq] at H
        obtain ⟨rfl, rfl⟩ := H
        go_wp2_with (first | ((with_reducible refine gate_callee (f := 27) rfl ?_); refine goesL_ (some 25) rfl rfl Try.func27 (by kernel_rfl) rfl #[.pointer (some ⟨gb315, 0, none⟩), .int .i64 20] rfl au4 ?_; (with_reducible refine (spec_l1Cur_one.calls gb315 l0 x316001_1 x316002_1 20 true t329 t330 w _ ?side1 ?side2 A12.out).mono ?_); (case side1 => repeat (first | (with_reducible first | exact HI315.out | apply IsS47.alloc | apply IsS47.drewN | apply IsS47.drew | apply IsS47.set_1 | apply IsS47.set_2) | exact HI315.out)); (case side2 => repeat (first | (with_reducible first | exact HB.out | apply below_alloc | apply pw_below_drewN | apply below_drew1 | refine below_set ?_ (IsS47.ge HI315.out)) | exact HB.out)); rintro e w20 ⟨rfl, hi, hb, hk⟩; refine ⟨_, rfl, ?_⟩; have n0_ := Aside0.mk (Kd.R_mono (Kd.R_keep (IsS47.apart (show IsS47 w _ gb315 l0 x316001_1 x316002_1 from by repeat (first | (with_reducible first | exact HI315.out | apply IsS47.alloc | apply IsS47.drewN | apply IsS47.drew | apply IsS47.set_1 | apply IsS47.set_2) | exact HI315.out)) au11 (by decide)) hk (fun _ h => h.2)) (fun _ h => h.1)); have n1_ := Aside0.mk (hb); have n2_ := Aside0.mk (hi); clear HO_5; clear HB; clear HI315; have HO_5 := n0_; have HB := n1_; have HI315 := n2_; clear n0_ n1_ n2_; (try clear hb); (try clear hb2); (try clear hk); (try clear hi)) | ((with_reducible refine gate_callee (f := 26) rfl ?_); refine goesL_ (some 28) rfl rfl Try.func26 (by kernel_rfl) rfl #[.pointer (some ⟨gb315, 0, none⟩), .int .i64 20] rfl au4 ?_; (with_reducible refine (spec_l1Cur_pick.calls gb315 l0 t329 t330 20 t331 t332 t333 w _ ?side1 ?side2 A14.out).mono ?_); (case side1 => repeat (first | (with_reducible first | exact HI315.out | apply IsS47.alloc | apply IsS47.drewN | apply IsS47.drew | apply IsS47.set_1 | apply IsS47.set_2) | exact HI315.out)); (case side2 => repeat (first | (with_reducible first | exact HB.out | apply below_alloc | apply pw_below_drewN | apply below_drew1 | refine below_set ?_ (IsS47.ge HI315.out)) | exact HB.out)); rintro e w21 ⟨rfl, hi, hb, hk⟩; refine ⟨_, rfl, ?_⟩; have n0_ := Aside0.mk (Kd.R_mono (Kd.R_keep (IsS47.apart (show IsS47 w _ gb315 l0 t329 t330 from by repeat (first | (with_reducible first | exact HI315.out | apply IsS47.alloc | apply IsS47.drewN | apply IsS47.drew | apply IsS47.set_1 | apply IsS47.set_2) | exact HI315.out)) au11 (by decide)) hk (fun _ h => h.2)) (fun _ h => h.1)); have n1_ := Aside0.mk (hb); have n2_ := Aside0.mk (hi); clear HO_5; clear HB; clear HI315; have HO_5 := n0_; have HB := n1_; have HI315 := n2_; clear n0_ n1_ n2_; (try clear hb); (try clear hb2); (try clear hk); (try clear hi)) | ((with_reducible refine gate_dst (N := 30) rfl ?_); refine Kd.R_make (Kd.int .u8) _ 5 rfl (N := 30) rfl 22 _ _ rfl ji15 rfl rfl Try.underlying22 (.int .u8 0) 1 info5 rfl (by decide) (by omega) 0 (ok := fun _ => True) (okp := fun _ => True) rfl (fun _ hk => hk) trivial (of_decide_eq_true au12) (Nat.le_trans (Nat.mul_le_mul_right _ (of_decide_eq_true au12 : ji15.toNat ≤ 281474976710656)) (by omega)) (Below.refl _ _) (Nat.le_refl _) ?_; intro v335 w22 ho23 hb hg_ hnew_; clear hg_ hnew_; (first | rw [← Ny334.out] at ho23 | (simp only [Int.reduceToNat] at ho23; rw [← Ny334.out] at ho23)); have n0_ := Aside0.mk (Kd.R_below au11 hb); have n1_ := Aside0.mk (Kd.R_lower ho23 (below_size au1)); have n2_ := Aside0.mk (IsS47.below au2 hb); have n3_ := Aside0.mk (below_step au1 hb); clear HO_5; clear HI315; clear HB; have HO_5 := n0_; have HO336 := n1_; have HI315 := n2_; have HB := n3_; clear n0_ n1_ n2_ n3_; clear hb ho23; have hcv24 := own_string (P := Try.prog) Try.underlying22 Try.underlying5 Try.underlying9 (Kd.own_of_R HO336.out)) | ((with_reducible refine gate_builtin (b := .append) (xs := #[.tmp 26, .tmp 32]) rfl ?_); at_builtin; refine Kd.R_append Kd.string (w0 := w) w.heap.size rfl (.tmp 26) (.tmp 32) 34 9 (.string ⟨#[]⟩) 16 rfl Try.underlying34 info9 rfl (by decide) (by omega) u5 x5_1 (strOfNums y334) [.string (strOfNums y334)] (fun _ => True) (fun _ => False) rfl rfl ?aP (fun _ hk => hk.elim) ?aF ?aO ?aB ?aS ?aL ?_; (case aP => exact rfl); (case aB => exact au1); (case aF => exact (fun _ _ => trivial)); (case aO => exact au11); (case aS => exact (below_size au1)); (case aL => have := LMc18.out; omega); intro v338 w25 ho hb hg hat; rw [← Ny337.out] at ho; have n0_ := Aside0.mk (IsS47.grown au2 hg (IsS47.own_ne HI315.out HO_5.out (by decide))); have n1_ := Aside0.mk (Kd.R_over' au6 (Kd.R_typed au11) (by decide) hg); have n2_ := Aside0.mk (hb); have n3_ := Aside0.mk (ho); clear HI315; clear HO336; clear HB; clear HO_5; have HI315 := n0_; have HO336 := n1_; have HB := n2_; have HO339 := n3_; clear n0_ n1_ n2_ n3_; clear ho hb hg hat) | ((with_reducible refine gate_dst (N := 36) rfl ?_); refine Kd.R_lit Kd.string _ 9 ?hg (N := 36) ?hd (xs := ([(⟨#[44]⟩ : ByteArray), (⟨#[59]⟩ : ByteArray), (⟨#[59]⟩ : ByteArray), (⟨#[]⟩ : ByteArray), (⟨#[97, 98]⟩ : ByteArray)] : List ByteArray)) (inner := [.string (⟨#[44]⟩ : ByteArray), .string (⟨#[59]⟩ : ByteArray), .string (⟨#[59]⟩ : ByteArray), .string (⟨#[]⟩ : ByteArray), .string (⟨#[97, 98]⟩ : ByteArray)]) (ok := fun _ => True) (okp := fun _ => True) ?hr ?hp (fun _ hk => hk) trivial (Below.refl _ _) (Nat.le_refl _) (by simp) ?_; (case hd => rfl); (case hg => rfl); (case hr => first | (go_simp; done) | (go_simp; rfl)); (case hp => exact (Reps.one (show Kd.M Kd.string _ _ _ (⟨#[44]⟩ : ByteArray) [.string (⟨#[44]⟩ : ByteArray)] from rfl) (Reps.one (show Kd.M Kd.string _ _ _ (⟨#[59]⟩ : ByteArray) [.string (⟨#[59]⟩ : ByteArray)] from rfl) (Reps.one (show Kd.M Kd.string _ _ _ (⟨#[59]⟩ : ByteArray) [.string (⟨#[59]⟩ : ByteArray)] from rfl) (Reps.one (show Kd.M Kd.string _ _ _ (⟨#[]⟩ : ByteArray) [.string (⟨#[]⟩ : ByteArray)] from rfl) (Reps.one (show Kd.M Kd.string _ _ _ (⟨#[97, 98]⟩ : ByteArray) [.string (⟨#[97, 98]⟩ : ByteArray)] from rfl) (Reps.none _ _))))))); intro v341 w26 ho27 hb hg_ hnew_; clear hg_ hnew_; (first | rw [← Ny340.out] at ho27 | (simp only [Int.reduceToNat] at ho27; rw [← Ny340.out] at ho27)); have n0_ := Aside0.mk (Kd.R_below au6 hb); have n1_ := Aside0.mk (Kd.R_elder' au7 (Kd.R_base ho27) hb); have n2_ := Aside0.mk (Kd.R_lower (Kd.R_new' ho27 (Kd.R_lt au7)) (below_size au1)); have n3_ := Aside0.mk (IsS47.below au2 hb); have n4_ := Aside0.mk (below_step au1 hb); clear HO336; clear HO339; clear HI315; clear HB; have HO336 := n0_; have HO339 := n1_; have HO342 := n2_; have HI315 := n3_; have HB := n4_; clear n0_ n1_ n2_ n3_ n4_; clear hb ho27; obtain ⟨Ao28, co28, eo28⟩ := Kd.R_slice HO342.out; subst eo28) | ((with_reducible refine gate_callee (f := 25) rfl ?_); refine goesL_ (some 37) rfl rfl Try.func25 (by kernel_rfl) rfl #[.pointer (some ⟨gb315, 0, none⟩), .slice Ao28 y340.length co28] rfl au4 ?_; (with_reducible refine (spec_l1Cur_of.calls gb315 l0 t332 t333 _ _ y340 t343 t344 t345 w _ ?side1 ?side2 ?side3 ?side4 ?side5 A19.out).mono ?_); (case side1 => repeat (first | (with_reducible first | exact HI315.out | apply IsS47.alloc | apply IsS47.drewN | apply IsS47.drew | apply IsS47.set_1 | apply IsS47.set_2) | exact HI315.out)); (case side2 => repeat (first | (with_reducible first | exact HB.out | apply below_alloc | apply pw_below_drewN | apply below_drew1 | refine below_set ?_ (IsS47.ge HI315.out)) | exact HB.out)); (case side3 => repeat (first | exact (Kd.R_reads' HO342.out).2.2 | (with_reducible refine Kd.C_alloc ?_ _) | (with_reducible refine Kd.C_drewN ?_ _) | (with_reducible refine Kd.C_drew ?_))); (case side4 => exact (Kd.R_reads' HO342.out).2.1); (case side5 => exact far_slice (IsS47.own_ne HI315.out HO342.out (by decide))); rintro e w29 ⟨rfl, hi, hb, hk⟩; refine ⟨_, rfl, ?_⟩; have n0_ := Aside0.mk (Kd.R_mono (Kd.R_keep (IsS47.apart (show IsS47 w _ gb315 l0 t332 t333 from by repeat (first | (with_reducible first | exact HI315.out | apply IsS47.alloc | apply IsS47.drewN | apply IsS47.drew | apply IsS47.set_1 | apply IsS47.set_2) | exact HI315.out)) au6 (by decide)) hk (fun _ h => h.2)) (fun _ h => h.1)); have n1_ := Aside0.mk (Kd.R_mono (Kd.R_keep (IsS47.apart (show IsS47 w _ gb315 l0 t332 t333 from by repeat (first | (with_reducible first | exact HI315.out | apply IsS47.alloc | apply IsS47.drewN | apply IsS47.drew | apply IsS47.set_1 | apply IsS47.set_2) | exact HI315.out)) au7 (by decide)) hk (fun _ h => h.2)) (fun _ h => h.1)); have n2_ := Aside0.mk (Kd.R_mono (Kd.R_keep (IsS47.apart (show IsS47 w _ gb315 l0 t332 t333 from by repeat (first | (with_reducible first | exact HI315.out | apply IsS47.alloc | apply IsS47.drewN | apply IsS47.drew | apply IsS47.set_1 | apply IsS47.set_2) | exact HI315.out)) (by (with_reducible repeat (first | apply Kd.R_alloc | apply Kd.R_drewN | apply Kd.R_drew)); exact HO342.out) (by decide)) hk (fun _ h => h.2)) (fun _ h => h.1)); have n3_ := Aside0.mk (hb); have n4_ := Aside0.mk (hi); clear HO336; clear HO339; clear HO342; clear HB; clear HI315; have HO336 := n0_; have HO339 := n1_; have HO342 := n2_; have HB := n3_; have HI315 := n4_; clear n0_ n1_ n2_ n3_ n4_; (try clear hb); (try clear hb2); (try clear hk); (try clear hi)))
        go_ret2
        exact ⟨_, by first | rfl | (simp [errW_none, errW_some] <;> rfl) | (simp only [← hji15]; first | rfl | (simp [errW_none, errW_some] <;> rfl)) | (simp [*, errW_none, errW_some] <;> rfl), by (with_reducible repeat (first | apply Kd.R_alloc | apply Kd.R_drewN | apply Kd.R_drew)); exact Kd.R_mono HO339.out (fun _ hk => trivial), by repeat (first | (with_reducible first | exact HB.out | apply below_alloc | apply pw_below_drewN | apply below_drew1 | refine below_set ?_ (IsS47.ge HI315.out)) | exact HB.out)⟩
       ·
        rw [if_neg c18] at H
        exact absurd H (by simp)
      ·
       rw [if_neg c17] at H
       exact absurd H (by simp)
     ·
      rw [if_neg c16] at H
      exact absurd H (by simp)
    ·
     replace c13 := Bool.eq_false_iff.mpr c13
     subst c13
     replace H := (if_neg (show ¬ (false = true) by decide)).symm.trans H
     obtain ⟨y346, hy346⟩ : ∃ y_ : List ByteArray, y_ = (([(⟨#[44]⟩ : ByteArray), (⟨#[59]⟩ : ByteArray), (⟨#[59]⟩ : ByteArray), (⟨#[]⟩ : ByteArray), (⟨#[97, 98]⟩ : ByteArray)] : List ByteArray)) := ⟨_, rfl⟩
     replace H : ((spec_l1Cur_of.f l0 t329 t330 y346).bind fun bt349 => (some (x5_1, bt349.1))) = some (r1, r2) := by first | (rw [hy346]; with_reducible exact H) | (have H2_ := (Option.bind_some _ _).symm.trans H; rw [hy346]; with_reducible exact H2_) | (have H2_ := (Option.bind_some _ _).symm.trans H; with_reducible exact H2_) | with_reducible exact H | (rw [hy346]; exact H) | exact H
     have Ny346 := Aside0.mk hy346
     clear hy346
     replace H := Option.bind_eq_some_iff.mp H
     obtain ⟨⟨t349, t350, t351⟩, A300, H⟩ := H
     replace H : (some (x5_1, t349)) = some (r1, r2) := H
     have A30 := Aside0.mk A300
     clear A300
     simp only [Option.some.injEq, Prod.mk.injEq] at H
     obtain ⟨rfl, rfl⟩ := H
     go_wp2_with (first | ((with_reducible refine gate_callee (f := 27) rfl ?_); refine goesL_ (some 25) rfl rfl Try.func27 (by kernel_rfl) rfl #[.pointer (some ⟨gb315, 0, none⟩), .int .i64 20] rfl au4 ?_; (with_reducible refine (spec_l1Cur_one.calls gb315 l0 x316001_1 x316002_1 20 false t329 t330 w _ ?side1 ?side2 A12.out).mono ?_); (case side1 => repeat (first | (with_reducible first | exact HI315.out | apply IsS47.alloc | apply IsS47.drewN | apply IsS47.drew | apply IsS47.set_1 | apply IsS47.set_2) | exact HI315.out)); (case side2 => repeat (first | (with_reducible first | exact HB.out | apply below_alloc | apply pw_below_drewN | apply below_drew1 | refine below_set ?_ (IsS47.ge HI315.out)) | exact HB.out)); rintro e w31 ⟨rfl, hi, hb, hk⟩; refine ⟨_, rfl, ?_⟩; have n0_ := Aside0.mk (Kd.R_mono (Kd.R_keep (IsS47.apart (show IsS47 w _ gb315 l0 x316001_1 x316002_1 from by repeat (first | (with_reducible first | exact HI315.out | apply IsS47.alloc | apply IsS47.drewN | apply IsS47.drew | apply IsS47.set_1 | apply IsS47.set_2) | exact HI315.out)) au11 (by decide)) hk (fun _ h => h.2)) (fun _ h => h.1)); have n1_ := Aside0.mk (hb); have n2_ := Aside0.mk (hi); clear HO_5; clear HB; clear HI315; have HO_5 := n0_; have HB := n1_; have HI315 := n2_; clear n0_ n1_ n2_; (try clear hb); (try clear hb2); (try clear hk); (try clear hi)) | ((with_reducible refine gate_dst (N := 36) rfl ?_); refine Kd.R_lit Kd.string _ 9 ?hg (N := 36) ?hd (xs := ([(⟨#[44]⟩ : ByteArray), (⟨#[59]⟩ : ByteArray), (⟨#[59]⟩ : ByteArray), (⟨#[]⟩ : ByteArray), (⟨#[97, 98]⟩ : ByteArray)] : List ByteArray)) (inner := [.string (⟨#[44]⟩ : ByteArray), .string (⟨#[59]⟩ : ByteArray), .string (⟨#[59]⟩ : ByteArray), .string (⟨#[]⟩ : ByteArray), .string (⟨#[97, 98]⟩ : ByteArray)]) (ok := fun _ => True) (okp := fun _ => True) ?hr ?hp (fun _ hk => hk) trivial (Below.refl _ _) (Nat.le_refl _) (by simp) ?_; (case hd => rfl); (case hg => rfl); (case hr => first | (go_simp; done) | (go_simp; rfl)); (case hp => exact (Reps.one (show Kd.M Kd.string _ _ _ (⟨#[44]⟩ : ByteArray) [.string (⟨#[44]⟩ : ByteArray)] from rfl) (Reps.one (show Kd.M Kd.string _ _ _ (⟨#[59]⟩ : ByteArray) [.string (⟨#[59]⟩ : ByteArray)] from rfl) (Reps.one (show Kd.M Kd.string _ _ _ (⟨#[59]⟩ : ByteArray) [.string (⟨#[59]⟩ : ByteArray)] from rfl) (Reps.one (show Kd.M Kd.string _ _ _ (⟨#[]⟩ : ByteArray) [.string (⟨#[]⟩ : ByteArray)] from rfl) (Reps.one (show Kd.M Kd.string _ _ _ (⟨#[97, 98]⟩ : ByteArray) [.string (⟨#[97, 98]⟩ : ByteArray)] from rfl) (Reps.none _ _))))))); intro v347 w32 ho33 hb hg_ hnew_; clear hg_ hnew_; (first | rw [← Ny346.out] at ho33 | (simp only [Int.reduceToNat] at ho33; rw [← Ny346.out] at ho33)); have n0_ := Aside0.mk (Kd.R_elder' au11 (Kd.R_base ho33) hb); have n1_ := Aside0.mk (Kd.R_lower (Kd.R_new' ho33 (Kd.R_lt au11)) (below_size au1)); have n2_ := Aside0.mk (IsS47.below au2 hb); have n3_ := Aside0.mk (below_step au1 hb); clear HO_5; clear HI315; clear HB; have HO_5 := n0_; have HO348 := n1_; have HI315 := n2_; have HB := n3_; clear n0_ n1_ n2_ n3_; clear hb ho33; obtain ⟨Ao34, co34, eo34⟩ := Kd.R_slice HO348.out; subst eo34) | ((with_reducible refine gate_callee (f := 25) rfl ?_); refine goesL_ (some 37) rfl rfl Try.func25 (by kernel_rfl) rfl #[.pointer (some ⟨gb315, 0, none⟩), .slice Ao34 y346.length co34] rfl au4 ?_; (with_reducible refine (spec_l1Cur_of.calls gb315 l0 t329 t330 _ _ y346 t349 t350 t351 w _ ?side1 ?side2 ?side3 ?side4 ?side5 A30.out).mono ?_); (case side1 => repeat (first | (with_reducible first | exact HI315.out | apply IsS47.alloc | apply IsS47.drewN | apply IsS47.drew | apply IsS47.set_1 | apply IsS47.set_2) | exact HI315.out)); (case side2 => repeat (first | (with_reducible first | exact HB.out | apply below_alloc | apply pw_below_drewN | apply below_drew1 | refine below_set ?_ (IsS47.ge HI315.out)) | exact HB.out)); (case side3 => repeat (first | exact (Kd.R_reads' HO348.out).2.2 | (with_reducible refine Kd.C_alloc ?_ _) | (with_reducible refine Kd.C_drewN ?_ _) | (with_reducible refine Kd.C_drew ?_))); (case side4 => exact (Kd.R_reads' HO348.out).2.1); (case side5 => exact far_slice (IsS47.own_ne HI315.out HO348.out (by decide))); rintro e w35 ⟨rfl, hi, hb, hk⟩; refine ⟨_, rfl, ?_⟩; have n0_ := Aside0.mk (Kd.R_mono (Kd.R_keep (IsS47.apart (show IsS47 w _ gb315 l0 t329 t330 from by repeat (first | (with_reducible first | exact HI315.out | apply IsS47.alloc | apply IsS47.drewN | apply IsS47.drew | apply IsS47.set_1 | apply IsS47.set_2) | exact HI315.out)) au11 (by decide)) hk (fun _ h => h.2)) (fun _ h => h.1)); have n1_ := Aside0.mk (Kd.R_mono (Kd.R_keep (IsS47.apart (show IsS47 w _ gb315 l0 t329 t330 from by repeat (first | (with_reducible first | exact HI315.out | apply IsS47.alloc | apply IsS47.drewN | apply IsS47.drew | apply IsS47.set_1 | apply IsS47.set_2) | exact HI315.out)) (by (with_reducible repeat (first | apply Kd.R_alloc | apply Kd.R_drewN | apply Kd.R_drew)); exact HO348.out) (by decide)) hk (fun _ h => h.2)) (fun _ h => h.1)); have n2_ := Aside0.mk (hb); have n3_ := Aside0.mk (hi); clear HO_5; clear HO348; clear HB; clear HI315; have HO_5 := n0_; have HO348 := n1_; have HB := n2_; have HI315 := n3_; clear n0_ n1_ n2_ n3_; (try clear hb); (try clear hb2); (try clear hk); (try clear hi)))
     go_ret2
     exact ⟨_, by first | rfl | (simp [errW_none, errW_some] <;> rfl) | (simp [*, errW_none, errW_some] <;> rfl), by (with_reducible repeat (first | apply Kd.R_alloc | apply Kd.R_drewN | apply Kd.R_drew)); exact Kd.R_mono HO_5.out (fun _ hk => trivial), by repeat (first | (with_reducible first | exact HB.out | apply below_alloc | apply pw_below_drewN | apply below_drew1 | refine below_set ?_ (IsS47.ge HI315.out)) | exact HB.out)⟩

end Go.Proofs.Ytbjlofabbikanaa.G

namespace Go.Proofs
open Go.Shelf
def Try.lays156_ren : Go.Shelf.Ren := ⟨fun | 156 => 29 | 165 => 38 | 166 => 39 | 169 => 40 | 240 => 43 | 241 => 44 | 276 => 47 | 277 => 48 | n => n, fun | 31 => 34 | 9 => 9 | 3 => 3 | 4 => 4 | 0 => 0 | 20 => 20 | 72 => 61 | 76 => 65 | 70 => 59 | 37 => 22 | 75 => 64 | 127 => 69 | 164 => 72 | 5 => 5 | 80 => 48 | n => n, fun | n => n⟩
theorem Try.lays156 : Go.Proofs.Lays.n156 Try.prog Try.lays156_ren := {
  mixed := by kernel_rfl
  f156 := Try.func29.trans (congrArg some (by kernel_rfl))
  f165 := Try.func38.trans (congrArg some (by kernel_rfl))
  f166 := Try.func39.trans (congrArg some (by kernel_rfl))
  f169 := Try.func40.trans (congrArg some (by kernel_rfl))
  f240 := Try.func43.trans (congrArg some (by kernel_rfl))
  f241 := Try.func44.trans (congrArg some (by kernel_rfl))
  f276 := Try.func47.trans (congrArg some (by kernel_rfl))
  f277 := Try.func48.trans (congrArg some (by kernel_rfl))
  t0 := Try.underlying0
  a0 := Try.isAgg0
  z0 := Try.sizeOf0
  v0 := Try.zeroValue0
  t3 := Try.underlying3
  a3 := Try.isAgg3
  z3 := Try.sizeOf3
  v3 := Try.zeroValue3
  t4 := Try.underlying4
  a4 := Try.isAgg4
  z4 := Try.sizeOf4
  v4 := Try.zeroValue4
  t9 := Try.underlying9
  a9 := Try.isAgg9
  z9 := Try.sizeOf9
  v9 := Try.zeroValue9
  t20 := Try.underlying20
  a20 := Try.isAgg20
  z20 := Try.sizeOf20
  v20 := Try.zeroValue20
  t31 := Try.underlying34
  a31 := Try.isAgg34
  z31 := Try.sizeOf34
  v31 := Try.zeroValue34
  t37 := Try.underlying22
  a37 := Try.isAgg22
  z37 := Try.sizeOf22
  v37 := Try.zeroValue22
  t70 := Try.underlying59
  a70 := Try.isAgg59
  z70 := Try.sizeOf59
  v70 := Try.zeroValue59
  t72 := Try.underlying61
  a72 := Try.isAgg61
  z72 := Try.sizeOf61
  v72 := Try.zeroValue61
  t75 := Try.underlying64
  a75 := Try.isAgg64
  z75 := Try.sizeOf64
  v75 := Try.zeroValue64
  t76 := Try.underlying65
  a76 := Try.isAgg65
  z76 := Try.sizeOf65
  v76 := Try.zeroValue65
  t127 := Try.underlying69
  a127 := Try.isAgg69
  z127 := Try.sizeOf69
  v127 := Try.zeroValue69
  t164 := Try.underlying72
  a164 := Try.isAgg72
  z164 := Try.sizeOf72
  v164 := Try.zeroValue72 }
theorem Try.Builder_Extra_156 : Builder.Extra Try.prog Try.lays156_ren := {
  sizeBuilder := by kernel_rfl
  liesBuilder := by kernel_rfl
  t5 := Try.underlying5
  a5 := Try.isAgg5
  z5 := Try.sizeOf5
  v5 := Try.zeroValue5
  infoByte := by kernel_rfl
  cellsByte := by kernel_rfl
  sizeByte := by kernel_rfl
  neB5 := by decide }
open Go.RowKit in
theorem Try.strings_Join_none (a : Option Addr) (c : Nat) (sep : ByteArray) (w : World) :
    Calls Try.prog 29 #[.slice a 0 c, .string sep] w fun e w' => e = .returned (.string ⟨#[]⟩) ∧ w' = w := Any.strings_Join_none Try.lays156 Try.Builder_Extra_156 a c sep w
open Go.RowKit in
theorem Try.strings_Join (bk o c : Nat) (xs : List ByteArray) (sep : ByteArray) (w : World) (hcells : ∀ (j : Nat) x, xs[j]? = some x → w.cell? ⟨bk, o + j, none⟩ = some (.string x)) (hbk : bk < w.heap.size) (hN : xs.length ≤ 140737488355328) (hcap : xs.length ≤ c) (hlen : (Lib.join (xs.map (·.data.toList)) sep.data.toList).length ≤ 140737488355328) :
    Calls Try.prog 29 #[.slice (some ⟨bk, o, none⟩) xs.length c, .string sep] w fun e w' => e = .returned (.string ⟨(Lib.join (xs.map (·.data.toList)) sep.data.toList).toArray⟩) ∧ Below w.heap.size w w' := Any.strings_Join Try.lays156 Try.Builder_Extra_156 bk o c xs sep w hcells hbk hN hcap hlen
def Try.lays137_ren : Go.Shelf.Ren := ⟨fun | 137 => 28 | 217 => 37 | 266 => 42 | n => n, fun | 9 => 9 | 5 => 5 | 3 => 3 | n => n, fun | n => n⟩
theorem Try.lays137 : Go.Proofs.Lays.n137 Try.prog Try.lays137_ren := {
  mixed := by kernel_rfl
  f137 := Try.func28.trans (congrArg some (by kernel_rfl))
  f217 := Try.func37.trans (congrArg some (by kernel_rfl))
  f266 := Try.func42.trans (congrArg some (by kernel_rfl))
  t3 := Try.underlying3
  a3 := Try.isAgg3
  z3 := Try.sizeOf3
  v3 := Try.zeroValue3
  t5 := Try.underlying5
  a5 := Try.isAgg5
  z5 := Try.sizeOf5
  v5 := Try.zeroValue5
  t9 := Try.underlying9
  a9 := Try.isAgg9
  z9 := Try.sizeOf9
  v9 := Try.zeroValue9 }
open Go.RowKit in
theorem Try.strings_IndexByte (s : ByteArray) (c : Int) (w : World) :
    Calls Try.prog 28 #[.string s, .int .u8 c] w fun e w' => e = .returned (.int .i64 (Lib.indexByte s.data.toList c.toNat.toUInt8)) ∧ w' = w := Any.strings_IndexByte Try.lays137 s c w
end Go.Proofs

namespace Go.Proofs.Ytbjlofabbikanaa.G
open Go.RowKit Go.Proofs.YtbjlofabbikanaaW.PrintWords Go.Proofs.YtbjlofabbikanaaW.PrintLast Go.Proofs.YtbjlofabbikanaaW.PrintMore
open Go.Proofs.Ytbjlofabbikanaa.Gl Go.Proofs.Ytbjlofabbikanaa.Ext
attribute [local go_sem] max2_int min2_int max_two min_two max_three min_three max_four min_four   -- for this text's walks alone
set_option linter.unusedVariables false
set_option linter.unusedSimpArgs false

/-! ### strings_IndexByte: function 28 -/
def strings_IndexByte.f (a0 : ByteArray) (a1 : Int) : Option Int := some (Lib.indexByte a0.data.toList a1.toNat.toUInt8)
theorem strings_IndexByte.calls (a0 : ByteArray) (a1 : Int) (r : Int) (w : World) (h : strings_IndexByte.f a0 a1 = some r) :
  Calls Try.prog 28 #[.string a0, .int .u8 a1] w fun e w' => e = .returned (.int .i64 r) ∧ Drawn0 w w' := by
 obtain rfl := Option.some.inj h
 refine (Try.strings_IndexByte a0 a1 w).mono ?_
 rintro e w' ⟨rfl, rfl⟩
 exact ⟨rfl, Drawn0.refl _⟩


/-! ### strings_Join: function 29 -/
def strings_Join.f (l0 : List ByteArray) (a1 : ByteArray) : Option ByteArray :=
 if l0.length ≤ 140737488355328 ∧ (Lib.join (l0.map (·.data.toList)) a1.data.toList).length ≤ 140737488355328 then some ⟨(Lib.join (l0.map (·.data.toList)) a1.data.toList).toArray⟩ else none
theorem strings_Join.calls (A0 : Option Addr) (c0 : Nat) (l0 : List ByteArray) (a1 : ByteArray) (r : ByteArray) (w : World) (hr0 : Kd.C Kd.string w A0 l0.length l0) (hc0 : l0.length ≤ c0) (h : strings_Join.f l0 a1 = some r) :
  Calls Try.prog 29 #[.slice A0 l0.length c0, .string a1] w fun e w' => e = .returned (.string r) ∧ Below w.heap.size w w' := by
 unfold strings_Join.f at h
 by_cases hg : l0.length ≤ 140737488355328 ∧ (Lib.join (l0.map (·.data.toList)) a1.data.toList).length ≤ 140737488355328
 ·
  rw [if_pos hg] at h
  obtain rfl := Option.some.inj h
  cases l0 with
  | nil =>
   refine (Try.strings_Join_none A0 c0 a1 w).mono ?_
   rintro e w' ⟨rfl, rfl⟩
   exact ⟨rfl, Below.refl _ _⟩
  | cons x xs =>
   obtain ⟨b, o, rfl, hb, hcell⟩ := Go.Proofs.Ytbjlofabbikanaa.Ext.strs_read hr0 (by simp)
   refine (Try.strings_Join b o c0 (x :: xs) a1 w hcell hb hg.1 hc0 hg.2).mono ?_
   rintro e w' ⟨rfl, hb⟩
   exact ⟨rfl, hb⟩
 ·
  rw [if_neg hg] at h; cases h


/-! ### impl_JoinStrings: function 13 -/
mutual
def impl_JoinStrings.j0 : Nat → List ByteArray → ByteArray → Bool → Option (ByteArray × Bool)
 | 0, _, _, _ => none
 | k + 1, x0, x1, x16 => if x16 = true then (some ((⟨#[]⟩ : ByteArray), false)) else (impl_JoinStrings.l0 k x0 x1 (wrap64 ((x0.length : Int) - 1)) x0 (x0.length : Int) 0)
def impl_JoinStrings.l0 : Nat → List ByteArray → ByteArray → Int → List ByteArray → Int → Int → Option (ByteArray × Bool)
 | 0, _, _, _, _, _, _ => none
 | k + 1, x0, x1, x6, x20, x21, x22 => if x22 < x21 then (if 0 ≤ x22 then (if x22 < (x20.length : Int) then (if (wrap64 (x6 + ((rdOf ByteArray.empty x20 x22).size : Int))) > 4000 then (some ((⟨#[]⟩ : ByteArray), false)) else (if 0 < (x1.size : Int) then ((strings_IndexByte.f (rdOf ByteArray.empty x20 x22) (bt x1 0)).bind fun t353 => (if t353 ≥ 0 then (some ((⟨#[]⟩ : ByteArray), false)) else (impl_JoinStrings.l0 k x0 x1 (wrap64 (x6 + ((rdOf ByteArray.empty x20 x22).size : Int))) x20 x21 (wrap64 (x22 + 1))))) else (none))) else (none)) else (none)) else ((strings_Join.f x0 x1).bind fun t354 => (some (t354, true)))
end
def impl_JoinStrings.f (k : Nat) (l0 : List ByteArray) (a1 : ByteArray) : Option (ByteArray × Bool) := if (l0.length : Int) = 0 then (impl_JoinStrings.j0 k l0 a1 true) else (impl_JoinStrings.j0 k l0 a1 ((a1.size : Int) != 1))
theorem impl_JoinStrings.mono_l : ∀ k, (∀ y0 y1 y2, LeO (impl_JoinStrings.j0 k y0 y1 y2) (impl_JoinStrings.j0 (k + 1) y0 y1 y2)) ∧ (∀ y0 y1 y2 y3 y4 y5, LeO (impl_JoinStrings.l0 k y0 y1 y2 y3 y4 y5) (impl_JoinStrings.l0 (k + 1) y0 y1 y2 y3 y4 y5))
 | 0 => ⟨fun _ _ _ r h => by simp [impl_JoinStrings.j0] at h, fun _ _ _ _ _ _ r h => by simp [impl_JoinStrings.l0] at h⟩
 | k + 1 => by
  obtain ⟨ih0, ih1⟩ := impl_JoinStrings.mono_l k
  refine ⟨?_, ?_⟩
  ·
   intro y0 y1 y2
   unfold impl_JoinStrings.j0
   repeat' first
   | (with_reducible exact ih0 _ _ _)
   | (with_reducible exact ih1 _ _ _ _ _ _)
   | (with_reducible exact LeO.refl _)
   | (with_reducible exact LeO.none _)
   | (with_reducible refine LeO.ite ?_ ?_)
   | (with_reducible refine LeO.bind ?_ (fun _ => ?_))
   | exact ih0 _ _ _
   | exact ih1 _ _ _ _ _ _
   | exact LeO.none _
   | refine LeO.ite ?_ ?_
   | refine LeO.bind ?_ (fun _ => ?_)
  ·
   intro y0 y1 y2 y3 y4 y5
   unfold impl_JoinStrings.l0
   repeat' first
   | (with_reducible exact ih0 _ _ _)
   | (with_reducible exact ih1 _ _ _ _ _ _)
   | (with_reducible exact LeO.refl _)
   | (with_reducible exact LeO.none _)
   | (with_reducible refine LeO.ite ?_ ?_)
   | (with_reducible refine LeO.bind ?_ (fun _ => ?_))
   | exact ih0 _ _ _
   | exact ih1 _ _ _ _ _ _
   | exact LeO.none _
   | refine LeO.ite ?_ ?_
   | refine LeO.bind ?_ (fun _ => ?_)
theorem impl_JoinStrings.mono : ∀ a0 a1 k, LeO (impl_JoinStrings.f k a0 a1) (impl_JoinStrings.f (k + 1) a0 a1) := by
 intro a0 a1 k
 obtain ⟨ih0, ih1⟩ := impl_JoinStrings.mono_l k
 unfold impl_JoinStrings.f
 repeat' first
   | (with_reducible exact ih0 _ _ _)
   | (with_reducible exact ih1 _ _ _ _ _ _)
   | (with_reducible exact LeO.refl _)
   | (with_reducible exact LeO.none _)
   | (with_reducible refine LeO.ite ?_ ?_)
   | (with_reducible refine LeO.bind ?_ (fun _ => ?_))
   | exact ih0 _ _ _
   | exact ih1 _ _ _ _ _ _
   | exact LeO.none _
   | refine LeO.ite ?_ ?_
   | refine LeO.bind ?_ (fun _ => ?_)
set_option maxRecDepth 100000 in
theorem impl_JoinStrings.L0 {P : Prop} (h : P := by
  go_wp2_with (first | ((with_reducible refine gate_callee (f := 29) rfl ?_); refine goesL_ (some 42) rfl rfl Try.func29 (by kernel_rfl) rfl #[.slice A0 l0.length c0, .string a1] rfl au4 ?_; (with_reducible refine (strings_Join.calls _ _ l0 a1 t354 _ ?side1 ?side2 A14.out).mono ?_); (case side1 => repeat (first | exact (Kd.C_below HR0.out HB.out) | (with_reducible refine Kd.C_alloc ?_ _) | (with_reducible refine Kd.C_drewN ?_ _) | (with_reducible refine Kd.C_drew ?_))); (case side2 => exact HC0.out); rintro e w15 ⟨rfl, hb⟩; refine ⟨_, rfl, ?_⟩; have n0_ := Aside0.mk (below_step au5 hb); clear HB; have HB := n0_; clear n0_; (try clear hb); (try clear hb2); (try clear hk); (try clear hi)))
  go_ret2
  exact ax1) : P := h
set_option maxHeartbeats 8000000 in
set_option maxRecDepth 100000 in
theorem impl_JoinStrings.calls (k : Nat) (A0 : Option Addr) (c0 : Nat) (l0 : List ByteArray) (a1 : ByteArray) (r1 : ByteArray) (r2 : Bool) (w : World) (hr0 : Kd.C Kd.string w A0 l0.length l0) (hc0 : l0.length ≤ c0) (h : impl_JoinStrings.f k l0 a1 = some (r1, r2)) :
  Calls Try.prog 13 #[.slice A0 l0.length c0, .string a1] w fun e w' => e = .returned (.tuple #[.string r1, .bool r2]) ∧ Below w.heap.size w w' := by
 have HR0 := Aside0.mk hr0
 have HC0 := Aside0.mk hc0
 clear hr0 hc0
 have HB := Aside0.mk (Below.refl w.heap.size w)
 have H : (if (l0.length : Int) = 0 then (impl_JoinStrings.j0 k l0 a1 true) else (impl_JoinStrings.j0 k l0 a1 ((a1.size : Int) != 1))) = some (r1, r2) := h
 clear h
 have HC3 := Aside0.mk H
 clear H
 go_enter Try.func13, Try.ntmps13
 go_upto_region 1 with (fail)
 go_cut [16] (fun v16 wc => ∃ (kq : Nat) (x16_2 : Bool), v16 = .bool x16_2 ∧ Aside0 (impl_JoinStrings.j0 kq l0 a1 x16_2 = some (r1, r2)) ∧ Aside0 (kq ≤ k) ∧ Aside0 (Below w.heap.size w wc))
 case first =>
  have H := HC3.out
  clear HC3
  by_cases c4 : (l0.length : Int) = 0
  ·
   rw [if_pos c4] at H
   have c4b0 : ((l0.length : Int) == 0) = true := beq_iff_eq.mpr c4
   have c4b1 : ((l0.length : Int) != 0) = false := bne_eq_false_iff_eq.mpr c4
   clear c4
   (first | rw [c4b0] | (simp only [i64_w, i32_w]; rw [c4b0]) | skip)
   have H' := Aside0.mk H
   clear H
   go_wp2
   go_meet
   case rel => exact ⟨_, (true), au13, H', ⟨by first | omega | exact Nat.le_refl _⟩, ⟨by repeat (first | (with_reducible first | exact HB.out | apply below_alloc | apply pw_below_drewN | apply below_drew1) | exact HB.out)⟩⟩
  ·
   rw [if_neg c4] at H
   have c4b0 : ((l0.length : Int) == 0) = false := beq_eq_false_iff_ne.mpr c4
   have c4b1 : ((l0.length : Int) != 0) = true := bne_iff_ne.mpr c4
   have c4b2 : ¬ (l0 = []) := fun h_ => c4 (by rw [h_]; rfl)
   (first | rw [c4b0] | (simp only [i64_w, i32_w]; rw [c4b0]) | skip)
   have H' := Aside0.mk H
   clear H
   go_wp2
   go_meet
   case rel => exact ⟨_, (((a1.size : Int) != 1)), au13, H', ⟨by first | omega | exact Nat.le_refl _⟩, ⟨by repeat (first | (with_reducible first | exact HB.out | apply below_alloc | apply pw_below_drewN | apply below_drew1) | exact HB.out)⟩⟩
 case rest =>
  clear HC3
  try clear c1
  try clear p2
  try clear c4
  try clear c4b0
  try clear c4b1
  try clear c4b2
  obtain ⟨kq, x16_2, rfl, HA, HJ2, HB⟩ := hcut
  cases kq with
  | zero => exact absurd HA.out (by simp [impl_JoinStrings.j0])
  | succ kj2 =>
   have H := HA.out
   clear HA
   simp only [impl_JoinStrings.j0] at H
   by_cases c5 : x16_2 = true
   ·
    subst c5
    replace H := (if_pos rfl).symm.trans H
    simp only [Option.some.injEq, Prod.mk.injEq] at H
    obtain ⟨rfl, rfl⟩ := H
    exact impl_JoinStrings.L0
   ·
    replace c5 := Bool.eq_false_iff.mpr c5
    subst c5
    replace H := (if_neg (show ¬ (false = true) by decide)).symm.trans H
    have H' := Aside0.mk H
    clear H
    go_wp2
    go_loopg [6, 22] kj2 (fun kq v6 v22 w' => ∃ (x6_2 : Int) (x22_2 : Int), v6 = .int .i64 x6_2 ∧ v22 = .int .i64 x22_2 ∧ Aside0 (impl_JoinStrings.l0 kq l0 a1 x6_2 l0 (l0.length : Int) x22_2 = some (r1, r2)) ∧ Aside0 (kq ≤ kj2) ∧ Aside0 (Below w.heap.size w w'))
    case atStart => exact ⟨(wrap64 ((l0.length : Int) - 1)), (0), au13, au13, H', ⟨Nat.le_refl _⟩, ⟨by repeat (first | (with_reducible first | exact HB.out | apply below_alloc | apply pw_below_drewN | apply below_drew1) | exact HB.out)⟩⟩
    case round =>
     clear H'
     try clear c1
     try clear p2
     try clear c4
     try clear c4b0
     try clear c4b1
     try clear c4b2
     try clear c5
     try clear p2
     obtain ⟨x6_2, x22_2, rfl, rfl, HA, HK2, HB⟩ := hrel
     cases gk with
     | zero => exact absurd HA.out (by simp [impl_JoinStrings.l0])
     | succ k2 =>
      have H := HA.out
      clear HA
      simp only [impl_JoinStrings.l0] at H
      by_cases c6 : x22_2 < (l0.length : Int)
      ·
       rw [if_pos c6] at H
       have c6b0 : decide (x22_2 < (l0.length : Int)) = true := decide_eq_true c6
       clear c6
       by_cases c7 : 0 ≤ x22_2
       ·
        rw [if_pos c7] at H
        have c7b0 : decide (0 ≤ x22_2) = true := decide_eq_true c7
        clear c7
        by_cases c8 : x22_2 < (l0.length : Int)
        ·
         rw [if_pos c8] at H
         have c8b0 : decide (x22_2 < (l0.length : Int)) = true := decide_eq_true c8
         clear c8
         by_cases c9 : (wrap64 (x6_2 + ((rdOf ByteArray.empty l0 x22_2).size : Int))) > 4000
         ·
          rw [if_pos c9] at H
          have c9b0 : decide (4000 < (wrap64 (x6_2 + ((rdOf ByteArray.empty l0 x22_2).size : Int)))) = true := decide_eq_true c9
          clear c9
          simp only [Option.some.injEq, Prod.mk.injEq] at H
          obtain ⟨rfl, rfl⟩ := H
          have p352 : 0 ≤ (x22_2 : Int) := of_decide_eq_true au12
          have q352 : x22_2 < (l0.length : Int) := of_decide_eq_true au12
          obtain ⟨ad352, e352, hx352_0⟩ := Kd.at_string HR0.out x22_2 p352 q352
          cases e352
          replace hx352_0 := (HB.out.cell (World.block_lt_of_cell? w _ hx352_0)).trans hx352_0
          replace p352 := eq_true p352
          replace q352 := eq_true q352
          exact impl_JoinStrings.L0
         ·
          rw [if_neg c9] at H
          have c9b0 : decide (4000 < (wrap64 (x6_2 + ((rdOf ByteArray.empty l0 x22_2).size : Int)))) = false := decide_eq_false c9
          clear c9
          by_cases c10 : 0 < (a1.size : Int)
          ·
           rw [if_pos c10] at H
           have c10b0 : decide (0 < (a1.size : Int)) = true := decide_eq_true c10
           have c10b1 : decide (0 < a1.size) = true := decide_eq_true (by omega)
           clear c10
           replace H := Option.bind_eq_some_iff.mp H
           obtain ⟨t353, A120, H⟩ := H
           try dsimp only at H
           have A12 := Aside0.mk A120
           clear A120
           by_cases c13 : t353 ≥ 0
           ·
            rw [if_pos c13] at H
            have c13b0 : decide (0 ≤ t353) = true := decide_eq_true c13
            clear c13
            simp only [Option.some.injEq, Prod.mk.injEq] at H
            obtain ⟨rfl, rfl⟩ := H
            have p352 : 0 ≤ (x22_2 : Int) := of_decide_eq_true au12
            have q352 : x22_2 < (l0.length : Int) := of_decide_eq_true au12
            obtain ⟨ad352, e352, hx352_0⟩ := Kd.at_string HR0.out x22_2 p352 q352
            cases e352
            replace hx352_0 := (HB.out.cell (World.block_lt_of_cell? w _ hx352_0)).trans hx352_0
            replace p352 := eq_true p352
            replace q352 := eq_true q352
            have p11 : 0 ≤ (0 : Int) := (by omega)
            have q11 : 0 < a1.size := (by have : (0 : Int) < (a1.size : Int) := of_decide_eq_true au12; omega)
            have hx11 : ∀ h : 0 < a1.size, ((a1[0]'h).toNat : Int) = bt a1 0 := bt_at a1 0
            clear p11
            have qi11 : (0 < (a1.size : Int)) = True := eq_true (of_decide_eq_true au12)
            replace q11 := eq_true q11
            go_wp2_with (first | (go_at_call 28; (with_reducible refine (strings_IndexByte.calls (rdOf ByteArray.empty l0 x22_2) (bt a1 0) t353 _ A12.out).mono ?_); rintro e w' ⟨rfl, ⟨nd, rfl⟩⟩))
            go_ret2
            exact ax1
           ·
            rw [if_neg c13] at H
            have c13b0 : decide (0 ≤ t353) = false := decide_eq_false c13
            clear c13
            have H' := Aside0.mk H
            clear H
            have p352 : 0 ≤ (x22_2 : Int) := of_decide_eq_true au12
            have q352 : x22_2 < (l0.length : Int) := of_decide_eq_true au12
            obtain ⟨ad352, e352, hx352_0⟩ := Kd.at_string HR0.out x22_2 p352 q352
            cases e352
            replace hx352_0 := (HB.out.cell (World.block_lt_of_cell? w _ hx352_0)).trans hx352_0
            replace p352 := eq_true p352
            replace q352 := eq_true q352
            have p11 : 0 ≤ (0 : Int) := (by omega)
            have q11 : 0 < a1.size := (by have : (0 : Int) < (a1.size : Int) := of_decide_eq_true au12; omega)
            have hx11 : ∀ h : 0 < a1.size, ((a1[0]'h).toNat : Int) = bt a1 0 := bt_at a1 0
            clear p11
            have qi11 : (0 < (a1.size : Int)) = True := eq_true (of_decide_eq_true au12)
            replace q11 := eq_true q11
            go_wp2_with (first | (go_at_call 28; (with_reducible refine (strings_IndexByte.calls (rdOf ByteArray.empty l0 x22_2) (bt a1 0) t353 _ A12.out).mono ?_); rintro e w' ⟨rfl, ⟨nd, rfl⟩⟩))
            go_roundg k2
            case measure => have := HJ2.out; have := HK2.out; omega
            case rel => exact ⟨(wrap64 (x6_2 + ((rdOf ByteArray.empty l0 x22_2).size : Int))), (wrap64 (x22_2 + 1)), au13, au13, H', ⟨by have := HJ2.out; have := HK2.out; omega⟩, ⟨by repeat (first | (with_reducible first | exact HB.out | apply below_alloc | apply pw_below_drewN | apply below_drew1) | exact HB.out)⟩⟩
          ·
           rw [if_neg c10] at H
           exact absurd H (by simp)
        ·
         rw [if_neg c8] at H
         exact absurd H (by simp)
       ·
        rw [if_neg c7] at H
        exact absurd H (by simp)
      ·
       rw [if_neg c6] at H
       have c6b0 : decide (x22_2 < (l0.length : Int)) = false := decide_eq_false c6
       clear c6
       replace H := Option.bind_eq_some_iff.mp H
       obtain ⟨t354, A140, H⟩ := H
       try dsimp only at H
       have A14 := Aside0.mk A140
       clear A140
       simp only [Option.some.injEq, Prod.mk.injEq] at H
       obtain ⟨rfl, rfl⟩ := H
       exact impl_JoinStrings.L0


/-! ### spec_l1Stands: function 30 -/
def spec_l1Stands.l0 : Nat → ByteArray → Int → Int → Option (Bool)
 | 0, _, _, _ => none
 | k + 1, x0, x1, x5 => if x5 < (x0.size : Int) then (if 0 ≤ x5 then (if (bt x0 x5) = x1 then (some true) else (spec_l1Stands.l0 k x0 x1 (wrap64 (x5 + 1)))) else (none)) else (some false)
def spec_l1Stands.f (k : Nat) (a0 : ByteArray) (a1 : Int) : Option (Bool) := spec_l1Stands.l0 k a0 a1 0
theorem spec_l1Stands.mono_l : ∀ k, (∀ y0 y1 y2, LeO (spec_l1Stands.l0 k y0 y1 y2) (spec_l1Stands.l0 (k + 1) y0 y1 y2))
 | 0 => fun _ _ _ r h => by simp [spec_l1Stands.l0] at h
 | k + 1 => by
  have ih0 := spec_l1Stands.mono_l k
  ·
   intro y0 y1 y2
   unfold spec_l1Stands.l0
   repeat' first
   | (with_reducible exact ih0 _ _ _)
   | (with_reducible exact LeO.refl _)
   | (with_reducible exact LeO.none _)
   | (with_reducible refine LeO.ite ?_ ?_)
   | (with_reducible refine LeO.bind ?_ (fun _ => ?_))
   | exact ih0 _ _ _
   | exact LeO.none _
   | refine LeO.ite ?_ ?_
   | refine LeO.bind ?_ (fun _ => ?_)
theorem spec_l1Stands.mono : ∀ a0 a1 k, LeO (spec_l1Stands.f k a0 a1) (spec_l1Stands.f (k + 1) a0 a1) := by
 intro a0 a1 k
 have ih0 := spec_l1Stands.mono_l k
 unfold spec_l1Stands.f
 repeat' first
   | (with_reducible exact ih0 _ _ _)
   | (with_reducible exact LeO.refl _)
   | (with_reducible exact LeO.none _)
   | (with_reducible refine LeO.ite ?_ ?_)
   | (with_reducible refine LeO.bind ?_ (fun _ => ?_))
   | exact ih0 _ _ _
   | exact LeO.none _
   | refine LeO.ite ?_ ?_
   | refine LeO.bind ?_ (fun _ => ?_)
set_option maxHeartbeats 8000000 in
set_option maxRecDepth 100000 in
theorem spec_l1Stands.calls (k : Nat) (a0 : ByteArray) (a1 : Int) (r : Bool) (w : World) (h : spec_l1Stands.f k a0 a1 = some r) :
  Calls Try.prog 30 #[.string a0, .int .u8 a1] w fun e w' => e = .returned (.bool r) ∧ Drawn0 w w' := by
 have H : (spec_l1Stands.l0 k a0 a1 0) = some r := h
 clear h
 have H' := Aside0.mk H
 clear H
 go_enter Try.func30, Try.ntmps30
 go_wp2
 go_loopg [5] k (fun kq v5 w' => ∃ (x5_1 : Int), v5 = .int .i64 x5_1 ∧ Aside0 (spec_l1Stands.l0 kq a0 a1 x5_1 = some r) ∧ Aside0 (kq ≤ k) ∧ Drawn0 w w')
 case atStart => exact ⟨(0), au13, H', ⟨Nat.le_refl _⟩, by repeat (first | exact Drawn0.refl _ | apply Drawn0.step)⟩
 case round =>
  clear H'
  try clear p2
  obtain ⟨x5_1, rfl, HA, HK1, ⟨m1, rfl⟩⟩ := hrel
  cases gk with
  | zero => exact absurd HA.out (by simp [spec_l1Stands.l0])
  | succ k1 =>
   have H := HA.out
   clear HA
   simp only [spec_l1Stands.l0] at H
   by_cases c3 : x5_1 < (a0.size : Int)
   ·
    rw [if_pos c3] at H
    have c3b0 : decide (x5_1 < (a0.size : Int)) = true := decide_eq_true c3
    clear c3
    by_cases c4 : 0 ≤ x5_1
    ·
     rw [if_pos c4] at H
     have c4b0 : decide (0 ≤ x5_1) = true := decide_eq_true c4
     clear c4
     by_cases c6 : (bt a0 x5_1) = a1
     ·
      rw [if_pos c6] at H
      have c6b0 : ((bt a0 x5_1) == a1) = true := beq_iff_eq.mpr c6
      have c6b1 : ((bt a0 x5_1) != a1) = false := bne_eq_false_iff_eq.mpr c6
      clear c6
      obtain rfl := Option.some.inj H
      have p5 : 0 ≤ (x5_1 : Int) := of_decide_eq_true au12
      have q5 : x5_1 < (a0.size : Int) := of_decide_eq_true au12
      have hx5 := bt_at a0 x5_1
      replace p5 := eq_true p5
      replace q5 := eq_true q5
      go_wp2
      go_ret
      exact ax2
     ·
      rw [if_neg c6] at H
      have c6b0 : ((bt a0 x5_1) == a1) = false := beq_eq_false_iff_ne.mpr c6
      have c6b1 : ((bt a0 x5_1) != a1) = true := bne_iff_ne.mpr c6
      have H' := Aside0.mk H
      clear H
      have p5 : 0 ≤ (x5_1 : Int) := of_decide_eq_true au12
      have q5 : x5_1 < (a0.size : Int) := of_decide_eq_true au12
      have hx5 := bt_at a0 x5_1
      replace p5 := eq_true p5
      replace q5 := eq_true q5
      go_wp2
      go_roundg k1
      case measure => have := HK1.out; omega
      case rel => exact ⟨(wrap64 (x5_1 + 1)), au13, H', ⟨by have := HK1.out; omega⟩, by repeat (first | exact Drawn0.refl _ | apply Drawn0.step)⟩
    ·
     rw [if_neg c4] at H
     exact absurd H (by simp)
   ·
    rw [if_neg c3] at H
    have c3b0 : decide (x5_1 < (a0.size : Int)) = false := decide_eq_false c3
    clear c3
    obtain rfl := Option.some.inj H
    go_wp2
    go_ret
    exact ax2


/-! ### spec_JoinStrings: function 14 -/
mutual
def spec_JoinStrings.j0 : Nat → List ByteArray → ByteArray → Bool → Option (ByteArray × Bool)
 | 0, _, _, _ => none
 | k + 1, x0, x1, x15 => if x15 = true then (some ((⟨#[]⟩ : ByteArray), false)) else (spec_JoinStrings.l0 k x0 x1 (⟨#[]⟩ : ByteArray) 0)
def spec_JoinStrings.l0 : Nat → List ByteArray → ByteArray → ByteArray → Int → Option (ByteArray × Bool)
 | 0, _, _, _, _ => none
 | k + 1, x0, x1, x6, x7 => if x7 < (x0.length : Int) then (if 0 ≤ x7 then (if 0 < (x1.size : Int) then ((spec_l1Stands.f k (rdOf ByteArray.empty x0 x7) (bt x1 0)).bind fun t356 => (if t356 = true then (some ((⟨#[]⟩ : ByteArray), false)) else (if x7 > 0 then (if x6.size + x1.size ≤ 9223372036854775807 then (if (x6 ++ x1).size + (rdOf ByteArray.empty x0 x7).size ≤ 9223372036854775807 then (if (((x6 ++ x1) ++ (rdOf ByteArray.empty x0 x7)).size : Int) > 4000 then (some ((⟨#[]⟩ : ByteArray), false)) else (spec_JoinStrings.l0 k x0 x1 ((x6 ++ x1) ++ (rdOf ByteArray.empty x0 x7)) (wrap64 (x7 + 1)))) else (none)) else (none)) else (if x6.size + (rdOf ByteArray.empty x0 x7).size ≤ 9223372036854775807 then (if ((x6 ++ (rdOf ByteArray.empty x0 x7)).size : Int) > 4000 then (some ((⟨#[]⟩ : ByteArray), false)) else (spec_JoinStrings.l0 k x0 x1 (x6 ++ (rdOf ByteArray.empty x0 x7)) (wrap64 (x7 + 1)))) else (none))))) else (none)) else (none)) else (some (x6, true))
end
def spec_JoinStrings.f (k : Nat) (l0 : List ByteArray) (a1 : ByteArray) : Option (ByteArray × Bool) := if (a1.size : Int) = 1 then (spec_JoinStrings.j0 k l0 a1 ((l0.length : Int) == 0)) else (spec_JoinStrings.j0 k l0 a1 true)
theorem spec_JoinStrings.mono_l : ∀ k, (∀ y0 y1 y2, LeO (spec_JoinStrings.j0 k y0 y1 y2) (spec_JoinStrings.j0 (k + 1) y0 y1 y2)) ∧ (∀ y0 y1 y2 y3, LeO (spec_JoinStrings.l0 k y0 y1 y2 y3) (spec_JoinStrings.l0 (k + 1) y0 y1 y2 y3))
 | 0 => ⟨fun _ _ _ r h => by simp [spec_JoinStrings.j0] at h, fun _ _ _ _ r h => by simp [spec_JoinStrings.l0] at h⟩
 | k + 1 => by
  obtain ⟨ih0, ih1⟩ := spec_JoinStrings.mono_l k
  refine ⟨?_, ?_⟩
  ·
   intro y0 y1 y2
   unfold spec_JoinStrings.j0
   repeat' first
   | (with_reducible exact ih0 _ _ _)
   | (with_reducible exact ih1 _ _ _ _)
   | (with_reducible exact spec_l1Stands.mono _ _ _)
   | (with_reducible exact LeO.refl _)
   | (with_reducible exact LeO.none _)
   | (with_reducible refine LeO.ite ?_ ?_)
   | (with_reducible refine LeO.bind ?_ (fun _ => ?_))
   | exact ih0 _ _ _
   | exact ih1 _ _ _ _
   | exact spec_l1Stands.mono _ _ _
   | exact LeO.none _
   | refine LeO.ite ?_ ?_
   | refine LeO.bind ?_ (fun _ => ?_)
  ·
   intro y0 y1 y2 y3
   unfold spec_JoinStrings.l0
   repeat' first
   | (with_reducible exact ih0 _ _ _)
   | (with_reducible exact ih1 _ _ _ _)
   | (with_reducible exact spec_l1Stands.mono _ _ _)
   | (with_reducible exact LeO.refl _)
   | (with_reducible exact LeO.none _)
   | (with_reducible refine LeO.ite ?_ ?_)
   | (with_reducible refine LeO.bind ?_ (fun _ => ?_))
   | exact ih0 _ _ _
   | exact ih1 _ _ _ _
   | exact spec_l1Stands.mono _ _ _
   | exact LeO.none _
   | refine LeO.ite ?_ ?_
   | refine LeO.bind ?_ (fun _ => ?_)
theorem spec_JoinStrings.mono : ∀ a0 a1 k, LeO (spec_JoinStrings.f k a0 a1) (spec_JoinStrings.f (k + 1) a0 a1) := by
 intro a0 a1 k
 obtain ⟨ih0, ih1⟩ := spec_JoinStrings.mono_l k
 unfold spec_JoinStrings.f
 repeat' first
   | (with_reducible exact ih0 _ _ _)
   | (with_reducible exact ih1 _ _ _ _)
   | (with_reducible exact spec_l1Stands.mono _ _ _)
   | (with_reducible exact LeO.refl _)
   | (with_reducible exact LeO.none _)
   | (with_reducible refine LeO.ite ?_ ?_)
   | (with_reducible refine LeO.bind ?_ (fun _ => ?_))
   | exact ih0 _ _ _
   | exact ih1 _ _ _ _
   | exact spec_l1Stands.mono _ _ _
   | exact LeO.none _
   | refine LeO.ite ?_ ?_
   | refine LeO.bind ?_ (fun _ => ?_)
set_option maxRecDepth 100000 in
theorem spec_JoinStrings.L0 {P : Prop} (h : P := by
  go_wp2_with (first | (go_at_call 30; (with_reducible refine (spec_l1Stands.calls k2 (rdOf ByteArray.empty l0 x7_2) (bt a1 0) _ _ A10.out).mono ?_); rintro e w' ⟨rfl, ⟨nd, rfl⟩⟩; (try first | exact ⟨rfl, _, World.drewN_drewN _ _ _⟩ | exact ⟨rfl, _, Eq.trans (World.drewN_drewN _ _ _) (congrArg (World.drewN _) (Nat.add_assoc _ _ _))⟩); have p357 : 0 ≤ (x7_2 : Int) := of_decide_eq_true au12; have q357 : x7_2 < (l0.length : Int) := of_decide_eq_true au12; obtain ⟨ad357, e357, hx357_0⟩ := Kd.at_string HR0.out x7_2 p357 q357; obtain rfl : ad355 = ad357 := (by injection e357); replace p357 := eq_true p357; replace q357 := eq_true q357))
  repeat (go_quiet (first | (go_at_call 30; (with_reducible refine (spec_l1Stands.calls k2 (rdOf ByteArray.empty l0 x7_2) (bt a1 0) _ _ A10.out).mono ?_); rintro e w' ⟨rfl, ⟨nd, rfl⟩⟩; (try first | exact ⟨rfl, _, World.drewN_drewN _ _ _⟩ | exact ⟨rfl, _, Eq.trans (World.drewN_drewN _ _ _) (congrArg (World.drewN _) (Nat.add_assoc _ _ _))⟩); have p357 : 0 ≤ (x7_2 : Int) := of_decide_eq_true au12; have q357 : x7_2 < (l0.length : Int) := of_decide_eq_true au12; obtain ⟨ad357, e357, hx357_0⟩ := Kd.at_string HR0.out x7_2 p357 q357; obtain rfl : ad355 = ad357 := (by injection e357); replace p357 := eq_true p357; replace q357 := eq_true q357)); try go_wp2_with (first | (go_at_call 30; (with_reducible refine (spec_l1Stands.calls k2 (rdOf ByteArray.empty l0 x7_2) (bt a1 0) _ _ A10.out).mono ?_); rintro e w' ⟨rfl, ⟨nd, rfl⟩⟩; (try first | exact ⟨rfl, _, World.drewN_drewN _ _ _⟩ | exact ⟨rfl, _, Eq.trans (World.drewN_drewN _ _ _) (congrArg (World.drewN _) (Nat.add_assoc _ _ _))⟩); have p357 : 0 ≤ (x7_2 : Int) := of_decide_eq_true au12; have q357 : x7_2 < (l0.length : Int) := of_decide_eq_true au12; obtain ⟨ad357, e357, hx357_0⟩ := Kd.at_string HR0.out x7_2 p357 q357; obtain rfl : ad355 = ad357 := (by injection e357); replace p357 := eq_true p357; replace q357 := eq_true q357)))
  go_roundg k2
  case measure => have := HJ2.out; have := HK2.out; omega
  case rel => first | (exact ⟨((x6_2 ++ a1) ++ (rdOf ByteArray.empty l0 x7_2)), (wrap64 (x7_2 + 1)), au13, au13, H', ⟨by have := HJ2.out; have := HK2.out; omega⟩, by repeat (first | exact Drawn0.refl _ | apply Drawn0.step)⟩) | (exact ⟨(x6_2 ++ (rdOf ByteArray.empty l0 x7_2)), (wrap64 (x7_2 + 1)), au13, au13, H', ⟨by have := HJ2.out; have := HK2.out; omega⟩, by repeat (first | exact Drawn0.refl _ | apply Drawn0.step)⟩)) : P := h
set_option maxRecDepth 100000 in
theorem spec_JoinStrings.L1 {P : Prop} (h : P := by
  go_wp2_with (first | (go_at_call 30; (with_reducible refine (spec_l1Stands.calls k2 (rdOf ByteArray.empty l0 x7_2) (bt a1 0) _ _ A10.out).mono ?_); rintro e w' ⟨rfl, ⟨nd, rfl⟩⟩; (try first | exact ⟨rfl, _, World.drewN_drewN _ _ _⟩ | exact ⟨rfl, _, Eq.trans (World.drewN_drewN _ _ _) (congrArg (World.drewN _) (Nat.add_assoc _ _ _))⟩); have p357 : 0 ≤ (x7_2 : Int) := of_decide_eq_true au12; have q357 : x7_2 < (l0.length : Int) := of_decide_eq_true au12; obtain ⟨ad357, e357, hx357_0⟩ := Kd.at_string HR0.out x7_2 p357 q357; obtain rfl : ad355 = ad357 := (by injection e357); replace p357 := eq_true p357; replace q357 := eq_true q357))
  repeat (go_quiet (first | (go_at_call 30; (with_reducible refine (spec_l1Stands.calls k2 (rdOf ByteArray.empty l0 x7_2) (bt a1 0) _ _ A10.out).mono ?_); rintro e w' ⟨rfl, ⟨nd, rfl⟩⟩; (try first | exact ⟨rfl, _, World.drewN_drewN _ _ _⟩ | exact ⟨rfl, _, Eq.trans (World.drewN_drewN _ _ _) (congrArg (World.drewN _) (Nat.add_assoc _ _ _))⟩); have p357 : 0 ≤ (x7_2 : Int) := of_decide_eq_true au12; have q357 : x7_2 < (l0.length : Int) := of_decide_eq_true au12; obtain ⟨ad357, e357, hx357_0⟩ := Kd.at_string HR0.out x7_2 p357 q357; obtain rfl : ad355 = ad357 := (by injection e357); replace p357 := eq_true p357; replace q357 := eq_true q357)); try go_wp2_with (first | (go_at_call 30; (with_reducible refine (spec_l1Stands.calls k2 (rdOf ByteArray.empty l0 x7_2) (bt a1 0) _ _ A10.out).mono ?_); rintro e w' ⟨rfl, ⟨nd, rfl⟩⟩; (try first | exact ⟨rfl, _, World.drewN_drewN _ _ _⟩ | exact ⟨rfl, _, Eq.trans (World.drewN_drewN _ _ _) (congrArg (World.drewN _) (Nat.add_assoc _ _ _))⟩); have p357 : 0 ≤ (x7_2 : Int) := of_decide_eq_true au12; have q357 : x7_2 < (l0.length : Int) := of_decide_eq_true au12; obtain ⟨ad357, e357, hx357_0⟩ := Kd.at_string HR0.out x7_2 p357 q357; obtain rfl : ad355 = ad357 := (by injection e357); replace p357 := eq_true p357; replace q357 := eq_true q357)))
  go_ret2
  exact ax2) : P := h
set_option maxHeartbeats 8000000 in
set_option maxRecDepth 100000 in
theorem spec_JoinStrings.calls (k : Nat) (A0 : Option Addr) (c0 : Nat) (l0 : List ByteArray) (a1 : ByteArray) (r1 : ByteArray) (r2 : Bool) (w : World) (hr0 : Kd.C Kd.string w A0 l0.length l0) (hc0 : l0.length ≤ c0) (h : spec_JoinStrings.f k l0 a1 = some (r1, r2)) :
  Calls Try.prog 14 #[.slice A0 l0.length c0, .string a1] w fun e w' => e = .returned (.tuple #[.string r1, .bool r2]) ∧ Drawn0 w w' := by
 have HR0 := Aside0.mk hr0
 have HC0 := Aside0.mk hc0
 clear hr0 hc0
 have H : (if (a1.size : Int) = 1 then (spec_JoinStrings.j0 k l0 a1 ((l0.length : Int) == 0)) else (spec_JoinStrings.j0 k l0 a1 true)) = some (r1, r2) := h
 clear h
 have HC3 := Aside0.mk H
 clear H
 go_enter Try.func14, Try.ntmps14
 go_upto_region 1 with (fail)
 repeat (go_quiet (fail); go_upto_region 1 with (fail))
 go_cut [15] (fun v15 wc => ∃ (kq : Nat) (x15_2 : Bool), v15 = .bool x15_2 ∧ Aside0 (spec_JoinStrings.j0 kq l0 a1 x15_2 = some (r1, r2)) ∧ Aside0 (kq ≤ k) ∧ Drawn0 w wc)
 case first =>
  have H := HC3.out
  clear HC3
  by_cases c4 : (a1.size : Int) = 1
  ·
   rw [if_pos c4] at H
   have c4b0 : ((a1.size : Int) == 1) = true := beq_iff_eq.mpr c4
   have c4b1 : ((a1.size : Int) != 1) = false := bne_eq_false_iff_eq.mpr c4
   clear c4
   (first | rw [c4b0] | (simp only [i64_w, i32_w]; rw [c4b0]) | skip)
   have H' := Aside0.mk H
   clear H
   go_wp2
   repeat (go_quiet (fail); try go_wp2)
   go_meet
   case rel => exact ⟨_, (((l0.length : Int) == 0)), au13, H', ⟨by first | omega | exact Nat.le_refl _⟩, by repeat (first | exact Drawn0.refl _ | apply Drawn0.step)⟩
  ·
   rw [if_neg c4] at H
   have c4b0 : ((a1.size : Int) == 1) = false := beq_eq_false_iff_ne.mpr c4
   have c4b1 : ((a1.size : Int) != 1) = true := bne_iff_ne.mpr c4
   (first | rw [c4b0] | (simp only [i64_w, i32_w]; rw [c4b0]) | skip)
   have H' := Aside0.mk H
   clear H
   go_wp2
   repeat (go_quiet (fail); try go_wp2)
   go_meet
   case rel => exact ⟨_, (true), au13, H', ⟨by first | omega | exact Nat.le_refl _⟩, by repeat (first | exact Drawn0.refl _ | apply Drawn0.step)⟩
 case rest =>
  clear HC3
  try clear c1
  try clear p2
  try clear c4
  try clear c4b0
  try clear c4b1
  obtain ⟨kq, x15_2, rfl, HA, HJ2, ⟨mc2, rfl⟩⟩ := hcut
  cases kq with
  | zero => exact absurd HA.out (by simp [spec_JoinStrings.j0])
  | succ kj2 =>
   have H := HA.out
   clear HA
   simp only [spec_JoinStrings.j0] at H
   by_cases c5 : x15_2 = true
   ·
    subst c5
    replace H := (if_pos rfl).symm.trans H
    simp only [Option.some.injEq, Prod.mk.injEq] at H
    obtain ⟨rfl, rfl⟩ := H
    go_wp2
    repeat (go_quiet (fail); try go_wp2)
    go_ret2
    exact ax2
   ·
    replace c5 := Bool.eq_false_iff.mpr c5
    subst c5
    replace H := (if_neg (show ¬ (false = true) by decide)).symm.trans H
    have H' := Aside0.mk H
    clear H
    go_wp2
    repeat (go_quiet (fail); try go_wp2)
    go_loopg [6, 7] kj2 (fun kq v6 v7 w' => ∃ (x6_2 : ByteArray) (x7_2 : Int), v6 = .string x6_2 ∧ v7 = .int .i64 x7_2 ∧ Aside0 (spec_JoinStrings.l0 kq l0 a1 x6_2 x7_2 = some (r1, r2)) ∧ Aside0 (kq ≤ kj2) ∧ Drawn0 w w')
    case atStart => exact ⟨((⟨#[]⟩ : ByteArray)), (0), au13, au13, H', ⟨Nat.le_refl _⟩, by repeat (first | exact Drawn0.refl _ | apply Drawn0.step)⟩
    case round =>
     clear H'
     try clear c1
     try clear c2
     try clear p2
     try clear c4
     try clear c4b0
     try clear c4b1
     try clear c5
     try clear p2
     obtain ⟨x6_2, x7_2, rfl, rfl, HA, HK2, ⟨m2, rfl⟩⟩ := hrel
     cases gk with
     | zero => exact absurd HA.out (by simp [spec_JoinStrings.l0])
     | succ k2 =>
      have H := HA.out
      clear HA
      simp only [spec_JoinStrings.l0] at H
      by_cases c6 : x7_2 < (l0.length : Int)
      ·
       rw [if_pos c6] at H
       have c6b0 : decide (x7_2 < (l0.length : Int)) = true := decide_eq_true c6
       clear c6
       by_cases c7 : 0 ≤ x7_2
       ·
        rw [if_pos c7] at H
        have c7b0 : decide (0 ≤ x7_2) = true := decide_eq_true c7
        clear c7
        by_cases c8 : 0 < (a1.size : Int)
        ·
         rw [if_pos c8] at H
         have c8b0 : decide (0 < (a1.size : Int)) = true := decide_eq_true c8
         have c8b1 : decide (0 < a1.size) = true := decide_eq_true (by omega)
         clear c8
         replace H := Option.bind_eq_some_iff.mp H
         obtain ⟨t356, A100, H⟩ := H
         try dsimp only at H
         have A10 := Aside0.mk A100
         clear A100
         by_cases c11 : t356 = true
         ·
          subst c11
          replace H := (if_pos rfl).symm.trans H
          simp only [Option.some.injEq, Prod.mk.injEq] at H
          obtain ⟨rfl, rfl⟩ := H
          have p355 : 0 ≤ (x7_2 : Int) := of_decide_eq_true au12
          have q355 : x7_2 < (l0.length : Int) := of_decide_eq_true au12
          obtain ⟨ad355, e355, hx355_0⟩ := Kd.at_string HR0.out x7_2 p355 q355
          cases e355
          replace p355 := eq_true p355
          replace q355 := eq_true q355
          have p9 : 0 ≤ (0 : Int) := (by omega)
          have q9 : 0 < a1.size := (by have : (0 : Int) < (a1.size : Int) := of_decide_eq_true au12; omega)
          have hx9 : ∀ h : 0 < a1.size, ((a1[0]'h).toNat : Int) = bt a1 0 := bt_at a1 0
          clear p9
          have qi9 : (0 < (a1.size : Int)) = True := eq_true (of_decide_eq_true au12)
          replace q9 := eq_true q9
          go_wp2_with (first | (go_at_call 30; (with_reducible refine (spec_l1Stands.calls k2 (rdOf ByteArray.empty l0 x7_2) (bt a1 0) _ _ A10.out).mono ?_); rintro e w' ⟨rfl, ⟨nd, rfl⟩⟩; (try first | exact ⟨rfl, _, World.drewN_drewN _ _ _⟩ | exact ⟨rfl, _, Eq.trans (World.drewN_drewN _ _ _) (congrArg (World.drewN _) (Nat.add_assoc _ _ _))⟩)))
          repeat (go_quiet (first | (go_at_call 30; (with_reducible refine (spec_l1Stands.calls k2 (rdOf ByteArray.empty l0 x7_2) (bt a1 0) _ _ A10.out).mono ?_); rintro e w' ⟨rfl, ⟨nd, rfl⟩⟩; (try first | exact ⟨rfl, _, World.drewN_drewN _ _ _⟩ | exact ⟨rfl, _, Eq.trans (World.drewN_drewN _ _ _) (congrArg (World.drewN _) (Nat.add_assoc _ _ _))⟩))); try go_wp2_with (first | (go_at_call 30; (with_reducible refine (spec_l1Stands.calls k2 (rdOf ByteArray.empty l0 x7_2) (bt a1 0) _ _ A10.out).mono ?_); rintro e w' ⟨rfl, ⟨nd, rfl⟩⟩; (try first | exact ⟨rfl, _, World.drewN_drewN _ _ _⟩ | exact ⟨rfl, _, Eq.trans (World.drewN_drewN _ _ _) (congrArg (World.drewN _) (Nat.add_assoc _ _ _))⟩))))
          go_ret2
          exact ax2
         ·
          replace c11 := Bool.eq_false_iff.mpr c11
          subst c11
          replace H := (if_neg (show ¬ (false = true) by decide)).symm.trans H
          by_cases c12 : x7_2 > 0
          ·
           rw [if_pos c12] at H
           have c12b0 : decide (0 < x7_2) = true := decide_eq_true c12
           clear c12
           by_cases c13 : x6_2.size + a1.size ≤ 9223372036854775807
           ·
            rw [if_pos c13] at H
            have c13b0 := eq_true c13
            have c13b1 : decide (x6_2.size + a1.size ≤ 9223372036854775807) = true := decide_eq_true c13
            try have c13b2 : (9223372036854775807 < x6_2.size + a1.size) = False := eq_false (Nat.not_lt.2 c13)
            by_cases c14 : (x6_2 ++ a1).size + (rdOf ByteArray.empty l0 x7_2).size ≤ 9223372036854775807
            ·
             rw [if_pos c14] at H
             have c14b0 := eq_true c14
             have c14b1 : decide ((x6_2 ++ a1).size + (rdOf ByteArray.empty l0 x7_2).size ≤ 9223372036854775807) = true := decide_eq_true c14
             try have c14b2 : (9223372036854775807 < (x6_2 ++ a1).size + (rdOf ByteArray.empty l0 x7_2).size) = False := eq_false (Nat.not_lt.2 c14)
             try have c14x : (9223372036854775807 < x6_2.size + a1.size + (rdOf ByteArray.empty l0 x7_2).size) = False := eq_false (by have z_ := c14; simp only [ByteArray.size_append] at z_; omega)
             by_cases c15 : (((x6_2 ++ a1) ++ (rdOf ByteArray.empty l0 x7_2)).size : Int) > 4000
             ·
              rw [if_pos c15] at H
              have c15b0 : decide (4000 < (((x6_2 ++ a1) ++ (rdOf ByteArray.empty l0 x7_2)).size : Int)) = true := decide_eq_true c15
              have c15b1 : decide (4000 < ((x6_2 ++ a1) ++ (rdOf ByteArray.empty l0 x7_2)).size) = true := decide_eq_true (by omega)
              (try (have c15b2 : decide (4000 < (x6_2.size : Int) + (a1.size : Int) + ((rdOf ByteArray.empty l0 x7_2).size : Int)) = true := decide_eq_true (by have z_ := c15; simp only [ByteArray.size_append] at z_; omega)))
              clear c15
              simp only [Option.some.injEq, Prod.mk.injEq] at H
              obtain ⟨rfl, rfl⟩ := H
              have p355 : 0 ≤ (x7_2 : Int) := of_decide_eq_true au12
              have q355 : x7_2 < (l0.length : Int) := of_decide_eq_true au12
              obtain ⟨ad355, e355, hx355_0⟩ := Kd.at_string HR0.out x7_2 p355 q355
              cases e355
              replace p355 := eq_true p355
              replace q355 := eq_true q355
              have p9 : 0 ≤ (0 : Int) := (by omega)
              have q9 : 0 < a1.size := (by have : (0 : Int) < (a1.size : Int) := of_decide_eq_true au12; omega)
              have hx9 : ∀ h : 0 < a1.size, ((a1[0]'h).toNat : Int) = bt a1 0 := bt_at a1 0
              clear p9
              have qi9 : (0 < (a1.size : Int)) = True := eq_true (of_decide_eq_true au12)
              replace q9 := eq_true q9
              exact spec_JoinStrings.L1
             ·
              rw [if_neg c15] at H
              have c15b0 : decide (4000 < (((x6_2 ++ a1) ++ (rdOf ByteArray.empty l0 x7_2)).size : Int)) = false := decide_eq_false c15
              have c15b1 : decide (4000 < ((x6_2 ++ a1) ++ (rdOf ByteArray.empty l0 x7_2)).size) = false := decide_eq_false (by omega)
              (try (have c15b2 : decide (4000 < (x6_2.size : Int) + (a1.size : Int) + ((rdOf ByteArray.empty l0 x7_2).size : Int)) = false := decide_eq_false (by have z_ := c15; simp only [ByteArray.size_append] at z_; omega)))
              clear c15
              have H' := Aside0.mk H
              clear H
              have p355 : 0 ≤ (x7_2 : Int) := of_decide_eq_true au12
              have q355 : x7_2 < (l0.length : Int) := of_decide_eq_true au12
              obtain ⟨ad355, e355, hx355_0⟩ := Kd.at_string HR0.out x7_2 p355 q355
              cases e355
              replace p355 := eq_true p355
              replace q355 := eq_true q355
              have p9 : 0 ≤ (0 : Int) := (by omega)
              have q9 : 0 < a1.size := (by have : (0 : Int) < (a1.size : Int) := of_decide_eq_true au12; omega)
              have hx9 : ∀ h : 0 < a1.size, ((a1[0]'h).toNat : Int) = bt a1 0 := bt_at a1 0
              clear p9
              have qi9 : (0 < (a1.size : Int)) = True := eq_true (of_decide_eq_true au12)
              replace q9 := eq_true q9
              exact spec_JoinStrings.L0
            ·
             rw [if_neg c14] at H
             exact absurd H (by simp)
           ·
            rw [if_neg c13] at H
            exact absurd H (by simp)
          ·
           rw [if_neg c12] at H
           have c12b0 : decide (0 < x7_2) = false := decide_eq_false c12
           clear c12
           by_cases c16 : x6_2.size + (rdOf ByteArray.empty l0 x7_2).size ≤ 9223372036854775807
           ·
            rw [if_pos c16] at H
            have c16b0 := eq_true c16
            have c16b1 : decide (x6_2.size + (rdOf ByteArray.empty l0 x7_2).size ≤ 9223372036854775807) = true := decide_eq_true c16
            try have c16b2 : (9223372036854775807 < x6_2.size + (rdOf ByteArray.empty l0 x7_2).size) = False := eq_false (Nat.not_lt.2 c16)
            by_cases c17 : ((x6_2 ++ (rdOf ByteArray.empty l0 x7_2)).size : Int) > 4000
            ·
             rw [if_pos c17] at H
             have c17b0 : decide (4000 < ((x6_2 ++ (rdOf ByteArray.empty l0 x7_2)).size : Int)) = true := decide_eq_true c17
             have c17b1 : decide (4000 < (x6_2 ++ (rdOf ByteArray.empty l0 x7_2)).size) = true := decide_eq_true (by omega)
             (try (have c17b2 : decide (4000 < (x6_2.size : Int) + ((rdOf ByteArray.empty l0 x7_2).size : Int)) = true := decide_eq_true (by have z_ := c17; simp only [ByteArray.size_append] at z_; omega)))
             clear c17
             simp only [Option.some.injEq, Prod.mk.injEq] at H
             obtain ⟨rfl, rfl⟩ := H
             have p355 : 0 ≤ (x7_2 : Int) := of_decide_eq_true au12
             have q355 : x7_2 < (l0.length : Int) := of_decide_eq_true au12
             obtain ⟨ad355, e355, hx355_0⟩ := Kd.at_string HR0.out x7_2 p355 q355
             cases e355
             replace p355 := eq_true p355
             replace q355 := eq_true q355
             have p9 : 0 ≤ (0 : Int) := (by omega)
             have q9 : 0 < a1.size := (by have : (0 : Int) < (a1.size : Int) := of_decide_eq_true au12; omega)
             have hx9 : ∀ h : 0 < a1.size, ((a1[0]'h).toNat : Int) = bt a1 0 := bt_at a1 0
             clear p9
             have qi9 : (0 < (a1.size : Int)) = True := eq_true (of_decide_eq_true au12)
             replace q9 := eq_true q9
             exact spec_JoinStrings.L1
            ·
             rw [if_neg c17] at H
             have c17b0 : decide (4000 < ((x6_2 ++ (rdOf ByteArray.empty l0 x7_2)).size : Int)) = false := decide_eq_false c17
             have c17b1 : decide (4000 < (x6_2 ++ (rdOf ByteArray.empty l0 x7_2)).size) = false := decide_eq_false (by omega)
             (try (have c17b2 : decide (4000 < (x6_2.size : Int) + ((rdOf ByteArray.empty l0 x7_2).size : Int)) = false := decide_eq_false (by have z_ := c17; simp only [ByteArray.size_append] at z_; omega)))
             clear c17
             have H' := Aside0.mk H
             clear H
             have p355 : 0 ≤ (x7_2 : Int) := of_decide_eq_true au12
             have q355 : x7_2 < (l0.length : Int) := of_decide_eq_true au12
             obtain ⟨ad355, e355, hx355_0⟩ := Kd.at_string HR0.out x7_2 p355 q355
             cases e355
             replace p355 := eq_true p355
             replace q355 := eq_true q355
             have p9 : 0 ≤ (0 : Int) := (by omega)
             have q9 : 0 < a1.size := (by have : (0 : Int) < (a1.size : Int) := of_decide_eq_true au12; omega)
             have hx9 : ∀ h : 0 < a1.size, ((a1[0]'h).toNat : Int) = bt a1 0 := bt_at a1 0
             clear p9
             have qi9 : (0 < (a1.size : Int)) = True := eq_true (of_decide_eq_true au12)
             replace q9 := eq_true q9
             exact spec_JoinStrings.L0
           ·
            rw [if_neg c16] at H
            exact absurd H (by simp)
        ·
         rw [if_neg c8] at H
         exact absurd H (by simp)
       ·
        rw [if_neg c7] at H
        exact absurd H (by simp)
      ·
       rw [if_neg c6] at H
       have c6b0 : decide (x7_2 < (l0.length : Int)) = false := decide_eq_false c6
       clear c6
       simp only [Option.some.injEq, Prod.mk.injEq] at H
       obtain ⟨rfl, rfl⟩ := H
       go_wp2
       repeat (go_quiet (fail); try go_wp2)
       go_ret2
       exact ax2


/-! ### spec_DrawLessString: function 15 -/
def spec_DrawLessString.f (l0 : List Int) : Option (ByteArray × ByteArray) := (spec_l1Cur_any1.f l0 0 0).bind fun bt360 => ((spec_l1Cur_any1.f l0 bt360.2.1 bt360.2.2).bind fun bt363 => (some (bt360.1, bt363.1)))
set_option maxHeartbeats 8000000 in
set_option maxRecDepth 100000 in
theorem spec_DrawLessString.calls (A0 : Option Addr) (c0 : Nat) (l0 : List Int) (r1 : ByteArray) (r2 : ByteArray) (w : World) (hr0 : Kd.C (Kd.int .u8) w A0 l0.length l0) (hc0 : l0.length ≤ c0) (h : spec_DrawLessString.f l0 = some (r1, r2)) :
  Calls Try.prog 15 #[.slice A0 l0.length c0] w fun e w' => e = .returned (.tuple #[.string r1, .string r2]) ∧ Below w.heap.size w w' := by
 have hu47 := Try.underlying47
 have HR0 := Aside0.mk hr0
 have HC0 := Aside0.mk hc0
 clear hr0 hc0
 have HB := Aside0.mk (Below.refl w.heap.size w)
 have H : ((spec_l1Cur_any1.f l0 0 0).bind fun bt360 => ((spec_l1Cur_any1.f l0 bt360.2.1 bt360.2.2).bind fun bt363 => (some (bt360.1, bt363.1)))) = some (r1, r2) := h
 clear h
 replace H := Option.bind_eq_some_iff.mp H
 obtain ⟨⟨t360, t361, t362⟩, A20, H⟩ := H
 replace H : ((spec_l1Cur_any1.f l0 t361 t362).bind fun bt363 => (some (t360, bt363.1))) = some (r1, r2) := H
 have A2 := Aside0.mk A20
 clear A20
 replace H := Option.bind_eq_some_iff.mp H
 obtain ⟨⟨t363, t364, t365⟩, A30, H⟩ := H
 replace H : (some (t360, t363)) = some (r1, r2) := H
 have A3 := Aside0.mk A30
 clear A30
 simp only [Option.some.injEq, Prod.mk.injEq] at H
 obtain ⟨rfl, rfl⟩ := H
 go_enter Try.func15, Try.ntmps15
 go_wp2_with (first | ((with_reducible refine gate_dst (N := 8) rfl ?_); refine box_event ?hg (N := 8) ?hd (cs := #[.slice A0 l0.length c0, .int .i64 0, .int .u64 0]) (t := 47) ?hr ?_; (case hd => rfl); (case hg => rfl); (case hr => first | (go_simp; done) | (go_simp; rfl)); intro gb359 hg w4 hbox hb; have n0_ := Aside0.mk (below_step au5 hb); have n1_ := Aside0.mk ((show IsS47 w w4 gb359 l0 0 0 from ⟨_, _, hbox, by rw [hg]; exact (below_size au5), HR0.out⟩)); clear HB; have HB := n0_; have HI359 := n1_; clear n0_ n1_; clear hb hbox hg) | ((with_reducible refine gate_callee (f := 24) rfl ?_); refine goesL_ (some 10) rfl rfl Try.func24 (by kernel_rfl) rfl #[.pointer (some ⟨gb359, 0, none⟩)] rfl au4 ?_; (with_reducible refine (spec_l1Cur_any1.calls gb359 l0 0 0 t360 t361 t362 w _ ?side1 ?side2 A2.out).mono ?_); (case side1 => repeat (first | (with_reducible first | exact HI359.out | apply IsS47.alloc | apply IsS47.drewN | apply IsS47.drew | apply IsS47.set_1 | apply IsS47.set_2) | exact HI359.out)); (case side2 => repeat (first | (with_reducible first | exact HB.out | apply below_alloc | apply pw_below_drewN | apply below_drew1 | refine below_set ?_ (IsS47.ge HI359.out)) | exact HB.out)); rintro e w5 ⟨rfl, hi, hb, hk⟩; refine ⟨_, rfl, ?_⟩; have n0_ := Aside0.mk (hb); have n1_ := Aside0.mk (hi); clear HB; clear HI359; have HB := n0_; have HI359 := n1_; clear n0_ n1_; (try clear hb); (try clear hb2); (try clear hk); (try clear hi)) | ((with_reducible refine gate_callee (f := 24) rfl ?_); refine goesL_ (some 13) rfl rfl Try.func24 (by kernel_rfl) rfl #[.pointer (some ⟨gb359, 0, none⟩)] rfl au4 ?_; (with_reducible refine (spec_l1Cur_any1.calls gb359 l0 t361 t362 t363 t364 t365 w _ ?side1 ?side2 A3.out).mono ?_); (case side1 => repeat (first | (with_reducible first | exact HI359.out | apply IsS47.alloc | apply IsS47.drewN | apply IsS47.drew | apply IsS47.set_1 | apply IsS47.set_2) | exact HI359.out)); (case side2 => repeat (first | (with_reducible first | exact HB.out | apply below_alloc | apply pw_below_drewN | apply below_drew1 | refine below_set ?_ (IsS47.ge HI359.out)) | exact HB.out)); rintro e w6 ⟨rfl, hi, hb, hk⟩; refine ⟨_, rfl, ?_⟩; have n0_ := Aside0.mk (hb); have n1_ := Aside0.mk (hi); clear HB; clear HI359; have HB := n0_; have HI359 := n1_; clear n0_ n1_; (try clear hb); (try clear hb2); (try clear hk); (try clear hi)))
 go_ret2
 exact ⟨by first | rfl | (simp [errW_none, errW_some] <;> rfl) | (simp [*, errW_none, errW_some] <;> rfl), by repeat (first | (with_reducible first | exact HB.out | apply below_alloc | apply pw_below_drewN | apply below_drew1 | refine below_set ?_ (IsS47.ge HI359.out)) | exact HB.out)⟩

end Go.Proofs.Ytbjlofabbikanaa.G

namespace Go.Proofs.Ytbjlofabbikanaa.Ext
set_option linter.unusedVariables false
set_option linter.unusedSimpArgs false
theorem str_tri (a : List UInt8) : ∀ b, (!(Op.bytesLess a b || a == b)) = Op.bytesLess b a := by
  induction a with
  | nil => intro b; cases b <;> simp [Op.bytesLess]
  | cons x a ih =>
    intro b
    cases b with
    | nil => simp [Op.bytesLess]
    | cons y b =>
      have h := ih b
      unfold Op.bytesLess
      by_cases h1 : x < y
      · have h2 : ¬ y < x := fun h => by have a1 : x.toNat < y.toNat := h1; have a2 : y.toNat < x.toNat := h; omega
        have h3 : ¬ x = y := fun e => by subst e; exact h2 h1
        have h4 : ¬ y = x := fun e => h3 e.symm
        simp [h1, h2, h3, h4]
      · by_cases h2 : y < x
        · have h3 : ¬ x = y := fun e => by subst e; exact h1 h2
          simp [h1, h2, h3]
        · have h3 : x = y := by
            apply UInt8.toNat_inj.1
            have a1 : ¬ x.toNat < y.toNat := h1
            have a2 : ¬ y.toNat < x.toNat := h2
            omega
          subst h3
          simpa [h1] using h
theorem gtr_s (t : TypeId) (a b : ByteArray) : binOp .gtr t (.string a) (.string b) = pure (.bool (Op.bytesLess b.toList a.toList)) := by
  rw [← str_tri]; simp [binOp, Op.stringOp]
theorem geq_s (t : TypeId) (a b : ByteArray) : binOp .geq t (.string a) (.string b) = pure (.bool (!(Op.bytesLess a.toList b.toList))) := by simp [binOp, Op.stringOp]
theorem leq_s (t : TypeId) (a b : ByteArray) : binOp .leq t (.string a) (.string b) = pure (.bool (!(Op.bytesLess b.toList a.toList))) := by
  have h := str_tri a.toList b.toList
  rw [← h]; simp [binOp, Op.stringOp]
end Go.Proofs.Ytbjlofabbikanaa.Ext

namespace Go.Proofs.Ytbjlofabbikanaa.G
open Go.RowKit Go.Proofs.YtbjlofabbikanaaW.PrintWords Go.Proofs.YtbjlofabbikanaaW.PrintLast Go.Proofs.YtbjlofabbikanaaW.PrintMore
open Go.Proofs.Ytbjlofabbikanaa.Gl Go.Proofs.Ytbjlofabbikanaa.Ext
attribute [local go_sem] max2_int min2_int max_two min_two max_three min_three max_four min_four   -- for this text's walks alone
set_option linter.unusedVariables false
set_option linter.unusedSimpArgs false

attribute [local go_sem high] gtr_s geq_s leq_s
/-! ### impl_LessString: function 16 -/
def impl_LessString.f (a0 : ByteArray) (a1 : ByteArray) : Option (Bool) := some (Op.bytesLess a0.toList a1.toList)
set_option maxHeartbeats 8000000 in
set_option maxRecDepth 100000 in
theorem impl_LessString.calls (a0 : ByteArray) (a1 : ByteArray) (r : Bool) (w : World) (h : impl_LessString.f a0 a1 = some r) :
  Calls Try.prog 16 #[.string a0, .string a1] w fun e w' => e = .returned (.bool r) ∧ Drawn0 w w' := by
 have H : (some (Op.bytesLess a0.toList a1.toList)) = some r := h
 clear h
 obtain rfl := Option.some.inj H
 go_enter Try.func16, Try.ntmps16
 go_wp2
 go_ret
 exact ax2


attribute [local go_sem high] gtr_s geq_s leq_s
/-! ### spec_LessString: function 17 -/
def spec_LessString.f (a0 : ByteArray) (a1 : ByteArray) : Option (Bool) := some (Op.bytesLess a0.toList a1.toList)
set_option maxHeartbeats 8000000 in
set_option maxRecDepth 100000 in
theorem spec_LessString.calls (a0 : ByteArray) (a1 : ByteArray) (r : Bool) (w : World) (h : spec_LessString.f a0 a1 = some r) :
  Calls Try.prog 17 #[.string a0, .string a1] w fun e w' => e = .returned (.bool r) ∧ Drawn0 w w' := by
 have H : (some (Op.bytesLess a0.toList a1.toList)) = some r := h
 clear h
 obtain rfl := Option.some.inj H
 go_enter Try.func17, Try.ntmps17
 go_wp2
 go_ret
 exact ax2


/-! ### laws_vBig: function 5 -/
def laws_vBig.f (l0 : List Int) : Option (Bool) := some (decide ((l0.length : Int) > 65536))
set_option maxHeartbeats 8000000 in
set_option maxRecDepth 100000 in
theorem laws_vBig.calls (A0 : Option Addr) (c0 : Nat) (l0 : List Int) (r : Bool) (w : World) (hr0 : Kd.C (Kd.int .u8) w A0 l0.length l0) (hc0 : l0.length ≤ c0) (h : laws_vBig.f l0 = some r) :
  Calls Try.prog 5 #[.slice A0 l0.length c0] w fun e w' => e = .returned (.bool r) ∧ Drawn0 w w' := by
 have HR0 := Aside0.mk hr0
 have HC0 := Aside0.mk hc0
 clear hr0 hc0
 have H : (some (decide ((l0.length : Int) > 65536))) = some r := h
 clear h
 obtain rfl := Option.some.inj H
 go_enter Try.func5, Try.ntmps5
 go_wp2
 go_ret
 exact ax2


/-! ### laws_FnSplitJoin: function 4 -/
def laws_FnSplitJoin.j0 : Nat → ByteArray → ByteArray → List ByteArray → Bool → Bool → Option (Bool)
 | 0, _, _, _, _, _ => none
 | k + 1, x3, x4, x5, x6, x78 => if x78 = true then (some false) else (if (x4.size : Int) = 1 then ((impl_JoinStrings.f k x5 x4).bind fun bt387 => (if x6 = true then (if bt387.2 = true then (some (bt387.1.toList == x3.toList)) else (some false)) else (some false))) else (if x6 = true then (some false) else (some ((x5.length : Int) == 0))))
def laws_FnSplitJoin.f (k : Nat) (l0 : List Int) : Option (Bool) := (laws_vBig.f l0).bind fun t366 => (if t366 = true then (some true) else ((spec_DrawSplitString.f l0).bind fun bt367 => ((impl_SplitString.f k bt367.1 bt367.2).bind fun bt369 => ((spec_DrawJoinStrings.f k l0).bind fun bt373 => ((impl_JoinStrings.f k bt373.1 bt373.2).bind fun bt377 => ((spec_JoinStrings.f k bt373.1 bt373.2).bind fun bt379 => ((spec_DrawLessString.f l0).bind fun bt381 => (if bt377.1.toList = bt379.1.toList then (if (bt377.2 != bt379.2) = true then (laws_FnSplitJoin.j0 k bt367.1 bt367.2 bt369.1 bt369.2 true) else ((impl_LessString.f bt381.1 bt381.2).bind fun t383 => ((spec_LessString.f bt381.1 bt381.2).bind fun t384 => (if (t383 != t384) = true then (laws_FnSplitJoin.j0 k bt367.1 bt367.2 bt369.1 bt369.2 true) else ((impl_LessString.f bt381.1 bt381.2).bind fun t385 => (if t385 = true then ((impl_LessString.f bt381.2 bt381.1).bind fun t386 => (laws_FnSplitJoin.j0 k bt367.1 bt367.2 bt369.1 bt369.2 t386)) else (laws_FnSplitJoin.j0 k bt367.1 bt367.2 bt369.1 bt369.2 false))))))) else (laws_FnSplitJoin.j0 k bt367.1 bt367.2 bt369.1 bt369.2 true)))))))))
theorem laws_FnSplitJoin.mono_l : ∀ k, (∀ y0 y1 y2 y3 y4, LeO (laws_FnSplitJoin.j0 k y0 y1 y2 y3 y4) (laws_FnSplitJoin.j0 (k + 1) y0 y1 y2 y3 y4))
 | 0 => fun _ _ _ _ _ r h => by simp [laws_FnSplitJoin.j0] at h
 | k + 1 => by
  have ih0 := laws_FnSplitJoin.mono_l k
  ·
   intro y0 y1 y2 y3 y4
   unfold laws_FnSplitJoin.j0
   repeat' first
   | (with_reducible exact ih0 _ _ _ _ _)
   | (with_reducible exact impl_JoinStrings.mono _ _ _)
   | (with_reducible exact impl_SplitString.mono _ _ _)
   | (with_reducible exact spec_DrawJoinStrings.mono _ _)
   | (with_reducible exact spec_JoinStrings.mono _ _ _)
   | (with_reducible exact LeO.refl _)
   | (with_reducible exact LeO.none _)
   | (with_reducible refine LeO.ite ?_ ?_)
   | (with_reducible refine LeO.bind ?_ (fun _ => ?_))
   | exact ih0 _ _ _ _ _
   | exact impl_JoinStrings.mono _ _ _
   | exact impl_SplitString.mono _ _ _
   | exact spec_DrawJoinStrings.mono _ _
   | exact spec_JoinStrings.mono _ _ _
   | exact LeO.none _
   | refine LeO.ite ?_ ?_
   | refine LeO.bind ?_ (fun _ => ?_)
theorem laws_FnSplitJoin.mono : ∀ a0 k, LeO (laws_FnSplitJoin.f k a0) (laws_FnSplitJoin.f (k + 1) a0) := by
 intro a0 k
 have ih0 := laws_FnSplitJoin.mono_l k
 unfold laws_FnSplitJoin.f
 repeat' first
   | (with_reducible exact ih0 _ _ _ _ _)
   | (with_reducible exact impl_JoinStrings.mono _ _ _)
   | (with_reducible exact impl_SplitString.mono _ _ _)
   | (with_reducible exact spec_DrawJoinStrings.mono _ _)
   | (with_reducible exact spec_JoinStrings.mono _ _ _)
   | (with_reducible exact LeO.refl _)
   | (with_reducible exact LeO.none _)
   | (with_reducible refine LeO.ite ?_ ?_)
   | (with_reducible refine LeO.bind ?_ (fun _ => ?_))
   | exact ih0 _ _ _ _ _
   | exact impl_JoinStrings.mono _ _ _
   | exact impl_SplitString.mono _ _ _
   | exact spec_DrawJoinStrings.mono _ _
   | exact spec_JoinStrings.mono _ _ _
   | exact LeO.none _
   | refine LeO.ite ?_ ?_
   | refine LeO.bind ?_ (fun _ => ?_)
set_option maxRecDepth 100000 in
theorem laws_FnSplitJoin.L0 {P : Prop} (h : P := by
  go_wp2_with (first | ((with_reducible refine gate_callee (f := 13) rfl ?_); refine goesL_ (some 92) rfl rfl Try.func13 (by kernel_rfl) rfl #[.slice Ao34 t369.length co34, .string t368] rfl au4 ?_; (with_reducible refine (impl_JoinStrings.calls kj9 _ _ t369 t368 t387 t388 _ ?side1 ?side2 A27.out).mono ?_); (case side1 => repeat (first | exact (Kd.R_reads' HO_5.out).2.2 | (with_reducible refine Kd.C_alloc ?_ _) | (with_reducible refine Kd.C_drewN ?_ _) | (with_reducible refine Kd.C_drew ?_))); (case side2 => exact (Kd.R_reads' HO_5.out).2.1); rintro e w35 ⟨rfl, hb⟩; refine ⟨_, rfl, ?_⟩; have n0_ := Aside0.mk (Kd.R_below au11 hb); have n1_ := Aside0.mk (below_step au5 hb); clear HO_5; clear HB; have HO_5 := n0_; have HB := n1_; clear n0_ n1_; (try clear hb); (try clear hb2); (try clear hk); (try clear hi)))
  go_ret
  exact ax1) : P := h
set_option maxRecDepth 100000 in
theorem laws_FnSplitJoin.L1 {P : Prop} (h : P := by
  go_wp2_with (first | (go_at_call 16; (with_reducible refine (impl_LessString.calls t381 t382 t383 _ A19.out).mono ?_); rintro e w' ⟨rfl, ⟨nd, rfl⟩⟩) | (go_at_call 17; (with_reducible refine (spec_LessString.calls t381 t382 t384 _ A20.out).mono ?_); rintro e w' ⟨rfl, ⟨nd, rfl⟩⟩) | (go_at_call 16; (with_reducible refine (impl_LessString.calls t381 t382 _ _ A22.out).mono ?_); rintro e w' ⟨rfl, ⟨nd, rfl⟩⟩) | (go_at_call 16; (with_reducible refine (impl_LessString.calls t382 t381 t386 _ A24.out).mono ?_); rintro e w' ⟨rfl, ⟨nd, rfl⟩⟩))
  go_meet
  case rel => first | (exact ⟨_, (t386), au13, H', ⟨by first | omega | exact Nat.le_refl _⟩, ⟨by (with_reducible repeat (first | apply Kd.R_alloc | apply Kd.R_drewN | apply Kd.R_drew)); exact Kd.R_mono HO372.out (fun _ hk => trivial)⟩, ⟨by repeat (first | (with_reducible first | exact HB.out | apply below_alloc | apply pw_below_drewN | apply below_drew1) | exact HB.out)⟩⟩) | (exact ⟨_, (false), au13, H', ⟨by first | omega | exact Nat.le_refl _⟩, ⟨by (with_reducible repeat (first | apply Kd.R_alloc | apply Kd.R_drewN | apply Kd.R_drew)); exact Kd.R_mono HO372.out (fun _ hk => trivial)⟩, ⟨by repeat (first | (with_reducible first | exact HB.out | apply below_alloc | apply pw_below_drewN | apply below_drew1) | exact HB.out)⟩⟩) | (exact ⟨_, (true), au13, H', ⟨by first | omega | exact Nat.le_refl _⟩, ⟨by (with_reducible repeat (first | apply Kd.R_alloc | apply Kd.R_drewN | apply Kd.R_drew)); exact Kd.R_mono HO372.out (fun _ hk => trivial)⟩, ⟨by repeat (first | (with_reducible first | exact HB.out | apply below_alloc | apply pw_below_drewN | apply below_drew1) | exact HB.out)⟩⟩)) : P := h
set_option maxHeartbeats 8000000 in
set_option maxRecDepth 100000 in
theorem laws_FnSplitJoin.calls (k : Nat) (A0 : Option Addr) (c0 : Nat) (l0 : List Int) (r : Bool) (w : World) (hr0 : Kd.C (Kd.int .u8) w A0 l0.length l0) (hc0 : l0.length ≤ c0) (h : laws_FnSplitJoin.f k l0 = some r) :
  Calls Try.prog 4 #[.slice A0 l0.length c0] w fun e w' => e = .returned (.bool r) ∧ Below w.heap.size w w' := by
 have HR0 := Aside0.mk hr0
 have HC0 := Aside0.mk hc0
 clear hr0 hc0
 have HB := Aside0.mk (Below.refl w.heap.size w)
 have H : ((laws_vBig.f l0).bind fun t366 => (if t366 = true then (some true) else ((spec_DrawSplitString.f l0).bind fun bt367 => ((impl_SplitString.f k bt367.1 bt367.2).bind fun bt369 => ((spec_DrawJoinStrings.f k l0).bind fun bt373 => ((impl_JoinStrings.f k bt373.1 bt373.2).bind fun bt377 => ((spec_JoinStrings.f k bt373.1 bt373.2).bind fun bt379 => ((spec_DrawLessString.f l0).bind fun bt381 => (if bt377.1.toList = bt379.1.toList then (if (bt377.2 != bt379.2) = true then (laws_FnSplitJoin.j0 k bt367.1 bt367.2 bt369.1 bt369.2 true) else ((impl_LessString.f bt381.1 bt381.2).bind fun t383 => ((spec_LessString.f bt381.1 bt381.2).bind fun t384 => (if (t383 != t384) = true then (laws_FnSplitJoin.j0 k bt367.1 bt367.2 bt369.1 bt369.2 true) else ((impl_LessString.f bt381.1 bt381.2).bind fun t385 => (if t385 = true then ((impl_LessString.f bt381.2 bt381.1).bind fun t386 => (laws_FnSplitJoin.j0 k bt367.1 bt367.2 bt369.1 bt369.2 t386)) else (laws_FnSplitJoin.j0 k bt367.1 bt367.2 bt369.1 bt369.2 false))))))) else (laws_FnSplitJoin.j0 k bt367.1 bt367.2 bt369.1 bt369.2 true)))))))))) = some r := h
 clear h
 replace H := Option.bind_eq_some_iff.mp H
 obtain ⟨t366, A20, H⟩ := H
 try dsimp only at H
 have A2 := Aside0.mk A20
 clear A20
 by_cases c3 : t366 = true
 ·
  subst c3
  replace H := (if_pos rfl).symm.trans H
  obtain rfl := Option.some.inj H
  go_enter Try.func4, Try.ntmps4
  go_wp2_with (first | ((with_reducible refine gate_callee (f := 5) rfl ?_); refine goesL_ (some 18) rfl rfl Try.func5 (by kernel_rfl) rfl #[.slice A0 l0.length c0] rfl au4 ?_; (with_reducible refine (laws_vBig.calls _ _ l0 _ _ ?side1 ?side2 A2.out).mono ?_); (case side1 => repeat (first | exact HR0.out | (with_reducible refine Kd.C_alloc ?_ _) | (with_reducible refine Kd.C_drewN ?_ _) | (with_reducible refine Kd.C_drew ?_))); (case side2 => exact HC0.out); rintro e w' ⟨rfl, ⟨nd, rfl⟩⟩; refine ⟨_, rfl, ?_⟩))
  go_ret
  exact ax1
 ·
  replace c3 := Bool.eq_false_iff.mpr c3
  subst c3
  replace H := (if_neg (show ¬ (false = true) by decide)).symm.trans H
  replace H := Option.bind_eq_some_iff.mp H
  obtain ⟨⟨t367, t368⟩, A40, H⟩ := H
  replace H : ((impl_SplitString.f k t367 t368).bind fun bt369 => ((spec_DrawJoinStrings.f k l0).bind fun bt373 => ((impl_JoinStrings.f k bt373.1 bt373.2).bind fun bt377 => ((spec_JoinStrings.f k bt373.1 bt373.2).bind fun bt379 => ((spec_DrawLessString.f l0).bind fun bt381 => (if bt377.1.toList = bt379.1.toList then (if (bt377.2 != bt379.2) = true then (laws_FnSplitJoin.j0 k t367 t368 bt369.1 bt369.2 true) else ((impl_LessString.f bt381.1 bt381.2).bind fun t383 => ((spec_LessString.f bt381.1 bt381.2).bind fun t384 => (if (t383 != t384) = true then (laws_FnSplitJoin.j0 k t367 t368 bt369.1 bt369.2 true) else ((impl_LessString.f bt381.1 bt381.2).bind fun t385 => (if t385 = true then ((impl_LessString.f bt381.2 bt381.1).bind fun t386 => (laws_FnSplitJoin.j0 k t367 t368 bt369.1 bt369.2 t386)) else (laws_FnSplitJoin.j0 k t367 t368 bt369.1 bt369.2 false))))))) else (laws_FnSplitJoin.j0 k t367 t368 bt369.1 bt369.2 true))))))) = some r := H
  have A4 := Aside0.mk A40
  clear A40
  replace H := Option.bind_eq_some_iff.mp H
  obtain ⟨⟨t369, t370⟩, A50, H⟩ := H
  replace H : ((spec_DrawJoinStrings.f k l0).bind fun bt373 => ((impl_JoinStrings.f k bt373.1 bt373.2).bind fun bt377 => ((spec_JoinStrings.f k bt373.1 bt373.2).bind fun bt379 => ((spec_DrawLessString.f l0).bind fun bt381 => (if bt377.1.toList = bt379.1.toList then (if (bt377.2 != bt379.2) = true then (laws_FnSplitJoin.j0 k t367 t368 t369 t370 true) else ((impl_LessString.f bt381.1 bt381.2).bind fun t383 => ((spec_LessString.f bt381.1 bt381.2).bind fun t384 => (if (t383 != t384) = true then (laws_FnSplitJoin.j0 k t367 t368 t369 t370 true) else ((impl_LessString.f bt381.1 bt381.2).bind fun t385 => (if t385 = true then ((impl_LessString.f bt381.2 bt381.1).bind fun t386 => (laws_FnSplitJoin.j0 k t367 t368 t369 t370 t386)) else (laws_FnSplitJoin.j0 k t367 t368 t369 t370 false))))))) else (laws_FnSplitJoin.j0 k t367 t368 t369 t370 true)))))) = some r := H
  have A5 := Aside0.mk A50
  clear A50
  replace H := Option.bind_eq_some_iff.mp H
  obtain ⟨⟨t373, t374⟩, A60, H⟩ := H
  replace H : ((impl_JoinStrings.f k t373 t374).bind fun bt377 => ((spec_JoinStrings.f k t373 t374).bind fun bt379 => ((spec_DrawLessString.f l0).bind fun bt381 => (if bt377.1.toList = bt379.1.toList then (if (bt377.2 != bt379.2) = true then (laws_FnSplitJoin.j0 k t367 t368 t369 t370 true) else ((impl_LessString.f bt381.1 bt381.2).bind fun t383 => ((spec_LessString.f bt381.1 bt381.2).bind fun t384 => (if (t383 != t384) = true then (laws_FnSplitJoin.j0 k t367 t368 t369 t370 true) else ((impl_LessString.f bt381.1 bt381.2).bind fun t385 => (if t385 = true then ((impl_LessString.f bt381.2 bt381.1).bind fun t386 => (laws_FnSplitJoin.j0 k t367 t368 t369 t370 t386)) else (laws_FnSplitJoin.j0 k t367 t368 t369 t370 false))))))) else (laws_FnSplitJoin.j0 k t367 t368 t369 t370 true))))) = some r := H
  have A6 := Aside0.mk A60
  clear A60
  replace H := Option.bind_eq_some_iff.mp H
  obtain ⟨⟨t377, t378⟩, A70, H⟩ := H
  replace H : ((spec_JoinStrings.f k t373 t374).bind fun bt379 => ((spec_DrawLessString.f l0).bind fun bt381 => (if t377.toList = bt379.1.toList then (if (t378 != bt379.2) = true then (laws_FnSplitJoin.j0 k t367 t368 t369 t370 true) else ((impl_LessString.f bt381.1 bt381.2).bind fun t383 => ((spec_LessString.f bt381.1 bt381.2).bind fun t384 => (if (t383 != t384) = true then (laws_FnSplitJoin.j0 k t367 t368 t369 t370 true) else ((impl_LessString.f bt381.1 bt381.2).bind fun t385 => (if t385 = true then ((impl_LessString.f bt381.2 bt381.1).bind fun t386 => (laws_FnSplitJoin.j0 k t367 t368 t369 t370 t386)) else (laws_FnSplitJoin.j0 k t367 t368 t369 t370 false))))))) else (laws_FnSplitJoin.j0 k t367 t368 t369 t370 true)))) = some r := H
  have A7 := Aside0.mk A70
  clear A70
  replace H := Option.bind_eq_some_iff.mp H
  obtain ⟨⟨t379, t380⟩, A80, H⟩ := H
  replace H : ((spec_DrawLessString.f l0).bind fun bt381 => (if t377.toList = t379.toList then (if (t378 != t380) = true then (laws_FnSplitJoin.j0 k t367 t368 t369 t370 true) else ((impl_LessString.f bt381.1 bt381.2).bind fun t383 => ((spec_LessString.f bt381.1 bt381.2).bind fun t384 => (if (t383 != t384) = true then (laws_FnSplitJoin.j0 k t367 t368 t369 t370 true) else ((impl_LessString.f bt381.1 bt381.2).bind fun t385 => (if t385 = true then ((impl_LessString.f bt381.2 bt381.1).bind fun t386 => (laws_FnSplitJoin.j0 k t367 t368 t369 t370 t386)) else (laws_FnSplitJoin.j0 k t367 t368 t369 t370 false))))))) else (laws_FnSplitJoin.j0 k t367 t368 t369 t370 true))) = some r := H
  have A8 := Aside0.mk A80
  clear A80
  replace H := Option.bind_eq_some_iff.mp H
  obtain ⟨⟨t381, t382⟩, A90, H⟩ := H
  replace H : (if t377.toList = t379.toList then (if (t378 != t380) = true then (laws_FnSplitJoin.j0 k t367 t368 t369 t370 true) else ((impl_LessString.f t381 t382).bind fun t383 => ((spec_LessString.f t381 t382).bind fun t384 => (if (t383 != t384) = true then (laws_FnSplitJoin.j0 k t367 t368 t369 t370 true) else ((impl_LessString.f t381 t382).bind fun t385 => (if t385 = true then ((impl_LessString.f t382 t381).bind fun t386 => (laws_FnSplitJoin.j0 k t367 t368 t369 t370 t386)) else (laws_FnSplitJoin.j0 k t367 t368 t369 t370 false))))))) else (laws_FnSplitJoin.j0 k t367 t368 t369 t370 true)) = some r := H
  have A9 := Aside0.mk A90
  clear A90
  have HC10 := Aside0.mk H
  clear H
  go_enter Try.func4, Try.ntmps4
  go_upto_region 9 with (first | ((with_reducible refine gate_callee (f := 5) rfl ?_); refine goesL_ (some 18) rfl rfl Try.func5 (by kernel_rfl) rfl #[.slice A0 l0.length c0] rfl au4 ?_; (with_reducible refine (laws_vBig.calls _ _ l0 _ _ ?side1 ?side2 A2.out).mono ?_); (case side1 => repeat (first | exact HR0.out | (with_reducible refine Kd.C_alloc ?_ _) | (with_reducible refine Kd.C_drewN ?_ _) | (with_reducible refine Kd.C_drew ?_))); (case side2 => exact HC0.out); rintro e w' ⟨rfl, ⟨nd, rfl⟩⟩; refine ⟨_, rfl, ?_⟩) | ((with_reducible refine gate_callee (f := 10) rfl ?_); refine goesL_ (some 21) rfl rfl Try.func10 (by kernel_rfl) rfl #[.slice A0 l0.length c0] rfl au4 ?_; (with_reducible refine (spec_DrawSplitString.calls _ _ l0 t367 t368 _ ?side1 ?side2 A4.out).mono ?_); (case side1 => repeat (first | exact HR0.out | (with_reducible refine Kd.C_alloc ?_ _) | (with_reducible refine Kd.C_drewN ?_ _) | (with_reducible refine Kd.C_drew ?_))); (case side2 => exact HC0.out); rintro e w11 ⟨rfl, hb⟩; refine ⟨_, rfl, ?_⟩; have n0_ := Aside0.mk (below_step au5 hb); clear HB; have HB := n0_; clear n0_; (try clear hb); (try clear hb2); (try clear hk); (try clear hi)) | ((with_reducible refine gate_callee (f := 11) rfl ?_); refine goesL_ (some 27) rfl rfl Try.func11 (by kernel_rfl) rfl #[.string t367, .string t368] rfl au4 ?_; (with_reducible refine (impl_SplitString.calls k t367 t368 t369 t370 _ A5.out).mono ?_); rintro e w12 ⟨v371, rfl, ho0, hb⟩; refine ⟨_, rfl, ?_⟩; have n0_ := Aside0.mk (Kd.R_lower ho0 (below_size au5)); have n1_ := Aside0.mk (below_step au5 hb); clear HB; have HO372 := n0_; have HB := n1_; clear n0_ n1_; (try clear hb); (try clear hb2); (try clear hk); (try clear hi); (try clear ho0)) | ((with_reducible refine gate_callee (f := 12) rfl ?_); refine goesL_ (some 32) rfl rfl Try.func12 (by kernel_rfl) rfl #[.slice A0 l0.length c0] rfl au4 ?_; (with_reducible refine (spec_DrawJoinStrings.calls k _ _ l0 t373 t374 _ ?side1 ?side2 A6.out).mono ?_); (case side1 => repeat (first | exact (Kd.C_below HR0.out HB.out) | (with_reducible refine Kd.C_alloc ?_ _) | (with_reducible refine Kd.C_drewN ?_ _) | (with_reducible refine Kd.C_drew ?_))); (case side2 => exact HC0.out); rintro e w13 ⟨v375, rfl, ho0, hb⟩; refine ⟨_, rfl, ?_⟩; have n0_ := Aside0.mk (Kd.R_elder' au8 (Kd.R_base ho0) hb); have n1_ := Aside0.mk (Kd.R_lower (Kd.R_new' ho0 (Kd.R_lt au8)) (below_size au5)); have n2_ := Aside0.mk (below_step au5 hb); clear HO372; clear HB; have HO372 := n0_; have HO376 := n1_; have HB := n2_; clear n0_ n1_ n2_; (try clear hb); (try clear hb2); (try clear hk); (try clear hi); (try clear ho0); obtain ⟨Ao14, co14, eo14⟩ := Kd.R_slice HO376.out; subst eo14) | ((with_reducible refine gate_callee (f := 13) rfl ?_); refine goesL_ (some 38) rfl rfl Try.func13 (by kernel_rfl) rfl #[.slice Ao14 t373.length co14, .string t374] rfl au4 ?_; (with_reducible refine (impl_JoinStrings.calls k _ _ t373 t374 t377 t378 _ ?side1 ?side2 A7.out).mono ?_); (case side1 => repeat (first | exact (Kd.R_reads' HO376.out).2.2 | (with_reducible refine Kd.C_alloc ?_ _) | (with_reducible refine Kd.C_drewN ?_ _) | (with_reducible refine Kd.C_drew ?_))); (case side2 => exact (Kd.R_reads' HO376.out).2.1); rintro e w15 ⟨rfl, hb⟩; refine ⟨_, rfl, ?_⟩; have n0_ := Aside0.mk (Kd.R_below au8 hb); have n1_ := Aside0.mk (Kd.R_below au9 hb); have n2_ := Aside0.mk (below_step au5 hb); clear HO372; clear HO376; clear HB; have HO372 := n0_; have HO376 := n1_; have HB := n2_; clear n0_ n1_ n2_; (try clear hb); (try clear hb2); (try clear hk); (try clear hi)) | ((with_reducible refine gate_callee (f := 14) rfl ?_); refine goesL_ (some 44) rfl rfl Try.func14 (by kernel_rfl) rfl #[.slice Ao14 t373.length co14, .string t374] rfl au4 ?_; (with_reducible refine (spec_JoinStrings.calls k _ _ t373 t374 t379 t380 _ ?side1 ?side2 A8.out).mono ?_); (case side1 => repeat (first | exact (Kd.R_reads' HO376.out).2.2 | (with_reducible refine Kd.C_alloc ?_ _) | (with_reducible refine Kd.C_drewN ?_ _) | (with_reducible refine Kd.C_drew ?_))); (case side2 => exact (Kd.R_reads' HO376.out).2.1); rintro e w' ⟨rfl, ⟨nd, rfl⟩⟩; refine ⟨_, rfl, ?_⟩) | ((with_reducible refine gate_callee (f := 15) rfl ?_); refine goesL_ (some 49) rfl rfl Try.func15 (by kernel_rfl) rfl #[.slice A0 l0.length c0] rfl au4 ?_; (with_reducible refine (spec_DrawLessString.calls _ _ l0 t381 t382 _ ?side1 ?side2 A9.out).mono ?_); (case side1 => repeat (first | exact (Kd.C_below HR0.out au5) | (with_reducible refine Kd.C_alloc ?_ _) | (with_reducible refine Kd.C_drewN ?_ _) | (with_reducible refine Kd.C_drew ?_))); (case side2 => exact HC0.out); rintro e w16 ⟨rfl, hb⟩; refine ⟨_, rfl, ?_⟩; have n0_ := Aside0.mk (Kd.R_below au8 hb); have n1_ := Aside0.mk (Kd.R_below au9 hb); have n2_ := Aside0.mk (below_step au5 hb); clear HO372; clear HO376; clear HB; have HO372 := n0_; have HO376 := n1_; have HB := n2_; clear n0_ n1_ n2_; (try clear hb); (try clear hb2); (try clear hk); (try clear hi)))
  (try simp only [Act.put, List.setIfInBounds_toArray, List.set_cons_zero, List.set_cons_succ])
  go_cut [78] (fun v78 wc => ∃ (kq : Nat) (x78_9 : Bool), v78 = .bool x78_9 ∧ Aside0 (laws_FnSplitJoin.j0 kq t367 t368 t369 t370 x78_9 = some r) ∧ Aside0 (kq ≤ k) ∧ Aside0 (Kd.R Kd.string 9 wc w.heap.size (fun _ => True) v371 t369) ∧ Aside0 (Below w.heap.size w wc))
  case first =>
   have H := HC10.out
   clear HC10
   by_cases c17 : t377.toList = t379.toList
   ·
    rw [if_pos c17] at H
    have c17b0 : (t377.toList == t379.toList) = true := beq_iff_eq.mpr c17
    have c17b1 : (t377.toList != t379.toList) = false := bne_eq_false_iff_eq.mpr c17
    clear c17
    (first | rw [c17b0] | (simp only [i64_w, i32_w]; rw [c17b0]) | skip)
    by_cases c18 : (t378 != t380) = true
    ·
     rw [if_pos c18] at H
     have c18b0 : (t378 != t380) = true := c18
     (try (have c18b1 : decide (t378 = t380) = false := by simpa using c18))
     (try (have c18b2 : (t378 == t380) = false := by simpa using c18))
     (try (have c18b3 : ¬ (t378 = t380) := by simpa using c18))
     clear c18
     have H' := Aside0.mk H
     clear H
     exact laws_FnSplitJoin.L1
    ·
     rw [if_neg c18] at H
     have c18b0 : (t378 != t380) = false := by simpa using c18
     (try (have c18b1 : decide (t378 = t380) = true := by simpa using c18))
     (try (have c18b2 : (t378 == t380) = true := by simpa using c18))
     clear c18
     replace H := Option.bind_eq_some_iff.mp H
     obtain ⟨t383, A190, H⟩ := H
     try dsimp only at H
     have A19 := Aside0.mk A190
     clear A190
     replace H := Option.bind_eq_some_iff.mp H
     obtain ⟨t384, A200, H⟩ := H
     try dsimp only at H
     have A20 := Aside0.mk A200
     clear A200
     by_cases c21 : (t383 != t384) = true
     ·
      rw [if_pos c21] at H
      have c21b0 : (t383 != t384) = true := c21
      (try (have c21b1 : decide (t383 = t384) = false := by simpa using c21))
      (try (have c21b2 : (t383 == t384) = false := by simpa using c21))
      (try (have c21b3 : ¬ (t383 = t384) := by simpa using c21))
      clear c21
      have H' := Aside0.mk H
      clear H
      exact laws_FnSplitJoin.L1
     ·
      rw [if_neg c21] at H
      have c21b0 : (t383 != t384) = false := by simpa using c21
      (try (have c21b1 : decide (t383 = t384) = true := by simpa using c21))
      (try (have c21b2 : (t383 == t384) = true := by simpa using c21))
      clear c21
      replace H := Option.bind_eq_some_iff.mp H
      obtain ⟨t385, A220, H⟩ := H
      try dsimp only at H
      have A22 := Aside0.mk A220
      clear A220
      (try (obtain rfl : t385 = t383 := Option.some.inj (A22.out.symm.trans A19.out)))
      by_cases c23 : t385 = true
      ·
       subst c23
       replace H := (if_pos rfl).symm.trans H
       replace H := Option.bind_eq_some_iff.mp H
       obtain ⟨t386, A240, H⟩ := H
       try dsimp only at H
       have A24 := Aside0.mk A240
       clear A240
       have H' := Aside0.mk H
       clear H
       exact laws_FnSplitJoin.L1
      ·
       replace c23 := Bool.eq_false_iff.mpr c23
       subst c23
       replace H := (if_neg (show ¬ (false = true) by decide)).symm.trans H
       have H' := Aside0.mk H
       clear H
       exact laws_FnSplitJoin.L1
   ·
    rw [if_neg c17] at H
    have c17b0 : (t377.toList == t379.toList) = false := beq_eq_false_iff_ne.mpr c17
    have c17b1 : (t377.toList != t379.toList) = true := bne_iff_ne.mpr c17
    (first | rw [c17b0] | (simp only [i64_w, i32_w]; rw [c17b0]) | skip)
    have H' := Aside0.mk H
    clear H
    exact laws_FnSplitJoin.L1
  case rest =>
   clear HC10
   try clear c1
   try clear c2
   try clear p2
   try clear c3
   try clear c4
   try clear c5
   try clear c10
   try clear c11
   try clear c12
   try clear c13
   try clear c14
   try clear c15
   try clear c17
   try clear c17b0
   try clear c17b1
   try clear c18
   try clear c18b0
   try clear c18b1
   try clear c18b2
   try clear c21
   try clear c21b0
   try clear c21b1
   try clear c21b2
   try clear c23
   obtain ⟨kq, x78_9, rfl, HA, HJ9, HO_5, HB⟩ := hcut
   cases kq with
   | zero => exact absurd HA.out (by simp [laws_FnSplitJoin.j0])
   | succ kj9 =>
    have H := HA.out
    clear HA
    simp only [laws_FnSplitJoin.j0] at H
    by_cases c25 : x78_9 = true
    ·
     subst c25
     replace H := (if_pos rfl).symm.trans H
     obtain rfl := Option.some.inj H
     exact laws_FnSplitJoin.L0
    ·
     replace c25 := Bool.eq_false_iff.mpr c25
     subst c25
     replace H := (if_neg (show ¬ (false = true) by decide)).symm.trans H
     by_cases c26 : (t368.size : Int) = 1
     ·
      rw [if_pos c26] at H
      have c26b0 : ((t368.size : Int) == 1) = true := beq_iff_eq.mpr c26
      have c26b1 : ((t368.size : Int) != 1) = false := bne_eq_false_iff_eq.mpr c26
      clear c26
      replace H := Option.bind_eq_some_iff.mp H
      obtain ⟨⟨t387, t388⟩, A270, H⟩ := H
      replace H : (if t370 = true then (if t388 = true then (some (t387.toList == t367.toList)) else (some false)) else (some false)) = some r := H
      have A27 := Aside0.mk A270
      clear A270
      by_cases c28 : t370 = true
      ·
       subst c28
       replace H := (if_pos rfl).symm.trans H
       by_cases c29 : t388 = true
       ·
        subst c29
        replace H := (if_pos rfl).symm.trans H
        obtain rfl := Option.some.inj H
        obtain ⟨Ao30, co30, eo30⟩ := Kd.R_slice HO_5.out
        subst eo30
        go_wp2_with (first | ((with_reducible refine gate_callee (f := 13) rfl ?_); refine goesL_ (some 92) rfl rfl Try.func13 (by kernel_rfl) rfl #[.slice Ao30 t369.length co30, .string t368] rfl au4 ?_; (with_reducible refine (impl_JoinStrings.calls kj9 _ _ t369 t368 t387 _ _ ?side1 ?side2 A27.out).mono ?_); (case side1 => repeat (first | exact (Kd.R_reads' HO_5.out).2.2 | (with_reducible refine Kd.C_alloc ?_ _) | (with_reducible refine Kd.C_drewN ?_ _) | (with_reducible refine Kd.C_drew ?_))); (case side2 => exact (Kd.R_reads' HO_5.out).2.1); rintro e w31 ⟨rfl, hb⟩; refine ⟨_, rfl, ?_⟩; have n0_ := Aside0.mk (Kd.R_below au11 hb); have n1_ := Aside0.mk (below_step au5 hb); clear HO_5; clear HB; have HO_5 := n0_; have HB := n1_; clear n0_ n1_; (try clear hb); (try clear hb2); (try clear hk); (try clear hi)))
        go_ret
        exact ax1
       ·
        replace c29 := Bool.eq_false_iff.mpr c29
        subst c29
        replace H := (if_neg (show ¬ (false = true) by decide)).symm.trans H
        obtain rfl := Option.some.inj H
        obtain ⟨Ao32, co32, eo32⟩ := Kd.R_slice HO_5.out
        subst eo32
        go_wp2_with (first | ((with_reducible refine gate_callee (f := 13) rfl ?_); refine goesL_ (some 92) rfl rfl Try.func13 (by kernel_rfl) rfl #[.slice Ao32 t369.length co32, .string t368] rfl au4 ?_; (with_reducible refine (impl_JoinStrings.calls kj9 _ _ t369 t368 t387 _ _ ?side1 ?side2 A27.out).mono ?_); (case side1 => repeat (first | exact (Kd.R_reads' HO_5.out).2.2 | (with_reducible refine Kd.C_alloc ?_ _) | (with_reducible refine Kd.C_drewN ?_ _) | (with_reducible refine Kd.C_drew ?_))); (case side2 => exact (Kd.R_reads' HO_5.out).2.1); rintro e w33 ⟨rfl, hb⟩; refine ⟨_, rfl, ?_⟩; have n0_ := Aside0.mk (Kd.R_below au11 hb); have n1_ := Aside0.mk (below_step au5 hb); clear HO_5; clear HB; have HO_5 := n0_; have HB := n1_; clear n0_ n1_; (try clear hb); (try clear hb2); (try clear hk); (try clear hi)))
        go_ret
        exact ax1
      ·
       replace c28 := Bool.eq_false_iff.mpr c28
       subst c28
       replace H := (if_neg (show ¬ (false = true) by decide)).symm.trans H
       obtain rfl := Option.some.inj H
       obtain ⟨Ao34, co34, eo34⟩ := Kd.R_slice HO_5.out
       subst eo34
       exact laws_FnSplitJoin.L0
     ·
      rw [if_neg c26] at H
      have c26b0 : ((t368.size : Int) == 1) = false := beq_eq_false_iff_ne.mpr c26
      have c26b1 : ((t368.size : Int) != 1) = true := bne_iff_ne.mpr c26
      by_cases c36 : t370 = true
      ·
       subst c36
       replace H := (if_pos rfl).symm.trans H
       obtain rfl := Option.some.inj H
       exact laws_FnSplitJoin.L0
      ·
       replace c36 := Bool.eq_false_iff.mpr c36
       subst c36
       replace H := (if_neg (show ¬ (false = true) by decide)).symm.trans H
       obtain rfl := Option.some.inj H
       obtain ⟨Ao37, co37, eo37⟩ := Kd.R_slice HO_5.out
       subst eo37
       exact laws_FnSplitJoin.L0



end Go.Proofs.Ytbjlofabbikanaa.G

namespace Go.Proofs.Ytbjlofabbikanaa.Opn
open Go.RowKit Go.Proofs.YtbjlofabbikanaaW.PrintWords
set_option linter.unusedVariables false
set_option linter.unusedSimpArgs false
variable {H : Type} {enc : TypeId × Value → H} {P : Program} {w : World} {base : Nat} {spare : Nat → Bool} {held : Bool}
def okInt (k : IntKind) (n : Int) : Prop := (Lit.int k n).wf = true
def okList {α : Type} (p : α → Prop) (xs : List α) : Prop := xs.length ≤ 9223372036854775807 ∧ ∀ x ∈ xs, p x
theorem of_int {t : TypeId} {k : IntKind} {fuel : Nat} {cs : List Value} {x : DataW H × List MemPlace} (ht : P.underlying t = some (.int k)) (h : DataW.trod enc P w base spare held fuel t cs = some x) :
    ∃ n, (Kd.int k).K w n cs ∧ okInt k n := by
  obtain ⟨n, rfl, rfl, hw⟩ := DataW.trod_int ht h
  exact ⟨n, rfl, hw⟩
theorem add_add (a : Addr) (k i : Nat) : (a.add k).add i = a.add (k + i) := by
  unfold Addr.add
  by_cases hk : k = 0 <;> by_cases hi : i = 0 <;> simp [hk, hi, Nat.add_assoc]
theorem of_slice {α : Type} {d : Kd α} {ok : α → Prop} {t e : TypeId} {fuel : Nat} {cs : List Value} {x : DataW H × List MemPlace} (ht : P.underlying t = some (.slice e)) (hc : P.cellsOf e = d.sz)
    (ih : ∀ n cs x, DataW.trod enc P w base spare held n e cs = some x → ∃ y, d.K w y cs ∧ ok y) (h : DataW.trod enc P w base spare held fuel t cs = some x) :
    ∃ ys, (Kd.slice e d).K w ys cs ∧ okList ok ys := by
  rcases Go.Deep.open_slice ht h with ⟨rfl, _⟩ | ⟨a, len, cap, m, n, D, Pl, rfl, hb, hl, hm, hmm, hxe, hel⟩
  · exact ⟨[], ⟨none, 0, rfl, by simp, rfl, by simp, fun h => absurd h (by simp)⟩, by simp, fun x hx => by simp at hx⟩
  · have hlm : len ≤ m := by rw [hmm]; split <;> omega
    have hm' : len ≤ 9223372036854775807 := by unfold maxLen at hm; omega
    have key : ∀ i, i < len → ∃ cs' y, w.cells? base (a.add (i * P.cellsOf e)) (P.cellsOf e) = some cs' ∧ d.K w y cs' ∧ ok y := by
      intro i hi
      obtain ⟨cs', h1, h2⟩ := hel i (by omega)
      obtain ⟨y, hy, ho⟩ := ih _ _ _ h2
      exact ⟨cs', y, h1, hy, ho⟩
    obtain ⟨ys, hlen, hys⟩ : ∃ ys : List α, ys.length = len ∧ ∀ i (hi : i < ys.length), ∃ cs', w.cells? base (a.add (i * P.cellsOf e)) (P.cellsOf e) = some cs' ∧ d.K w ys[i] cs' ∧ ok ys[i] := by
      clear h hxe hel hmm hlm hl hm hm'
      induction len with
      | zero => exact ⟨[], rfl, fun i hi => by simp at hi⟩
      | succ len ihl =>
        obtain ⟨ys, h1, h2⟩ := ihl (fun i hi => key i (by omega))
        obtain ⟨cs', y, h3, h4, h5⟩ := key len (by omega)
        refine ⟨ys ++ [y], by simp [h1], fun i hi => ?_⟩
        by_cases hi' : i < ys.length
        · rw [List.getElem_append_left hi']; exact h2 i hi'
        · have : i = len := by simp at hi; omega
          subst this
          refine ⟨cs', h3, ?_, ?_⟩ <;> rw [List.getElem_append_right (by omega)] <;> simpa [h1]
    refine ⟨ys, ⟨some a, cap, by rw [hlen], by omega, rfl, by omega, fun _ => ⟨a, rfl, fun j p hj => ?_⟩⟩, by omega, fun y hy => ?_⟩
    · obtain ⟨hj', rfl⟩ := List.getElem?_eq_some_iff.1 hj
      obtain ⟨cs', h1, h2, _⟩ := hys j hj'
      rw [hc] at h1
      refine ⟨cs', d.K_len h2, h2, fun i u hu => ?_⟩
      obtain ⟨_, hl', hcell⟩ := World.cells?_some h1
      have hi : i < d.sz := by have := (List.getElem?_eq_some_iff.1 hu).1; omega
      have := hcell i hi
      rw [hu, add_add] at this
      exact this
    · obtain ⟨i, hi, rfl⟩ := List.getElem_of_mem hy
      obtain ⟨_, _, _, h3⟩ := hys i hi
      exact h3
end Go.Proofs.Ytbjlofabbikanaa.Opn

namespace Go.Proofs.Ytbjlofabbikanaa.G
open Go.Proofs.Ytbjlofabbikanaa.Opn
open Go.RowKit Go.Proofs.YtbjlofabbikanaaW.PrintWords Go.Proofs.YtbjlofabbikanaaW.PrintLast Go.Proofs.YtbjlofabbikanaaW.PrintMore
open Go.Proofs.Ytbjlofabbikanaa.Gl Go.Proofs.Ytbjlofabbikanaa.Ext
attribute [local go_sem] max2_int min2_int max_two min_two max_three min_three max_four min_four   -- for this text's walks alone
set_option linter.unusedVariables false
set_option linter.unusedSimpArgs false

theorem cells5 : Try.prog.cellsOf 5 = 1 := by kernel_rfl

def laws_FnSplitJoin.Pur : Prop := ∀ (l0 : List Int), okList (okInt .u8) l0 → ∃ k, laws_FnSplitJoin.f k l0 = some true
theorem laws_FnSplitJoin.wlk (P : laws_FnSplitJoin.Pur) (A0 : Option Addr) (c0 : Nat) (l0 : List Int) (w : World) (hr0 : Kd.C (Kd.int .u8) w A0 l0.length l0) (hc0 : l0.length ≤ c0) (bl0 : okList (okInt .u8) l0) :
    Calls Try.prog 4 #[.slice A0 l0.length c0] w fun e w' => e = .returned (.bool true) ∧ Below w.heap.size w w' := by
  obtain ⟨k, h⟩ := P l0 bl0
  refine (laws_FnSplitJoin.calls k A0 c0 l0 true w hr0 hc0 h).mono ?_
  rintro e w' ⟨rfl, hd⟩
  exact ⟨rfl, hd⟩

end Go.Proofs.Ytbjlofabbikanaa.G

namespace Go.Proofs.Ytbjlofabbikanaa.B
open Go.RowKit Go.Proofs.YtbjlofabbikanaaW.PrintWords Go.Proofs.YtbjlofabbikanaaW.PrintLast
set_option linter.unusedVariables false
set_option linter.unusedSimpArgs false
theorem w64 {x : Int} (h : -9223372036854775808 ≤ x) (h' : x ≤ 9223372036854775807) : wrap64 x = x := by unfold wrap64; omega
theorem ev_pos {α : Type} {c : Prop} [Decidable c] {g f : Nat → Option α} {r : α} (h : c) (e : Ev g r) : Ev (fun k => if c then g k else f k) r := Ev.congr (fun _ => if_pos h) e
theorem ev_neg {α : Type} {c : Prop} [Decidable c] {g f : Nat → Option α} {r : α} (h : ¬ c) (e : Ev f r) : Ev (fun k => if c then g k else f k) r := Ev.congr (fun _ => if_neg h) e
theorem ev_bind0 {α β : Type} {o : Option α} {f : Nat → α → Option β} {a : α} {r : β} (h : o = some a) (k : Ev (fun n => f n a) r) : Ev (fun n => o.bind (f n)) r := Ev.congr (fun _ => by rw [h]; rfl) k
theorem ev_eq {α : Type} {g : Nat → Option α} {a b : α} (h : Ev g a) (e : a = b) : Ev g b := e ▸ h
abbrev L (s : ByteArray) : List UInt8 := s.data.toList
def mkB (l : List UInt8) : ByteArray := ⟨l.toArray⟩
theorem L_mk (l : List UInt8) : L (mkB l) = l := by simp [mkB]
theorem mk_L (s : ByteArray) : mkB (L s) = s := by cases s; simp [mkB, L]
theorem L_inj {a b : ByteArray} (h : L a = L b) : a = b := by rw [← mk_L a, h, mk_L]
theorem L_len (s : ByteArray) : (L s).length = s.size := (Lib.size_eq s).symm
theorem L_extract (s : ByteArray) (a b : Nat) : L (s.extract a b) = ((L s).drop a).take (b - a) := Lib.extract_data s a b
theorem L_append (a b : ByteArray) : L (a ++ b) = L a ++ L b := by simp [L, ByteArray.data_append]
theorem size_append (a b : ByteArray) : (a ++ b).size = a.size + b.size := by rw [← L_len, L_append, List.length_append, L_len, L_len]
theorem bt_get (s : ByteArray) (i : Nat) (h : i < s.size) : bt s (i : Int) = (((L s)[i]'(by rw [L_len]; exact h)).toNat : Int) := by
  unfold bt
  simp only [Int.toNat_natCast, h, dif_pos]
  rfl
theorem bt_getD (s : ByteArray) (i : Nat) (h : i < s.size) : bt s (i : Int) = (((L s).getD i 0).toNat : Int) := by
  rw [bt_get s i h, List.getD_eq_getElem?_getD, List.getElem?_eq_getElem (by rw [L_len]; exact h)]; rfl
theorem u8_inj {a b : UInt8} (h : (a.toNat : Int) = (b.toNat : Int)) : a = b := UInt8.toNat_inj.1 (by omega)
end Go.Proofs.Ytbjlofabbikanaa.B

namespace Go.Proofs.Ytbjlofabbikanaa.G
open Go.RowKit Go.Proofs.YtbjlofabbikanaaW.PrintWords Go.Proofs.YtbjlofabbikanaaW.PrintLast Go.Proofs.Ytbjlofabbikanaa.B Go.Proofs.Ytbjlofabbikanaa.Opn
set_option linter.unusedVariables false
set_option linter.unusedSimpArgs false
def BtL (l : List Int) : Prop := l.length ≤ 65536 ∧ ∀ x ∈ l, 0 ≤ x ∧ x ≤ 255
theorem bt_of {l : List Int} (h : okList (okInt .u8) l) (hl : l.length ≤ 65536) : BtL l := by
  refine ⟨hl, fun x hx => ?_⟩
  have := h.2 x hx
  simp only [okInt, Lit.wf, Bool.and_eq_true, decide_eq_true_eq] at this
  have h1 : IntKind.u8.min = 0 := rfl
  have h2 : IntKind.u8.max = 255 := rfl
  omega
theorem rd_bd {l : List Int} (h : BtL l) (i : Int) : 0 ≤ rd l i ∧ rd l i ≤ 255 := by
  unfold rd
  by_cases c : i.toNat < l.length
  · rw [List.getD_eq_getElem?_getD, List.getElem?_eq_getElem c]
    exact h.2 _ (List.getElem_mem c)
  · rw [List.getD_eq_getElem?_getD, List.getElem?_eq_none (by omega)]
    exact ⟨by decide, by decide⟩
theorem and_bd (x : Int) : 0 ≤ wrap64 (Go.bits .and .u64 ((IntKind.u64.wrap x) / 1099511627776) 255) ∧ wrap64 (Go.bits .and .u64 ((IntKind.u64.wrap x) / 1099511627776) 255) ≤ 255 := by
  rw [IntKind.wrap_u64]
  obtain ⟨n, hn, hl⟩ : ∃ n : Nat, (x % 18446744073709551616) / 1099511627776 = (n : Int) ∧ n < 18446744073709551616 := ⟨((x % 18446744073709551616) / 1099511627776).toNat, by omega, by omega⟩
  rw [hn, show (255 : Int) = ((255 : Nat) : Int) from rfl, bits_and_u64_nat n 255 hl (by omega)]
  have := Nat.and_le_right (n := n) (m := 255)
  rw [w64 (by omega) (by omega)]
  omega
theorem next_ex {l : List Int} (h : BtL l) (a s : Int) (h0 : 0 ≤ a) (h1 : a ≤ 2305843009213693952) : ∃ x s', spec_l1Cur_next.f l a s = some (x, a + 1, s') ∧ 0 ≤ x ∧ x ≤ 255 := by
  unfold spec_l1Cur_next.f
  have hw : wrap64 (a + 1) = a + 1 := w64 (by omega) (by omega)
  rw [hw]
  have hr := rd_bd h a
  by_cases c : a < (l.length : Int)
  · rw [if_pos c, if_pos h0]
    by_cases c2 : a + 1 ≤ (l.length : Int)
    · rw [if_pos c2]; exact ⟨_, _, rfl, by rw [w64 (by omega) (by omega)]; exact hr⟩
    · rw [if_neg c2]; exact ⟨_, _, rfl, and_bd _⟩
  · rw [if_neg c]
    by_cases c2 : a + 1 ≤ (l.length : Int)
    · rw [if_pos c2]; exact ⟨_, _, rfl, by omega, by omega⟩
    · rw [if_neg c2]; exact ⟨_, _, rfl, and_bd _⟩
theorem tmod_bd {x n : Int} (h : 0 ≤ x) (hn : 1 ≤ n) : 0 ≤ Int.tmod x n ∧ Int.tmod x n < n := ⟨Int.tmod_nonneg n h, Int.tmod_lt_of_pos x (by omega)⟩
theorem pick_ex {l : List Int} (h : BtL l) (a s n : Int) (h0 : 0 ≤ a) (h1 : a ≤ 2305843009213693000) (hn : 1 ≤ n) : ∃ x a' s', spec_l1Cur_pick.f l a s n = some (x, a', s') ∧ 0 ≤ x ∧ x < n ∧ a ≤ a' ∧ a' ≤ a + 2 := by
  unfold spec_l1Cur_pick.f
  by_cases c : n ≤ 1
  · rw [if_pos c]; exact ⟨_, _, _, rfl, by omega, by omega, by omega, by omega⟩
  · rw [if_neg c]
    obtain ⟨x, s', e, b0, b1⟩ := next_ex h a s h0 (by omega)
    rw [e]
    by_cases c2 : n > 200
    · obtain ⟨x2, s2, e2, b2, b3⟩ := next_ex h (a + 1) s' (by omega) (by omega)
      refine ⟨Int.tmod (x * 256 + x2) n, a + 1 + 1, s2, ?_, (tmod_bd (x := x * 256 + x2) (n := n) (by omega) hn).1, (tmod_bd (x := x * 256 + x2) (n := n) (by omega) hn).2, ?_, ?_⟩
      · simp only [Option.bind_some]
        rw [if_pos c2, e2]
        simp only [Option.bind_some]
        rw [if_neg (by omega), w64 (x := x * 256) (by omega) (by omega), w64 (x := x * 256 + x2) (by omega) (by omega)]
      · omega
      · omega
    · refine ⟨Int.tmod x n, a + 1, s', ?_, (tmod_bd (x := x) (n := n) b0 hn).1, (tmod_bd (x := x) (n := n) b0 hn).2, ?_, ?_⟩
      · simp only [Option.bind_some]
        rw [if_neg c2, if_neg (by omega)]
      · omega
      · omega
theorem of_ex {l : List Int} (h : BtL l) (a s : Int) (ts : List ByteArray) (h0 : 0 ≤ a) (h1 : a ≤ 2305843009213693000) (hn : 1 ≤ ts.length) : ∃ x a' s', spec_l1Cur_of.f l a s ts = some (x, a', s') ∧ x ∈ ts ∧ a ≤ a' ∧ a' ≤ a + 2 := by
  unfold spec_l1Cur_of.f
  obtain ⟨x, a', s', e, b0, b1, b2, b3⟩ := pick_ex h a s (ts.length : Int) h0 h1 (by omega)
  rw [e]
  simp only [Option.bind_some]
  rw [if_pos b0, if_pos b1]
  refine ⟨_, _, _, rfl, ?_, b2, b3⟩
  unfold rdOf
  rw [List.getD_eq_getElem?_getD, List.getElem?_eq_getElem (by omega)]
  exact List.getElem_mem (by omega)
end Go.Proofs.Ytbjlofabbikanaa.G

namespace Go.Proofs.Ytbjlofabbikanaa.G
open Go.RowKit Go.Proofs.YtbjlofabbikanaaW.PrintWords Go.Proofs.YtbjlofabbikanaaW.PrintLast Go.Proofs.Ytbjlofabbikanaa.B
set_option linter.unusedVariables false
set_option linter.unusedSimpArgs false
theorem stands_loop (s : ByteArray) (b : UInt8) (hs : s.size ≤ 4611686018427387904) (d : Nat) : ∀ (i : Nat), i ≤ s.size → s.size - i = d →
    Ev (fun k => spec_l1Stands.l0 k s (b.toNat : Int) i) (decide (b ∈ (L s).drop i)) := by
  have hL : (L s).length = s.size := L_len s
  induction d with
  | zero =>
    intro i hi hd
    refine Ev.step (f := fun _ => some false) (fun k => ?_) (ev_eq (Ev.now _) ?_)
    · simp only [spec_l1Stands.l0]; rw [if_neg (by omega)]
    · rw [List.drop_of_length_le (by omega)]; simp
  | succ d ih =>
    intro i hi hd
    have hlt : i < s.size := by omega
    have hlt' : i < (L s).length := by omega
    rw [List.drop_eq_getElem_cons hlt']
    by_cases e : (L s)[i] = b
    · refine Ev.step (f := fun _ => some true) (fun k => ?_) (ev_eq (Ev.now _) ?_)
      · simp only [spec_l1Stands.l0]; rw [if_pos (by omega), if_pos (by omega), if_pos (by rw [bt_get s i hlt, e])]
      · simp [e]
    · refine Ev.step (f := fun k => spec_l1Stands.l0 k s (b.toNat : Int) ((i + 1 : Nat) : Int)) (fun k => ?_) (ev_eq (ih (i + 1) (by omega) (by omega)) ?_)
      · simp only [spec_l1Stands.l0]
        rw [if_pos (by omega), if_pos (by omega), if_neg (by rw [bt_get s i hlt]; exact fun h => e (u8_inj h)), w64 (x := (i : Int) + 1) (by omega) (by omega)]
        rfl
      · rw [decide_eq_decide, List.mem_cons]
        exact ⟨.inr, fun h => h.elim (fun h => absurd h.symm e) id⟩
theorem stands_ev (s : ByteArray) (b : UInt8) (hs : s.size ≤ 4611686018427387904) : Ev (fun k => spec_l1Stands.f k s (b.toNat : Int)) (decide (b ∈ L s)) := by
  have := stands_loop s b hs s.size 0 (by omega) (by omega)
  simpa [spec_l1Stands.f] using this
theorem indexByte_bd (l : List UInt8) (b : UInt8) : -1 ≤ Lib.indexByte l b ∧ Lib.indexByte l b < l.length + 1 ∧ (0 ≤ Lib.indexByte l b ↔ b ∈ l) := by
  induction l with
  | nil => simp [Lib.indexByte]
  | cons c l ih =>
    unfold Lib.indexByte
    by_cases h : c = b
    · subst h; simp; omega
    · have h' : (c == b) = false := by simpa using h
      rw [h']
      obtain ⟨i1, i2, i3⟩ := ih
      have hm : b ∈ c :: l ↔ b ∈ l := by rw [List.mem_cons]; exact ⟨fun x => x.elim (fun x => absurd x.symm h) id, .inr⟩
      rw [hm, ← i3]
      by_cases e : Lib.indexByte l b = -1
      · simp [e]; omega
      · have e' : (Lib.indexByte l b == -1) = false := by simpa using e
        rw [e']; simp; omega
theorem byte_back (b : UInt8) : (b.toNat : Int).toNat.toUInt8 = b := by simp
end Go.Proofs.Ytbjlofabbikanaa.G

namespace Go.Proofs.Ytbjlofabbikanaa.B
open Go.RowKit Go.Proofs.YtbjlofabbikanaaW.PrintWords Go.Proofs.YtbjlofabbikanaaW.PrintLast
set_option linter.unusedVariables false
set_option linter.unusedSimpArgs false
def ahd (seg : List UInt8) : List (List UInt8) → List (List UInt8)
  | [] => [seg]
  | h :: t => (seg ++ h) :: t
def spl (b : UInt8) : List UInt8 → List (List UInt8)
  | [] => [[]]
  | c :: cs => if c = b then [] :: spl b cs else ahd [c] (spl b cs)
theorem spl_nil (b : UInt8) : spl b [] = [[]] := rfl
theorem spl_cons (b c : UInt8) (cs : List UInt8) : spl b (c :: cs) = if c = b then [] :: spl b cs else ahd [c] (spl b cs) := rfl
theorem spl_ne (b : UInt8) (l : List UInt8) : spl b l ≠ [] := by
  cases l with
  | nil => simp [spl]
  | cons c cs => unfold spl; split <;> simp; unfold ahd; split <;> simp
theorem ahd_nil (p : List (List UInt8)) (h : p ≠ []) : ahd [] p = p := by cases p <;> simp_all [ahd]
theorem ahd_ahd (a b : List UInt8) (p : List (List UInt8)) : ahd a (ahd b p) = ahd (a ++ b) p := by cases p <;> simp [ahd]
theorem spl_step (b : UInt8) (l : List UInt8) (from_ i : Nat) (hi : i < l.length) (hf : from_ ≤ i) :
    ahd ((l.drop from_).take (i - from_)) (spl b (l.drop i)) =
      if l[i] = b then ((l.drop from_).take (i - from_)) :: spl b (l.drop (i + 1)) else ahd ((l.drop from_).take (i + 1 - from_)) (spl b (l.drop (i + 1))) := by
  rw [List.drop_eq_getElem_cons hi, spl_cons]
  by_cases h : l[i] = b
  · rw [if_pos h, if_pos h]
    simp [ahd]
  · rw [if_neg h, if_neg h]
    have e : (l.drop from_).take (i + 1 - from_) = (l.drop from_).take (i - from_) ++ [l[i]] := by
      rw [show i + 1 - from_ = (i - from_) + 1 by omega, List.take_succ_eq_append_getElem (by rw [List.length_drop]; omega)]
      congr 2
      rw [List.getElem_drop]
      congr 1
      omega
    rw [e]
    exact ahd_ahd _ _ _
end Go.Proofs.Ytbjlofabbikanaa.B

namespace Go.Proofs.Ytbjlofabbikanaa.Pure
open Go.RowKit Go.Proofs.Ytbjlofabbikanaa.G Go.Proofs.YtbjlofabbikanaaW.PrintWords Go.Proofs.YtbjlofabbikanaaW.PrintLast Go.Proofs.Ytbjlofabbikanaa.B Go.Proofs.Ytbjlofabbikanaa.Opn
set_option linter.unusedVariables false
set_option linter.unusedSimpArgs false
def bytesS (l : List ByteArray) : Nat := (l.map (·.size)).sum
def bulkS (l : List ByteArray) : Nat := l.length + bytesS l
theorem bytesS_cons (a : ByteArray) (l : List ByteArray) : bytesS (a :: l) = a.size + bytesS l := by simp [bytesS]
theorem bytesS_len {l : List ByteArray} {n : Nat} (h : bulkS l ≤ n) : l.length ≤ n := by unfold bulkS at h; omega
theorem bytesS_mem {l : List ByteArray} {s : ByteArray} (h : s ∈ l) : s.size ≤ bytesS l := by
  induction l with
  | nil => simp at h
  | cons a l ih =>
    rw [bytesS_cons]
    rcases List.mem_cons.1 h with rfl | h
    · omega
    · have := ih h; omega
def bad (b : UInt8) (l : List ByteArray) : Prop := ∃ x ∈ l, b ∈ L x
instance (b : UInt8) (l : List ByteArray) : Decidable (bad b l) := inferInstanceAs (Decidable (∃ x ∈ l, b ∈ L x))
def no : ByteArray × Bool := (⟨#[]⟩, false)
def tl (b : UInt8) (l : List ByteArray) : List UInt8 := Lib.joinTail [b] (l.map (·.data.toList))
theorem tl_cons (b : UInt8) (x : ByteArray) (l : List ByteArray) : tl b (x :: l) = b :: (L x ++ tl b l) := by simp [tl, Lib.joinTail]
theorem tl_len (b : UInt8) (l : List ByteArray) : (tl b l).length = l.length + bytesS l := by
  induction l with
  | nil => simp [tl, Lib.joinTail, bytesS]
  | cons x l ih => rw [tl_cons, List.length_cons, List.length_append, ih, bytesS_cons, L_len, List.length_cons]; omega
theorem spec_loop (l : List ByteArray) (sep : ByteArray) (b : UInt8) (h1 : sep.size = 1) (hsep : L sep = [b]) (hl : bulkS l ≤ 1048576) (d : Nat) : ∀ (o : ByteArray) (i : Nat), 0 < i → i ≤ l.length → l.length - i = d → o.size ≤ 4000 →
    Ev (fun k => spec_JoinStrings.l0 k l sep o i) (if ¬ bad b (l.drop i) ∧ o.size + (tl b (l.drop i)).length ≤ 4000 then (o ++ mkB (tl b (l.drop i)), true) else no) := by
  have hl2 := bytesS_len hl
  have hb : bt sep 0 = (b.toNat : Int) := by have := bt_getD sep 0 (by omega); rw [hsep] at this; exact this
  induction d with
  | zero =>
    intro o i h0 hi hd ho
    refine Ev.step (f := fun _ => some (o, true)) (fun k => ?_) (ev_eq (Ev.now _) ?_)
    · simp only [spec_JoinStrings.l0]; rw [if_neg (by omega)]
    · rw [List.drop_of_length_le (by omega)]
      have : o ++ mkB [] = o := L_inj (by rw [L_append, L_mk]; simp)
      simp [bad, tl, Lib.joinTail, ho, this]
  | succ d ih =>
    intro o i h0 hi hd ho
    have hlt : i < l.length := by omega
    have hr : rdOf ByteArray.empty l (i : Int) = l[i] := by simp [rdOf, hlt]
    have hsz : l[i].size ≤ 1048576 := by have := bytesS_mem (List.getElem_mem hlt); unfold bulkS at hl; omega
    rw [List.drop_eq_getElem_cons hlt, tl_cons]
    have hst := stands_ev l[i] b (by omega)
    refine Ev.step (f := fun k => (spec_l1Stands.f k l[i] (b.toNat : Int)).bind fun t => if t = true then some no else if ((o ++ sep ++ l[i]).size : Int) > 4000 then some no else spec_JoinStrings.l0 k l sep (o ++ sep ++ l[i]) ((i + 1 : Nat) : Int)) (fun k => ?_) ?_
    · have s1 := size_append o sep
      have s2 := size_append (o ++ sep) l[i]
      simp only [spec_JoinStrings.l0]
      rw [if_pos (by omega), if_pos (by omega), if_pos (by omega), hr, hb]
      congr 1
      funext t
      by_cases ht : t = true
      · rw [if_pos ht, if_pos ht]; rfl
      · rw [if_neg ht, if_neg ht, if_pos (by omega), if_pos (by omega), if_pos (by omega), w64 (x := (i : Int) + 1) (by omega) (by omega)]
        rfl
    · refine Ev.bind hst ?_
      by_cases hm : b ∈ L l[i]
      · refine ev_pos (by simpa using hm) (ev_eq (Ev.now _) ?_)
        rw [if_neg]
        exact fun h => h.1 ⟨_, List.mem_cons_self, hm⟩
      · refine ev_neg (by simpa using hm) ?_
        have s1 := size_append o sep
        have s2 := size_append (o ++ sep) l[i]
        have hlen : (b :: (L l[i] ++ tl b (l.drop (i + 1)))).length = 1 + l[i].size + (tl b (l.drop (i + 1))).length := by rw [List.length_cons, List.length_append, L_len]; omega
        by_cases hg : ((o ++ sep ++ l[i]).size : Int) > 4000
        · refine ev_pos hg (ev_eq (Ev.now _) ?_)
          rw [if_neg (fun h => by have := h.2; omega)]
        · refine ev_neg hg (ev_eq (ih (o ++ sep ++ l[i]) (i + 1) (by omega) (by omega) (by omega) (by omega)) ?_)
          have hbad : bad b (l[i] :: l.drop (i + 1)) ↔ bad b (l.drop (i + 1)) := by
            unfold bad
            constructor
            · rintro ⟨x, hx, h⟩
              rcases List.mem_cons.1 hx with rfl | hx
              · exact absurd h hm
              · exact ⟨x, hx, h⟩
            · rintro ⟨x, hx, h⟩; exact ⟨x, List.mem_cons_of_mem _ hx, h⟩
          by_cases hc : ¬ bad b (l.drop (i + 1)) ∧ (o ++ sep ++ l[i]).size + (tl b (l.drop (i + 1))).length ≤ 4000
          · rw [if_pos hc, if_pos ⟨fun h => hc.1 (hbad.1 h), by omega⟩]
            refine Prod.ext (L_inj ?_) rfl
            simp only [L_append, L_mk, hsep]
            simp
          · rw [if_neg hc, if_neg (fun h => hc ⟨fun h' => h.1 (hbad.2 h'), by omega⟩)]
def joinM (l : List ByteArray) (sep : ByteArray) (b : UInt8) : ByteArray × Bool :=
  if l ≠ [] ∧ ¬ bad b l ∧ l.length - 1 + bytesS l ≤ 4000 then (mkB (Lib.join (l.map (·.data.toList)) [b]), true) else no
theorem spec_js (l : List ByteArray) (sep : ByteArray) (hl : bulkS l ≤ 1048576) : Ev (fun k => spec_JoinStrings.f k l sep) (if sep.size = 1 then joinM l sep ((L sep).getD 0 0) else no) := by
  unfold spec_JoinStrings.f
  by_cases h1 : sep.size = 1
  · rw [if_pos h1]
    obtain ⟨b, hsep⟩ : ∃ b, L sep = [b] := List.length_eq_one_iff.1 (by rw [L_len, h1])
    have hb : bt sep 0 = (b.toNat : Int) := by have := bt_getD sep 0 (by omega); rw [hsep] at this; exact this
    rw [hsep]
    refine ev_pos (by omega) ?_
    cases l with
    | nil =>
      refine Ev.step (f := fun _ => some no) (fun k => ?_) (Ev.now _)
      simp only [spec_JoinStrings.j0]; rfl
    | cons x l =>
      refine Ev.step (f := fun k => spec_JoinStrings.l0 k (x :: l) sep ⟨#[]⟩ 0) (fun k => ?_) ?_
      · simp only [spec_JoinStrings.j0]
        rw [if_neg (by simp; omega)]
      · have hx : x.size + bytesS l ≤ 1048576 := by have := hl; unfold bulkS at this; rw [bytesS_cons] at this; simp at this; omega
        have e0 : (⟨#[]⟩ : ByteArray) ++ x = x := L_inj (by rw [L_append]; rfl)
        have e1 : (⟨#[]⟩ : ByteArray).size = 0 := rfl
        have hlen := tl_len b l
        refine Ev.step (f := fun k => (spec_l1Stands.f k x (b.toNat : Int)).bind fun t => if t = true then some no else if (x.size : Int) > 4000 then some no else spec_JoinStrings.l0 k (x :: l) sep x ((1 : Nat) : Int)) (fun k => ?_) ?_
        · simp only [spec_JoinStrings.l0]
          rw [if_pos (by rw [List.length_cons]; omega), if_pos (by omega), if_pos (by omega), hb, show rdOf ByteArray.empty (x :: l) 0 = x from rfl]
          congr 1
          funext t
          by_cases ht : t = true
          · rw [if_pos ht, if_pos ht]; rfl
          · rw [if_neg ht, if_neg ht, if_neg (by omega), if_pos (by omega), e0, w64 (x := (0 : Int) + 1) (by omega) (by omega)]
            rfl
        · refine Ev.bind (stands_ev x b (by omega)) ?_
          by_cases hm : b ∈ L x
          · refine ev_pos (by simpa using hm) (ev_eq (Ev.now _) ?_)
            unfold joinM
            rw [if_neg]
            exact fun h => h.2.1 ⟨x, List.mem_cons_self, by simpa using hm⟩
          · refine ev_neg (by simpa using hm) ?_
            by_cases hg : (x.size : Int) > 4000
            · refine ev_pos hg (ev_eq (Ev.now _) ?_)
              unfold joinM
              rw [if_neg (fun h => by have := h.2.2; rw [bytesS_cons] at this; simp at this; omega)]
            · refine ev_neg hg (ev_eq (spec_loop (x :: l) sep b h1 hsep hl l.length x 1 (by omega) (by simp) (by simp) (by omega)) ?_)
              have hbad : bad b (x :: l) ↔ bad b l := by
                unfold bad
                constructor
                · rintro ⟨y, hy, h⟩
                  rcases List.mem_cons.1 hy with rfl | hy
                  · exact absurd h hm
                  · exact ⟨y, hy, h⟩
                · rintro ⟨y, hy, h⟩; exact ⟨y, List.mem_cons_of_mem _ hy, h⟩
              unfold joinM
              rw [show (x :: l).drop 1 = l from rfl, show ([b] : List UInt8).getD 0 0 = b from rfl]
              have hcount : (x :: l).length - 1 + bytesS (x :: l) = x.size + (tl b l).length := by rw [bytesS_cons, hlen]; simp; omega
              rw [hcount]
              by_cases hc : ¬ bad b l ∧ x.size + (tl b l).length ≤ 4000
              · rw [if_pos hc, if_pos ⟨by simp, fun h => hc.1 (hbad.1 h), hc.2⟩]
                refine Prod.ext (L_inj ?_) rfl
                simp only [L_append, L_mk, List.map_cons, Lib.join_cons]
                rfl
              · rw [if_neg hc, if_neg (fun h => hc ⟨fun h' => h.2.1 (hbad.2 h'), h.2.2⟩)]
  · rw [if_neg h1]
    refine ev_neg (by omega) (Ev.step (f := fun _ => some no) (fun k => ?_) (Ev.now _))
    simp only [spec_JoinStrings.j0]; rfl
theorem impl_loop (l : List ByteArray) (sep : ByteArray) (b : UInt8) (h1 : sep.size = 1) (hsep : L sep = [b]) (hl : bulkS l ≤ 1048576) (d : Nat) : ∀ (n i : Nat), i ≤ l.length → l.length - i = d → n ≤ 2097152 →
    Ev (fun k => impl_JoinStrings.l0 k l sep n l l.length i) (if ¬ bad b (l.drop i) ∧ (l.drop i = [] ∨ n + bytesS (l.drop i) ≤ 4000) then (mkB (Lib.join (l.map (·.data.toList)) [b]), true) else no) := by
  have hb : bt sep 0 = (b.toNat : Int) := by have := bt_getD sep 0 (by omega); rw [hsep] at this; exact this
  have hl2 := bytesS_len hl
  have hj : strings_Join.f l sep = some (mkB (Lib.join (l.map (·.data.toList)) [b])) := by
    unfold strings_Join.f
    have hlen : (Lib.join (l.map (·.data.toList)) sep.data.toList).length ≤ bulkS l := by
      rw [show sep.data.toList = [b] from hsep]
      cases l with
      | nil => simp [Lib.join, List.intercalate]
      | cons x l =>
        have := tl_len b l
        rw [List.map_cons, Lib.join_cons, List.length_append]
        unfold bulkS
        rw [bytesS_cons, show (Lib.joinTail [b] (List.map (fun x => x.data.toList) l)) = tl b l from rfl, this, show (x.data.toList).length = x.size from L_len x]
        simp; omega
    have hl2 := bytesS_len hl
    rw [if_pos ⟨by omega, by omega⟩, show sep.data.toList = [b] from hsep]
    rfl
  induction d with
  | zero =>
    intro n i hi hd hn
    refine Ev.step (f := fun _ => some (mkB (Lib.join (l.map (·.data.toList)) [b]), true)) (fun k => ?_) (ev_eq (Ev.now _) ?_)
    · simp only [impl_JoinStrings.l0]; rw [if_neg (by omega), hj]; rfl
    · rw [List.drop_of_length_le (by omega), if_pos ⟨fun h => by obtain ⟨x, hx, _⟩ := h; simp at hx, .inl rfl⟩]
  | succ d ih =>
    intro n i hi hd hn
    have hlt : i < l.length := by omega
    have hr : rdOf ByteArray.empty l (i : Int) = l[i] := by simp [rdOf, hlt]
    have hsz : l[i].size ≤ 1048576 := by have := bytesS_mem (List.getElem_mem hlt); unfold bulkS at hl; omega
    have hi2 := indexByte_bd (L l[i]) b
    rw [List.drop_eq_getElem_cons hlt, bytesS_cons]
    refine Ev.step (f := fun k => if ((n + l[i].size : Nat) : Int) > 4000 then some no else if Lib.indexByte (L l[i]) b ≥ 0 then some no else impl_JoinStrings.l0 k l sep ((n + l[i].size : Nat) : Int) l l.length ((i + 1 : Nat) : Int)) (fun k => ?_) ?_
    · simp only [impl_JoinStrings.l0, strings_IndexByte.f]
      rw [if_pos (by omega), if_pos (by omega), if_pos (by omega), hr, w64 (x := (n : Int) + (l[i].size : Int)) (by omega) (by omega), show (n : Int) + (l[i].size : Int) = ((n + l[i].size : Nat) : Int) from rfl]
      by_cases hg : ((n + l[i].size : Nat) : Int) > 4000
      · rw [if_pos hg, if_pos hg]; rfl
      · rw [if_neg hg, if_neg hg, if_pos (by omega), hb, byte_back, w64 (x := (i : Int) + 1) (by omega) (by omega)]
        rfl
    · by_cases hg : ((n + l[i].size : Nat) : Int) > 4000
      · refine ev_pos hg (ev_eq (Ev.now _) ?_)
        have hneg : ¬ (¬ bad b (l[i] :: l.drop (i + 1)) ∧ (l[i] :: l.drop (i + 1) = [] ∨ n + (l[i].size + bytesS (l.drop (i + 1))) ≤ 4000)) := by
          rintro ⟨_, h | h⟩
          · exact absurd h (List.cons_ne_nil _ _)
          · omega
        rw [if_neg hneg]
      · refine ev_neg hg ?_
        by_cases hm : b ∈ L l[i]
        · refine ev_pos (hi2.2.2.2 hm) (ev_eq (Ev.now _) ?_)
          rw [if_neg (fun h => h.1 ⟨_, List.mem_cons_self, hm⟩)]
        · refine ev_neg (fun h => hm (hi2.2.2.1 h)) (ev_eq (ih (n + l[i].size) (i + 1) (by omega) (by omega) (by omega)) ?_)
          have hbad : bad b (l[i] :: l.drop (i + 1)) ↔ bad b (l.drop (i + 1)) := by
            unfold bad
            constructor
            · rintro ⟨x, hx, h⟩
              rcases List.mem_cons.1 hx with rfl | hx
              · exact absurd h hm
              · exact ⟨x, hx, h⟩
            · rintro ⟨x, hx, h⟩; exact ⟨x, List.mem_cons_of_mem _ hx, h⟩
          by_cases hc : ¬ bad b (l.drop (i + 1)) ∧ (l.drop (i + 1) = [] ∨ n + l[i].size + bytesS (l.drop (i + 1)) ≤ 4000)
          · have hz : l.drop (i + 1) = [] → bytesS (l.drop (i + 1)) = 0 := fun h => by rw [h]; rfl
            have hn2 : n + (l[i].size + bytesS (l.drop (i + 1))) ≤ 4000 := hc.2.elim (fun h => by have := hz h; omega) (fun h => by omega)
            rw [if_pos hc, if_pos ⟨fun h => hc.1 (hbad.1 h), .inr hn2⟩]
          · rw [if_neg hc, if_neg (fun h => hc ⟨fun h' => h.1 (hbad.2 h'), .inr (h.2.elim (fun h => absurd h (List.cons_ne_nil _ _)) (fun h => by omega))⟩)]
theorem impl_js (l : List ByteArray) (sep : ByteArray) (hl : bulkS l ≤ 1048576) : Ev (fun k => impl_JoinStrings.f k l sep) (if sep.size = 1 then joinM l sep ((L sep).getD 0 0) else no) := by
  unfold impl_JoinStrings.f
  cases l with
  | nil =>
    refine ev_pos (by simp) (Ev.step (f := fun _ => some no) (fun k => ?_) (ev_eq (Ev.now _) ?_))
    · simp only [impl_JoinStrings.j0]; rfl
    · simp [joinM]
  | cons x l =>
    refine ev_neg (by simp; omega) ?_
    by_cases h1 : sep.size = 1
    · rw [if_pos h1]
      obtain ⟨b, hsep⟩ : ∃ b, L sep = [b] := List.length_eq_one_iff.1 (by rw [L_len, h1])
      have hl2 := bytesS_len hl
      refine Ev.step (f := fun k => impl_JoinStrings.l0 k (x :: l) sep (((x :: l).length - 1 : Nat) : Int) (x :: l) ((x :: l).length : Int) ((0 : Nat) : Int)) (fun k => ?_) ?_
      · simp only [impl_JoinStrings.j0]
        rw [if_neg (by simp [h1]), w64 (by omega) (by omega)]
        congr 1
        simp
      · refine ev_eq (impl_loop (x :: l) sep b h1 hsep hl _ ((x :: l).length - 1) 0 (by omega) rfl (by omega)) ?_
        rw [hsep]
        unfold joinM
        rw [List.drop_zero, show ([b] : List UInt8).getD 0 0 = b from rfl]
        by_cases hc : ¬ bad b (x :: l) ∧ (x :: l).length - 1 + bytesS (x :: l) ≤ 4000
        · rw [if_pos ⟨hc.1, .inr hc.2⟩, if_pos ⟨by simp, hc⟩]
        · rw [if_neg (fun h => hc ⟨h.1, by exact h.2.elim (fun h => absurd h (List.cons_ne_nil _ _)) id⟩), if_neg (fun h => hc h.2)]
    · rw [if_neg h1]
      refine Ev.step (f := fun _ => some no) (fun k => ?_) (Ev.now _)
      simp only [impl_JoinStrings.j0]
      rw [if_pos (by simpa using (show ¬ ((sep.size : Int) = 1) by omega))]; rfl
theorem join_two (b : UInt8) (x y : List UInt8) (ls : List (List UInt8)) : Lib.join (x :: y :: ls) [b] = x ++ b :: Lib.join (y :: ls) [b] := by
  rw [Lib.join_cons, Lib.join_cons]; simp [Lib.joinTail]
theorem join_spl (b : UInt8) (l : List UInt8) : Lib.join (spl b l) [b] = l := by
  induction l with
  | nil => rfl
  | cons c l ih =>
    rw [spl_cons]
    cases hs : spl b l with
    | nil => exact absurd hs (spl_ne b l)
    | cons p q =>
      rw [hs] at ih
      by_cases h : c = b
      · rw [if_pos h, join_two, ih, h]; rfl
      · rw [if_neg h]
        show Lib.join (([c] ++ p) :: q) [b] = _
        rw [Lib.join_cons, List.append_assoc, ← Lib.join_cons, ih]; rfl
def BtIs (sep : ByteArray) (b : UInt8) : Prop := sep.size = 1 ∧ bt sep 0 = (b.toNat : Int)
theorem bt_pos {sep : ByteArray} {b : UInt8} (h : BtIs sep b) : 0 < (sep.size : Int) := by have := h.1; omega
theorem split_loop (s sep : ByteArray) (b : UInt8) (hbt : BtIs sep b) (hs : s.size ≤ 8796093022000) (d : Nat) : ∀ (out : List ByteArray) (f i : Nat), out.length ≤ i → f ≤ i → i ≤ s.size → s.size - i = d →
    Ev (fun k => impl_SplitString.l0 k s sep out f i) (out ++ (ahd (((L s).drop f).take (i - f)) (spl b ((L s).drop i))).map mkB, true) := by
  have hL : (L s).length = s.size := L_len s
  induction d with
  | zero =>
    intro out f i h0 h1 h2 hd
    have e : i = s.size := by omega
    refine Ev.step (f := fun _ => some (out ++ [s.extract f s.size], true)) (fun k => ?_) (ev_eq (Ev.now _) ?_)
    · simp only [impl_SplitString.l0]
      rw [if_neg (by omega), if_pos (by omega), if_pos (by omega), if_pos (by omega)]
      simp
    · rw [List.drop_of_length_le (l := L s) (i := i) (by omega)]
      simp [spl, ahd]
      apply L_inj
      rw [L_extract, L_mk, e]
  | succ d ih =>
    intro out f i h0 h1 h2 hd
    have hlt : i < s.size := by omega
    have hlt' : i < (L s).length := by omega
    rw [spl_step b (L s) f i hlt' h1]
    have hw : wrap64 ((i : Int) + 1) = ((i + 1 : Nat) : Int) := by rw [w64 (by omega) (by omega)]; rfl
    by_cases e : (L s)[i] = b
    · rw [if_pos e]
      refine Ev.step (f := fun k => impl_SplitString.l0 k s sep (out ++ [s.extract f i]) ((i + 1 : Nat) : Int) ((i + 1 : Nat) : Int)) (fun k => ?_) (ev_eq (ih (out ++ [s.extract f i]) (i + 1) (i + 1) (by simp; omega) (by omega) (by omega) (by omega)) ?_)
      · simp only [impl_SplitString.l0]
        rw [if_pos (by omega), if_pos (by omega), if_pos (bt_pos hbt), if_pos (by rw [bt_get s i hlt, e, hbt.2]), if_pos (by omega), if_pos (by omega), if_pos (by omega), if_pos (by omega), hw]
        simp
      · rw [Nat.sub_self, List.take_zero, ahd_nil _ (spl_ne b _), List.append_assoc]
        congr 1
        simp
        apply L_inj
        rw [L_extract, L_mk]
    · rw [if_neg e]
      refine Ev.step (f := fun k => impl_SplitString.l0 k s sep out f ((i + 1 : Nat) : Int)) (fun k => ?_) (ih out f (i + 1) (by omega) (by omega) (by omega) (by omega))
      simp only [impl_SplitString.l0]
      rw [if_pos (by omega), if_pos (by omega), if_pos (bt_pos hbt), if_neg (by rw [bt_get s i hlt, hbt.2]; exact fun h => e (u8_inj h)), hw]
theorem spl_nomem (b : UInt8) (l : List UInt8) : ∀ p ∈ spl b l, b ∉ p := by
  induction l with
  | nil => intro p hp; rw [spl_nil] at hp; simp at hp; subst hp; simp
  | cons c l ih =>
    rw [spl_cons]
    by_cases h : c = b
    · rw [if_pos h]
      intro p hp
      rcases List.mem_cons.1 hp with rfl | hp
      · simp
      · exact ih p hp
    · rw [if_neg h]
      cases hs : spl b l with
      | nil => exact absurd hs (spl_ne b l)
      | cons p q =>
        rw [hs] at ih
        intro r hr
        rcases List.mem_cons.1 (show r ∈ (c :: p) :: q from hr) with rfl | hr
        · intro hb
          rcases List.mem_cons.1 hb with e | hb
          · exact h e.symm
          · exact ih p (by simp) hb
        · exact ih r (by simp [hr])
def prts (b : UInt8) (s : ByteArray) : List ByteArray := (spl b (L s)).map mkB
theorem prts_L (b : UInt8) (s : ByteArray) : (prts b s).map (·.data.toList) = spl b (L s) := by
  unfold prts
  rw [List.map_map]
  refine (List.map_congr_left (fun x _ => ?_)).trans (List.map_id _)
  exact L_mk x
theorem prts_join (b : UInt8) (s : ByteArray) : Lib.join ((prts b s).map (·.data.toList)) [b] = L s := by rw [prts_L, join_spl]
theorem prts_ne (b : UInt8) (s : ByteArray) : prts b s ≠ [] := by
  unfold prts
  intro h
  exact spl_ne b _ (List.map_eq_nil_iff.1 h)
theorem prts_len (b : UInt8) (s : ByteArray) : (prts b s).length - 1 + bytesS (prts b s) = s.size := by
  have hj := prts_join b s
  have hn := prts_ne b s
  generalize prts b s = ps at hj hn
  cases ps with
  | nil => exact absurd rfl hn
  | cons x l =>
    have h := congrArg List.length hj
    rw [List.map_cons, Lib.join_cons, List.length_append, show (Lib.joinTail [b] (List.map (fun x => x.data.toList) l)) = tl b l from rfl, tl_len, L_len, L_len] at h
    rw [bytesS_cons, List.length_cons]
    omega
theorem prts_good (b : UInt8) (s : ByteArray) : ¬ bad b (prts b s) := by
  rintro ⟨x, hx, hb⟩
  unfold prts at hx
  obtain ⟨p, hp, rfl⟩ := List.mem_map.1 hx
  rw [L_mk] at hb
  exact spl_nomem b _ p hp hb
theorem impl_ss (s sep : ByteArray) (hs : s.size ≤ 4000) : Ev (fun k => impl_SplitString.f k s sep) (if sep.size = 1 then (prts ((L sep).getD 0 0) s, true) else ([], false)) := by
  unfold impl_SplitString.f
  refine ev_neg (by omega) ?_
  by_cases h1 : sep.size = 1
  · rw [if_pos h1]
    have hb := bt_getD sep 0 (by omega)
    rw [show ((0 : Nat) : Int) = 0 from rfl] at hb
    refine Ev.step (f := fun k => impl_SplitString.l0 k s sep [] ((0 : Nat) : Int) ((0 : Nat) : Int)) (fun k => ?_) ?_
    · simp only [impl_SplitString.j0]
      rw [if_neg (by simp [h1])]
      rfl
    · refine ev_eq (split_loop s sep _ ⟨h1, hb⟩ (by omega) s.size [] 0 0 (by simp) (by omega) (by omega) (by omega)) ?_
      rw [List.drop_zero, List.nil_append, show ((L s).take (0 - 0)) = [] by simp, ahd_nil _ (spl_ne _ _)]
      rfl
  · rw [if_neg h1]
    refine Ev.step (f := fun _ => some ([], false)) (fun k => ?_) (Ev.now _)
    simp only [impl_SplitString.j0]
    rw [if_pos (by simpa using (show ¬ ((sep.size : Int) = 1) by omega))]
theorem any_ex {l : List Int} (h : BtL l) (a s : Int) (h0 : 0 ≤ a) (h1 : a ≤ 2305843009213693000) : ∃ x a' s', spec_l1Cur_any1.f l a s = some (x, a', s') ∧ x.size ≤ 10 ∧ a ≤ a' ∧ a' ≤ a + 2 := by
  unfold spec_l1Cur_any1.f
  obtain ⟨x, a', s', e, hx, b, b'⟩ := of_ex h a s [(⟨#[]⟩ : ByteArray), (⟨#[97]⟩ : ByteArray), (⟨#[97, 44, 98]⟩ : ByteArray), (⟨#[115, 111, 109, 101, 32, 119, 111, 114, 100, 115]⟩ : ByteArray), (⟨#[120, 35, 121]⟩ : ByteArray), (⟨#[45, 49, 50]⟩ : ByteArray), (⟨#[0, 255]⟩ : ByteArray), (⟨#[44, 44]⟩ : ByteArray), (⟨#[48]⟩ : ByteArray)] h0 h1 (by decide)
  rw [e]
  refine ⟨x, a', s', rfl, ?_, b, b'⟩
  simp only [List.mem_cons, List.not_mem_nil, or_false] at hx
  rcases hx with rfl | rfl | rfl | rfl | rfl | rfl | rfl | rfl | rfl <;> decide
theorem one_ex {l : List Int} (h : BtL l) (a s n : Int) (h0 : 0 ≤ a) (h1 : a ≤ 2305843009213693000) (hn : 1 ≤ n) : ∃ x a' s', spec_l1Cur_one.f l a s n = some (x, a', s') ∧ a ≤ a' ∧ a' ≤ a + 2 := by
  unfold spec_l1Cur_one.f
  obtain ⟨x, a', s', e, b0, b1, b2, b3⟩ := pick_ex h a s n h0 h1 hn
  rw [e]
  exact ⟨_, _, _, rfl, b2, b3⟩
theorem ds_ex {l : List Int} (h : BtL l) : ∃ s sep, spec_DrawSplitString.f l = some (s, sep) ∧ s.size ≤ 10 := by
  unfold spec_DrawSplitString.f
  obtain ⟨x, a, s, e, hx, b, b'⟩ := any_ex h 0 0 (by omega) (by omega)
  rw [e]; simp only [Option.bind_some]
  obtain ⟨y, a2, s2, e2, _⟩ := of_ex h a s [(⟨#[44]⟩ : ByteArray), (⟨#[44]⟩ : ByteArray), (⟨#[32]⟩ : ByteArray), (⟨#[]⟩ : ByteArray), (⟨#[44, 44]⟩ : ByteArray)] (by omega) (by omega) (by decide)
  rw [e2]
  exact ⟨_, _, rfl, hx⟩
theorem dl_ex {l : List Int} (h : BtL l) : ∃ a b, spec_DrawLessString.f l = some (a, b) := by
  unfold spec_DrawLessString.f
  obtain ⟨x, a, s, e, hx, b, b'⟩ := any_ex h 0 0 (by omega) (by omega)
  rw [e]; simp only [Option.bind_some]
  obtain ⟨y, a2, s2, e2, _⟩ := any_ex h a s (by omega) (by omega)
  rw [e2]
  exact ⟨_, _, rfl⟩
theorem bulk_app (l : List ByteArray) (x : ByteArray) : bulkS (l ++ [x]) = bulkS l + x.size + 1 := by
  unfold bulkS bytesS
  simp
  omega
theorem rep_size (n : Nat) : (strOfNums (List.replicate n 0)).size = n := by simp [strOfNums, ByteArray.size]
theorem dj_loop {c : List Int} (h : BtL c) (d : Nat) : ∀ (ls : List ByteArray) (n : Int) (i : Nat) (a s : Int), n ≤ 3 → (i : Int) ≤ n → n - i = d → ls.length = i → bulkS ls ≤ 11 * i → 0 ≤ a → a ≤ 10 + 2 * i →
    ∃ l m, Ev (fun k => spec_DrawJoinStrings.l0 k ls n i c a s) (l, m) ∧ bulkS l ≤ 1048576 := by
  induction d with
  | zero =>
    intro ls n i a s hn hi hd hl hb h0 h1
    obtain ⟨b, a1, s1, e1, b1, c1⟩ := one_ex h a s 20 h0 (by omega) (by omega)
    cases b with
    | true =>
      obtain ⟨x, a2, s2, e2, x0, x1, b2, c2⟩ := pick_ex h a1 s1 20 (by omega) (by omega) (by omega)
      obtain ⟨m, a3, s3, e3, _⟩ := of_ex h a2 s2 [(⟨#[44]⟩ : ByteArray), (⟨#[59]⟩ : ByteArray), (⟨#[59]⟩ : ByteArray), (⟨#[]⟩ : ByteArray), (⟨#[97, 98]⟩ : ByteArray)] (by omega) (by omega) (by decide)
      have hw : wrap64 (3990 + x) = 3990 + x := w64 (by omega) (by omega)
      refine ⟨ls ++ [strOfNums (List.replicate (3990 + x).toNat 0)], m, Ev.step (f := fun _ => some (ls ++ [strOfNums (List.replicate (3990 + x).toNat 0)], m)) (fun k => ?_) (Ev.now _), ?_⟩
      · simp only [spec_DrawJoinStrings.l0]
        rw [if_neg (by omega), e1]
        simp only [Option.bind_some]
        rw [if_pos trivial, e2]
        simp only [Option.bind_some]
        rw [hw, if_pos (by omega), if_pos (by omega), if_pos (by omega), e3]
        rfl
      · rw [bulk_app, rep_size]; omega
    | false =>
      obtain ⟨m, a3, s3, e3, _⟩ := of_ex h a1 s1 [(⟨#[44]⟩ : ByteArray), (⟨#[59]⟩ : ByteArray), (⟨#[59]⟩ : ByteArray), (⟨#[]⟩ : ByteArray), (⟨#[97, 98]⟩ : ByteArray)] (by omega) (by omega) (by decide)
      refine ⟨ls, m, Ev.step (f := fun _ => some (ls, m)) (fun k => ?_) (Ev.now _), by omega⟩
      simp only [spec_DrawJoinStrings.l0]
      rw [if_neg (by omega), e1]
      simp only [Option.bind_some]
      rw [if_neg (by simp), e3]
      rfl
  | succ d ih =>
    intro ls n i a s hn hi hd hl hb h0 h1
    obtain ⟨x, a1, s1, e1, hx, b1, c1⟩ := any_ex h a s h0 (by omega)
    obtain ⟨l, m, hE, hB⟩ := ih (ls ++ [x]) n (i + 1) a1 s1 hn (by omega) (by omega) (by simp [hl]) (by rw [bulk_app]; omega) (by omega) (by omega)
    refine ⟨l, m, Ev.step (f := fun k => spec_DrawJoinStrings.l0 k (ls ++ [x]) n ((i + 1 : Nat) : Int) c a1 s1) (fun k => ?_) hE, hB⟩
    simp only [spec_DrawJoinStrings.l0]
    rw [if_pos (by omega), e1]
    simp only [Option.bind_some]
    rw [if_pos (by omega), w64 (x := (i : Int) + 1) (by omega) (by omega)]
    rfl
theorem dj_ex {c : List Int} (h : BtL c) : ∃ l m, Ev (fun k => spec_DrawJoinStrings.f k c) (l, m) ∧ bulkS l ≤ 1048576 := by
  unfold spec_DrawJoinStrings.f
  obtain ⟨x, a, s, e, x0, x1, b, b'⟩ := pick_ex h 0 0 4 (by omega) (by omega) (by omega)
  rw [e]
  obtain ⟨l, m, hE, hB⟩ := dj_loop h x.toNat [] x 0 a s (by omega) (by omega) (by omega) rfl (by simp [bulkS, bytesS]) (by omega) (by omega)
  exact ⟨l, m, hE, hB⟩
theorem less_asym (a b : List UInt8) (h : Op.bytesLess a b = true) : Op.bytesLess b a = false := by
  rw [← Go.Proofs.Ytbjlofabbikanaa.Ext.str_tri a b, h]; rfl
theorem FnSplitJoin : laws_FnSplitJoin.Pur := by
  intro l0 hl
  apply Ev.rounds
  unfold laws_FnSplitJoin.f laws_vBig.f
  refine ev_bind0 (a := decide ((l0.length : Int) > 65536)) rfl ?_
  by_cases c : (l0.length : Int) > 65536
  · exact ev_pos (by simpa using c) (Ev.now _)
  refine ev_neg (by simpa using c) ?_
  have hB := bt_of hl (by omega)
  obtain ⟨s, sep, e, hs⟩ := ds_ex hB
  obtain ⟨l, m, hd, hb⟩ := dj_ex hB
  obtain ⟨a, b, el⟩ := dl_ex hB
  have hJ : Ev (fun k => laws_FnSplitJoin.j0 k s sep (if sep.size = 1 then (prts ((L sep).getD 0 0) s, true) else ([], false)).1 (if sep.size = 1 then (prts ((L sep).getD 0 0) s, true) else (([] : List ByteArray), false)).2 false) true := by
    by_cases h1 : sep.size = 1
    · rw [if_pos h1]
      have hn := prts_len ((L sep).getD 0 0) s
      have hk : bulkS (prts ((L sep).getD 0 0) s) ≤ 1048576 := by unfold bulkS; omega
      have hr := impl_js (prts ((L sep).getD 0 0) s) sep hk
      rw [if_pos h1] at hr
      unfold joinM at hr
      rw [if_pos ⟨prts_ne _ _, prts_good _ _, by omega⟩, prts_join, mk_L] at hr
      refine Ev.step (f := fun k => (impl_JoinStrings.f k (prts ((L sep).getD 0 0) s) sep).bind fun bt387 => if bt387.2 = true then some (bt387.1.toList == s.toList) else some false) (fun k => ?_) (Ev.bind hr (ev_pos rfl (ev_eq (Ev.now _) (by simp))))
      simp only [laws_FnSplitJoin.j0]
      rw [if_neg (by decide), if_pos (by omega)]
      simp
    · rw [if_neg h1]
      refine Ev.step (f := fun _ => some true) (fun k => ?_) (Ev.now _)
      simp only [laws_FnSplitJoin.j0]
      rw [if_neg (by decide), if_neg (by omega)]
      simp
  refine ev_bind0 e (Ev.bind (impl_ss s sep (by omega)) (Ev.bind hd (Ev.bind (impl_js l m hb) (Ev.bind (spec_js l m hb) (ev_bind0 el (ev_pos rfl (ev_neg (by simp) ?_)))))))
  refine ev_bind0 (a := Op.bytesLess a.toList b.toList) rfl (ev_bind0 (a := Op.bytesLess a.toList b.toList) rfl (ev_neg (by simp) (ev_bind0 (a := Op.bytesLess a.toList b.toList) rfl ?_)))
  by_cases hab : Op.bytesLess a.toList b.toList = true
  · exact ev_pos hab (ev_bind0 (a := false) (by unfold impl_LessString.f; rw [less_asym _ _ hab]) hJ)
  · exact ev_neg hab hJ
end Go.Proofs.Ytbjlofabbikanaa.Pure
