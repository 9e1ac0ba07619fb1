/- Texts of this session for the law FnExactInverseForm, put together by a program (merge.py): each ends with its namespace; conditions stand with each theorem. -/
import Derived.Test.YtcckamdpncbkoaaDoorWWords
import Derived.Deep.Slices
import Derived.Test.YtcckamdpncbkoaaDoorKFnExactInverseForm1
import Derived.Test.YtcckamdpncbkoaaDoorKFnExactInverseForm2
import Derived.Test.YtcckamdpncbkoaaDoorWMore
import Derived.Lib.Strings
import Derived.Lib.SplitLaws
import Derived.Lib.IndexBytes
import Derived.Lib.IndexLaws
namespace Go.Proofs.YtcckamdpncbkoaaDoor.Opn
open Go.RowKit Go.Proofs.YtcckamdpncbkoaaDoorW.PrintWords
set_option linter.unusedVariables false
set_option linter.unusedSimpArgs false
variable {H : Type} {enc : TypeId × Value → H} {P : Program} {w : World} {base : Nat} {spare : Nat → Bool} {held : Bool}
def okInt (k : IntKind) (n : Int) : Prop := (Lit.int k n).wf = true
def okBool (_ : Bool) : Prop := True
def okStr (s : ByteArray) : Prop := s.size ≤ 9223372036854775807
def okList {α : Type} (p : α → Prop) (xs : List α) : Prop := xs.length ≤ 9223372036854775807 ∧ ∀ x ∈ xs, p x
theorem of_int {t : TypeId} {k : IntKind} {fuel : Nat} {cs : List Value} {x : DataW H × List MemPlace} (ht : P.underlying t = some (.int k)) (h : DataW.trod enc P w base spare held fuel t cs = some x) :
    ∃ n, (Kd.int k).K w n cs ∧ okInt k n := by
  obtain ⟨n, rfl, rfl, hw⟩ := DataW.trod_int ht h
  exact ⟨n, rfl, hw⟩
theorem of_bool {t : TypeId} {fuel : Nat} {cs : List Value} {x : DataW H × List MemPlace} (ht : P.underlying t = some .bool) (h : DataW.trod enc P w base spare held fuel t cs = some x) :
    ∃ n, Kd.bool.K w n cs ∧ okBool n := by
  cases fuel with
  | zero => simp [DataW.trod] at h
  | succ fuel =>
    match cs with
    | [] => simp [DataW.trod, ht] at h
    | [v] => cases v <;> simp [DataW.trod, ht] at h; exact ⟨_, rfl, trivial⟩
    | _ :: _ :: _ => simp [DataW.trod, ht] at h
theorem of_string {t : TypeId} {fuel : Nat} {cs : List Value} {x : DataW H × List MemPlace} (ht : P.underlying t = some .string) (h : DataW.trod enc P w base spare held fuel t cs = some x) :
    ∃ n, Kd.string.K w n cs ∧ okStr n := by
  cases fuel with
  | zero => simp [DataW.trod] at h
  | succ fuel =>
    match cs with
    | [] => simp [DataW.trod, ht] at h
    | [v] => cases v <;> simp [DataW.trod, ht] at h; exact ⟨_, rfl, h.1⟩
    | _ :: _ :: _ => simp [DataW.trod, ht] at h
theorem add_add (a : Addr) (k i : Nat) : (a.add k).add i = a.add (k + i) := by
  unfold Addr.add
  by_cases hk : k = 0 <;> by_cases hi : i = 0 <;> simp [hk, hi, Nat.add_assoc]
theorem of_slice {α : Type} {d : Kd α} {ok : α → Prop} {t e : TypeId} {fuel : Nat} {cs : List Value} {x : DataW H × List MemPlace} (ht : P.underlying t = some (.slice e)) (hc : P.cellsOf e = d.sz)
    (ih : ∀ n cs x, DataW.trod enc P w base spare held n e cs = some x → ∃ y, d.K w y cs ∧ ok y) (h : DataW.trod enc P w base spare held fuel t cs = some x) :
    ∃ ys, (Kd.slice e d).K w ys cs ∧ okList ok ys := by
  rcases Go.Deep.open_slice ht h with ⟨rfl, _⟩ | ⟨a, len, cap, m, n, D, Pl, rfl, hb, hl, hm, hmm, hxe, hel⟩
  · exact ⟨[], ⟨none, 0, rfl, by simp, rfl, by simp, fun h => absurd h (by simp)⟩, by simp, fun x hx => by simp at hx⟩
  · have hlm : len ≤ m := by rw [hmm]; split <;> omega
    have hm' : len ≤ 9223372036854775807 := by unfold maxLen at hm; omega
    have key : ∀ i, i < len → ∃ cs' y, w.cells? base (a.add (i * P.cellsOf e)) (P.cellsOf e) = some cs' ∧ d.K w y cs' ∧ ok y := by
      intro i hi
      obtain ⟨cs', h1, h2⟩ := hel i (by omega)
      obtain ⟨y, hy, ho⟩ := ih _ _ _ h2
      exact ⟨cs', y, h1, hy, ho⟩
    obtain ⟨ys, hlen, hys⟩ : ∃ ys : List α, ys.length = len ∧ ∀ i (hi : i < ys.length), ∃ cs', w.cells? base (a.add (i * P.cellsOf e)) (P.cellsOf e) = some cs' ∧ d.K w ys[i] cs' ∧ ok ys[i] := by
      clear h hxe hel hmm hlm hl hm hm'
      induction len with
      | zero => exact ⟨[], rfl, fun i hi => by simp at hi⟩
      | succ len ihl =>
        obtain ⟨ys, h1, h2⟩ := ihl (fun i hi => key i (by omega))
        obtain ⟨cs', y, h3, h4, h5⟩ := key len (by omega)
        refine ⟨ys ++ [y], by simp [h1], fun i hi => ?_⟩
        by_cases hi' : i < ys.length
        · rw [List.getElem_append_left hi']; exact h2 i hi'
        · have : i = len := by simp at hi; omega
          subst this
          refine ⟨cs', h3, ?_, ?_⟩ <;> rw [List.getElem_append_right (by omega)] <;> simpa [h1]
    refine ⟨ys, ⟨some a, cap, by rw [hlen], by omega, rfl, by omega, fun _ => ⟨a, rfl, fun j p hj => ?_⟩⟩, by omega, fun y hy => ?_⟩
    · obtain ⟨hj', rfl⟩ := List.getElem?_eq_some_iff.1 hj
      obtain ⟨cs', h1, h2, _⟩ := hys j hj'
      rw [hc] at h1
      refine ⟨cs', d.K_len h2, h2, fun i u hu => ?_⟩
      obtain ⟨_, hl', hcell⟩ := World.cells?_some h1
      have hi : i < d.sz := by have := (List.getElem?_eq_some_iff.1 hu).1; omega
      have := hcell i hi
      rw [hu, add_add] at this
      exact this
    · obtain ⟨i, hi, rfl⟩ := List.getElem_of_mem hy
      obtain ⟨_, _, _, h3⟩ := hys i hi
      exact h3
theorem mapM_all {α β : Type} {f : α → Option β} : ∀ {l : List α} {ys : List β}, l.mapM f = some ys → ∀ x ∈ l, ∃ y, f x = some y
  | [], _, _, x, hx => by simp at hx
  | a :: l, ys, h, x, hx => by
    rw [List.mapM_cons] at h
    simp only [Option.bind_eq_bind, Option.bind_eq_some_iff] at h
    obtain ⟨y, h1, ys', h2, _⟩ := h
    rcases List.mem_cons.1 hx with rfl | hx
    · exact ⟨y, h1⟩
    · exact mapM_all h2 x hx
theorem of_fields {t : TypeId} {fs : Array Field} {fuel : Nat} {cs : List Value} {x : DataW H × List MemPlace} (ht : P.underlying t = some (.struct fs)) (h : DataW.trod enc P w base spare held fuel t cs = some x) :
    cs.length = P.cellsOf t ∧ ∃ n, ∀ f ∈ fs.toList, ∃ y, DataW.trod enc P w base spare held n f.type ((cs.drop f.offset).take (P.cellsOf f.type)) = some y := by
  cases fuel with
  | zero => simp [DataW.trod] at h
  | succ fuel =>
    simp only [DataW.trod, ht] at h
    split at h
    · rename_i hl
      refine ⟨hl, fuel, ?_⟩
      simp only [Option.map_eq_some_iff] at h
      obtain ⟨ys, h1, _⟩ := h
      exact mapM_all h1
    · simp at h
theorem pair_K {α β : Type} {a : Kd α} {b : Kd β} {x : α} {y : β} {cs : List Value} {n : Nat} (off : Nat) (hn : a.sz = n) (h0 : a.K w x ((cs.drop off).take n)) (h1 : b.K w y (cs.drop (off + n))) : (Kd.pair a b).K w (x, y) (cs.drop off) :=
  ⟨_, _, by rw [← List.drop_drop]; exact (List.take_append_drop n (cs.drop off)).symm, h0, h1⟩
theorem last_K {α : Type} {a : Kd α} {x : α} {cs : List Value} {n : Nat} (off : Nat) (hl : cs.length = off + n) (h0 : a.K w x ((cs.drop off).take n)) : a.K w x (cs.drop off) := by
  rwa [List.take_of_length_le (by rw [List.length_drop]; omega)] at h0
end Go.Proofs.YtcckamdpncbkoaaDoor.Opn

namespace Go.Proofs.YtcckamdpncbkoaaDoor.G
open Go.Proofs.YtcckamdpncbkoaaDoor.Opn
open Go.RowKit Go.Proofs.YtcckamdpncbkoaaDoorW.PrintWords Go.Proofs.YtcckamdpncbkoaaDoorW.PrintLast Go.Proofs.YtcckamdpncbkoaaDoorW.PrintMore
open Go.Proofs.YtcckamdpncbkoaaDoor.Gl Go.Proofs.YtcckamdpncbkoaaDoor.Ext
attribute [local go_sem] max2_int min2_int max_two min_two max_three min_three max_four min_four   -- for this text's walks alone
set_option linter.unusedVariables false
set_option linter.unusedSimpArgs false

theorem cells9 : Tryd.prog.cellsOf 9 = 1 := by kernel_rfl
theorem cells22 : Tryd.prog.cellsOf 22 = 1 := by kernel_rfl
theorem cells24 : Tryd.prog.cellsOf 24 = 4 := by kernel_rfl
def ok24 (y : S24) : Prop := okList (okStr) y.f0 ∧ okStr y.f1 ∧ okStr y.f2 ∧ okStr y.f3
theorem of_T24 {H : Type} {enc : TypeId × Value → H} {w : World} {base : Nat} {spare : Nat → Bool} {held : Bool} {fuel : Nat} {cs : List Value} {x : DataW H × List MemPlace} (h : DataW.trod enc Tryd.prog w base spare held fuel 24 cs = some x) : ∃ y : S24, k24.K w y cs ∧ ok24 y := by
  obtain ⟨hl, n, hf⟩ := of_fields Tryd.underlying24 h
  rw [cells24] at hl
  simp only [List.mem_cons, List.not_mem_nil, or_false, forall_eq_or_imp, forall_eq] at hf
  obtain ⟨⟨y0, f0⟩, ⟨y1, f1⟩, ⟨y2, f2⟩, ⟨y3, f3⟩⟩ := hf
  rw [cells22] at f0
  obtain ⟨x0, g0, b0⟩ := of_slice (ok := okStr) Tryd.underlying22 cells9 (fun _ _ _ h_ => of_string Tryd.underlying9 h_) f0
  rw [cells9] at f1
  obtain ⟨x1, g1, b1⟩ := of_string Tryd.underlying9 f1
  rw [cells9] at f2
  obtain ⟨x2, g2, b2⟩ := of_string Tryd.underlying9 f2
  rw [cells9] at f3
  obtain ⟨x3, g3, b3⟩ := of_string Tryd.underlying9 f3
  exact ⟨⟨x0, x1, x2, x3⟩, (pair_K (n := 1) 0 rfl g0 (pair_K (n := 1) 1 rfl g1 (pair_K (n := 1) 2 rfl g2 (last_K (n := 1) 3 hl g3)))), ⟨b0, b1, b2, b3⟩⟩
end Go.Proofs.YtcckamdpncbkoaaDoor.G

namespace Go.Proofs.YtcckamdpncbkoaaDoor.G
open Go.Proofs.YtcckamdpncbkoaaDoor.Opn
open Go.RowKit Go.Proofs.YtcckamdpncbkoaaDoorW.PrintWords Go.Proofs.YtcckamdpncbkoaaDoorW.PrintLast Go.Proofs.YtcckamdpncbkoaaDoorW.PrintMore
open Go.Proofs.YtcckamdpncbkoaaDoor.Gl Go.Proofs.YtcckamdpncbkoaaDoor.Ext
attribute [local go_sem] max2_int min2_int max_two min_two max_three min_three max_four min_four   -- for this text's walks alone
set_option linter.unusedVariables false
set_option linter.unusedSimpArgs false

def laws_FnExactInverseForm.Pur : Prop := ∀ (l0_0 : List ByteArray) (a0_1 : ByteArray) (a0_2 : ByteArray) (a0_3 : ByteArray), okList (okStr) l0_0 → okStr a0_1 → okStr a0_2 → okStr a0_3 → ∃ k, laws_FnExactInverseForm.f k l0_0 a0_1 a0_2 a0_3 = some true
theorem laws_FnExactInverseForm.wlk (P : laws_FnExactInverseForm.Pur) (A0_0 : Option Addr) (c0_0 : Nat) (l0_0 : List ByteArray) (a0_1 : ByteArray) (a0_2 : ByteArray) (a0_3 : ByteArray) (w : World) (hr0_0 : Kd.C Kd.string w A0_0 l0_0.length l0_0) (hc0_0 : l0_0.length ≤ c0_0) {gF1 gF2 gF3 : Bool} (hG : GL gF1 gF2 gF3 w) (bl0_0 : okList (okStr) l0_0) (ba0_1 : okStr a0_1) (ba0_2 : okStr a0_2) (ba0_3 : okStr a0_3) :
    Calls Tryd.prog 8 #[.agg #[.slice A0_0 l0_0.length c0_0, .string a0_1, .string a0_2, .string a0_3]] w fun e w' => e = .returned (.bool true) ∧ Below w.heap.size w w' := by
  obtain ⟨k, h⟩ := P l0_0 a0_1 a0_2 a0_3 bl0_0 ba0_1 ba0_2 ba0_3
  refine (laws_FnExactInverseForm.calls k A0_0 c0_0 l0_0 a0_1 a0_2 a0_3 true w hG hr0_0 hc0_0 h).mono ?_
  rintro e w' ⟨rfl, hd⟩
  exact ⟨rfl, hd⟩

end Go.Proofs.YtcckamdpncbkoaaDoor.G

namespace Go.Proofs.YtcckamdpncbkoaaDoor.B
open Go.RowKit Go.Proofs.YtcckamdpncbkoaaDoorW.PrintWords Go.Proofs.YtcckamdpncbkoaaDoorW.PrintLast
set_option linter.unusedVariables false
set_option linter.unusedSimpArgs false
theorem w64 {x : Int} (h : -9223372036854775808 ≤ x) (h' : x ≤ 9223372036854775807) : wrap64 x = x := by unfold wrap64; omega
theorem ev_pos {α : Type} {c : Prop} [Decidable c] {g f : Nat → Option α} {r : α} (h : c) (e : Ev g r) : Ev (fun k => if c then g k else f k) r := Ev.congr (fun _ => if_pos h) e
theorem ev_neg {α : Type} {c : Prop} [Decidable c] {g f : Nat → Option α} {r : α} (h : ¬ c) (e : Ev f r) : Ev (fun k => if c then g k else f k) r := Ev.congr (fun _ => if_neg h) e
theorem ev_ite {α : Type} {c : Prop} [Decidable c] {g f : Nat → Option α} {a b : α} (h : c → Ev g a) (h' : ¬ c → Ev f b) : Ev (fun k => if c then g k else f k) (if c then a else b) := by
  by_cases hc : c
  · rw [if_pos hc]; exact ev_pos hc (h hc)
  · rw [if_neg hc]; exact ev_neg hc (h' hc)
theorem ev_bind0 {α β : Type} {o : Option α} {f : Nat → α → Option β} {a : α} {r : β} (h : o = some a) (k : Ev (fun n => f n a) r) : Ev (fun n => o.bind (f n)) r := Ev.congr (fun _ => by rw [h]; rfl) k
theorem ev_uniq {α : Type} {g : Nat → Option α} {a b : α} (h : Ev g a) (h' : Ev g b) : a = b := by
  obtain ⟨K, h⟩ := h
  obtain ⟨K', h'⟩ := h'
  exact Option.some.inj ((h _ (Nat.le_max_left K K')).symm.trans (h' _ (Nat.le_max_right K K')))
theorem ev_eq {α : Type} {g : Nat → Option α} {a b : α} (h : Ev g a) (e : a = b) : Ev g b := e ▸ h
abbrev L (s : ByteArray) : List UInt8 := s.data.toList
def mkB (l : List UInt8) : ByteArray := ⟨l.toArray⟩
theorem L_mk (l : List UInt8) : L (mkB l) = l := by simp [mkB]
theorem mk_L (s : ByteArray) : mkB (L s) = s := by cases s; simp [mkB, L]
theorem L_inj {a b : ByteArray} (h : L a = L b) : a = b := by rw [← mk_L a, h, mk_L]
theorem L_iff {a b : ByteArray} : a = b ↔ L a = L b := ⟨fun h => by rw [h], L_inj⟩
theorem L_len (s : ByteArray) : (L s).length = s.size := (Lib.size_eq s).symm
theorem size_mk (l : List UInt8) : (mkB l).size = l.length := by rw [← L_len, L_mk]
theorem toList_L (s : ByteArray) : s.toList = L s := Lib.toList_data s
theorem L_extract (s : ByteArray) (a b : Nat) : L (s.extract a b) = ((L s).drop a).take (b - a) := Lib.extract_data s a b
theorem L_append (a b : ByteArray) : L (a ++ b) = L a ++ L b := by simp [L, ByteArray.data_append]
theorem size_append (a b : ByteArray) : (a ++ b).size = a.size + b.size := by rw [← L_len, L_append, List.length_append, L_len, L_len]
theorem mk_append (a b : List UInt8) : mkB a ++ mkB b = mkB (a ++ b) := L_inj (by rw [L_append, L_mk, L_mk, L_mk])
theorem bt_get (s : ByteArray) (i : Nat) (h : i < s.size) : bt s (i : Int) = (((L s)[i]'(by rw [L_len]; exact h)).toNat : Int) := by
  unfold bt
  simp only [Int.toNat_natCast, h, dif_pos]
  rfl
theorem bt_getD (s : ByteArray) (i : Nat) (h : i < s.size) : bt s (i : Int) = (((L s).getD i 0).toNat : Int) := by
  rw [bt_get s i h, List.getD_eq_getElem?_getD, List.getElem?_eq_getElem (by rw [L_len]; exact h)]; rfl
theorem size_pos_iff (s : ByteArray) : s.size = 0 ↔ L s = [] := by rw [← L_len, List.length_eq_zero_iff]
theorem u8_inj {a b : UInt8} (h : (a.toNat : Int) = (b.toNat : Int)) : a = b := UInt8.toNat_inj.1 (by omega)
theorem toList_eq_iff {a b : ByteArray} : a.toList = b.toList ↔ a = b := by rw [toList_L, toList_L, L_iff]
theorem mk_eq_iff {a b : List UInt8} : mkB a = mkB b ↔ a = b := ⟨fun h => by have := congrArg L h; rwa [L_mk, L_mk] at this, fun h => by rw [h]⟩
end Go.Proofs.YtcckamdpncbkoaaDoor.B

namespace Go.Proofs.YtcckamdpncbkoaaDoor.B
open Go.RowKit Go.Proofs.YtcckamdpncbkoaaDoorW.PrintWords Go.Proofs.YtcckamdpncbkoaaDoorW.PrintLast
set_option linter.unusedVariables false
set_option linter.unusedSimpArgs false
/-- What stands ahd of the first part. -/
def ahd (seg : List UInt8) : List (List UInt8) → List (List UInt8)
  | [] => [seg]
  | h :: t => (seg ++ h) :: t
/-- The parts of a list between bytes b. -/
def spl (b : UInt8) : List UInt8 → List (List UInt8)
  | [] => [[]]
  | c :: cs => if c = b then [] :: spl b cs else ahd [c] (spl b cs)
theorem spl_nil (b : UInt8) : spl b [] = [[]] := rfl
theorem spl_cons (b c : UInt8) (cs : List UInt8) : spl b (c :: cs) = if c = b then [] :: spl b cs else ahd [c] (spl b cs) := rfl
theorem spl_ne (b : UInt8) (l : List UInt8) : spl b l ≠ [] := by
  cases l with
  | nil => simp [spl]
  | cons c cs => unfold spl; split <;> simp; unfold ahd; split <;> simp
theorem ahd_nil (p : List (List UInt8)) (h : p ≠ []) : ahd [] p = p := by cases p <;> simp_all [ahd]
theorem ahd_ahd (a b : List UInt8) (p : List (List UInt8)) : ahd a (ahd b p) = ahd (a ++ b) p := by cases p <;> simp [ahd]
theorem spl_length (b : UInt8) (l : List UInt8) : (spl b l).length ≤ l.length + 1 := by
  induction l with
  | nil => simp [spl]
  | cons c cs ih =>
    unfold spl
    split
    · simp; omega
    · cases h : spl b cs with
      | nil => exact absurd h (spl_ne b cs)
      | cons p q => rw [h] at ih; simp [ahd] at ih ⊢; omega
theorem spl_step (b : UInt8) (l : List UInt8) (from_ i : Nat) (hi : i < l.length) (hf : from_ ≤ i) :
    ahd ((l.drop from_).take (i - from_)) (spl b (l.drop i)) =
      if l[i] = b then ((l.drop from_).take (i - from_)) :: spl b (l.drop (i + 1)) else ahd ((l.drop from_).take (i + 1 - from_)) (spl b (l.drop (i + 1))) := by
  rw [List.drop_eq_getElem_cons hi, spl_cons]
  by_cases h : l[i] = b
  · rw [if_pos h, if_pos h]
    simp [ahd]
  · rw [if_neg h, if_neg h]
    have e : (l.drop from_).take (i + 1 - from_) = (l.drop from_).take (i - from_) ++ [l[i]] := by
      rw [show i + 1 - from_ = (i - from_) + 1 by omega, List.take_succ_eq_append_getElem (by rw [List.length_drop]; omega)]
      congr 2
      rw [List.getElem_drop]
      congr 1
      omega
    rw [e]
    exact ahd_ahd _ _ _
end Go.Proofs.YtcckamdpncbkoaaDoor.B

namespace Go.Proofs.YtcckamdpncbkoaaDoor.B
open Go.RowKit Go.Proofs.YtcckamdpncbkoaaDoorW.PrintWords Go.Proofs.YtcckamdpncbkoaaDoorW.PrintLast
set_option linter.unusedVariables false
set_option linter.unusedSimpArgs false
theorem spl_none (c : UInt8) : ∀ l : List UInt8, (∀ k : Nat, l[k]? ≠ some c) → spl c l = [l]
  | [], _ => rfl
  | a :: l, h => by
    have h0 : a ≠ c := fun e => h 0 (by simp [e])
    rw [spl_cons, if_neg h0, spl_none c l (fun k => by simpa using h (k + 1))]; rfl
theorem spl_first (c : UInt8) : ∀ (i : Nat) (l : List UInt8), l[i]? = some c → (∀ k : Nat, k < i → l[k]? ≠ some c) → spl c l = l.take i :: spl c (l.drop (i + 1))
  | 0, [], h, _ => by simp at h
  | 0, a :: l, h, _ => by
    have h0 : a = c := by simpa using h
    rw [spl_cons, if_pos h0]; rfl
  | i + 1, [], h, _ => by simp at h
  | i + 1, a :: l, h, hk => by
    have h0 : a ≠ c := fun e => hk 0 (by omega) (by simp [e])
    rw [spl_cons, if_neg h0, spl_first c i l (by simpa using h) (fun k hk' => by simpa using hk (k + 1) (by omega))]
    rfl
theorem indexB_one (s : ByteArray) (c : UInt8) : Lib.indexB s (mkB [c]) = Lib.indexByte (L s) c := by
  unfold Lib.indexB
  have : (mkB [c]).data.toList = [c] := L_mk [c]
  rw [this]
  exact Lib.index_one _ _
theorem splitB_spl (c : UInt8) (n : Nat) : ∀ s : ByteArray, s.size ≤ n → (Lib.splitB (mkB [c]) 0 (Lib.countB s (mkB [c])) s).map L = spl c (L s) := by
  have h1 : (mkB [c]).size = 1 := by rw [size_mk]; rfl
  induction n with
  | zero =>
    intro s hs
    rcases Lib.indexB_cases s (mkB [c]) with hm | ⟨i, hi, hr⟩
    · rw [Lib.splitB_miss _ _ _ _ hm]
      have := Lib.indexByte_none (by rw [← indexB_one]; exact hm : Lib.indexByte (L s) c = -1)
      rw [spl_none c (L s) this]; rfl
    · omega
  | succ n ih =>
    intro s hs
    rcases Lib.indexB_cases s (mkB [c]) with hm | ⟨i, hi, hr⟩
    · rw [Lib.splitB_miss _ _ _ _ hm]
      have := Lib.indexByte_none (by rw [← indexB_one]; exact hm : Lib.indexByte (L s) c = -1)
      rw [spl_none c (L s) this]; rfl
    · rw [h1] at hr
      have hc := Lib.countB_hit s (mkB [c]) i (by omega) hi
      rw [h1] at hc
      rw [hc, Nat.add_comm 1, Lib.splitB_hit _ _ _ _ i hi, h1, List.map_cons, ih (s.extract (i + 1) s.size) (by rw [ByteArray.size_extract]; omega)]
      obtain ⟨a, b⟩ := Lib.indexByte_some (by rw [← indexB_one]; exact hi : Lib.indexByte (L s) c = i)
      rw [spl_first c i (L s) a b, L_extract, L_extract]
      congr 1
      congr 1
      rw [List.take_of_length_le (by rw [List.length_drop, L_len]; omega)]
theorem splitB_eq (c : UInt8) (s : ByteArray) : Lib.splitB (mkB [c]) 0 (Lib.countB s (mkB [c])) s = (spl c (L s)).map mkB := by
  rw [← splitB_spl c s.size s (Nat.le_refl _), List.map_map]
  have : (mkB ∘ L) = id := by funext x; exact mk_L x
  rw [this, List.map_id]
end Go.Proofs.YtcckamdpncbkoaaDoor.B

namespace Go.Proofs.YtcckamdpncbkoaaDoor.G
open Go.RowKit Go.Proofs.YtcckamdpncbkoaaDoorW.PrintWords Go.Proofs.YtcckamdpncbkoaaDoorW.PrintLast Go.Proofs.YtcckamdpncbkoaaDoor.B
set_option linter.unusedVariables false
set_option linter.unusedSimpArgs false
theorem split_loop (s : ByteArray) (b : UInt8) (hs : s.size ≤ 8796093022000) (d : Nat) : ∀ (out : List ByteArray) (f i : Nat), out.length ≤ i → f ≤ i → i ≤ s.size → s.size - i = d →
    Ev (fun k => spec_l1Split.l0 k s (b.toNat : Int) out f i) (out ++ (ahd (((L s).drop f).take (i - f)) (spl b ((L s).drop i))).map mkB) := by
  have hL : (L s).length = s.size := L_len s
  induction d with
  | zero =>
    intro out f i h0 h1 h2 hd
    have e : i = s.size := by omega
    refine Ev.step (f := fun _ => some (out ++ [s.extract f s.size])) (fun k => ?_) (ev_eq (Ev.now _) ?_)
    · simp only [spec_l1Split.l0]
      rw [if_neg (by omega), if_pos (by omega), if_pos (by omega), if_pos (by omega)]
      simp
    · rw [List.drop_of_length_le (l := L s) (i := i) (by omega)]
      simp [spl, ahd]
      apply L_inj
      rw [L_extract, L_mk, e]
  | succ d ih =>
    intro out f i h0 h1 h2 hd
    have hlt : i < s.size := by omega
    have hlt' : i < (L s).length := by omega
    rw [spl_step b (L s) f i hlt' h1]
    have hw : wrap64 ((i : Int) + 1) = ((i + 1 : Nat) : Int) := by rw [w64 (by omega) (by omega)]; rfl
    by_cases e : (L s)[i] = b
    · rw [if_pos e]
      refine Ev.step (f := fun k => spec_l1Split.l0 k s (b.toNat : Int) (out ++ [s.extract f i]) ((i + 1 : Nat) : Int) ((i + 1 : Nat) : Int)) (fun k => ?_) (ev_eq (ih (out ++ [s.extract f i]) (i + 1) (i + 1) (by simp; omega) (by omega) (by omega) (by omega)) ?_)
      · simp only [spec_l1Split.l0]
        rw [if_pos (by omega), if_pos (by omega), if_pos (by rw [bt_get s i hlt, e]), if_pos (by omega), if_pos (by omega), if_pos (by omega), if_pos (by omega), hw]
        simp
      · rw [Nat.sub_self, List.take_zero, ahd_nil _ (spl_ne b _), List.append_assoc]
        congr 1
        simp
        apply L_inj
        rw [L_extract, L_mk]
    · rw [if_neg e]
      refine Ev.step (f := fun k => spec_l1Split.l0 k s (b.toNat : Int) out f ((i + 1 : Nat) : Int)) (fun k => ?_) (ih out f (i + 1) (by omega) (by omega) (by omega) (by omega))
      simp only [spec_l1Split.l0]
      rw [if_pos (by omega), if_pos (by omega), if_neg (by rw [bt_get s i hlt]; exact fun h => e (u8_inj h)), hw]
theorem split_ev (s : ByteArray) (b : UInt8) (hs : s.size ≤ 8796093022000) : Ev (fun k => spec_l1Split.f k s (b.toNat : Int)) ((spl b (L s)).map mkB) := by
  have := split_loop s b hs s.size [] 0 0 (by simp) (by omega) (by omega) (by omega)
  unfold spec_l1Split.f
  simpa [ahd_nil _ (spl_ne b _)] using this
end Go.Proofs.YtcckamdpncbkoaaDoor.G

namespace Go.Proofs.YtcckamdpncbkoaaDoor.G
open Go.RowKit Go.Proofs.YtcckamdpncbkoaaDoorW.PrintWords Go.Proofs.YtcckamdpncbkoaaDoorW.PrintLast Go.Proofs.YtcckamdpncbkoaaDoor.B
set_option linter.unusedVariables false
set_option linter.unusedSimpArgs false
def upD (c : Int) : Bool := decide (65 ≤ c) && decide (c ≤ 90)
def loD (c : Int) : Bool := decide (97 ≤ c) && decide (c ≤ 122)
def leD (c : Int) : Bool := upD c || loD c
def inD (n : Nat) : Bool := decide (1 ≤ n) && decide (n ≤ 12)
theorem spec_up (c : Int) : spec_l2Upper.f c = some (upD c) := by unfold spec_l2Upper.f upD; by_cases h : 65 ≤ c <;> simp [h]
theorem spec_lo (c : Int) : spec_l2Lower.f c = some (loD c) := by unfold spec_l2Lower.f loD; by_cases h : 97 ≤ c <;> simp [h]
theorem impl_up (c : Int) : impl_isUpper.f c = some (upD c) := by unfold impl_isUpper.f upD; by_cases h : 65 ≤ c <;> simp [h]
theorem impl_lo (c : Int) : impl_isLower.f c = some (loD c) := by unfold impl_isLower.f loD; by_cases h : 97 ≤ c <;> simp [h]
theorem spec_le (c : Int) : spec_l2Letter.f c = some (leD c) := by unfold spec_l2Letter.f leD; rw [spec_up, spec_lo]; cases upD c <;> simp
theorem impl_le (c : Int) : impl_isLetter.f c = some (leD c) := by unfold impl_isLetter.f leD; rw [impl_up, impl_lo]; cases upD c <;> simp
theorem in12 (n : Nat) : (if (n : Int) ≥ 1 then some (decide ((n : Int) ≤ 12)) else some false) = some (inD n) := by
  unfold inD
  by_cases h : 1 ≤ n
  · rw [if_pos (by omega)]
    congr 1
    rw [decide_eq_true h, Bool.true_and, decide_eq_decide]; omega
  · rw [if_neg (by omega)]; simp [h]
theorem spec_in (s : ByteArray) : spec_l1In.f (s.size : Int) 1 12 = some (inD s.size) := in12 s.size
theorem impl_in (s : ByteArray) : impl_inside.f (s.size : Int) 1 12 = some (inD s.size) := in12 s.size
theorem inD_iff {n : Nat} : inD n = true ↔ 1 ≤ n ∧ n ≤ 12 := by simp [inD]
/-- A byte of a word, behind the first. -/
def okD (s : ByteArray) (i : Nat) : Bool := leD (bt s i) || ((decide (bt s i = 45) || decide (bt s i = 39)) && leD (bt s ((i : Int) - 1)))
def wlD (s : ByteArray) : Nat → Nat → Bool
  | 0, _ => true
  | d + 1, i => okD s i && wlD s d (i + 1)
def wordD (s : ByteArray) : Bool := inD s.size && ((leD (bt s 0) && leD (bt s ((s.size : Int) - 1))) && wlD s (s.size - 1) 1)
def greatD (s : ByteArray) : Bool := wordD s && upD (bt s 0)
theorem word_step (s : ByteArray) (i k : Nat) (h1 : 1 ≤ i) (h2 : i < s.size) (h3 : s.size ≤ 12) : spec_l2Word.l0 (k + 1) s (i : Int) = if okD s i = true then spec_l2Word.l0 k s ((i + 1 : Nat) : Int) else some false := by
  have hw : wrap64 ((i : Int) + 1) = ((i + 1 : Nat) : Int) := by rw [w64 (by omega) (by omega)]; rfl
  have hw' : wrap64 ((i : Int) - 1) = (i : Int) - 1 := w64 (by omega) (by omega)
  have a1 : (0 : Int) ≤ (i : Int) - 1 := by omega
  have a2 : (i : Int) - 1 < (s.size : Int) := by omega
  simp only [spec_l2Word.l0]
  rw [if_pos (show (i : Int) < (s.size : Int) by omega), if_pos (show (0 : Int) ≤ (i : Int) by omega), spec_le, hw, hw']
  simp only [Option.bind_some, if_pos a1, if_pos a2, spec_le]
  unfold okD
  generalize ((i + 1 : Nat) : Int) = j
  cases leD (bt s i) <;> cases leD (bt s ((i : Int) - 1)) <;> by_cases c : bt s i = 45 <;> by_cases d : bt s i = 39 <;> simp [c, d]
theorem word_loop (s : ByteArray) (hs : s.size ≤ 12) (d : Nat) : ∀ i : Nat, 1 ≤ i → i ≤ s.size → s.size - i = d → Ev (fun k => spec_l2Word.l0 k s (i : Int)) (wlD s d i) := by
  induction d with
  | zero =>
    intro i h1 h2 hd
    refine Ev.step (f := fun _ => some true) (fun k => ?_) (Ev.now _)
    simp only [spec_l2Word.l0]; rw [if_neg (by omega)]
  | succ d ih =>
    intro i h1 h2 hd
    refine Ev.step (f := fun k => if okD s i = true then spec_l2Word.l0 k s ((i + 1 : Nat) : Int) else some false) (fun k => word_step s i k h1 (by omega) hs) ?_
    unfold wlD
    cases h : okD s i with
    | true => exact ev_pos rfl (ev_eq (ih (i + 1) (by omega) (by omega) (by omega)) (by simp))
    | false => exact ev_neg (by simp) (ev_eq (Ev.now _) (by simp))
theorem loops_eq (s : ByteArray) (k : Nat) : ∀ i : Int, impl_isNameWord.l0 k s i = spec_l2Word.l0 k s i := by
  induction k with
  | zero => intro i; simp [impl_isNameWord.l0, spec_l2Word.l0]
  | succ k ih => intro i; simp only [impl_isNameWord.l0, spec_l2Word.l0, impl_le, spec_le, ih]
theorem spec_word (s : ByteArray) : Ev (fun k => spec_l2Word.f k s) (wordD s) := by
  unfold spec_l2Word.f wordD
  cases h : inD s.size with
  | false =>
    refine Ev.step (f := fun _ => some false) (fun k => ?_) (ev_eq (Ev.now _) (by simp))
    simp only [spec_in, h, Option.bind_some, spec_l2Word.j0]; simp
  | true =>
    obtain ⟨h1, h2⟩ := inD_iff.1 h
    have hw : wrap64 ((s.size : Int) - 1) = (s.size : Int) - 1 := w64 (by omega) (by omega)
    refine Ev.step (f := fun k => if (leD (bt s 0) && leD (bt s ((s.size : Int) - 1))) = true then spec_l2Word.l0 k s ((1 : Nat) : Int) else some false) (fun k => ?_) ?_
    · have a1 : (0 : Int) < (s.size : Int) := by omega
      have a2 : (0 : Int) ≤ (s.size : Int) - 1 := by omega
      have a3 : (s.size : Int) - 1 < (s.size : Int) := by omega
      simp only [spec_in, h, Option.bind_some, if_pos a1, if_pos a2, if_pos a3, hw, spec_le, spec_l2Word.j0]
      cases leD (bt s 0) <;> cases leD (bt s ((s.size : Int) - 1)) <;> simp
    · cases h3 : (leD (bt s 0) && leD (bt s ((s.size : Int) - 1))) with
      | true => exact ev_pos rfl (ev_eq (word_loop s h2 (s.size - 1) 1 (by omega) (by omega) rfl) (by simp))
      | false => exact ev_neg (by simp) (ev_eq (Ev.now _) (by simp))
theorem impl_word (s : ByteArray) : Ev (fun k => impl_isNameWord.f k s) (wordD s) := by
  unfold impl_isNameWord.f wordD
  cases h : inD s.size with
  | false =>
    refine Ev.step (f := fun _ => some false) (fun k => ?_) (ev_eq (Ev.now _) (by simp))
    simp only [impl_in, h, Option.bind_some, impl_isNameWord.j0]; simp
  | true =>
    obtain ⟨h1, h2⟩ := inD_iff.1 h
    have hw : wrap64 ((s.size : Int) - 1) = (s.size : Int) - 1 := w64 (by omega) (by omega)
    refine Ev.step (f := fun k => if (leD (bt s 0) && leD (bt s ((s.size : Int) - 1))) = true then spec_l2Word.l0 k s ((0 : Nat) : Int) else some false) (fun k => ?_) ?_
    · have a1 : (0 : Int) < (s.size : Int) := by omega
      have a2 : (0 : Int) ≤ (s.size : Int) - 1 := by omega
      have a3 : (s.size : Int) - 1 < (s.size : Int) := by omega
      simp only [impl_in, h, Option.bind_some, if_pos a1, if_pos a2, if_pos a3, hw, impl_le, impl_isNameWord.j0, loops_eq]
      cases leD (bt s 0) <;> cases leD (bt s ((s.size : Int) - 1)) <;> simp
    · cases h3 : (leD (bt s 0) && leD (bt s ((s.size : Int) - 1))) with
      | true =>
        refine ev_pos rfl (Ev.step (f := fun k => spec_l2Word.l0 k s ((1 : Nat) : Int)) (fun k => ?_) (ev_eq (word_loop s h2 (s.size - 1) 1 (by omega) (by omega) rfl) (by simp)))
        have h0 : leD (bt s 0) = true := by simp at h3; exact h3.1
        simp only [spec_l2Word.l0]
        rw [if_pos (by omega), if_pos (by omega), spec_le, show ((0 : Nat) : Int) = 0 from rfl, h0, w64 (by omega) (by omega)]
        simp
      | false => exact ev_neg (by simp) (ev_eq (Ev.now _) (by simp))
theorem word_in {s : ByteArray} (h : wordD s = true) : 1 ≤ s.size ∧ s.size ≤ 12 := by
  unfold wordD at h
  cases hi : inD s.size with
  | true => exact inD_iff.1 hi
  | false => rw [hi] at h; simp at h
theorem impl_great (s : ByteArray) : Ev (fun k => impl_isGreatWord.f k s) (greatD s) := by
  unfold impl_isGreatWord.f greatD
  refine Ev.bind (impl_word s) ?_
  cases h : wordD s with
  | true =>
    have := word_in h
    refine ev_pos rfl (ev_pos (by omega) (ev_eq (Ev.congr (f := fun _ => some (upD (bt s 0))) (fun k => by rw [impl_up]; rfl) (Ev.now _)) (by simp)))
  | false => exact ev_neg (by simp) (ev_eq (Ev.now _) (by simp))
/-- Lower-case letters alone, from a place on. -/
def lowF (s : ByteArray) (j : Nat) : Bool := ((L s).drop j).all fun b => loD (b.toNat : Int)
def lowD (s : ByteArray) : Bool := lowF s 0
def wsD (l : List ByteArray) : Bool := l.all fun w => inD w.size && lowD w
theorem lowF_step (s : ByteArray) (j : Nat) (h : j < s.size) : lowF s j = (loD (bt s j) && lowF s (j + 1)) := by
  unfold lowF
  have hl : j < (L s).length := by rw [L_len]; exact h
  rw [List.drop_eq_getElem_cons hl, List.all_cons, bt_get s j h]
theorem lowF_end (s : ByteArray) (j : Nat) (h : s.size ≤ j) : lowF s j = true := by
  unfold lowF
  rw [List.drop_of_length_le (by rw [L_len]; exact h)]; rfl
theorem low_all (s : ByteArray) (h : lowD s = true) (j : Nat) (hj : j < s.size) : leD (bt s j) = true := by
  have hl : j < (L s).length := by rw [L_len]; exact hj
  have := List.all_eq_true.1 h _ (by rw [List.drop_zero]; exact List.getElem_mem hl)
  rw [bt_get s j hj]
  unfold leD
  rw [this]; simp
theorem wl_low (s : ByteArray) (h : lowD s = true) (d : Nat) : ∀ i, i + d ≤ s.size → wlD s d i = true := by
  induction d with
  | zero => intro i _; rfl
  | succ d ih =>
    intro i hi
    unfold wlD okD
    rw [low_all s h i (by omega), ih (i + 1) (by omega)]; rfl
theorem word_low (s : ByteArray) : (wordD s && lowD s) = (inD s.size && lowD s) := by
  cases h : lowD s with
  | false => simp
  | true =>
    unfold wordD
    cases hi : inD s.size with
    | false => simp
    | true =>
      obtain ⟨h1, h2⟩ := inD_iff.1 hi
      have e1 := low_all s h 0 (by omega)
      have e2 := low_all s h (s.size - 1) (by omega)
      rw [show ((s.size - 1 : Nat) : Int) = (s.size : Int) - 1 by omega] at e2
      rw [show ((0 : Nat) : Int) = 0 from rfl] at e1
      rw [e1, e2, wl_low s h (s.size - 1) 1 (by omega)]; rfl
theorem rd_get (l : List ByteArray) (i : Nat) (h : i < l.length) : rdOf ByteArray.empty l (i : Int) = l[i] := by simp [rdOf, h]
theorem spec_inner (ws : List ByteArray) (i : Nat) (hi : i < ws.length) (hs : (ws[i]).size ≤ 12) (hl : ws.length ≤ 4611686018427387904) (T : Bool) (hT : Ev (fun k => spec_l2Particle.l0 k ws ((i + 1 : Nat) : Int)) T) (d : Nat) : ∀ j : Nat, j ≤ (ws[i]).size → (ws[i]).size - j = d →
    Ev (fun k => spec_l2Particle.l1 k ws (i : Int) (j : Int)) (lowF ws[i] j && T) := by
  have hw : wrap64 ((i : Int) + 1) = ((i + 1 : Nat) : Int) := by rw [w64 (by omega) (by omega)]; rfl
  induction d with
  | zero =>
    intro j h1 hd
    refine Ev.step (f := fun k => spec_l2Particle.l0 k ws ((i + 1 : Nat) : Int)) (fun k => ?_) (ev_eq hT (by rw [lowF_end _ _ (by omega)]; simp))
    simp only [spec_l2Particle.l1, rd_get ws i hi]
    rw [if_pos (by omega), if_pos (by omega), if_neg (by omega), hw]
  | succ d ih =>
    intro j h1 hd
    rw [lowF_step _ j (by omega)]
    have hw' : wrap64 ((j : Int) + 1) = ((j + 1 : Nat) : Int) := by rw [w64 (by omega) (by omega)]; rfl
    refine Ev.step (f := fun k => if loD (bt ws[i] (j : Int)) = true then spec_l2Particle.l1 k ws (i : Int) ((j + 1 : Nat) : Int) else some false) (fun k => ?_) ?_
    · simp only [spec_l2Particle.l1, rd_get ws i hi]
      rw [if_pos (by omega), if_pos (by omega), if_pos (by omega), if_pos (by omega), hw', spec_lo]; rfl
    · cases h : loD (bt ws[i] (j : Int)) with
      | true => exact ev_pos rfl (ev_eq (ih (j + 1) (by omega) (by omega)) (by simp))
      | false => exact ev_neg (by simp) (ev_eq (Ev.now _) (by simp))
theorem spec_outer (ws : List ByteArray) (hl : ws.length ≤ 4611686018427387904) (d : Nat) : ∀ i : Nat, i ≤ ws.length → ws.length - i = d →
    Ev (fun k => spec_l2Particle.l0 k ws (i : Int)) (wsD (ws.drop i) && decide (ws.length ≤ 2)) := by
  induction d with
  | zero =>
    intro i h1 hd
    refine Ev.step (f := fun k => some (decide ((ws.length : Int) ≤ 2))) (fun k => ?_) (ev_eq (Ev.now _) ?_)
    · simp only [spec_l2Particle.l0]; rw [if_neg (by omega)]
    · rw [List.drop_of_length_le (by omega)]
      show decide _ = (true && decide _)
      rw [Bool.true_and, decide_eq_decide]; omega
  | succ d ih =>
    intro i h1 hd
    have hi : i < ws.length := by omega
    refine Ev.step (f := fun k => (spec_l2Word.f k ws[i]).bind fun t => if t = true then spec_l2Particle.l1 k ws (i : Int) ((0 : Nat) : Int) else some false) (fun k => ?_) ?_
    · simp only [spec_l2Particle.l0, rd_get ws i hi]
      rw [if_pos (by omega), if_pos (by omega)]; rfl
    · refine Ev.bind (spec_word _) ?_
      have e : (wsD (ws.drop i) && decide (ws.length ≤ 2)) = ((wordD ws[i] && lowD ws[i]) && (wsD (ws.drop (i + 1)) && decide (ws.length ≤ 2))) := by
        rw [word_low, List.drop_eq_getElem_cons hi]
        simp only [wsD, List.all_cons, Bool.and_assoc]
      rw [e]
      cases h : wordD ws[i] with
      | true => exact ev_pos rfl (ev_eq (spec_inner ws i hi (word_in h).2 hl _ (ih (i + 1) (by omega) (by omega)) _ 0 (by omega) rfl) (by simp [lowD]))
      | false => exact ev_neg (by simp) (ev_eq (Ev.now _) (by simp))
theorem impl_inner (ws ws' : List ByteArray) (n i : Nat) (w : ByteArray) (hi : i < 4611686018427387904) (hs : w.size ≤ 12) (T : Bool) (hT : Ev (fun k => impl_isParticle.l0 k ws ws' (n : Int) ((i + 1 : Nat) : Int)) T) (d : Nat) : ∀ j : Nat, j ≤ w.size → w.size - j = d →
    Ev (fun k => impl_isParticle.l1 k ws w (j : Int) ws' (n : Int) (i : Int)) (lowF w j && T) := by
  have hw : wrap64 ((i : Int) + 1) = ((i + 1 : Nat) : Int) := by rw [w64 (by omega) (by omega)]; rfl
  induction d with
  | zero =>
    intro j h1 hd
    refine Ev.step (f := fun k => impl_isParticle.l0 k ws ws' (n : Int) ((i + 1 : Nat) : Int)) (fun k => ?_) (ev_eq hT (by rw [lowF_end _ _ (by omega)]; simp))
    simp only [impl_isParticle.l1]
    rw [if_neg (by omega), hw]
  | succ d ih =>
    intro j h1 hd
    rw [lowF_step _ j (by omega)]
    have hw' : wrap64 ((j : Int) + 1) = ((j + 1 : Nat) : Int) := by rw [w64 (by omega) (by omega)]; rfl
    refine Ev.step (f := fun k => if loD (bt w (j : Int)) = true then impl_isParticle.l1 k ws w ((j + 1 : Nat) : Int) ws' (n : Int) (i : Int) else some false) (fun k => ?_) ?_
    · simp only [impl_isParticle.l1]
      rw [if_pos (by omega), if_pos (by omega), hw', impl_lo]; rfl
    · cases h : loD (bt w (j : Int)) with
      | true => exact ev_pos rfl (ev_eq (ih (j + 1) (by omega) (by omega)) (by simp))
      | false => exact ev_neg (by simp) (ev_eq (Ev.now _) (by simp))
theorem impl_outer (ws : List ByteArray) (hl : ws.length ≤ 4611686018427387904) (d : Nat) : ∀ i : Nat, i ≤ ws.length → ws.length - i = d →
    Ev (fun k => impl_isParticle.l0 k ws ws (ws.length : Int) (i : Int)) (wsD (ws.drop i) && decide (ws.length ≤ 2)) := by
  induction d with
  | zero =>
    intro i h1 hd
    refine Ev.step (f := fun k => some (decide ((ws.length : Int) ≤ 2))) (fun k => ?_) (ev_eq (Ev.now _) ?_)
    · simp only [impl_isParticle.l0]; rw [if_neg (by omega)]
    · rw [List.drop_of_length_le (by omega)]
      show decide _ = (true && decide _)
      rw [Bool.true_and, decide_eq_decide]; omega
  | succ d ih =>
    intro i h1 hd
    have hi : i < ws.length := by omega
    have e : (wsD (ws.drop i) && decide (ws.length ≤ 2)) = (inD (ws[i]).size && (lowD ws[i] && (wsD (ws.drop (i + 1)) && decide (ws.length ≤ 2)))) := by
      rw [List.drop_eq_getElem_cons hi]
      simp only [wsD, List.all_cons, Bool.and_assoc]
    rw [e]
    refine Ev.step (f := fun k => if inD (ws[i]).size = true then impl_isParticle.l1 k ws ws[i] ((0 : Nat) : Int) ws (ws.length : Int) (i : Int) else some false) (fun k => ?_) ?_
    · simp only [impl_isParticle.l0, rd_get ws i hi]
      rw [if_pos (by omega), if_pos (by omega), if_pos (by omega), impl_in]; rfl
    · cases h : inD (ws[i]).size with
      | true => exact ev_pos rfl (ev_eq (impl_inner ws ws ws.length i ws[i] (by omega) (inD_iff.1 h).2 _ (ih (i + 1) (by omega) (by omega)) _ 0 (by omega) rfl) (by simp [lowD]))
      | false => exact ev_neg (by simp) (ev_eq (Ev.now _) (by simp))
def wordsOf (s : ByteArray) : List ByteArray := (spl 32 (L s)).map mkB
def partD (s : ByteArray) : Bool := decide (s.size = 0) || (wsD (wordsOf s) && decide ((wordsOf s).length ≤ 2))
theorem wordsOf_len (s : ByteArray) : (wordsOf s).length ≤ s.size + 1 := by
  have := spl_length 32 (L s)
  rw [L_len] at this
  unfold wordsOf
  rw [List.length_map]; exact this
theorem nil_iff (s : ByteArray) : s.toList = ([] : List UInt8) ↔ s.size = 0 := by rw [toList_L, size_pos_iff]
theorem split_sp (s : ByteArray) (c : UInt8) (hs : s.size ≤ 4294967280) : strings_Split.f s (⟨#[c]⟩ : ByteArray) = some ((spl c (L s)).map mkB) := by
  have e : (⟨#[c]⟩ : ByteArray) = mkB [c] := rfl
  have h1 : (mkB [c]).size = 1 := by rw [size_mk]; rfl
  have hc := Lib.countB_le (mkB [c]) (by omega) s.size s (Nat.le_refl _)
  unfold strings_Split.f
  rw [e, if_pos ⟨by omega, by omega, Lib.splitB_all (mkB [c]) (by omega) 0 _ s rfl, by omega⟩, splitB_eq]
theorem spec_part (s : ByteArray) (hs : s.size ≤ 4294967280) : Ev (fun k => spec_l2Particle.f k s) (partD s) := by
  unfold spec_l2Particle.f partD
  by_cases h : s.size = 0
  · exact ev_pos ((nil_iff s).2 h) (ev_eq (Ev.now _) (by simp [h]))
  · refine ev_neg (fun e => h ((nil_iff s).1 e)) (Ev.bind (split_ev s 32 (by omega)) (ev_eq (spec_outer (wordsOf s) (by have := wordsOf_len s; omega) _ 0 (by omega) rfl) ?_))
    simp [h]
theorem impl_part (s : ByteArray) (hs : s.size ≤ 4294967280) : Ev (fun k => impl_isParticle.f k s) (partD s) := by
  unfold impl_isParticle.f partD
  by_cases h : s.size = 0
  · exact ev_pos ((nil_iff s).2 h) (ev_eq (Ev.now _) (by simp [h]))
  · refine ev_neg (fun e => h ((nil_iff s).1 e)) (ev_bind0 (split_sp s 32 hs) (ev_eq (impl_outer (wordsOf s) (by have := wordsOf_len s; omega) _ 0 (by omega) rfl) ?_))
    simp [h]
end Go.Proofs.YtcckamdpncbkoaaDoor.G

namespace Go.Proofs.YtcckamdpncbkoaaDoor.G
open Go.RowKit Go.Proofs.YtcckamdpncbkoaaDoorW.PrintWords Go.Proofs.YtcckamdpncbkoaaDoorW.PrintLast Go.Proofs.YtcckamdpncbkoaaDoor.B
set_option linter.unusedVariables false
set_option linter.unusedSimpArgs false
/-- The bytes of a list of strings. -/
def bytesS (l : List ByteArray) : Nat := (l.map (·.size)).sum
def bulkS (l : List ByteArray) : Nat := l.length + bytesS l
theorem bytesS_cons (a : ByteArray) (l : List ByteArray) : bytesS (a :: l) = a.size + bytesS l := by simp [bytesS]
/-- What is left, or -1. -/
def lftOf (left : Int) (n : Nat) : Int := if (n : Int) ≤ left then left - n else -1
theorem lftOf_nn {left : Int} {n : Nat} : 0 ≤ lftOf left n ↔ (n : Int) ≤ left := by
  unfold lftOf
  split <;> omega
theorem lftOf_le {left : Int} {n : Nat} (h : 0 ≤ left) : lftOf left n ≤ left := by
  unfold lftOf
  split <;> omega
theorem lftOf_ge {left : Int} {n : Nat} : -1 ≤ lftOf left n := by
  unfold lftOf
  split <;> omega
theorem szS_loop (l : List ByteArray) (hb : ∀ s ∈ l, s.size ≤ 9223372036854775807) (hl : l.length ≤ 9223372036854775807) (d : Nat) : ∀ (left : Int) (i : Nat), 0 ≤ left → left ≤ 4611686018427387904 → l.length - i = d → i ≤ l.length →
    Ev (fun k => laws_szStringS.l0 k l left i) (lftOf left (bytesS (l.drop i))) := by
  induction d with
  | zero =>
    intro left i h0 h1 hd hi
    refine Ev.step (f := fun _ => some left) (fun k => ?_) (ev_eq (Ev.now _) ?_)
    · simp only [laws_szStringS.l0]; rw [if_neg (by omega)]
    · rw [List.drop_of_length_le (by omega)]; simp [lftOf, bytesS]; omega
  | succ d ih =>
    intro left i h0 h1 hd hi
    have hlt : i < l.length := by omega
    have hs := hb l[i] (List.getElem_mem hlt)
    have hr : rdOf ByteArray.empty l (i : Int) = l[i] := by simp [rdOf, hlt]
    have hw : wrap64 (left - (l[i].size : Int)) = left - (l[i].size : Int) := w64 (by omega) (by omega)
    rw [List.drop_eq_getElem_cons hlt, bytesS_cons]
    by_cases hn : left - (l[i].size : Int) < 0
    · refine Ev.step (f := fun _ => some (-1)) (fun k => ?_) (ev_eq (Ev.now _) ?_)
      · simp only [laws_szStringS.l0]; rw [if_pos (by omega), if_pos (by omega), hr, hw, if_pos hn]
      · unfold lftOf; rw [if_neg (by omega)]
    · refine Ev.step (f := fun k => laws_szStringS.l0 k l (left - (l[i].size : Int)) ((i + 1 : Nat) : Int)) (fun k => ?_) (ev_eq (ih (left - (l[i].size : Int)) (i + 1) (by omega) (by omega) (by omega) (by omega)) ?_)
      · simp only [laws_szStringS.l0]; rw [if_pos (by omega), if_pos (by omega), hr, hw, if_neg hn, w64 (x := (i : Int) + 1) (by omega) (by omega)]; rfl
      · unfold lftOf; split <;> split <;> omega
theorem szS_ev (l : List ByteArray) (hb : ∀ s ∈ l, s.size ≤ 9223372036854775807) (hl : l.length ≤ 9223372036854775807) (left : Int) (h0 : 0 ≤ left) (h1 : left ≤ 4611686018427387904) :
    Ev (fun k => laws_szStringS.f k l left) (lftOf left (bulkS l)) := by
  unfold laws_szStringS.f
  have hw : wrap64 (left - (l.length : Int)) = left - (l.length : Int) := w64 (by omega) (by omega)
  rw [hw]
  by_cases hn : left - (l.length : Int) < 0
  · refine ev_pos hn (ev_eq (Ev.now _) ?_)
    unfold lftOf bulkS; rw [if_neg (by omega)]
  · refine ev_neg hn (ev_eq (szS_loop l hb hl l.length (left - l.length) 0 (by omega) (by omega) rfl (by omega)) ?_)
    rw [List.drop_zero]
    unfold lftOf bulkS; split <;> split <;> omega
theorem toS_loop (l : List ByteArray) (hl : l.length ≤ 17592186044416) (d : Nat) : ∀ (i : Nat), l.length - i = d → i ≤ l.length →
    Ev (fun k => laws_toStringS.l0 k l (l.take i ++ List.replicate (l.length - i) (⟨#[]⟩ : ByteArray)) i) l := by
  induction d with
  | zero =>
    intro i hd hi
    refine Ev.step (f := fun _ => some l) (fun k => ?_) (Ev.now _)
    simp only [laws_toStringS.l0]; rw [if_neg (by omega), hd, List.take_of_length_le (by omega)]; simp
  | succ d ih =>
    intro i hd hi
    have hlt : i < l.length := by omega
    refine Ev.step (f := fun k => laws_toStringS.l0 k l (l.take (i + 1) ++ List.replicate (l.length - (i + 1)) (⟨#[]⟩ : ByteArray)) ((i + 1 : Nat) : Int)) (fun k => ?_) (ih (i + 1) (by omega) (by omega))
    have hr : rdOf ByteArray.empty l (i : Int) = l[i] := by simp [rdOf, hlt]
    have hlen : (l.take i).length = i := by simp; omega
    have e : (l.take i ++ List.replicate (l.length - i) (⟨#[]⟩ : ByteArray)).set i l[i] = l.take (i + 1) ++ List.replicate (l.length - (i + 1)) (⟨#[]⟩ : ByteArray) := by
      rw [List.set_append_right _ _ (by omega), hlen, Nat.sub_self, show l.length - i = (l.length - (i + 1)) + 1 by omega, List.replicate_succ, List.set_cons_zero, List.take_succ_eq_append_getElem hlt, List.append_assoc]
      rfl
    simp only [laws_toStringS.l0]
    rw [if_pos (by omega), if_pos (by omega), if_pos (by simp; omega), hr, w64 (x := (i : Int) + 1) (by omega) (by omega), Int.toNat_natCast, e]
    rfl
theorem toS_ev (l : List ByteArray) (hl : l.length ≤ 17592186044416) : Ev (fun k => laws_toStringS.f k l) l := by
  unfold laws_toStringS.f
  refine ev_pos (by omega) (ev_pos (by omega) ?_)
  have := toS_loop l hl l.length 0 rfl (by omega)
  simpa using this
theorem bytesS_len {l : List ByteArray} {n : Nat} (h : bulkS l ≤ n) : l.length ≤ n := by unfold bulkS at h; omega
theorem bytesS_mem {l : List ByteArray} {s : ByteArray} (h : s ∈ l) : s.size ≤ bytesS l := by
  induction l with
  | nil => simp at h
  | cons a l ih =>
    rw [bytesS_cons]
    rcases List.mem_cons.1 h with rfl | h
    · omega
    · have := ih h; omega
end Go.Proofs.YtcckamdpncbkoaaDoor.G

namespace Go.Proofs.YtcckamdpncbkoaaDoor.G
open Go.RowKit Go.Proofs.YtcckamdpncbkoaaDoorW.PrintWords Go.Proofs.YtcckamdpncbkoaaDoorW.PrintLast Go.Proofs.YtcckamdpncbkoaaDoorW.PrintMore
open Go.Proofs.YtcckamdpncbkoaaDoor.Gl Go.Proofs.YtcckamdpncbkoaaDoor.Ext
attribute [local go_sem] max2_int min2_int max_two min_two max_three min_three max_four min_four   -- for this text's walks alone
set_option linter.unusedVariables false
set_option linter.unusedSimpArgs false

/-! ### spec_IsValidName: function 13 -/
def spec_IsValidName.f (k : Nat) (l0_0 : List ByteArray) (a0_1 : ByteArray) (a0_2 : ByteArray) (a0_3 : ByteArray) : Option (Bool) := (spec_l2Good.f k l0_0 a0_1 a0_2 a0_3).bind fun t139 => (some t139)
theorem spec_IsValidName.mono : ∀ a0 a1 a2 a3 k, LeO (spec_IsValidName.f k a0 a1 a2 a3) (spec_IsValidName.f (k + 1) a0 a1 a2 a3) := by
  intro a0 a1 a2 a3 k
  unfold spec_IsValidName.f
  repeat' first
      | (with_reducible exact spec_l2Good.mono _ _ _ _ _)
      | (with_reducible exact LeO.refl _)
      | (with_reducible exact LeO.none _)
      | (with_reducible refine LeO.ite ?_ ?_)
      | (with_reducible refine LeO.bind ?_ (fun _ => ?_))
      | exact spec_l2Good.mono _ _ _ _ _
      | exact LeO.none _
      | refine LeO.ite ?_ ?_
      | refine LeO.bind ?_ (fun _ => ?_)
set_option maxHeartbeats 8000000 in
set_option maxRecDepth 100000 in
theorem spec_IsValidName.calls (k : Nat) (A0_0 : Option Addr) (c0_0 : Nat) (l0_0 : List ByteArray) (a0_1 : ByteArray) (a0_2 : ByteArray) (a0_3 : ByteArray) (r : Bool) (w : World) (hr0_0 : Kd.C Kd.string w A0_0 l0_0.length l0_0) (hc0_0 : l0_0.length ≤ c0_0) (h : spec_IsValidName.f k l0_0 a0_1 a0_2 a0_3 = some r) :
    Calls Tryd.prog 13 #[.agg #[.slice A0_0 l0_0.length c0_0, .string a0_1, .string a0_2, .string a0_3]] w fun e w' => e = .returned (.bool r) ∧ Below w.heap.size w w' := by
  have hu27 := Tryd.underlying27
  have HR0_0 := Aside0.mk hr0_0
  have HC0_0 := Aside0.mk hc0_0
  clear hr0_0 hc0_0
  have HB := Aside0.mk (Below.refl w.heap.size w)
  have H : ((spec_l2Good.f k l0_0 a0_1 a0_2 a0_3).bind fun t139 => (some t139)) = some r := h
  clear h
  replace H := Option.bind_eq_some_iff.mp H
  obtain ⟨t139, A20, H⟩ := H
  replace H : (some t139) = some r := H
  have A2 := Aside0.mk A20
  clear A20
  obtain rfl := Option.some.inj H
  go_enter Tryd.func13, Tryd.ntmps13
  go_wp2_with (first | ((with_reducible refine gate_dst (N := 1) rfl ?_); refine box_event ?hg (N := 1) ?hd (cs := #[.slice A0_0 l0_0.length c0_0, .string a0_1, .string a0_2, .string a0_3]) (t := 27) ?hr ?_; (case hd => rfl); (case hg => rfl); (case hr => first | (go_simp; done) | (go_simp; rfl)); intro gb138 hg w3 hbox hb; have n0_ := Aside0.mk (below_step (by repeat (first | (with_reducible first | exact HB.out | apply below_alloc | apply pw_below_drewN | apply below_drew1) | exact HB.out)) hb); have n1_ := Aside0.mk (hbox); have n2_ := Aside0.mk ((by rw [hg]; exact (below_size (by repeat (first | (with_reducible first | exact HB.out | apply below_alloc | apply pw_below_drewN | apply below_drew1) | exact HB.out))) : w.heap.size ≤ gb138)); have n3_ := Aside0.mk ((by rw [hg]; exact (below_size (by repeat (first | (with_reducible first | exact HB.out | apply below_alloc | apply pw_below_drewN | apply below_drew1) | exact HB.out))) : w.heap.size ≤ gb138)); clear HB; have HB := n0_; have BK138 := n1_; have GW138 := n2_; have GE138 := n3_; clear n0_ n1_ n2_ n3_; clear hb hbox hg; have hcz4_0 : w3.cell? ⟨gb138, 0, none⟩ = some (.slice A0_0 l0_0.length c0_0) := (blk_cell BK138.out 0).trans rfl; have hcz4_1 : w3.cell? ⟨gb138, 1, none⟩ = some (.string a0_1) := (blk_cell BK138.out 1).trans rfl; have hcz4_2 : w3.cell? ⟨gb138, 2, none⟩ = some (.string a0_2) := (blk_cell BK138.out 2).trans rfl; have hcz4_3 : w3.cell? ⟨gb138, 3, none⟩ = some (.string a0_3) := (blk_cell BK138.out 3).trans rfl; have hfz4_0 := blk_frozen BK138.out 0; have hfz4_1 := blk_frozen BK138.out 1; have hfz4_2 := blk_frozen BK138.out 2; have hfz4_3 := blk_frozen BK138.out 3) | ((with_reducible refine gate_callee (f := 39) rfl ?_); refine goesL_ (some 4) rfl rfl Tryd.func39 (by kernel_rfl) rfl #[.agg #[.slice A0_0 l0_0.length c0_0, .string a0_1, .string a0_2, .string a0_3]] rfl (by (try simp only [List.map_toArray, List.map_cons, List.map_nil]); first | done | rfl | (simp only [List.length_drop, List.length_take]; rfl)) ?_; (with_reducible refine (spec_l2Good.calls k _ _ l0_0 a0_1 a0_2 a0_3 t139 _ ?side1 ?side2 A2.out).mono ?_); (case side1 => repeat (first | exact (Kd.C_below HR0_0.out HB.out) | (with_reducible refine Kd.C_alloc ?_ _) | (with_reducible refine Kd.C_drewN ?_ _) | (with_reducible refine Kd.C_drew ?_))); (case side2 => exact HC0_0.out); rintro e w5 ⟨rfl, hb⟩; refine ⟨_, rfl, ?_⟩; have n0_ := Aside0.mk (blk_below (g := gb138) (o := .cells #[.slice A0_0 l0_0.length c0_0, .string a0_1, .string a0_2, .string a0_3] 27 (0, 0)) (by (with_reducible repeat (first | refine blk_drewN ?_ _ | refine blk_drew ?_ | refine blk_alloc ?_ _)); exact BK138.out) hb); have n1_ := Aside0.mk (below_step (by repeat (first | (with_reducible first | exact HB.out | apply below_alloc | apply pw_below_drewN | apply below_drew1 | refine below_set ?_ GE138.out) | exact HB.out)) hb); clear BK138; clear HB; have BK138 := n0_; have HB := n1_; clear n0_ n1_; (try clear hb); (try clear hb2); (try clear hk); (try clear hi)))
  go_ret
  exact ⟨by first | rfl | (simp [errW_none, errW_some] <;> rfl) | (simp [*, errW_none, errW_some] <;> rfl), by repeat (first | (with_reducible first | exact HB.out | apply below_alloc | apply pw_below_drewN | apply below_drew1 | refine below_set ?_ GE138.out) | exact HB.out)⟩

end Go.Proofs.YtcckamdpncbkoaaDoor.G

namespace Go.Proofs.YtcckamdpncbkoaaDoor.G
open Go.RowKit Go.Proofs.YtcckamdpncbkoaaDoorW.PrintWords Go.Proofs.YtcckamdpncbkoaaDoorW.PrintLast Go.Proofs.YtcckamdpncbkoaaDoor.B
set_option linter.unusedVariables false
set_option linter.unusedSimpArgs false
def sufD (S : ByteArray) : Bool := decide (S.size = 0) || wordD S
def restD (P F S : ByteArray) : Bool := partD P && (greatD F && sufD S)
def goodN (G : List ByteArray) (P F S : ByteArray) : Bool := G.all greatD && (decide (G.length ≤ 3) && restD P F S)
theorem spec_tail (P F S : ByteArray) (hP : P.size ≤ 4294967280) : Ev (fun k => (spec_l2Particle.f k P).bind fun t134 => (if t134 = true then ((spec_l2Word.f k F).bind fun t135 => (if t135 = true then (if 0 < (F.size : Int) then ((spec_l2Upper.f (bt F 0)).bind fun t136 => (if t136 = true then (if S.toList = ([] : List UInt8) then (some true) else ((spec_l2Word.f k S).bind fun t137 => (some t137))) else (some false))) else (none)) else (some false))) else (some false))) (restD P F S) := by
  unfold restD
  refine Ev.bind (spec_part P hP) ?_
  cases partD P with
  | false => exact ev_neg (by simp) (Ev.now _)
  | true =>
    refine ev_pos rfl (Ev.bind (spec_word F) ?_)
    unfold greatD
    cases h : wordD F with
    | false => exact ev_neg (by simp) (Ev.now _)
    | true =>
      have := word_in h
      refine ev_pos rfl (ev_pos (by omega) (ev_bind0 (spec_up _) ?_))
      cases upD (bt F 0) with
      | false => exact ev_neg (by simp) (Ev.now _)
      | true =>
        refine ev_pos rfl ?_
        unfold sufD
        by_cases h : S.size = 0
        · exact ev_pos ((nil_iff S).2 h) (ev_eq (Ev.now _) (by simp [h]))
        · exact ev_neg (fun e => h ((nil_iff S).1 e)) (Ev.bind (spec_word S) (ev_eq (Ev.now _) (by simp [h])))
theorem spec_good_loop (G : List ByteArray) (P F S : ByteArray) (hG : G.length ≤ 4611686018427387904) (hP : P.size ≤ 4294967280) (d : Nat) : ∀ i : Nat, i ≤ G.length → G.length - i = d →
    Ev (fun k => spec_l2Good.l0 k (i : Int) G P F S) ((G.drop i).all greatD && (decide (G.length ≤ 3) && restD P F S)) := by
  induction d with
  | zero =>
    intro i h1 hd
    refine Ev.step (f := fun k => if (G.length : Int) ≤ 3 then ((spec_l2Particle.f k P).bind fun t134 => (if t134 = true then ((spec_l2Word.f k F).bind fun t135 => (if t135 = true then (if 0 < (F.size : Int) then ((spec_l2Upper.f (bt F 0)).bind fun t136 => (if t136 = true then (if S.toList = ([] : List UInt8) then (some true) else ((spec_l2Word.f k S).bind fun t137 => (some t137))) else (some false))) else (none)) else (some false))) else (some false))) else some false) (fun k => ?_) ?_
    · simp only [spec_l2Good.l0]; rw [if_neg (by omega)]
    · rw [List.drop_of_length_le (by omega)]
      by_cases h : G.length ≤ 3
      · exact ev_pos (by omega) (ev_eq (spec_tail P F S hP) (by simp [h]))
      · exact ev_neg (by omega) (ev_eq (Ev.now _) (by simp [h]))
  | succ d ih =>
    intro i h1 hd
    have hi : i < G.length := by omega
    have hw : wrap64 ((i : Int) + 1) = ((i + 1 : Nat) : Int) := by rw [w64 (by omega) (by omega)]; rfl
    rw [List.drop_eq_getElem_cons hi, List.all_cons, Bool.and_assoc]
    refine Ev.step (f := fun k => (spec_l2Word.f k G[i]).bind fun t131 => (if t131 = true then (if 0 < ((G[i]).size : Int) then ((spec_l2Upper.f (bt G[i] 0)).bind fun t133 => (if t133 = true then (spec_l2Good.l0 k ((i + 1 : Nat) : Int) G P F S) else (some false))) else (none)) else (some false))) (fun k => ?_) ?_
    · simp only [spec_l2Good.l0, rd_get G i hi]
      rw [if_pos (by omega), if_pos (by omega), hw]
    · refine Ev.bind (spec_word _) ?_
      rw [show greatD G[i] = (wordD G[i] && upD (bt G[i] 0)) from rfl]
      cases h : wordD G[i] with
      | false => exact ev_neg (by simp) (ev_eq (Ev.now _) (by simp))
      | true =>
        have := word_in h
        refine ev_pos rfl (ev_pos (by omega) (ev_bind0 (spec_up _) ?_))
        cases upD (bt G[i] 0) with
        | false => exact ev_neg (by simp) (ev_eq (Ev.now _) (by simp))
        | true => exact ev_pos rfl (ev_eq (ih (i + 1) (by omega) (by omega)) (by simp))
theorem spec_name (G : List ByteArray) (P F S : ByteArray) (hG : G.length ≤ 4611686018427387904) (hP : P.size ≤ 4294967280) : Ev (fun k => spec_l2Good.f k G P F S) (goodN G P F S) := by
  have := spec_good_loop G P F S hG hP _ 0 (by omega) rfl
  unfold spec_l2Good.f goodN
  rw [List.drop_zero] at this
  exact this
theorem spec_valid (G : List ByteArray) (P F S : ByteArray) (hG : G.length ≤ 4611686018427387904) (hP : P.size ≤ 4294967280) : Ev (fun k => spec_IsValidName.f k G P F S) (goodN G P F S) := by
  unfold spec_IsValidName.f
  exact Ev.bind (spec_name G P F S hG hP) (Ev.now _)
theorem idx_loop (G : List ByteArray) (hG : G.length ≤ 4611686018427387904) (d : Nat) : ∀ i : Nat, i ≤ G.length → G.length - i = d →
    ∃ v, Ev (fun k => slices_IndexFunc_string_string_at_42.l0 k G (G.length : Int) (i : Int)) v ∧ decide (v ≥ 0) = !((G.drop i).all greatD) := by
  induction d with
  | zero =>
    intro i h1 hd
    refine ⟨-1, Ev.step (f := fun _ => some (-1)) (fun k => ?_) (Ev.now _), ?_⟩
    · simp only [slices_IndexFunc_string_string_at_42.l0]; rw [if_neg (by omega)]
    · rw [List.drop_of_length_le (by omega)]; simp
  | succ d ih =>
    intro i h1 hd
    have hi : i < G.length := by omega
    have hw : wrap64 ((i : Int) + 1) = ((i + 1 : Nat) : Int) := by rw [w64 (by omega) (by omega)]; rfl
    rw [List.drop_eq_getElem_cons hi, List.all_cons]
    have hst : ∀ v, Ev (fun k => (impl_IsValidName_1.f k G[i]).bind fun t => if t = true then some (i : Int) else slices_IndexFunc_string_string_at_42.l0 k G (G.length : Int) ((i + 1 : Nat) : Int)) v → Ev (fun k => slices_IndexFunc_string_string_at_42.l0 k G (G.length : Int) (i : Int)) v := by
      intro v hv
      refine Ev.step (fun k => ?_) hv
      simp only [slices_IndexFunc_string_string_at_42.l0, rd_get G i hi]
      rw [if_pos (by omega), if_pos (by omega), if_pos (by omega), hw]
    have hf : Ev (fun k => impl_IsValidName_1.f k G[i]) (!greatD G[i]) := by
      unfold impl_IsValidName_1.f
      exact Ev.bind (impl_great _) (Ev.now _)
    cases h : greatD G[i] with
    | true =>
      obtain ⟨v, hv, e⟩ := ih (i + 1) (by omega) (by omega)
      refine ⟨v, hst v (Ev.bind hf (ev_neg (by simp [h]) hv)), ?_⟩
      rw [e]; simp
    | false =>
      refine ⟨(i : Int), hst _ (Ev.bind hf (ev_pos (by simp [h]) (Ev.now _))), ?_⟩
      simp
theorem contains_ev (G : List ByteArray) (hG : G.length ≤ 4611686018427387904) : Ev (fun k => slices_ContainsFunc_string_string_at_42.f k G) (!(G.all greatD)) := by
  obtain ⟨v, hv, e⟩ := idx_loop G hG _ 0 (by omega) rfl
  unfold slices_ContainsFunc_string_string_at_42.f slices_IndexFunc_string_string_at_42.f
  rw [List.drop_zero] at e
  exact Ev.bind hv (ev_eq (Ev.now _) e)
theorem impl_valid (G : List ByteArray) (P F S : ByteArray) (hG : G.length ≤ 4611686018427387904) (hP : P.size ≤ 4294967280) : Ev (fun k => impl_IsValidName.f k G P F S) (goodN G P F S) := by
  have hj1 : Ev (fun k => impl_IsValidName.j0 k true G P F S) false := Ev.step (f := fun _ => some false) (fun k => by simp [impl_IsValidName.j0]) (Ev.now _)
  have hj0 : Ev (fun k => impl_IsValidName.j0 k false G P F S) (restD P F S) := by
    refine Ev.step (f := fun k => (impl_isParticle.f k P).bind fun t172 => (if t172 = true then ((impl_isGreatWord.f k F).bind fun t173 => (if t173 = true then (if S.toList = ([] : List UInt8) then (some true) else ((impl_isNameWord.f k S).bind fun t174 => (some t174))) else (some false))) else (some false))) (fun k => by simp [impl_IsValidName.j0]) ?_
    unfold restD
    refine Ev.bind (impl_part P hP) ?_
    cases partD P with
    | false => exact ev_neg (by simp) (Ev.now _)
    | true =>
      refine ev_pos rfl (Ev.bind (impl_great F) ?_)
      cases greatD F with
      | false => exact ev_neg (by simp) (Ev.now _)
      | true =>
        refine ev_pos rfl ?_
        unfold sufD
        by_cases h : S.size = 0
        · exact ev_pos ((nil_iff S).2 h) (ev_eq (Ev.now _) (by simp [h]))
        · exact ev_neg (fun e => h ((nil_iff S).1 e)) (Ev.bind (impl_word S) (ev_eq (Ev.now _) (by simp [h])))
  unfold impl_IsValidName.f goodN
  by_cases h : G.length ≤ 3
  · refine ev_neg (by omega) (Ev.bind (contains_ev G hG) ?_)
    cases G.all greatD with
    | true => exact ev_eq hj0 (by simp [h])
    | false => exact ev_eq hj1 (by simp)
  · exact ev_pos (by omega) (ev_eq hj1 (by simp [h]))
/-- What a name weighs. -/
def bulkN (G : List ByteArray) (P F S : ByteArray) : Nat := bulkS G + P.size + F.size + S.size
theorem szN_ev (G : List ByteArray) (P F S : ByteArray) (hb : ∀ s ∈ G, s.size ≤ 9223372036854775807) (hl : G.length ≤ 9223372036854775807) (hP : P.size ≤ 9223372036854775807) (hF : F.size ≤ 9223372036854775807) (hS : S.size ≤ 9223372036854775807) (left : Int) (h0 : 0 ≤ left) (h1 : left ≤ 4611686018427387904) :
    Ev (fun k => laws_szName.f k G P F S left) (lftOf left (bulkN G P F S)) := by
  unfold laws_szName.f
  refine Ev.bind (szS_ev G hb hl left h0 h1) ?_
  unfold bulkN
  by_cases c : (bulkS G : Int) ≤ left
  · have e : lftOf left (bulkS G) = left - bulkS G := by unfold lftOf; rw [if_pos c]
    rw [e]
    have w1 : wrap64 (left - (bulkS G : Int) - (P.size : Int)) = left - (bulkS G : Int) - (P.size : Int) := w64 (by omega) (by omega)
    rw [w1]
    refine ev_neg (by omega) ?_
    by_cases c1 : left - (bulkS G : Int) - (P.size : Int) < 0
    · exact ev_pos c1 (ev_eq (Ev.now _) (by unfold lftOf; rw [if_neg (by omega)]))
    refine ev_neg c1 ?_
    have w2 : wrap64 (left - (bulkS G : Int) - (P.size : Int) - (F.size : Int)) = left - (bulkS G : Int) - (P.size : Int) - (F.size : Int) := w64 (by omega) (by omega)
    rw [w2]
    by_cases c2 : left - (bulkS G : Int) - (P.size : Int) - (F.size : Int) < 0
    · exact ev_pos c2 (ev_eq (Ev.now _) (by unfold lftOf; rw [if_neg (by omega)]))
    refine ev_neg c2 ?_
    have w3 : wrap64 (left - (bulkS G : Int) - (P.size : Int) - (F.size : Int) - (S.size : Int)) = left - (bulkS G : Int) - (P.size : Int) - (F.size : Int) - (S.size : Int) := w64 (by omega) (by omega)
    rw [w3]
    by_cases c3 : left - (bulkS G : Int) - (P.size : Int) - (F.size : Int) - (S.size : Int) < 0
    · exact ev_pos c3 (ev_eq (Ev.now _) (by unfold lftOf; rw [if_neg (by omega)]))
    · exact ev_neg c3 (ev_eq (Ev.now _) (by unfold lftOf; rw [if_pos (by omega)]; omega))
  · have e : lftOf left (bulkS G) = -1 := by unfold lftOf; rw [if_neg c]
    rw [e]
    exact ev_pos (by omega) (ev_eq (Ev.now _) (by unfold lftOf; rw [if_neg (by omega)]))
theorem toN_ev (G : List ByteArray) (P F S : ByteArray) (hl : G.length ≤ 17592186044416) : Ev (fun k => laws_toName.f k G P F S) (G, P, F, S) := by
  unfold laws_toName.f
  exact Ev.bind (toS_ev G hl) (Ev.now _)
theorem eqS_same_loop (l : List ByteArray) (hl : l.length ≤ 4611686018427387904) (d : Nat) : ∀ i : Nat, i ≤ l.length → l.length - i = d → Ev (fun k => laws_eqStringS.l0 k l l (i : Int)) true := by
  induction d with
  | zero =>
    intro i h1 hd
    refine Ev.step (f := fun _ => some true) (fun k => ?_) (Ev.now _)
    simp only [laws_eqStringS.l0]; rw [if_neg (by omega)]
  | succ d ih =>
    intro i h1 hd
    have hw : wrap64 ((i : Int) + 1) = ((i + 1 : Nat) : Int) := by rw [w64 (by omega) (by omega)]; rfl
    refine Ev.step (f := fun k => laws_eqStringS.l0 k l l ((i + 1 : Nat) : Int)) (fun k => ?_) (ih (i + 1) (by omega) (by omega))
    simp only [laws_eqStringS.l0]
    rw [if_pos (by omega), if_pos (by omega), if_pos (by omega), if_pos trivial, hw]
theorem eqS_same (l : List ByteArray) (hl : l.length ≤ 4611686018427387904) : Ev (fun k => laws_eqStringS.f k l l) true := by
  unfold laws_eqStringS.f
  exact ev_pos rfl (eqS_same_loop l hl _ 0 (by omega) rfl)
theorem eqN_same (G : List ByteArray) (P F S : ByteArray) (hl : G.length ≤ 4611686018427387904) : Ev (fun k => laws_eqName.f k G P F S G P F S) true := by
  unfold laws_eqName.f
  exact Ev.bind (eqS_same G hl) (ev_pos rfl (ev_pos rfl (ev_pos rfl (ev_pos rfl (Ev.now _)))))


end Go.Proofs.YtcckamdpncbkoaaDoor.G

namespace Go.Proofs.YtcckamdpncbkoaaDoor.G
open Go.RowKit Go.Proofs.YtcckamdpncbkoaaDoorW.PrintWords Go.Proofs.YtcckamdpncbkoaaDoorW.PrintLast Go.Proofs.YtcckamdpncbkoaaDoorW.PrintMore
open Go.Proofs.YtcckamdpncbkoaaDoor.Gl Go.Proofs.YtcckamdpncbkoaaDoor.Ext
attribute [local go_sem] max2_int min2_int max_two min_two max_three min_three max_four min_four   -- for this text's walks alone
set_option linter.unusedVariables false
set_option linter.unusedSimpArgs false

/-! ### spec_l2Fits: function 76 -/
def spec_l2Fits.f (a0 : ByteArray) (a1 : ByteArray) : Option (Bool) := if a0.toList = a1.toList then (some true) else (if (a0.size : Int) = 1 then (if 0 < (a0.size : Int) then (if 0 < (a1.size : Int) then (if (bt a0 0) = (bt a1 0) then (some true) else (if (a1.size : Int) = 1 then (some ((bt a0 0) == (bt a1 0))) else (some false))) else (none)) else (none)) else (if (a1.size : Int) = 1 then (if 0 < (a0.size : Int) then (if 0 < (a1.size : Int) then (some ((bt a0 0) == (bt a1 0))) else (none)) else (none)) else (some false)))
set_option maxHeartbeats 8000000 in
set_option maxRecDepth 100000 in
theorem spec_l2Fits.calls (a0 : ByteArray) (a1 : ByteArray) (r : Bool) (w : World) (h : spec_l2Fits.f a0 a1 = some r) :
    Calls Tryd.prog 76 #[.string a0, .string a1] w fun e w' => e = .returned (.bool r) ∧ Drawn0 w w' := by
  have H : (if a0.toList = a1.toList then (some true) else (if (a0.size : Int) = 1 then (if 0 < (a0.size : Int) then (if 0 < (a1.size : Int) then (if (bt a0 0) = (bt a1 0) then (some true) else (if (a1.size : Int) = 1 then (some ((bt a0 0) == (bt a1 0))) else (some false))) else (none)) else (none)) else (if (a1.size : Int) = 1 then (if 0 < (a0.size : Int) then (if 0 < (a1.size : Int) then (some ((bt a0 0) == (bt a1 0))) else (none)) else (none)) else (some false)))) = some r := h
  clear h
  by_cases c3 : a0.toList = a1.toList
  · rw [if_pos c3] at H
    have c3b0 : (a0.toList == a1.toList) = true := beq_iff_eq.mpr c3
    have c3b1 : (a0.toList != a1.toList) = false := bne_eq_false_iff_eq.mpr c3
    clear c3
    obtain rfl := Option.some.inj H
    go_enter Tryd.func76, Tryd.ntmps76
    go_wp2
    repeat (go_quiet (fail); try go_wp2)
    go_ret
    exact ⟨by first | rfl | (simp; done) | (simp [*]; done), by repeat (first | exact Drawn0.refl _ | apply Drawn0.step)⟩
  · rw [if_neg c3] at H
    have c3b0 : (a0.toList == a1.toList) = false := beq_eq_false_iff_ne.mpr c3
    have c3b1 : (a0.toList != a1.toList) = true := bne_iff_ne.mpr c3
    by_cases c4 : (a0.size : Int) = 1
    · rw [if_pos c4] at H
      have c4b0 : ((a0.size : Int) == 1) = true := beq_iff_eq.mpr c4
      have c4b1 : ((a0.size : Int) != 1) = false := bne_eq_false_iff_eq.mpr c4
      clear c4
      by_cases c5 : 0 < (a0.size : Int)
      · rw [if_pos c5] at H
        have c5b0 : decide (0 < (a0.size : Int)) = true := decide_eq_true c5
        have c5b1 : decide (0 < a0.size) = true := decide_eq_true (by omega)
        clear c5
        by_cases c7 : 0 < (a1.size : Int)
        · rw [if_pos c7] at H
          have c7b0 : decide (0 < (a1.size : Int)) = true := decide_eq_true c7
          have c7b1 : decide (0 < a1.size) = true := decide_eq_true (by omega)
          clear c7
          by_cases c9 : (bt a0 0) = (bt a1 0)
          · rw [if_pos c9] at H
            have c9b0 : ((bt a0 0) == (bt a1 0)) = true := beq_iff_eq.mpr c9
            have c9b1 : ((bt a0 0) != (bt a1 0)) = false := bne_eq_false_iff_eq.mpr c9
            clear c9
            obtain rfl := Option.some.inj H
            have p6 : 0 ≤ (0 : Int) := (by omega)
            have q6 : 0 < a0.size := (by have : (0 : Int) < (a0.size : Int) := of_decide_eq_true (by first | (with_reducible assumption) | assumption); omega)
            have hx6 : ∀ h : 0 < a0.size, ((a0[0]'h).toNat : Int) = bt a0 0 := bt_at a0 0
            clear p6
            have qi6 : (0 < (a0.size : Int)) = True := eq_true (of_decide_eq_true (by first | (with_reducible assumption) | assumption))
            replace q6 := eq_true q6
            have p8 : 0 ≤ (0 : Int) := (by omega)
            have q8 : 0 < a1.size := (by have : (0 : Int) < (a1.size : Int) := of_decide_eq_true (by first | (with_reducible assumption) | assumption); omega)
            have hx8 : ∀ h : 0 < a1.size, ((a1[0]'h).toNat : Int) = bt a1 0 := bt_at a1 0
            clear p8
            have qi8 : (0 < (a1.size : Int)) = True := eq_true (of_decide_eq_true (by first | (with_reducible assumption) | assumption))
            replace q8 := eq_true q8
            go_enter Tryd.func76, Tryd.ntmps76
            go_wp2
            repeat (go_quiet (fail); try go_wp2)
            go_ret
            exact ⟨by first | rfl | (simp; done) | (simp [*]; done), by repeat (first | exact Drawn0.refl _ | apply Drawn0.step)⟩
          · rw [if_neg c9] at H
            have c9b0 : ((bt a0 0) == (bt a1 0)) = false := beq_eq_false_iff_ne.mpr c9
            have c9b1 : ((bt a0 0) != (bt a1 0)) = true := bne_iff_ne.mpr c9
            by_cases c10 : (a1.size : Int) = 1
            · rw [if_pos c10] at H
              have c10b0 : ((a1.size : Int) == 1) = true := beq_iff_eq.mpr c10
              have c10b1 : ((a1.size : Int) != 1) = false := bne_eq_false_iff_eq.mpr c10
              clear c10
              obtain rfl := Option.some.inj H
              have p6 : 0 ≤ (0 : Int) := (by omega)
              have q6 : 0 < a0.size := (by have : (0 : Int) < (a0.size : Int) := of_decide_eq_true (by first | (with_reducible assumption) | assumption); omega)
              have hx6 : ∀ h : 0 < a0.size, ((a0[0]'h).toNat : Int) = bt a0 0 := bt_at a0 0
              clear p6
              have qi6 : (0 < (a0.size : Int)) = True := eq_true (of_decide_eq_true (by first | (with_reducible assumption) | assumption))
              replace q6 := eq_true q6
              have p8 : 0 ≤ (0 : Int) := (by omega)
              have q8 : 0 < a1.size := (by have : (0 : Int) < (a1.size : Int) := of_decide_eq_true (by first | (with_reducible assumption) | assumption); omega)
              have hx8 : ∀ h : 0 < a1.size, ((a1[0]'h).toNat : Int) = bt a1 0 := bt_at a1 0
              clear p8
              have qi8 : (0 < (a1.size : Int)) = True := eq_true (of_decide_eq_true (by first | (with_reducible assumption) | assumption))
              replace q8 := eq_true q8
              have p11 : 0 ≤ (0 : Int) := (by omega)
              have q11 : 0 < a0.size := (by have : (0 : Int) < (a0.size : Int) := of_decide_eq_true (by first | (with_reducible assumption) | assumption); omega)
              have hx11 : ∀ h : 0 < a0.size, ((a0[0]'h).toNat : Int) = bt a0 0 := bt_at a0 0
              clear p11
              have qi11 : (0 < (a0.size : Int)) = True := eq_true (of_decide_eq_true (by first | (with_reducible assumption) | assumption))
              replace q11 := eq_true q11
              have p12 : 0 ≤ (0 : Int) := (by omega)
              have q12 : 0 < a1.size := (by have : (0 : Int) < (a1.size : Int) := of_decide_eq_true (by first | (with_reducible assumption) | assumption); omega)
              have hx12 : ∀ h : 0 < a1.size, ((a1[0]'h).toNat : Int) = bt a1 0 := bt_at a1 0
              clear p12
              have qi12 : (0 < (a1.size : Int)) = True := eq_true (of_decide_eq_true (by first | (with_reducible assumption) | assumption))
              replace q12 := eq_true q12
              go_enter Tryd.func76, Tryd.ntmps76
              go_wp2
              repeat (go_quiet (fail); try go_wp2)
              go_ret
              exact ⟨by first | rfl | (simp; done) | (simp [*]; done), by repeat (first | exact Drawn0.refl _ | apply Drawn0.step)⟩
            · rw [if_neg c10] at H
              have c10b0 : ((a1.size : Int) == 1) = false := beq_eq_false_iff_ne.mpr c10
              have c10b1 : ((a1.size : Int) != 1) = true := bne_iff_ne.mpr c10
              obtain rfl := Option.some.inj H
              have p6 : 0 ≤ (0 : Int) := (by omega)
              have q6 : 0 < a0.size := (by have : (0 : Int) < (a0.size : Int) := of_decide_eq_true (by first | (with_reducible assumption) | assumption); omega)
              have hx6 : ∀ h : 0 < a0.size, ((a0[0]'h).toNat : Int) = bt a0 0 := bt_at a0 0
              clear p6
              have qi6 : (0 < (a0.size : Int)) = True := eq_true (of_decide_eq_true (by first | (with_reducible assumption) | assumption))
              replace q6 := eq_true q6
              have p8 : 0 ≤ (0 : Int) := (by omega)
              have q8 : 0 < a1.size := (by have : (0 : Int) < (a1.size : Int) := of_decide_eq_true (by first | (with_reducible assumption) | assumption); omega)
              have hx8 : ∀ h : 0 < a1.size, ((a1[0]'h).toNat : Int) = bt a1 0 := bt_at a1 0
              clear p8
              have qi8 : (0 < (a1.size : Int)) = True := eq_true (of_decide_eq_true (by first | (with_reducible assumption) | assumption))
              replace q8 := eq_true q8
              go_enter Tryd.func76, Tryd.ntmps76
              go_wp2
              repeat (go_quiet (fail); try go_wp2)
              go_ret
              exact ⟨by first | rfl | (simp; done) | (simp [*]; done), by repeat (first | exact Drawn0.refl _ | apply Drawn0.step)⟩
        · rw [if_neg c7] at H
          exact absurd H (by simp)
      · rw [if_neg c5] at H
        exact absurd H (by simp)
    · rw [if_neg c4] at H
      have c4b0 : ((a0.size : Int) == 1) = false := beq_eq_false_iff_ne.mpr c4
      have c4b1 : ((a0.size : Int) != 1) = true := bne_iff_ne.mpr c4
      by_cases c13 : (a1.size : Int) = 1
      · rw [if_pos c13] at H
        have c13b0 : ((a1.size : Int) == 1) = true := beq_iff_eq.mpr c13
        have c13b1 : ((a1.size : Int) != 1) = false := bne_eq_false_iff_eq.mpr c13
        clear c13
        by_cases c14 : 0 < (a0.size : Int)
        · rw [if_pos c14] at H
          have c14b0 : decide (0 < (a0.size : Int)) = true := decide_eq_true c14
          have c14b1 : decide (0 < a0.size) = true := decide_eq_true (by omega)
          clear c14
          by_cases c16 : 0 < (a1.size : Int)
          · rw [if_pos c16] at H
            have c16b0 : decide (0 < (a1.size : Int)) = true := decide_eq_true c16
            have c16b1 : decide (0 < a1.size) = true := decide_eq_true (by omega)
            clear c16
            obtain rfl := Option.some.inj H
            have p15 : 0 ≤ (0 : Int) := (by omega)
            have q15 : 0 < a0.size := (by have : (0 : Int) < (a0.size : Int) := of_decide_eq_true (by first | (with_reducible assumption) | assumption); omega)
            have hx15 : ∀ h : 0 < a0.size, ((a0[0]'h).toNat : Int) = bt a0 0 := bt_at a0 0
            clear p15
            have qi15 : (0 < (a0.size : Int)) = True := eq_true (of_decide_eq_true (by first | (with_reducible assumption) | assumption))
            replace q15 := eq_true q15
            have p17 : 0 ≤ (0 : Int) := (by omega)
            have q17 : 0 < a1.size := (by have : (0 : Int) < (a1.size : Int) := of_decide_eq_true (by first | (with_reducible assumption) | assumption); omega)
            have hx17 : ∀ h : 0 < a1.size, ((a1[0]'h).toNat : Int) = bt a1 0 := bt_at a1 0
            clear p17
            have qi17 : (0 < (a1.size : Int)) = True := eq_true (of_decide_eq_true (by first | (with_reducible assumption) | assumption))
            replace q17 := eq_true q17
            go_enter Tryd.func76, Tryd.ntmps76
            go_wp2
            repeat (go_quiet (fail); try go_wp2)
            go_ret
            exact ⟨by first | rfl | (simp; done) | (simp [*]; done), by repeat (first | exact Drawn0.refl _ | apply Drawn0.step)⟩
          · rw [if_neg c16] at H
            exact absurd H (by simp)
        · rw [if_neg c14] at H
          exact absurd H (by simp)
      · rw [if_neg c13] at H
        have c13b0 : ((a1.size : Int) == 1) = false := beq_eq_false_iff_ne.mpr c13
        have c13b1 : ((a1.size : Int) != 1) = true := bne_iff_ne.mpr c13
        obtain rfl := Option.some.inj H
        go_enter Tryd.func76, Tryd.ntmps76
        go_wp2
        repeat (go_quiet (fail); try go_wp2)
        go_ret
        exact ⟨by first | rfl | (simp; done) | (simp [*]; done), by repeat (first | exact Drawn0.refl _ | apply Drawn0.step)⟩

end Go.Proofs.YtcckamdpncbkoaaDoor.G

namespace Go.Proofs.YtcckamdpncbkoaaDoor.G
open Go.RowKit Go.Proofs.YtcckamdpncbkoaaDoorW.PrintWords Go.Proofs.YtcckamdpncbkoaaDoorW.PrintLast Go.Proofs.YtcckamdpncbkoaaDoorW.PrintMore
open Go.Proofs.YtcckamdpncbkoaaDoor.Gl Go.Proofs.YtcckamdpncbkoaaDoor.Ext
attribute [local go_sem] max2_int min2_int max_two min_two max_three min_three max_four min_four   -- for this text's walks alone
set_option linter.unusedVariables false
set_option linter.unusedSimpArgs false

/-! ### spec_l2May: function 47 -/
mutual
def spec_l2May.l0 : Nat → Int → List ByteArray → ByteArray → ByteArray → ByteArray → List ByteArray → ByteArray → ByteArray → ByteArray → Option (Bool)
  | 0, _, _, _, _, _, _, _, _, _ => none
  | k + 1, x5, x205000, x205001, x205002, x205003, x206000, x206001, x206002, x206003 => if x5 < (x205000.length : Int) then (spec_l2May.j1 k x5 (decide (x5 < (x206000.length : Int))) x205000 x205001 x205002 x205003 x206000 x206001 x206002 x206003) else (spec_l2May.j1 k x5 false x205000 x205001 x205002 x205003 x206000 x206001 x206002 x206003)
def spec_l2May.j1 : Nat → Int → Bool → List ByteArray → ByteArray → ByteArray → ByteArray → List ByteArray → ByteArray → ByteArray → ByteArray → Option (Bool)
  | 0, _, _, _, _, _, _, _, _, _, _ => none
  | k + 1, x5, x17, x205000, x205001, x205002, x205003, x206000, x206001, x206002, x206003 => if x17 = true then (if 0 ≤ x5 then (if x5 < (x205000.length : Int) then (if x5 < (x206000.length : Int) then ((spec_l2Fits.f (rdOf ByteArray.empty x205000 x5) (rdOf ByteArray.empty x206000 x5)).bind fun t208 => (if t208 = true then (spec_l2May.l0 k (wrap64 (x5 + 1)) x205000 x205001 x205002 x205003 x206000 x206001 x206002 x206003) else (some false))) else (none)) else (none)) else (none)) else (if x205001.toList = x206001.toList then (if x205002.toList = x206002.toList then (some (x205003.toList == x206003.toList)) else (some false)) else (some false))
end
def spec_l2May.f (k : Nat) (l0_0 : List ByteArray) (a0_1 : ByteArray) (a0_2 : ByteArray) (a0_3 : ByteArray) (l1_0 : List ByteArray) (a1_1 : ByteArray) (a1_2 : ByteArray) (a1_3 : ByteArray) : Option (Bool) := spec_l2May.l0 k 0 l0_0 a0_1 a0_2 a0_3 l1_0 a1_1 a1_2 a1_3
theorem spec_l2May.mono_l : ∀ k, (∀ y0 y1 y2 y3 y4 y5 y6 y7 y8, LeO (spec_l2May.l0 k y0 y1 y2 y3 y4 y5 y6 y7 y8) (spec_l2May.l0 (k + 1) y0 y1 y2 y3 y4 y5 y6 y7 y8)) ∧ (∀ y0 y1 y2 y3 y4 y5 y6 y7 y8 y9, LeO (spec_l2May.j1 k y0 y1 y2 y3 y4 y5 y6 y7 y8 y9) (spec_l2May.j1 (k + 1) y0 y1 y2 y3 y4 y5 y6 y7 y8 y9))
  | 0 => ⟨fun _ _ _ _ _ _ _ _ _ r h => by simp [spec_l2May.l0] at h, fun _ _ _ _ _ _ _ _ _ _ r h => by simp [spec_l2May.j1] at h⟩
  | k + 1 => by
    obtain ⟨ih0, ih1⟩ := spec_l2May.mono_l k
    refine ⟨?_, ?_⟩
    · intro y0 y1 y2 y3 y4 y5 y6 y7 y8
      unfold spec_l2May.l0
      repeat' first
      | (with_reducible exact ih0 _ _ _ _ _ _ _ _ _)
      | (with_reducible exact ih1 _ _ _ _ _ _ _ _ _ _)
      | (with_reducible exact LeO.refl _)
      | (with_reducible exact LeO.none _)
      | (with_reducible refine LeO.ite ?_ ?_)
      | (with_reducible refine LeO.bind ?_ (fun _ => ?_))
      | exact ih0 _ _ _ _ _ _ _ _ _
      | exact ih1 _ _ _ _ _ _ _ _ _ _
      | exact LeO.none _
      | refine LeO.ite ?_ ?_
      | refine LeO.bind ?_ (fun _ => ?_)
    · intro y0 y1 y2 y3 y4 y5 y6 y7 y8 y9
      unfold spec_l2May.j1
      repeat' first
      | (with_reducible exact ih0 _ _ _ _ _ _ _ _ _)
      | (with_reducible exact ih1 _ _ _ _ _ _ _ _ _ _)
      | (with_reducible exact LeO.refl _)
      | (with_reducible exact LeO.none _)
      | (with_reducible refine LeO.ite ?_ ?_)
      | (with_reducible refine LeO.bind ?_ (fun _ => ?_))
      | exact ih0 _ _ _ _ _ _ _ _ _
      | exact ih1 _ _ _ _ _ _ _ _ _ _
      | exact LeO.none _
      | refine LeO.ite ?_ ?_
      | refine LeO.bind ?_ (fun _ => ?_)
theorem spec_l2May.mono : ∀ a0 a1 a2 a3 a4 a5 a6 a7 k, LeO (spec_l2May.f k a0 a1 a2 a3 a4 a5 a6 a7) (spec_l2May.f (k + 1) a0 a1 a2 a3 a4 a5 a6 a7) := by
  intro a0 a1 a2 a3 a4 a5 a6 a7 k
  obtain ⟨ih0, ih1⟩ := spec_l2May.mono_l k
  unfold spec_l2May.f
  repeat' first
      | (with_reducible exact ih0 _ _ _ _ _ _ _ _ _)
      | (with_reducible exact ih1 _ _ _ _ _ _ _ _ _ _)
      | (with_reducible exact LeO.refl _)
      | (with_reducible exact LeO.none _)
      | (with_reducible refine LeO.ite ?_ ?_)
      | (with_reducible refine LeO.bind ?_ (fun _ => ?_))
      | exact ih0 _ _ _ _ _ _ _ _ _
      | exact ih1 _ _ _ _ _ _ _ _ _ _
      | exact LeO.none _
      | refine LeO.ite ?_ ?_
      | refine LeO.bind ?_ (fun _ => ?_)
set_option maxHeartbeats 8000000 in
set_option maxRecDepth 100000 in
theorem spec_l2May.calls (k : Nat) (A0_0 : Option Addr) (c0_0 : Nat) (l0_0 : List ByteArray) (a0_1 : ByteArray) (a0_2 : ByteArray) (a0_3 : ByteArray) (A1_0 : Option Addr) (c1_0 : Nat) (l1_0 : List ByteArray) (a1_1 : ByteArray) (a1_2 : ByteArray) (a1_3 : ByteArray) (r : Bool) (w : World) (hr0_0 : Kd.C Kd.string w A0_0 l0_0.length l0_0) (hc0_0 : l0_0.length ≤ c0_0) (hr1_0 : Kd.C Kd.string w A1_0 l1_0.length l1_0) (hc1_0 : l1_0.length ≤ c1_0) (h : spec_l2May.f k l0_0 a0_1 a0_2 a0_3 l1_0 a1_1 a1_2 a1_3 = some r) :
    Calls Tryd.prog 47 #[.agg #[.slice A0_0 l0_0.length c0_0, .string a0_1, .string a0_2, .string a0_3], .agg #[.slice A1_0 l1_0.length c1_0, .string a1_1, .string a1_2, .string a1_3]] w fun e w' => e = .returned (.bool r) ∧ Below w.heap.size w w' := by
  have hu27 := Tryd.underlying27
  have HR0_0 := Aside0.mk hr0_0
  have HC0_0 := Aside0.mk hc0_0
  clear hr0_0 hc0_0
  have HR1_0 := Aside0.mk hr1_0
  have HC1_0 := Aside0.mk hc1_0
  clear hr1_0 hc1_0
  have HB := Aside0.mk (Below.refl w.heap.size w)
  have H : (spec_l2May.l0 k 0 l0_0 a0_1 a0_2 a0_3 l1_0 a1_1 a1_2 a1_3) = some r := h
  clear h
  have H' := Aside0.mk H
  clear H
  go_enter Tryd.func47, Tryd.ntmps47
  go_wp2_with (first | ((with_reducible refine gate_dst (N := 2) rfl ?_); (try (refine gate_guard (by rfl) ?_; dsimp only)); refine box_event ?hg (N := 2) ?hd (cs := #[.slice A0_0 l0_0.length c0_0, .string a0_1, .string a0_2, .string a0_3]) (t := 27) ?hr ?_; (case hd => rfl); (case hg => rfl); (case hr => first | (go_simp; done) | (go_simp; rfl)); intro gb204 hg w3 hbox hb; have n0_ := Aside0.mk (below_step (by repeat (first | (with_reducible first | exact HB.out | apply below_alloc | apply pw_below_drewN | apply below_drew1) | exact HB.out)) hb); have n1_ := Aside0.mk (hbox); have n2_ := Aside0.mk ((by rw [hg]; exact (below_size (by repeat (first | (with_reducible first | exact HB.out | apply below_alloc | apply pw_below_drewN | apply below_drew1) | exact HB.out))) : w.heap.size ≤ gb204)); have n3_ := Aside0.mk ((by rw [hg]; exact (below_size (by repeat (first | (with_reducible first | exact HB.out | apply below_alloc | apply pw_below_drewN | apply below_drew1) | exact HB.out))) : w.heap.size ≤ gb204)); clear HB; have HB := n0_; have BK204 := n1_; have GW204 := n2_; have GE204 := n3_; clear n0_ n1_ n2_ n3_; clear hb hbox hg) | ((with_reducible refine gate_dst (N := 3) rfl ?_); (try (refine gate_guard (by rfl) ?_; dsimp only)); refine box_event ?hg (N := 3) ?hd (cs := #[.slice A1_0 l1_0.length c1_0, .string a1_1, .string a1_2, .string a1_3]) (t := 27) ?hr ?_; (case hd => rfl); (case hg => rfl); (case hr => first | (go_simp; done) | (go_simp; rfl)); intro gb205 hg w4 hbox hb; have n0_ := Aside0.mk (blk_below (g := gb204) (o := .cells #[.slice A0_0 l0_0.length c0_0, .string a0_1, .string a0_2, .string a0_3] 27 (0, 0)) (by (with_reducible repeat (first | refine blk_drewN ?_ _ | refine blk_drew ?_ | refine blk_alloc ?_ _)); exact BK204.out) hb); have n1_ := Aside0.mk (below_step (by repeat (first | (with_reducible first | exact HB.out | apply below_alloc | apply pw_below_drewN | apply below_drew1 | refine below_set ?_ GE204.out) | exact HB.out)) hb); have n2_ := Aside0.mk (hbox); have n3_ := Aside0.mk ((by rw [hg]; exact (below_size (by repeat (first | (with_reducible first | exact HB.out | apply below_alloc | apply pw_below_drewN | apply below_drew1 | refine below_set ?_ GE204.out) | exact HB.out))) : w.heap.size ≤ gb205)); have n4_ := Aside0.mk ((by rw [hg]; exact (below_size (by repeat (first | (with_reducible first | exact HB.out | apply below_alloc | apply pw_below_drewN | apply below_drew1 | refine below_set ?_ GE204.out) | exact HB.out))) : w.heap.size ≤ gb205)); have n5_ := Aside0.mk ((by rw [hg]; exact Nat.ne_of_lt (blk_lt (g := gb204) (o := .cells #[.slice A0_0 l0_0.length c0_0, .string a0_1, .string a0_2, .string a0_3] 27 (0, 0)) (by (with_reducible repeat (first | refine blk_drewN ?_ _ | refine blk_drew ?_ | refine blk_alloc ?_ _)); exact BK204.out)) : gb204 ≠ gb205)); have n6_ := Aside0.mk ((by rw [hg]; exact Nat.ne_of_gt (blk_lt (g := gb204) (o := .cells #[.slice A0_0 l0_0.length c0_0, .string a0_1, .string a0_2, .string a0_3] 27 (0, 0)) (by (with_reducible repeat (first | refine blk_drewN ?_ _ | refine blk_drew ?_ | refine blk_alloc ?_ _)); exact BK204.out)) : gb205 ≠ gb204)); clear BK204; clear HB; have BK204 := n0_; have HB := n1_; have BK205 := n2_; have GW205 := n3_; have GE205 := n4_; have NB204_205 := n5_; have NB205_204 := n6_; clear n0_ n1_ n2_ n3_ n4_ n5_ n6_; clear hb hbox hg))
  repeat (go_quiet (first | ((with_reducible refine gate_dst (N := 2) rfl ?_); (try (refine gate_guard (by rfl) ?_; dsimp only)); refine box_event ?hg (N := 2) ?hd (cs := #[.slice A0_0 l0_0.length c0_0, .string a0_1, .string a0_2, .string a0_3]) (t := 27) ?hr ?_; (case hd => rfl); (case hg => rfl); (case hr => first | (go_simp; done) | (go_simp; rfl)); intro gb204 hg w3 hbox hb; have n0_ := Aside0.mk (below_step (by repeat (first | (with_reducible first | exact HB.out | apply below_alloc | apply pw_below_drewN | apply below_drew1) | exact HB.out)) hb); have n1_ := Aside0.mk (hbox); have n2_ := Aside0.mk ((by rw [hg]; exact (below_size (by repeat (first | (with_reducible first | exact HB.out | apply below_alloc | apply pw_below_drewN | apply below_drew1) | exact HB.out))) : w.heap.size ≤ gb204)); have n3_ := Aside0.mk ((by rw [hg]; exact (below_size (by repeat (first | (with_reducible first | exact HB.out | apply below_alloc | apply pw_below_drewN | apply below_drew1) | exact HB.out))) : w.heap.size ≤ gb204)); clear HB; have HB := n0_; have BK204 := n1_; have GW204 := n2_; have GE204 := n3_; clear n0_ n1_ n2_ n3_; clear hb hbox hg) | ((with_reducible refine gate_dst (N := 3) rfl ?_); (try (refine gate_guard (by rfl) ?_; dsimp only)); refine box_event ?hg (N := 3) ?hd (cs := #[.slice A1_0 l1_0.length c1_0, .string a1_1, .string a1_2, .string a1_3]) (t := 27) ?hr ?_; (case hd => rfl); (case hg => rfl); (case hr => first | (go_simp; done) | (go_simp; rfl)); intro gb205 hg w4 hbox hb; have n0_ := Aside0.mk (blk_below (g := gb204) (o := .cells #[.slice A0_0 l0_0.length c0_0, .string a0_1, .string a0_2, .string a0_3] 27 (0, 0)) (by (with_reducible repeat (first | refine blk_drewN ?_ _ | refine blk_drew ?_ | refine blk_alloc ?_ _)); exact BK204.out) hb); have n1_ := Aside0.mk (below_step (by repeat (first | (with_reducible first | exact HB.out | apply below_alloc | apply pw_below_drewN | apply below_drew1 | refine below_set ?_ GE204.out) | exact HB.out)) hb); have n2_ := Aside0.mk (hbox); have n3_ := Aside0.mk ((by rw [hg]; exact (below_size (by repeat (first | (with_reducible first | exact HB.out | apply below_alloc | apply pw_below_drewN | apply below_drew1 | refine below_set ?_ GE204.out) | exact HB.out))) : w.heap.size ≤ gb205)); have n4_ := Aside0.mk ((by rw [hg]; exact (below_size (by repeat (first | (with_reducible first | exact HB.out | apply below_alloc | apply pw_below_drewN | apply below_drew1 | refine below_set ?_ GE204.out) | exact HB.out))) : w.heap.size ≤ gb205)); have n5_ := Aside0.mk ((by rw [hg]; exact Nat.ne_of_lt (blk_lt (g := gb204) (o := .cells #[.slice A0_0 l0_0.length c0_0, .string a0_1, .string a0_2, .string a0_3] 27 (0, 0)) (by (with_reducible repeat (first | refine blk_drewN ?_ _ | refine blk_drew ?_ | refine blk_alloc ?_ _)); exact BK204.out)) : gb204 ≠ gb205)); have n6_ := Aside0.mk ((by rw [hg]; exact Nat.ne_of_gt (blk_lt (g := gb204) (o := .cells #[.slice A0_0 l0_0.length c0_0, .string a0_1, .string a0_2, .string a0_3] 27 (0, 0)) (by (with_reducible repeat (first | refine blk_drewN ?_ _ | refine blk_drew ?_ | refine blk_alloc ?_ _)); exact BK204.out)) : gb205 ≠ gb204)); clear BK204; clear HB; have BK204 := n0_; have HB := n1_; have BK205 := n2_; have GW205 := n3_; have GE205 := n4_; have NB204_205 := n5_; have NB205_204 := n6_; clear n0_ n1_ n2_ n3_ n4_ n5_ n6_; clear hb hbox hg)); try go_wp2_with (first | ((with_reducible refine gate_dst (N := 2) rfl ?_); (try (refine gate_guard (by rfl) ?_; dsimp only)); refine box_event ?hg (N := 2) ?hd (cs := #[.slice A0_0 l0_0.length c0_0, .string a0_1, .string a0_2, .string a0_3]) (t := 27) ?hr ?_; (case hd => rfl); (case hg => rfl); (case hr => first | (go_simp; done) | (go_simp; rfl)); intro gb204 hg w3 hbox hb; have n0_ := Aside0.mk (below_step (by repeat (first | (with_reducible first | exact HB.out | apply below_alloc | apply pw_below_drewN | apply below_drew1) | exact HB.out)) hb); have n1_ := Aside0.mk (hbox); have n2_ := Aside0.mk ((by rw [hg]; exact (below_size (by repeat (first | (with_reducible first | exact HB.out | apply below_alloc | apply pw_below_drewN | apply below_drew1) | exact HB.out))) : w.heap.size ≤ gb204)); have n3_ := Aside0.mk ((by rw [hg]; exact (below_size (by repeat (first | (with_reducible first | exact HB.out | apply below_alloc | apply pw_below_drewN | apply below_drew1) | exact HB.out))) : w.heap.size ≤ gb204)); clear HB; have HB := n0_; have BK204 := n1_; have GW204 := n2_; have GE204 := n3_; clear n0_ n1_ n2_ n3_; clear hb hbox hg) | ((with_reducible refine gate_dst (N := 3) rfl ?_); (try (refine gate_guard (by rfl) ?_; dsimp only)); refine box_event ?hg (N := 3) ?hd (cs := #[.slice A1_0 l1_0.length c1_0, .string a1_1, .string a1_2, .string a1_3]) (t := 27) ?hr ?_; (case hd => rfl); (case hg => rfl); (case hr => first | (go_simp; done) | (go_simp; rfl)); intro gb205 hg w4 hbox hb; have n0_ := Aside0.mk (blk_below (g := gb204) (o := .cells #[.slice A0_0 l0_0.length c0_0, .string a0_1, .string a0_2, .string a0_3] 27 (0, 0)) (by (with_reducible repeat (first | refine blk_drewN ?_ _ | refine blk_drew ?_ | refine blk_alloc ?_ _)); exact BK204.out) hb); have n1_ := Aside0.mk (below_step (by repeat (first | (with_reducible first | exact HB.out | apply below_alloc | apply pw_below_drewN | apply below_drew1 | refine below_set ?_ GE204.out) | exact HB.out)) hb); have n2_ := Aside0.mk (hbox); have n3_ := Aside0.mk ((by rw [hg]; exact (below_size (by repeat (first | (with_reducible first | exact HB.out | apply below_alloc | apply pw_below_drewN | apply below_drew1 | refine below_set ?_ GE204.out) | exact HB.out))) : w.heap.size ≤ gb205)); have n4_ := Aside0.mk ((by rw [hg]; exact (below_size (by repeat (first | (with_reducible first | exact HB.out | apply below_alloc | apply pw_below_drewN | apply below_drew1 | refine below_set ?_ GE204.out) | exact HB.out))) : w.heap.size ≤ gb205)); have n5_ := Aside0.mk ((by rw [hg]; exact Nat.ne_of_lt (blk_lt (g := gb204) (o := .cells #[.slice A0_0 l0_0.length c0_0, .string a0_1, .string a0_2, .string a0_3] 27 (0, 0)) (by (with_reducible repeat (first | refine blk_drewN ?_ _ | refine blk_drew ?_ | refine blk_alloc ?_ _)); exact BK204.out)) : gb204 ≠ gb205)); have n6_ := Aside0.mk ((by rw [hg]; exact Nat.ne_of_gt (blk_lt (g := gb204) (o := .cells #[.slice A0_0 l0_0.length c0_0, .string a0_1, .string a0_2, .string a0_3] 27 (0, 0)) (by (with_reducible repeat (first | refine blk_drewN ?_ _ | refine blk_drew ?_ | refine blk_alloc ?_ _)); exact BK204.out)) : gb205 ≠ gb204)); clear BK204; clear HB; have BK204 := n0_; have HB := n1_; have BK205 := n2_; have GW205 := n3_; have GE205 := n4_; have NB204_205 := n5_; have NB205_204 := n6_; clear n0_ n1_ n2_ n3_ n4_ n5_ n6_; clear hb hbox hg)))
  go_loopg [5] k (fun kq v5 w' => ∃ (x5_1 : Int), v5 = .int .i64 x5_1 ∧ Aside0 (spec_l2May.l0 kq x5_1 l0_0 a0_1 a0_2 a0_3 l1_0 a1_1 a1_2 a1_3 = some r) ∧ Aside0 (kq ≤ k) ∧ Aside0 (w'.heap[gb204]? = some (.cells #[(.slice A0_0 l0_0.length c0_0), .string a0_1, .string a0_2, .string a0_3] 27 (0, 0))) ∧ Aside0 (w'.heap[gb205]? = some (.cells #[(.slice A1_0 l1_0.length c1_0), .string a1_1, .string a1_2, .string a1_3] 27 (0, 0))) ∧ Aside0 (Below w.heap.size w w'))
  case atStart => exact ⟨(0), (by first | rfl | (simp; done) | (simp [*]; done)), H', ⟨Nat.le_refl _⟩, ⟨by (with_reducible repeat (first | refine blk_drewN ?_ _ | refine blk_drew ?_ | refine blk_alloc ?_ _)); exact BK204.out⟩, ⟨by (with_reducible repeat (first | refine blk_drewN ?_ _ | refine blk_drew ?_ | refine blk_alloc ?_ _)); exact BK205.out⟩, ⟨by repeat (first | (with_reducible first | exact HB.out | apply below_alloc | apply pw_below_drewN | apply below_drew1 | refine below_set ?_ GE204.out | refine below_set ?_ GE205.out) | exact HB.out)⟩⟩
  case round =>
    clear H'
    try clear c1
    try clear p2
    try clear c4
    obtain ⟨x5_1, rfl, HA, HK1, BK204, BK205, HB⟩ := hrel
    cases gk with
    | zero => exact absurd HA.out (by simp [spec_l2May.l0])
    | succ k1 =>
      have H := HA.out
      clear HA
      simp only [spec_l2May.l0] at H
      have HC5 := Aside0.mk H
      clear H
      go_upto_region 2 with (fail)
      repeat (go_quiet (fail); go_upto_region 2 with (fail))
      go_cut [17] (fun v17 wc => ∃ (kq : Nat) (x17_4 : Bool), v17 = .bool x17_4 ∧ Aside0 (spec_l2May.j1 kq x5_1 x17_4 l0_0 a0_1 a0_2 a0_3 l1_0 a1_1 a1_2 a1_3 = some r) ∧ Aside0 (kq ≤ k1) ∧ Aside0 (wc.heap[gb204]? = some (.cells #[(.slice A0_0 l0_0.length c0_0), .string a0_1, .string a0_2, .string a0_3] 27 (0, 0))) ∧ Aside0 (wc.heap[gb205]? = some (.cells #[(.slice A1_0 l1_0.length c1_0), .string a1_1, .string a1_2, .string a1_3] 27 (0, 0))) ∧ Aside0 (Below w.heap.size w wc))
      case first =>
        have H := HC5.out
        clear HC5
        by_cases c6 : x5_1 < (l0_0.length : Int)
        · rw [if_pos c6] at H
          have c6b0 : decide (x5_1 < (l0_0.length : Int)) = true := decide_eq_true c6
          clear c6
          (first | rw [c6b0] | (simp only [i64_w, i32_w]; rw [c6b0]) | skip)
          have H' := Aside0.mk H
          clear H
          have hnb7 := NB204_205.out
          have hnc7 := NB205_204.out
          have hcz8_0 : wr.cell? ⟨gb204, 0, none⟩ = some (.slice A0_0 l0_0.length c0_0) := (blk_cell BK204.out 0).trans rfl
          have hcz8_1 : wr.cell? ⟨gb204, 1, none⟩ = some (.string a0_1) := (blk_cell BK204.out 1).trans rfl
          have hcz8_2 : wr.cell? ⟨gb204, 2, none⟩ = some (.string a0_2) := (blk_cell BK204.out 2).trans rfl
          have hcz8_3 : wr.cell? ⟨gb204, 3, none⟩ = some (.string a0_3) := (blk_cell BK204.out 3).trans rfl
          have hfz8_0 := blk_frozen BK204.out 0
          have hfz8_1 := blk_frozen BK204.out 1
          have hfz8_2 := blk_frozen BK204.out 2
          have hfz8_3 := blk_frozen BK204.out 3
          have hcz9_0 : wr.cell? ⟨gb205, 0, none⟩ = some (.slice A1_0 l1_0.length c1_0) := (blk_cell BK205.out 0).trans rfl
          have hcz9_1 : wr.cell? ⟨gb205, 1, none⟩ = some (.string a1_1) := (blk_cell BK205.out 1).trans rfl
          have hcz9_2 : wr.cell? ⟨gb205, 2, none⟩ = some (.string a1_2) := (blk_cell BK205.out 2).trans rfl
          have hcz9_3 : wr.cell? ⟨gb205, 3, none⟩ = some (.string a1_3) := (blk_cell BK205.out 3).trans rfl
          have hfz9_0 := blk_frozen BK205.out 0
          have hfz9_1 := blk_frozen BK205.out 1
          have hfz9_2 := blk_frozen BK205.out 2
          have hfz9_3 := blk_frozen BK205.out 3
          go_wp2
          repeat (go_quiet (fail); try go_wp2)
          go_meet
          case rel => exact ⟨_, (decide (x5_1 < (l1_0.length : Int))), (by first | rfl | (simp; done) | (simp [*]; done)), H', ⟨by have := HK1.out; first | omega | exact Nat.le_refl _⟩, ⟨by (with_reducible repeat (first | refine blk_drewN ?_ _ | refine blk_drew ?_ | refine blk_alloc ?_ _)); exact BK204.out⟩, ⟨by (with_reducible repeat (first | refine blk_drewN ?_ _ | refine blk_drew ?_ | refine blk_alloc ?_ _)); exact BK205.out⟩, ⟨by repeat (first | (with_reducible first | exact HB.out | apply below_alloc | apply pw_below_drewN | apply below_drew1 | refine below_set ?_ GE204.out | refine below_set ?_ GE205.out) | exact HB.out)⟩⟩
        · rw [if_neg c6] at H
          have c6b0 : decide (x5_1 < (l0_0.length : Int)) = false := decide_eq_false c6
          clear c6
          (first | rw [c6b0] | (simp only [i64_w, i32_w]; rw [c6b0]) | skip)
          have H' := Aside0.mk H
          clear H
          have hnb10 := NB204_205.out
          have hnc10 := NB205_204.out
          have hcz11_0 : wr.cell? ⟨gb204, 0, none⟩ = some (.slice A0_0 l0_0.length c0_0) := (blk_cell BK204.out 0).trans rfl
          have hcz11_1 : wr.cell? ⟨gb204, 1, none⟩ = some (.string a0_1) := (blk_cell BK204.out 1).trans rfl
          have hcz11_2 : wr.cell? ⟨gb204, 2, none⟩ = some (.string a0_2) := (blk_cell BK204.out 2).trans rfl
          have hcz11_3 : wr.cell? ⟨gb204, 3, none⟩ = some (.string a0_3) := (blk_cell BK204.out 3).trans rfl
          have hfz11_0 := blk_frozen BK204.out 0
          have hfz11_1 := blk_frozen BK204.out 1
          have hfz11_2 := blk_frozen BK204.out 2
          have hfz11_3 := blk_frozen BK204.out 3
          go_wp2
          repeat (go_quiet (fail); try go_wp2)
          go_meet
          case rel => exact ⟨_, (false), (by first | rfl | (simp; done) | (simp [*]; done)), H', ⟨by have := HK1.out; first | omega | exact Nat.le_refl _⟩, ⟨by (with_reducible repeat (first | refine blk_drewN ?_ _ | refine blk_drew ?_ | refine blk_alloc ?_ _)); exact BK204.out⟩, ⟨by (with_reducible repeat (first | refine blk_drewN ?_ _ | refine blk_drew ?_ | refine blk_alloc ?_ _)); exact BK205.out⟩, ⟨by repeat (first | (with_reducible first | exact HB.out | apply below_alloc | apply pw_below_drewN | apply below_drew1 | refine below_set ?_ GE204.out | refine below_set ?_ GE205.out) | exact HB.out)⟩⟩
      case rest =>
        clear HC5
        try clear c1
        try clear p2
        try clear c4
        try clear c6
        try clear c6b0
        try clear c7
        try clear c10
        try clear hcz11_0
        try clear hcz11_1
        try clear hcz11_2
        try clear hcz11_3
        try clear hcz8_0
        try clear hcz8_1
        try clear hcz8_2
        try clear hcz8_3
        try clear hcz9_0
        try clear hcz9_1
        try clear hcz9_2
        try clear hcz9_3
        try clear hfz11_0
        try clear hfz11_1
        try clear hfz11_2
        try clear hfz11_3
        try clear hfz8_0
        try clear hfz8_1
        try clear hfz8_2
        try clear hfz8_3
        try clear hfz9_0
        try clear hfz9_1
        try clear hfz9_2
        try clear hfz9_3
        try clear p2
        obtain ⟨kq, x17_4, rfl, HA, HJ4, BK204, BK205, HB⟩ := hcut
        cases kq with
        | zero => exact absurd HA.out (by simp [spec_l2May.j1])
        | succ kj4 =>
          have H := HA.out
          clear HA
          simp only [spec_l2May.j1] at H
          by_cases c12 : x17_4 = true
          · subst c12
            have H1 : (if 0 ≤ x5_1 then (if x5_1 < (l0_0.length : Int) then (if x5_1 < (l1_0.length : Int) then ((spec_l2Fits.f (rdOf ByteArray.empty l0_0 x5_1) (rdOf ByteArray.empty l1_0 x5_1)).bind fun t208 => (if t208 = true then (spec_l2May.l0 kj4 (wrap64 (x5_1 + 1)) l0_0 a0_1 a0_2 a0_3 l1_0 a1_1 a1_2 a1_3) else (some false))) else (none)) else (none)) else (none)) = some r := by rw [if_pos rfl] at H; exact H
            clear H
            have H := H1
            clear H1
            by_cases c13 : 0 ≤ x5_1
            · rw [if_pos c13] at H
              have c13b0 : decide (0 ≤ x5_1) = true := decide_eq_true c13
              clear c13
              by_cases c14 : x5_1 < (l0_0.length : Int)
              · rw [if_pos c14] at H
                have c14b0 : decide (x5_1 < (l0_0.length : Int)) = true := decide_eq_true c14
                clear c14
                by_cases c15 : x5_1 < (l1_0.length : Int)
                · rw [if_pos c15] at H
                  have c15b0 : decide (x5_1 < (l1_0.length : Int)) = true := decide_eq_true c15
                  clear c15
                  replace H := Option.bind_eq_some_iff.mp H
                  obtain ⟨t208, A160, H⟩ := H
                  replace H : (if t208 = true then (spec_l2May.l0 kj4 (wrap64 (x5_1 + 1)) l0_0 a0_1 a0_2 a0_3 l1_0 a1_1 a1_2 a1_3) else (some false)) = some r := H
                  have A16 := Aside0.mk A160
                  clear A160
                  by_cases c17 : t208 = true
                  · subst c17
                    have H1 : (spec_l2May.l0 kj4 (wrap64 (x5_1 + 1)) l0_0 a0_1 a0_2 a0_3 l1_0 a1_1 a1_2 a1_3) = some r := by rw [if_pos rfl] at H; exact H
                    clear H
                    have H := H1
                    clear H1
                    have H' := Aside0.mk H
                    clear H
                    have hnb18 := NB204_205.out
                    have hnc18 := NB205_204.out
                    have hcz19_0 : wc.cell? ⟨gb204, 0, none⟩ = some (.slice A0_0 l0_0.length c0_0) := (blk_cell BK204.out 0).trans rfl
                    have hcz19_1 : wc.cell? ⟨gb204, 1, none⟩ = some (.string a0_1) := (blk_cell BK204.out 1).trans rfl
                    have hcz19_2 : wc.cell? ⟨gb204, 2, none⟩ = some (.string a0_2) := (blk_cell BK204.out 2).trans rfl
                    have hcz19_3 : wc.cell? ⟨gb204, 3, none⟩ = some (.string a0_3) := (blk_cell BK204.out 3).trans rfl
                    have hfz19_0 := blk_frozen BK204.out 0
                    have hfz19_1 := blk_frozen BK204.out 1
                    have hfz19_2 := blk_frozen BK204.out 2
                    have hfz19_3 := blk_frozen BK204.out 3
                    have p206 : 0 ≤ (x5_1 : Int) := of_decide_eq_true (by first | (with_reducible assumption) | assumption)
                    have q206 : x5_1 < (l0_0.length : Int) := of_decide_eq_true (by first | (with_reducible assumption) | assumption)
                    obtain ⟨ad206, e206, hx206_0⟩ := Kd.at_string HR0_0.out x5_1 p206 q206
                    cases e206
                    replace hx206_0 := (HB.out.cell (World.block_lt_of_cell? w _ hx206_0)).trans hx206_0
                    replace p206 := eq_true p206
                    replace q206 := eq_true q206
                    have hcz20_0 : wc.cell? ⟨gb205, 0, none⟩ = some (.slice A1_0 l1_0.length c1_0) := (blk_cell BK205.out 0).trans rfl
                    have hcz20_1 : wc.cell? ⟨gb205, 1, none⟩ = some (.string a1_1) := (blk_cell BK205.out 1).trans rfl
                    have hcz20_2 : wc.cell? ⟨gb205, 2, none⟩ = some (.string a1_2) := (blk_cell BK205.out 2).trans rfl
                    have hcz20_3 : wc.cell? ⟨gb205, 3, none⟩ = some (.string a1_3) := (blk_cell BK205.out 3).trans rfl
                    have hfz20_0 := blk_frozen BK205.out 0
                    have hfz20_1 := blk_frozen BK205.out 1
                    have hfz20_2 := blk_frozen BK205.out 2
                    have hfz20_3 := blk_frozen BK205.out 3
                    have p207 : 0 ≤ (x5_1 : Int) := of_decide_eq_true (by first | (with_reducible assumption) | assumption)
                    have q207 : x5_1 < (l1_0.length : Int) := of_decide_eq_true (by first | (with_reducible assumption) | assumption)
                    obtain ⟨ad207, e207, hx207_0⟩ := Kd.at_string HR1_0.out x5_1 p207 q207
                    cases e207
                    replace hx207_0 := (HB.out.cell (World.block_lt_of_cell? w _ hx207_0)).trans hx207_0
                    replace p207 := eq_true p207
                    replace q207 := eq_true q207
                    go_wp2_with (first | (go_at_call 76; (with_reducible refine (spec_l2Fits.calls (rdOf ByteArray.empty l0_0 x5_1) (rdOf ByteArray.empty l1_0 x5_1) true _ A16.out).mono ?_); rintro e w' ⟨rfl, ⟨nd, rfl⟩⟩; (try first | exact ⟨rfl, _, World.drewN_drewN _ _ _⟩ | exact ⟨rfl, _, Eq.trans (World.drewN_drewN _ _ _) (congrArg (World.drewN _) (Nat.add_assoc _ _ _))⟩)))
                    repeat (go_quiet (first | (go_at_call 76; (with_reducible refine (spec_l2Fits.calls (rdOf ByteArray.empty l0_0 x5_1) (rdOf ByteArray.empty l1_0 x5_1) true _ A16.out).mono ?_); rintro e w' ⟨rfl, ⟨nd, rfl⟩⟩; (try first | exact ⟨rfl, _, World.drewN_drewN _ _ _⟩ | exact ⟨rfl, _, Eq.trans (World.drewN_drewN _ _ _) (congrArg (World.drewN _) (Nat.add_assoc _ _ _))⟩))); try go_wp2_with (first | (go_at_call 76; (with_reducible refine (spec_l2Fits.calls (rdOf ByteArray.empty l0_0 x5_1) (rdOf ByteArray.empty l1_0 x5_1) true _ A16.out).mono ?_); rintro e w' ⟨rfl, ⟨nd, rfl⟩⟩; (try first | exact ⟨rfl, _, World.drewN_drewN _ _ _⟩ | exact ⟨rfl, _, Eq.trans (World.drewN_drewN _ _ _) (congrArg (World.drewN _) (Nat.add_assoc _ _ _))⟩))))
                    go_roundg kj4
                    case measure => have := HK1.out; have := HJ4.out; omega
                    case rel => exact ⟨(wrap64 (x5_1 + 1)), (by first | rfl | (simp; done) | (simp [*]; done)), H', ⟨by have := HK1.out; have := HJ4.out; omega⟩, ⟨by (with_reducible repeat (first | refine blk_drewN ?_ _ | refine blk_drew ?_ | refine blk_alloc ?_ _)); exact BK204.out⟩, ⟨by (with_reducible repeat (first | refine blk_drewN ?_ _ | refine blk_drew ?_ | refine blk_alloc ?_ _)); exact BK205.out⟩, ⟨by repeat (first | (with_reducible first | exact HB.out | apply below_alloc | apply pw_below_drewN | apply below_drew1 | refine below_set ?_ GE204.out | refine below_set ?_ GE205.out) | exact HB.out)⟩⟩
                  · replace c17 := Bool.eq_false_iff.mpr c17
                    subst c17
                    have H1 : (some false) = some r := by rw [if_neg (show ¬ (false = true) by decide)] at H; exact H
                    clear H
                    have H := H1
                    clear H1
                    obtain rfl := Option.some.inj H
                    have hnb21 := NB204_205.out
                    have hnc21 := NB205_204.out
                    have hcz22_0 : wc.cell? ⟨gb204, 0, none⟩ = some (.slice A0_0 l0_0.length c0_0) := (blk_cell BK204.out 0).trans rfl
                    have hcz22_1 : wc.cell? ⟨gb204, 1, none⟩ = some (.string a0_1) := (blk_cell BK204.out 1).trans rfl
                    have hcz22_2 : wc.cell? ⟨gb204, 2, none⟩ = some (.string a0_2) := (blk_cell BK204.out 2).trans rfl
                    have hcz22_3 : wc.cell? ⟨gb204, 3, none⟩ = some (.string a0_3) := (blk_cell BK204.out 3).trans rfl
                    have hfz22_0 := blk_frozen BK204.out 0
                    have hfz22_1 := blk_frozen BK204.out 1
                    have hfz22_2 := blk_frozen BK204.out 2
                    have hfz22_3 := blk_frozen BK204.out 3
                    have p206 : 0 ≤ (x5_1 : Int) := of_decide_eq_true (by first | (with_reducible assumption) | assumption)
                    have q206 : x5_1 < (l0_0.length : Int) := of_decide_eq_true (by first | (with_reducible assumption) | assumption)
                    obtain ⟨ad206, e206, hx206_0⟩ := Kd.at_string HR0_0.out x5_1 p206 q206
                    cases e206
                    replace hx206_0 := (HB.out.cell (World.block_lt_of_cell? w _ hx206_0)).trans hx206_0
                    replace p206 := eq_true p206
                    replace q206 := eq_true q206
                    have hcz23_0 : wc.cell? ⟨gb205, 0, none⟩ = some (.slice A1_0 l1_0.length c1_0) := (blk_cell BK205.out 0).trans rfl
                    have hcz23_1 : wc.cell? ⟨gb205, 1, none⟩ = some (.string a1_1) := (blk_cell BK205.out 1).trans rfl
                    have hcz23_2 : wc.cell? ⟨gb205, 2, none⟩ = some (.string a1_2) := (blk_cell BK205.out 2).trans rfl
                    have hcz23_3 : wc.cell? ⟨gb205, 3, none⟩ = some (.string a1_3) := (blk_cell BK205.out 3).trans rfl
                    have hfz23_0 := blk_frozen BK205.out 0
                    have hfz23_1 := blk_frozen BK205.out 1
                    have hfz23_2 := blk_frozen BK205.out 2
                    have hfz23_3 := blk_frozen BK205.out 3
                    have p207 : 0 ≤ (x5_1 : Int) := of_decide_eq_true (by first | (with_reducible assumption) | assumption)
                    have q207 : x5_1 < (l1_0.length : Int) := of_decide_eq_true (by first | (with_reducible assumption) | assumption)
                    obtain ⟨ad207, e207, hx207_0⟩ := Kd.at_string HR1_0.out x5_1 p207 q207
                    cases e207
                    replace hx207_0 := (HB.out.cell (World.block_lt_of_cell? w _ hx207_0)).trans hx207_0
                    replace p207 := eq_true p207
                    replace q207 := eq_true q207
                    go_wp2_with (first | (go_at_call 76; (with_reducible refine (spec_l2Fits.calls (rdOf ByteArray.empty l0_0 x5_1) (rdOf ByteArray.empty l1_0 x5_1) false _ A16.out).mono ?_); rintro e w' ⟨rfl, ⟨nd, rfl⟩⟩; (try first | exact ⟨rfl, _, World.drewN_drewN _ _ _⟩ | exact ⟨rfl, _, Eq.trans (World.drewN_drewN _ _ _) (congrArg (World.drewN _) (Nat.add_assoc _ _ _))⟩)))
                    repeat (go_quiet (first | (go_at_call 76; (with_reducible refine (spec_l2Fits.calls (rdOf ByteArray.empty l0_0 x5_1) (rdOf ByteArray.empty l1_0 x5_1) false _ A16.out).mono ?_); rintro e w' ⟨rfl, ⟨nd, rfl⟩⟩; (try first | exact ⟨rfl, _, World.drewN_drewN _ _ _⟩ | exact ⟨rfl, _, Eq.trans (World.drewN_drewN _ _ _) (congrArg (World.drewN _) (Nat.add_assoc _ _ _))⟩))); try go_wp2_with (first | (go_at_call 76; (with_reducible refine (spec_l2Fits.calls (rdOf ByteArray.empty l0_0 x5_1) (rdOf ByteArray.empty l1_0 x5_1) false _ A16.out).mono ?_); rintro e w' ⟨rfl, ⟨nd, rfl⟩⟩; (try first | exact ⟨rfl, _, World.drewN_drewN _ _ _⟩ | exact ⟨rfl, _, Eq.trans (World.drewN_drewN _ _ _) (congrArg (World.drewN _) (Nat.add_assoc _ _ _))⟩))))
                    go_ret
                    exact ⟨by first | rfl | (simp [errW_none, errW_some] <;> rfl) | (simp [*, errW_none, errW_some] <;> rfl), by repeat (first | (with_reducible first | exact HB.out | apply below_alloc | apply pw_below_drewN | apply below_drew1 | refine below_set ?_ GE204.out | refine below_set ?_ GE205.out) | exact HB.out)⟩
                · rw [if_neg c15] at H
                  exact absurd H (by simp)
              · rw [if_neg c14] at H
                exact absurd H (by simp)
            · rw [if_neg c13] at H
              exact absurd H (by simp)
          · replace c12 := Bool.eq_false_iff.mpr c12
            subst c12
            have H1 : (if a0_1.toList = a1_1.toList then (if a0_2.toList = a1_2.toList then (some (a0_3.toList == a1_3.toList)) else (some false)) else (some false)) = some r := by rw [if_neg (show ¬ (false = true) by decide)] at H; exact H
            clear H
            have H := H1
            clear H1
            by_cases c24 : a0_1.toList = a1_1.toList
            · rw [if_pos c24] at H
              have c24b0 : (a0_1.toList == a1_1.toList) = true := beq_iff_eq.mpr c24
              have c24b1 : (a0_1.toList != a1_1.toList) = false := bne_eq_false_iff_eq.mpr c24
              clear c24
              by_cases c25 : a0_2.toList = a1_2.toList
              · rw [if_pos c25] at H
                have c25b0 : (a0_2.toList == a1_2.toList) = true := beq_iff_eq.mpr c25
                have c25b1 : (a0_2.toList != a1_2.toList) = false := bne_eq_false_iff_eq.mpr c25
                clear c25
                obtain rfl := Option.some.inj H
                have hnb26 := NB204_205.out
                have hnc26 := NB205_204.out
                have hcz27_0 : wc.cell? ⟨gb204, 0, none⟩ = some (.slice A0_0 l0_0.length c0_0) := (blk_cell BK204.out 0).trans rfl
                have hcz27_1 : wc.cell? ⟨gb204, 1, none⟩ = some (.string a0_1) := (blk_cell BK204.out 1).trans rfl
                have hcz27_2 : wc.cell? ⟨gb204, 2, none⟩ = some (.string a0_2) := (blk_cell BK204.out 2).trans rfl
                have hcz27_3 : wc.cell? ⟨gb204, 3, none⟩ = some (.string a0_3) := (blk_cell BK204.out 3).trans rfl
                have hfz27_0 := blk_frozen BK204.out 0
                have hfz27_1 := blk_frozen BK204.out 1
                have hfz27_2 := blk_frozen BK204.out 2
                have hfz27_3 := blk_frozen BK204.out 3
                have hcz28_0 : wc.cell? ⟨gb205, 0, none⟩ = some (.slice A1_0 l1_0.length c1_0) := (blk_cell BK205.out 0).trans rfl
                have hcz28_1 : wc.cell? ⟨gb205, 1, none⟩ = some (.string a1_1) := (blk_cell BK205.out 1).trans rfl
                have hcz28_2 : wc.cell? ⟨gb205, 2, none⟩ = some (.string a1_2) := (blk_cell BK205.out 2).trans rfl
                have hcz28_3 : wc.cell? ⟨gb205, 3, none⟩ = some (.string a1_3) := (blk_cell BK205.out 3).trans rfl
                have hfz28_0 := blk_frozen BK205.out 0
                have hfz28_1 := blk_frozen BK205.out 1
                have hfz28_2 := blk_frozen BK205.out 2
                have hfz28_3 := blk_frozen BK205.out 3
                go_wp2
                repeat (go_quiet (fail); try go_wp2)
                go_ret
                exact ⟨by first | rfl | (simp [errW_none, errW_some] <;> rfl) | (simp [*, errW_none, errW_some] <;> rfl), by repeat (first | (with_reducible first | exact HB.out | apply below_alloc | apply pw_below_drewN | apply below_drew1 | refine below_set ?_ GE204.out | refine below_set ?_ GE205.out) | exact HB.out)⟩
              · rw [if_neg c25] at H
                have c25b0 : (a0_2.toList == a1_2.toList) = false := beq_eq_false_iff_ne.mpr c25
                have c25b1 : (a0_2.toList != a1_2.toList) = true := bne_iff_ne.mpr c25
                obtain rfl := Option.some.inj H
                have hnb29 := NB204_205.out
                have hnc29 := NB205_204.out
                have hcz30_0 : wc.cell? ⟨gb204, 0, none⟩ = some (.slice A0_0 l0_0.length c0_0) := (blk_cell BK204.out 0).trans rfl
                have hcz30_1 : wc.cell? ⟨gb204, 1, none⟩ = some (.string a0_1) := (blk_cell BK204.out 1).trans rfl
                have hcz30_2 : wc.cell? ⟨gb204, 2, none⟩ = some (.string a0_2) := (blk_cell BK204.out 2).trans rfl
                have hcz30_3 : wc.cell? ⟨gb204, 3, none⟩ = some (.string a0_3) := (blk_cell BK204.out 3).trans rfl
                have hfz30_0 := blk_frozen BK204.out 0
                have hfz30_1 := blk_frozen BK204.out 1
                have hfz30_2 := blk_frozen BK204.out 2
                have hfz30_3 := blk_frozen BK204.out 3
                have hcz31_0 : wc.cell? ⟨gb205, 0, none⟩ = some (.slice A1_0 l1_0.length c1_0) := (blk_cell BK205.out 0).trans rfl
                have hcz31_1 : wc.cell? ⟨gb205, 1, none⟩ = some (.string a1_1) := (blk_cell BK205.out 1).trans rfl
                have hcz31_2 : wc.cell? ⟨gb205, 2, none⟩ = some (.string a1_2) := (blk_cell BK205.out 2).trans rfl
                have hcz31_3 : wc.cell? ⟨gb205, 3, none⟩ = some (.string a1_3) := (blk_cell BK205.out 3).trans rfl
                have hfz31_0 := blk_frozen BK205.out 0
                have hfz31_1 := blk_frozen BK205.out 1
                have hfz31_2 := blk_frozen BK205.out 2
                have hfz31_3 := blk_frozen BK205.out 3
                go_wp2
                repeat (go_quiet (fail); try go_wp2)
                go_ret
                exact ⟨by first | rfl | (simp [errW_none, errW_some] <;> rfl) | (simp [*, errW_none, errW_some] <;> rfl), by repeat (first | (with_reducible first | exact HB.out | apply below_alloc | apply pw_below_drewN | apply below_drew1 | refine below_set ?_ GE204.out | refine below_set ?_ GE205.out) | exact HB.out)⟩
            · rw [if_neg c24] at H
              have c24b0 : (a0_1.toList == a1_1.toList) = false := beq_eq_false_iff_ne.mpr c24
              have c24b1 : (a0_1.toList != a1_1.toList) = true := bne_iff_ne.mpr c24
              obtain rfl := Option.some.inj H
              have hnb32 := NB204_205.out
              have hnc32 := NB205_204.out
              have hcz33_0 : wc.cell? ⟨gb204, 0, none⟩ = some (.slice A0_0 l0_0.length c0_0) := (blk_cell BK204.out 0).trans rfl
              have hcz33_1 : wc.cell? ⟨gb204, 1, none⟩ = some (.string a0_1) := (blk_cell BK204.out 1).trans rfl
              have hcz33_2 : wc.cell? ⟨gb204, 2, none⟩ = some (.string a0_2) := (blk_cell BK204.out 2).trans rfl
              have hcz33_3 : wc.cell? ⟨gb204, 3, none⟩ = some (.string a0_3) := (blk_cell BK204.out 3).trans rfl
              have hfz33_0 := blk_frozen BK204.out 0
              have hfz33_1 := blk_frozen BK204.out 1
              have hfz33_2 := blk_frozen BK204.out 2
              have hfz33_3 := blk_frozen BK204.out 3
              have hcz34_0 : wc.cell? ⟨gb205, 0, none⟩ = some (.slice A1_0 l1_0.length c1_0) := (blk_cell BK205.out 0).trans rfl
              have hcz34_1 : wc.cell? ⟨gb205, 1, none⟩ = some (.string a1_1) := (blk_cell BK205.out 1).trans rfl
              have hcz34_2 : wc.cell? ⟨gb205, 2, none⟩ = some (.string a1_2) := (blk_cell BK205.out 2).trans rfl
              have hcz34_3 : wc.cell? ⟨gb205, 3, none⟩ = some (.string a1_3) := (blk_cell BK205.out 3).trans rfl
              have hfz34_0 := blk_frozen BK205.out 0
              have hfz34_1 := blk_frozen BK205.out 1
              have hfz34_2 := blk_frozen BK205.out 2
              have hfz34_3 := blk_frozen BK205.out 3
              go_wp2
              repeat (go_quiet (fail); try go_wp2)
              go_ret
              exact ⟨by first | rfl | (simp [errW_none, errW_some] <;> rfl) | (simp [*, errW_none, errW_some] <;> rfl), by repeat (first | (with_reducible first | exact HB.out | apply below_alloc | apply pw_below_drewN | apply below_drew1 | refine below_set ?_ GE204.out | refine below_set ?_ GE205.out) | exact HB.out)⟩

end Go.Proofs.YtcckamdpncbkoaaDoor.G

namespace Go.Proofs.YtcckamdpncbkoaaDoor.G
open Go.RowKit Go.Proofs.YtcckamdpncbkoaaDoorW.PrintWords Go.Proofs.YtcckamdpncbkoaaDoorW.PrintLast Go.Proofs.YtcckamdpncbkoaaDoorW.PrintMore
open Go.Proofs.YtcckamdpncbkoaaDoor.Gl Go.Proofs.YtcckamdpncbkoaaDoor.Ext
attribute [local go_sem] max2_int min2_int max_two min_two max_three min_three max_four min_four   -- for this text's walks alone
set_option linter.unusedVariables false
set_option linter.unusedSimpArgs false

/-! ### stringslite_HasPrefix: function 98 -/
def stringslite_HasPrefix.f (a0 : ByteArray) (a1 : ByteArray) : Option (Bool) := if (a0.size : Int) ≥ (a1.size : Int) then (if 0 ≤ (a1.size : Int) then (if (a1.size : Int) ≤ (a0.size : Int) then (some ((a0.extract 0 ((a1.size : Int) : Int).toNat).toList == a1.toList)) else (none)) else (none)) else (some false)
set_option maxHeartbeats 8000000 in
set_option maxRecDepth 100000 in
theorem stringslite_HasPrefix.calls (a0 : ByteArray) (a1 : ByteArray) (r : Bool) (w : World) (h : stringslite_HasPrefix.f a0 a1 = some r) :
    Calls Tryd.prog 98 #[.string a0, .string a1] w fun e w' => e = .returned (.bool r) ∧ Drawn0 w w' := by
  have H : (if (a0.size : Int) ≥ (a1.size : Int) then (if 0 ≤ (a1.size : Int) then (if (a1.size : Int) ≤ (a0.size : Int) then (some ((a0.extract 0 ((a1.size : Int) : Int).toNat).toList == a1.toList)) else (none)) else (none)) else (some false)) = some r := h
  clear h
  by_cases c3 : (a0.size : Int) ≥ (a1.size : Int)
  · rw [if_pos c3] at H
    have c3b0 : decide ((a1.size : Int) ≤ (a0.size : Int)) = true := decide_eq_true c3
    have c3b1 : decide (a1.size ≤ a0.size) = true := decide_eq_true (Int.ofNat_le.mp c3)
    clear c3
    by_cases c4 : 0 ≤ (a1.size : Int)
    · rw [if_pos c4] at H
      have c4b0 := eq_true c4
      have c4b1 : decide (0 ≤ (a1.size : Int)) = true := decide_eq_true c4
      clear c4
      by_cases c5 : (a1.size : Int) ≤ (a0.size : Int)
      · rw [if_pos c5] at H
        have c5b0 := eq_true c5
        have c5b1 : decide ((a1.size : Int) ≤ (a0.size : Int)) = true := decide_eq_true c5
        clear c5
        obtain rfl := Option.some.inj H
        go_enter Tryd.func98, Tryd.ntmps98
        go_wp2
        go_ret
        exact ⟨by first | rfl | (simp; done) | (simp [*]; done), by repeat (first | exact Drawn0.refl _ | apply Drawn0.step)⟩
      · rw [if_neg c5] at H
        exact absurd H (by simp)
    · rw [if_neg c4] at H
      exact absurd H (by simp)
  · rw [if_neg c3] at H
    have c3b0 : decide ((a1.size : Int) ≤ (a0.size : Int)) = false := decide_eq_false c3
    have c3b1 : decide (a1.size ≤ a0.size) = false := decide_eq_false (fun h => c3 (Int.ofNat_le.mpr h))
    clear c3
    obtain rfl := Option.some.inj H
    go_enter Tryd.func98, Tryd.ntmps98
    go_wp2
    go_ret
    exact ⟨by first | rfl | (simp; done) | (simp [*]; done), by repeat (first | exact Drawn0.refl _ | apply Drawn0.step)⟩

end Go.Proofs.YtcckamdpncbkoaaDoor.G

namespace Go.Proofs.YtcckamdpncbkoaaDoor.G
open Go.RowKit Go.Proofs.YtcckamdpncbkoaaDoorW.PrintWords Go.Proofs.YtcckamdpncbkoaaDoorW.PrintLast Go.Proofs.YtcckamdpncbkoaaDoorW.PrintMore
open Go.Proofs.YtcckamdpncbkoaaDoor.Gl Go.Proofs.YtcckamdpncbkoaaDoor.Ext
attribute [local go_sem] max2_int min2_int max_two min_two max_three min_three max_four min_four   -- for this text's walks alone
set_option linter.unusedVariables false
set_option linter.unusedSimpArgs false

/-! ### strings_HasPrefix: function 77 -/
def strings_HasPrefix.f (a0 : ByteArray) (a1 : ByteArray) : Option (Bool) := (stringslite_HasPrefix.f a0 a1).bind fun t214 => (some t214)
set_option maxHeartbeats 8000000 in
set_option maxRecDepth 100000 in
theorem strings_HasPrefix.calls (a0 : ByteArray) (a1 : ByteArray) (r : Bool) (w : World) (h : strings_HasPrefix.f a0 a1 = some r) :
    Calls Tryd.prog 77 #[.string a0, .string a1] w fun e w' => e = .returned (.bool r) ∧ Drawn0 w w' := by
  have H : ((stringslite_HasPrefix.f a0 a1).bind fun t214 => (some t214)) = some r := h
  clear h
  replace H := Option.bind_eq_some_iff.mp H
  obtain ⟨t214, A30, H⟩ := H
  replace H : (some t214) = some r := H
  have A3 := Aside0.mk A30
  clear A30
  obtain rfl := Option.some.inj H
  go_enter Tryd.func77, Tryd.ntmps77
  go_wp2_with (first | ((with_reducible refine gate_callee (f := 98) rfl ?_); refine goesL_ (some 7) rfl rfl Tryd.func98 (by kernel_rfl) rfl #[.string a0, .string a1] rfl (by (try simp only [List.map_toArray, List.map_cons, List.map_nil]); first | done | rfl | (simp only [List.length_drop, List.length_take]; rfl)) ?_; (with_reducible refine (stringslite_HasPrefix.calls a0 a1 t214 _ A3.out).mono ?_); rintro e w' ⟨rfl, ⟨nd, rfl⟩⟩; refine ⟨_, rfl, ?_⟩))
  go_ret
  exact ⟨by first | rfl | (simp; done) | (simp [*]; done), by repeat (first | exact Drawn0.refl _ | apply Drawn0.step)⟩

end Go.Proofs.YtcckamdpncbkoaaDoor.G

namespace Go.Proofs.YtcckamdpncbkoaaDoor.G
open Go.RowKit Go.Proofs.YtcckamdpncbkoaaDoorW.PrintWords Go.Proofs.YtcckamdpncbkoaaDoorW.PrintLast Go.Proofs.YtcckamdpncbkoaaDoorW.PrintMore
open Go.Proofs.YtcckamdpncbkoaaDoor.Gl Go.Proofs.YtcckamdpncbkoaaDoor.Ext
attribute [local go_sem] max2_int min2_int max_two min_two max_three min_three max_four min_four   -- for this text's walks alone
set_option linter.unusedVariables false
set_option linter.unusedSimpArgs false

/-! ### impl_mayBeSame: function 48 -/
mutual
def impl_mayBeSame.j0 : Nat → Bool → List ByteArray → ByteArray → ByteArray → ByteArray → List ByteArray → ByteArray → ByteArray → ByteArray → Option (Bool)
  | 0, _, _, _, _, _, _, _, _, _ => none
  | k + 1, x26, x216000, x216001, x216002, x216003, x217000, x217001, x217002, x217003 => if x26 = true then (some false) else (impl_mayBeSame.l0 k 0 x216000 x216001 x216002 x216003 x217000 x217001 x217002 x217003)
def impl_mayBeSame.l0 : Nat → Int → List ByteArray → ByteArray → ByteArray → ByteArray → List ByteArray → ByteArray → ByteArray → ByteArray → Option (Bool)
  | 0, _, _, _, _, _, _, _, _, _ => none
  | k + 1, x5, x216000, x216001, x216002, x216003, x217000, x217001, x217002, x217003 => if x5 < (mn (x216000.length : Int) (x217000.length : Int)) then (if 0 ≤ x5 then (if x5 < (x216000.length : Int) then (if x5 < (x217000.length : Int) then (if (rdOf ByteArray.empty x216000 x5).toList = (rdOf ByteArray.empty x217000 x5).toList then (impl_mayBeSame.l0 k (wrap64 (x5 + 1)) x216000 x216001 x216002 x216003 x217000 x217001 x217002 x217003) else (if ((rdOf ByteArray.empty x216000 x5).size : Int) = 1 then ((strings_HasPrefix.f (rdOf ByteArray.empty x217000 x5) (rdOf ByteArray.empty x216000 x5)).bind fun t219 => (if t219 = true then (impl_mayBeSame.l0 k (wrap64 (x5 + 1)) x216000 x216001 x216002 x216003 x217000 x217001 x217002 x217003) else (if ((rdOf ByteArray.empty x217000 x5).size : Int) = 1 then ((strings_HasPrefix.f (rdOf ByteArray.empty x216000 x5) (rdOf ByteArray.empty x217000 x5)).bind fun t220 => (if t220 = true then (impl_mayBeSame.l0 k (wrap64 (x5 + 1)) x216000 x216001 x216002 x216003 x217000 x217001 x217002 x217003) else (some false))) else (some false)))) else (if ((rdOf ByteArray.empty x217000 x5).size : Int) = 1 then ((strings_HasPrefix.f (rdOf ByteArray.empty x216000 x5) (rdOf ByteArray.empty x217000 x5)).bind fun t221 => (if t221 = true then (impl_mayBeSame.l0 k (wrap64 (x5 + 1)) x216000 x216001 x216002 x216003 x217000 x217001 x217002 x217003) else (some false))) else (some false)))) else (none)) else (none)) else (none)) else (some true)
end
def impl_mayBeSame.f (k : Nat) (l0_0 : List ByteArray) (a0_1 : ByteArray) (a0_2 : ByteArray) (a0_3 : ByteArray) (l1_0 : List ByteArray) (a1_1 : ByteArray) (a1_2 : ByteArray) (a1_3 : ByteArray) : Option (Bool) := if a0_1.toList = a1_1.toList then (if a0_2.toList = a1_2.toList then (impl_mayBeSame.j0 k (a0_3.toList != a1_3.toList) l0_0 a0_1 a0_2 a0_3 l1_0 a1_1 a1_2 a1_3) else (impl_mayBeSame.j0 k true l0_0 a0_1 a0_2 a0_3 l1_0 a1_1 a1_2 a1_3)) else (impl_mayBeSame.j0 k true l0_0 a0_1 a0_2 a0_3 l1_0 a1_1 a1_2 a1_3)
theorem impl_mayBeSame.mono_l : ∀ k, (∀ y0 y1 y2 y3 y4 y5 y6 y7 y8, LeO (impl_mayBeSame.j0 k y0 y1 y2 y3 y4 y5 y6 y7 y8) (impl_mayBeSame.j0 (k + 1) y0 y1 y2 y3 y4 y5 y6 y7 y8)) ∧ (∀ y0 y1 y2 y3 y4 y5 y6 y7 y8, LeO (impl_mayBeSame.l0 k y0 y1 y2 y3 y4 y5 y6 y7 y8) (impl_mayBeSame.l0 (k + 1) y0 y1 y2 y3 y4 y5 y6 y7 y8))
  | 0 => ⟨fun _ _ _ _ _ _ _ _ _ r h => by simp [impl_mayBeSame.j0] at h, fun _ _ _ _ _ _ _ _ _ r h => by simp [impl_mayBeSame.l0] at h⟩
  | k + 1 => by
    obtain ⟨ih0, ih1⟩ := impl_mayBeSame.mono_l k
    refine ⟨?_, ?_⟩
    · intro y0 y1 y2 y3 y4 y5 y6 y7 y8
      unfold impl_mayBeSame.j0
      repeat' first
      | (with_reducible exact ih0 _ _ _ _ _ _ _ _ _)
      | (with_reducible exact ih1 _ _ _ _ _ _ _ _ _)
      | (with_reducible exact LeO.refl _)
      | (with_reducible exact LeO.none _)
      | (with_reducible refine LeO.ite ?_ ?_)
      | (with_reducible refine LeO.bind ?_ (fun _ => ?_))
      | exact ih0 _ _ _ _ _ _ _ _ _
      | exact ih1 _ _ _ _ _ _ _ _ _
      | exact LeO.none _
      | refine LeO.ite ?_ ?_
      | refine LeO.bind ?_ (fun _ => ?_)
    · intro y0 y1 y2 y3 y4 y5 y6 y7 y8
      unfold impl_mayBeSame.l0
      repeat' first
      | (with_reducible exact ih0 _ _ _ _ _ _ _ _ _)
      | (with_reducible exact ih1 _ _ _ _ _ _ _ _ _)
      | (with_reducible exact LeO.refl _)
      | (with_reducible exact LeO.none _)
      | (with_reducible refine LeO.ite ?_ ?_)
      | (with_reducible refine LeO.bind ?_ (fun _ => ?_))
      | exact ih0 _ _ _ _ _ _ _ _ _
      | exact ih1 _ _ _ _ _ _ _ _ _
      | exact LeO.none _
      | refine LeO.ite ?_ ?_
      | refine LeO.bind ?_ (fun _ => ?_)
theorem impl_mayBeSame.mono : ∀ a0 a1 a2 a3 a4 a5 a6 a7 k, LeO (impl_mayBeSame.f k a0 a1 a2 a3 a4 a5 a6 a7) (impl_mayBeSame.f (k + 1) a0 a1 a2 a3 a4 a5 a6 a7) := by
  intro a0 a1 a2 a3 a4 a5 a6 a7 k
  obtain ⟨ih0, ih1⟩ := impl_mayBeSame.mono_l k
  unfold impl_mayBeSame.f
  repeat' first
      | (with_reducible exact ih0 _ _ _ _ _ _ _ _ _)
      | (with_reducible exact ih1 _ _ _ _ _ _ _ _ _)
      | (with_reducible exact LeO.refl _)
      | (with_reducible exact LeO.none _)
      | (with_reducible refine LeO.ite ?_ ?_)
      | (with_reducible refine LeO.bind ?_ (fun _ => ?_))
      | exact ih0 _ _ _ _ _ _ _ _ _
      | exact ih1 _ _ _ _ _ _ _ _ _
      | exact LeO.none _
      | refine LeO.ite ?_ ?_
      | refine LeO.bind ?_ (fun _ => ?_)
set_option maxHeartbeats 8000000 in
set_option maxRecDepth 100000 in
theorem impl_mayBeSame.calls (k : Nat) (A0_0 : Option Addr) (c0_0 : Nat) (l0_0 : List ByteArray) (a0_1 : ByteArray) (a0_2 : ByteArray) (a0_3 : ByteArray) (A1_0 : Option Addr) (c1_0 : Nat) (l1_0 : List ByteArray) (a1_1 : ByteArray) (a1_2 : ByteArray) (a1_3 : ByteArray) (r : Bool) (w : World) (hr0_0 : Kd.C Kd.string w A0_0 l0_0.length l0_0) (hc0_0 : l0_0.length ≤ c0_0) (hr1_0 : Kd.C Kd.string w A1_0 l1_0.length l1_0) (hc1_0 : l1_0.length ≤ c1_0) (h : impl_mayBeSame.f k l0_0 a0_1 a0_2 a0_3 l1_0 a1_1 a1_2 a1_3 = some r) :
    Calls Tryd.prog 48 #[.agg #[.slice A0_0 l0_0.length c0_0, .string a0_1, .string a0_2, .string a0_3], .agg #[.slice A1_0 l1_0.length c1_0, .string a1_1, .string a1_2, .string a1_3]] w fun e w' => e = .returned (.bool r) ∧ Below w.heap.size w w' := by
  have hu27 := Tryd.underlying27
  have HR0_0 := Aside0.mk hr0_0
  have HC0_0 := Aside0.mk hc0_0
  clear hr0_0 hc0_0
  have HR1_0 := Aside0.mk hr1_0
  have HC1_0 := Aside0.mk hc1_0
  clear hr1_0 hc1_0
  have HB := Aside0.mk (Below.refl w.heap.size w)
  have H : (if a0_1.toList = a1_1.toList then (if a0_2.toList = a1_2.toList then (impl_mayBeSame.j0 k (a0_3.toList != a1_3.toList) l0_0 a0_1 a0_2 a0_3 l1_0 a1_1 a1_2 a1_3) else (impl_mayBeSame.j0 k true l0_0 a0_1 a0_2 a0_3 l1_0 a1_1 a1_2 a1_3)) else (impl_mayBeSame.j0 k true l0_0 a0_1 a0_2 a0_3 l1_0 a1_1 a1_2 a1_3)) = some r := h
  clear h
  have HC3 := Aside0.mk H
  clear H
  go_enter Tryd.func48, Tryd.ntmps48
  go_upto_region 1 with (first | ((with_reducible refine gate_dst (N := 2) rfl ?_); (try (refine gate_guard (by rfl) ?_; dsimp only)); refine box_event ?hg (N := 2) ?hd (cs := #[.slice A0_0 l0_0.length c0_0, .string a0_1, .string a0_2, .string a0_3]) (t := 27) ?hr ?_; (case hd => rfl); (case hg => rfl); (case hr => first | (go_simp; done) | (go_simp; rfl)); intro gb215 hg w4 hbox hb; have n0_ := Aside0.mk (below_step (by repeat (first | (with_reducible first | exact HB.out | apply below_alloc | apply pw_below_drewN | apply below_drew1) | exact HB.out)) hb); have n1_ := Aside0.mk (hbox); have n2_ := Aside0.mk ((by rw [hg]; exact (below_size (by repeat (first | (with_reducible first | exact HB.out | apply below_alloc | apply pw_below_drewN | apply below_drew1) | exact HB.out))) : w.heap.size ≤ gb215)); have n3_ := Aside0.mk ((by rw [hg]; exact (below_size (by repeat (first | (with_reducible first | exact HB.out | apply below_alloc | apply pw_below_drewN | apply below_drew1) | exact HB.out))) : w.heap.size ≤ gb215)); clear HB; have HB := n0_; have BK215 := n1_; have GW215 := n2_; have GE215 := n3_; clear n0_ n1_ n2_ n3_; clear hb hbox hg) | ((with_reducible refine gate_dst (N := 3) rfl ?_); (try (refine gate_guard (by rfl) ?_; dsimp only)); refine box_event ?hg (N := 3) ?hd (cs := #[.slice A1_0 l1_0.length c1_0, .string a1_1, .string a1_2, .string a1_3]) (t := 27) ?hr ?_; (case hd => rfl); (case hg => rfl); (case hr => first | (go_simp; done) | (go_simp; rfl)); intro gb216 hg w5 hbox hb; have n0_ := Aside0.mk (blk_below (g := gb215) (o := .cells #[.slice A0_0 l0_0.length c0_0, .string a0_1, .string a0_2, .string a0_3] 27 (0, 0)) (by (with_reducible repeat (first | refine blk_drewN ?_ _ | refine blk_drew ?_ | refine blk_alloc ?_ _)); exact BK215.out) hb); have n1_ := Aside0.mk (below_step (by repeat (first | (with_reducible first | exact HB.out | apply below_alloc | apply pw_below_drewN | apply below_drew1 | refine below_set ?_ GE215.out) | exact HB.out)) hb); have n2_ := Aside0.mk (hbox); have n3_ := Aside0.mk ((by rw [hg]; exact (below_size (by repeat (first | (with_reducible first | exact HB.out | apply below_alloc | apply pw_below_drewN | apply below_drew1 | refine below_set ?_ GE215.out) | exact HB.out))) : w.heap.size ≤ gb216)); have n4_ := Aside0.mk ((by rw [hg]; exact (below_size (by repeat (first | (with_reducible first | exact HB.out | apply below_alloc | apply pw_below_drewN | apply below_drew1 | refine below_set ?_ GE215.out) | exact HB.out))) : w.heap.size ≤ gb216)); have n5_ := Aside0.mk ((by rw [hg]; exact Nat.ne_of_lt (blk_lt (g := gb215) (o := .cells #[.slice A0_0 l0_0.length c0_0, .string a0_1, .string a0_2, .string a0_3] 27 (0, 0)) (by (with_reducible repeat (first | refine blk_drewN ?_ _ | refine blk_drew ?_ | refine blk_alloc ?_ _)); exact BK215.out)) : gb215 ≠ gb216)); have n6_ := Aside0.mk ((by rw [hg]; exact Nat.ne_of_gt (blk_lt (g := gb215) (o := .cells #[.slice A0_0 l0_0.length c0_0, .string a0_1, .string a0_2, .string a0_3] 27 (0, 0)) (by (with_reducible repeat (first | refine blk_drewN ?_ _ | refine blk_drew ?_ | refine blk_alloc ?_ _)); exact BK215.out)) : gb216 ≠ gb215)); clear BK215; clear HB; have BK215 := n0_; have HB := n1_; have BK216 := n2_; have GW216 := n3_; have GE216 := n4_; have NB215_216 := n5_; have NB216_215 := n6_; clear n0_ n1_ n2_ n3_ n4_ n5_ n6_; clear hb hbox hg))
  repeat (go_quiet (first | ((with_reducible refine gate_dst (N := 2) rfl ?_); (try (refine gate_guard (by rfl) ?_; dsimp only)); refine box_event ?hg (N := 2) ?hd (cs := #[.slice A0_0 l0_0.length c0_0, .string a0_1, .string a0_2, .string a0_3]) (t := 27) ?hr ?_; (case hd => rfl); (case hg => rfl); (case hr => first | (go_simp; done) | (go_simp; rfl)); intro gb215 hg w4 hbox hb; have n0_ := Aside0.mk (below_step (by repeat (first | (with_reducible first | exact HB.out | apply below_alloc | apply pw_below_drewN | apply below_drew1) | exact HB.out)) hb); have n1_ := Aside0.mk (hbox); have n2_ := Aside0.mk ((by rw [hg]; exact (below_size (by repeat (first | (with_reducible first | exact HB.out | apply below_alloc | apply pw_below_drewN | apply below_drew1) | exact HB.out))) : w.heap.size ≤ gb215)); have n3_ := Aside0.mk ((by rw [hg]; exact (below_size (by repeat (first | (with_reducible first | exact HB.out | apply below_alloc | apply pw_below_drewN | apply below_drew1) | exact HB.out))) : w.heap.size ≤ gb215)); clear HB; have HB := n0_; have BK215 := n1_; have GW215 := n2_; have GE215 := n3_; clear n0_ n1_ n2_ n3_; clear hb hbox hg) | ((with_reducible refine gate_dst (N := 3) rfl ?_); (try (refine gate_guard (by rfl) ?_; dsimp only)); refine box_event ?hg (N := 3) ?hd (cs := #[.slice A1_0 l1_0.length c1_0, .string a1_1, .string a1_2, .string a1_3]) (t := 27) ?hr ?_; (case hd => rfl); (case hg => rfl); (case hr => first | (go_simp; done) | (go_simp; rfl)); intro gb216 hg w5 hbox hb; have n0_ := Aside0.mk (blk_below (g := gb215) (o := .cells #[.slice A0_0 l0_0.length c0_0, .string a0_1, .string a0_2, .string a0_3] 27 (0, 0)) (by (with_reducible repeat (first | refine blk_drewN ?_ _ | refine blk_drew ?_ | refine blk_alloc ?_ _)); exact BK215.out) hb); have n1_ := Aside0.mk (below_step (by repeat (first | (with_reducible first | exact HB.out | apply below_alloc | apply pw_below_drewN | apply below_drew1 | refine below_set ?_ GE215.out) | exact HB.out)) hb); have n2_ := Aside0.mk (hbox); have n3_ := Aside0.mk ((by rw [hg]; exact (below_size (by repeat (first | (with_reducible first | exact HB.out | apply below_alloc | apply pw_below_drewN | apply below_drew1 | refine below_set ?_ GE215.out) | exact HB.out))) : w.heap.size ≤ gb216)); have n4_ := Aside0.mk ((by rw [hg]; exact (below_size (by repeat (first | (with_reducible first | exact HB.out | apply below_alloc | apply pw_below_drewN | apply below_drew1 | refine below_set ?_ GE215.out) | exact HB.out))) : w.heap.size ≤ gb216)); have n5_ := Aside0.mk ((by rw [hg]; exact Nat.ne_of_lt (blk_lt (g := gb215) (o := .cells #[.slice A0_0 l0_0.length c0_0, .string a0_1, .string a0_2, .string a0_3] 27 (0, 0)) (by (with_reducible repeat (first | refine blk_drewN ?_ _ | refine blk_drew ?_ | refine blk_alloc ?_ _)); exact BK215.out)) : gb215 ≠ gb216)); have n6_ := Aside0.mk ((by rw [hg]; exact Nat.ne_of_gt (blk_lt (g := gb215) (o := .cells #[.slice A0_0 l0_0.length c0_0, .string a0_1, .string a0_2, .string a0_3] 27 (0, 0)) (by (with_reducible repeat (first | refine blk_drewN ?_ _ | refine blk_drew ?_ | refine blk_alloc ?_ _)); exact BK215.out)) : gb216 ≠ gb215)); clear BK215; clear HB; have BK215 := n0_; have HB := n1_; have BK216 := n2_; have GW216 := n3_; have GE216 := n4_; have NB215_216 := n5_; have NB216_215 := n6_; clear n0_ n1_ n2_ n3_ n4_ n5_ n6_; clear hb hbox hg)); go_upto_region 1 with (first | ((with_reducible refine gate_dst (N := 2) rfl ?_); (try (refine gate_guard (by rfl) ?_; dsimp only)); refine box_event ?hg (N := 2) ?hd (cs := #[.slice A0_0 l0_0.length c0_0, .string a0_1, .string a0_2, .string a0_3]) (t := 27) ?hr ?_; (case hd => rfl); (case hg => rfl); (case hr => first | (go_simp; done) | (go_simp; rfl)); intro gb215 hg w4 hbox hb; have n0_ := Aside0.mk (below_step (by repeat (first | (with_reducible first | exact HB.out | apply below_alloc | apply pw_below_drewN | apply below_drew1) | exact HB.out)) hb); have n1_ := Aside0.mk (hbox); have n2_ := Aside0.mk ((by rw [hg]; exact (below_size (by repeat (first | (with_reducible first | exact HB.out | apply below_alloc | apply pw_below_drewN | apply below_drew1) | exact HB.out))) : w.heap.size ≤ gb215)); have n3_ := Aside0.mk ((by rw [hg]; exact (below_size (by repeat (first | (with_reducible first | exact HB.out | apply below_alloc | apply pw_below_drewN | apply below_drew1) | exact HB.out))) : w.heap.size ≤ gb215)); clear HB; have HB := n0_; have BK215 := n1_; have GW215 := n2_; have GE215 := n3_; clear n0_ n1_ n2_ n3_; clear hb hbox hg) | ((with_reducible refine gate_dst (N := 3) rfl ?_); (try (refine gate_guard (by rfl) ?_; dsimp only)); refine box_event ?hg (N := 3) ?hd (cs := #[.slice A1_0 l1_0.length c1_0, .string a1_1, .string a1_2, .string a1_3]) (t := 27) ?hr ?_; (case hd => rfl); (case hg => rfl); (case hr => first | (go_simp; done) | (go_simp; rfl)); intro gb216 hg w5 hbox hb; have n0_ := Aside0.mk (blk_below (g := gb215) (o := .cells #[.slice A0_0 l0_0.length c0_0, .string a0_1, .string a0_2, .string a0_3] 27 (0, 0)) (by (with_reducible repeat (first | refine blk_drewN ?_ _ | refine blk_drew ?_ | refine blk_alloc ?_ _)); exact BK215.out) hb); have n1_ := Aside0.mk (below_step (by repeat (first | (with_reducible first | exact HB.out | apply below_alloc | apply pw_below_drewN | apply below_drew1 | refine below_set ?_ GE215.out) | exact HB.out)) hb); have n2_ := Aside0.mk (hbox); have n3_ := Aside0.mk ((by rw [hg]; exact (below_size (by repeat (first | (with_reducible first | exact HB.out | apply below_alloc | apply pw_below_drewN | apply below_drew1 | refine below_set ?_ GE215.out) | exact HB.out))) : w.heap.size ≤ gb216)); have n4_ := Aside0.mk ((by rw [hg]; exact (below_size (by repeat (first | (with_reducible first | exact HB.out | apply below_alloc | apply pw_below_drewN | apply below_drew1 | refine below_set ?_ GE215.out) | exact HB.out))) : w.heap.size ≤ gb216)); have n5_ := Aside0.mk ((by rw [hg]; exact Nat.ne_of_lt (blk_lt (g := gb215) (o := .cells #[.slice A0_0 l0_0.length c0_0, .string a0_1, .string a0_2, .string a0_3] 27 (0, 0)) (by (with_reducible repeat (first | refine blk_drewN ?_ _ | refine blk_drew ?_ | refine blk_alloc ?_ _)); exact BK215.out)) : gb215 ≠ gb216)); have n6_ := Aside0.mk ((by rw [hg]; exact Nat.ne_of_gt (blk_lt (g := gb215) (o := .cells #[.slice A0_0 l0_0.length c0_0, .string a0_1, .string a0_2, .string a0_3] 27 (0, 0)) (by (with_reducible repeat (first | refine blk_drewN ?_ _ | refine blk_drew ?_ | refine blk_alloc ?_ _)); exact BK215.out)) : gb216 ≠ gb215)); clear BK215; clear HB; have BK215 := n0_; have HB := n1_; have BK216 := n2_; have GW216 := n3_; have GE216 := n4_; have NB215_216 := n5_; have NB216_215 := n6_; clear n0_ n1_ n2_ n3_ n4_ n5_ n6_; clear hb hbox hg)))
  (try simp only [Act.put, List.setIfInBounds_toArray, List.set_cons_zero, List.set_cons_succ])
  go_cut [26] (fun v26 wc => ∃ (kq : Nat) (x26_2 : Bool), v26 = .bool x26_2 ∧ Aside0 (impl_mayBeSame.j0 kq x26_2 l0_0 a0_1 a0_2 a0_3 l1_0 a1_1 a1_2 a1_3 = some r) ∧ Aside0 (kq ≤ k) ∧ Aside0 (wc.heap[gb215]? = some (.cells #[(.slice A0_0 l0_0.length c0_0), .string a0_1, .string a0_2, .string a0_3] 27 (0, 0))) ∧ Aside0 (wc.heap[gb216]? = some (.cells #[(.slice A1_0 l1_0.length c1_0), .string a1_1, .string a1_2, .string a1_3] 27 (0, 0))) ∧ Aside0 (Below w.heap.size w wc))
  case first =>
    have H := HC3.out
    clear HC3
    by_cases c6 : a0_1.toList = a1_1.toList
    · rw [if_pos c6] at H
      have c6b0 : (a0_1.toList == a1_1.toList) = true := beq_iff_eq.mpr c6
      have c6b1 : (a0_1.toList != a1_1.toList) = false := bne_eq_false_iff_eq.mpr c6
      clear c6
      (first | rw [c6b0] | (simp only [i64_w, i32_w]; rw [c6b0]) | skip)
      by_cases c7 : a0_2.toList = a1_2.toList
      · rw [if_pos c7] at H
        have c7b0 : (a0_2.toList == a1_2.toList) = true := beq_iff_eq.mpr c7
        have c7b1 : (a0_2.toList != a1_2.toList) = false := bne_eq_false_iff_eq.mpr c7
        clear c7
        have H' := Aside0.mk H
        clear H
        have hnb8 := NB215_216.out
        have hnc8 := NB216_215.out
        have hcz9_0 : w5.cell? ⟨gb215, 0, none⟩ = some (.slice A0_0 l0_0.length c0_0) := (blk_cell BK215.out 0).trans rfl
        have hcz9_1 : w5.cell? ⟨gb215, 1, none⟩ = some (.string a0_1) := (blk_cell BK215.out 1).trans rfl
        have hcz9_2 : w5.cell? ⟨gb215, 2, none⟩ = some (.string a0_2) := (blk_cell BK215.out 2).trans rfl
        have hcz9_3 : w5.cell? ⟨gb215, 3, none⟩ = some (.string a0_3) := (blk_cell BK215.out 3).trans rfl
        have hfz9_0 := blk_frozen BK215.out 0
        have hfz9_1 := blk_frozen BK215.out 1
        have hfz9_2 := blk_frozen BK215.out 2
        have hfz9_3 := blk_frozen BK215.out 3
        have hcz10_0 : w5.cell? ⟨gb216, 0, none⟩ = some (.slice A1_0 l1_0.length c1_0) := (blk_cell BK216.out 0).trans rfl
        have hcz10_1 : w5.cell? ⟨gb216, 1, none⟩ = some (.string a1_1) := (blk_cell BK216.out 1).trans rfl
        have hcz10_2 : w5.cell? ⟨gb216, 2, none⟩ = some (.string a1_2) := (blk_cell BK216.out 2).trans rfl
        have hcz10_3 : w5.cell? ⟨gb216, 3, none⟩ = some (.string a1_3) := (blk_cell BK216.out 3).trans rfl
        have hfz10_0 := blk_frozen BK216.out 0
        have hfz10_1 := blk_frozen BK216.out 1
        have hfz10_2 := blk_frozen BK216.out 2
        have hfz10_3 := blk_frozen BK216.out 3
        go_wp2
        all_goals
          first
          | (exfalso; (try simp only [decide_eq_true_eq, decide_eq_false_iff_not] at *); first | done | omega)
          | repeat (go_quiet (fail); try go_wp2)
            go_meet
            case rel => exact ⟨_, ((a0_3.toList != a1_3.toList)), (by first | rfl | (simp; done) | (simp [*]; done)), H', ⟨by first | omega | exact Nat.le_refl _⟩, ⟨by (with_reducible repeat (first | refine blk_drewN ?_ _ | refine blk_drew ?_ | refine blk_alloc ?_ _)); exact BK215.out⟩, ⟨by (with_reducible repeat (first | refine blk_drewN ?_ _ | refine blk_drew ?_ | refine blk_alloc ?_ _)); exact BK216.out⟩, ⟨by repeat (first | (with_reducible first | exact HB.out | apply below_alloc | apply pw_below_drewN | apply below_drew1 | refine below_set ?_ GE215.out | refine below_set ?_ GE216.out) | exact HB.out)⟩⟩
      · rw [if_neg c7] at H
        have c7b0 : (a0_2.toList == a1_2.toList) = false := beq_eq_false_iff_ne.mpr c7
        have c7b1 : (a0_2.toList != a1_2.toList) = true := bne_iff_ne.mpr c7
        have H' := Aside0.mk H
        clear H
        have hnb11 := NB215_216.out
        have hnc11 := NB216_215.out
        have hcz12_0 : w5.cell? ⟨gb215, 0, none⟩ = some (.slice A0_0 l0_0.length c0_0) := (blk_cell BK215.out 0).trans rfl
        have hcz12_1 : w5.cell? ⟨gb215, 1, none⟩ = some (.string a0_1) := (blk_cell BK215.out 1).trans rfl
        have hcz12_2 : w5.cell? ⟨gb215, 2, none⟩ = some (.string a0_2) := (blk_cell BK215.out 2).trans rfl
        have hcz12_3 : w5.cell? ⟨gb215, 3, none⟩ = some (.string a0_3) := (blk_cell BK215.out 3).trans rfl
        have hfz12_0 := blk_frozen BK215.out 0
        have hfz12_1 := blk_frozen BK215.out 1
        have hfz12_2 := blk_frozen BK215.out 2
        have hfz12_3 := blk_frozen BK215.out 3
        have hcz13_0 : w5.cell? ⟨gb216, 0, none⟩ = some (.slice A1_0 l1_0.length c1_0) := (blk_cell BK216.out 0).trans rfl
        have hcz13_1 : w5.cell? ⟨gb216, 1, none⟩ = some (.string a1_1) := (blk_cell BK216.out 1).trans rfl
        have hcz13_2 : w5.cell? ⟨gb216, 2, none⟩ = some (.string a1_2) := (blk_cell BK216.out 2).trans rfl
        have hcz13_3 : w5.cell? ⟨gb216, 3, none⟩ = some (.string a1_3) := (blk_cell BK216.out 3).trans rfl
        have hfz13_0 := blk_frozen BK216.out 0
        have hfz13_1 := blk_frozen BK216.out 1
        have hfz13_2 := blk_frozen BK216.out 2
        have hfz13_3 := blk_frozen BK216.out 3
        go_wp2
        all_goals
          first
          | (exfalso; (try simp only [decide_eq_true_eq, decide_eq_false_iff_not] at *); first | done | omega)
          | repeat (go_quiet (fail); try go_wp2)
            go_meet
            case rel => exact ⟨_, (true), (by first | rfl | (simp; done) | (simp [*]; done)), H', ⟨by first | omega | exact Nat.le_refl _⟩, ⟨by (with_reducible repeat (first | refine blk_drewN ?_ _ | refine blk_drew ?_ | refine blk_alloc ?_ _)); exact BK215.out⟩, ⟨by (with_reducible repeat (first | refine blk_drewN ?_ _ | refine blk_drew ?_ | refine blk_alloc ?_ _)); exact BK216.out⟩, ⟨by repeat (first | (with_reducible first | exact HB.out | apply below_alloc | apply pw_below_drewN | apply below_drew1 | refine below_set ?_ GE215.out | refine below_set ?_ GE216.out) | exact HB.out)⟩⟩
    · rw [if_neg c6] at H
      have c6b0 : (a0_1.toList == a1_1.toList) = false := beq_eq_false_iff_ne.mpr c6
      have c6b1 : (a0_1.toList != a1_1.toList) = true := bne_iff_ne.mpr c6
      (first | rw [c6b0] | (simp only [i64_w, i32_w]; rw [c6b0]) | skip)
      have H' := Aside0.mk H
      clear H
      have hnb14 := NB215_216.out
      have hnc14 := NB216_215.out
      have hcz15_0 : w5.cell? ⟨gb215, 0, none⟩ = some (.slice A0_0 l0_0.length c0_0) := (blk_cell BK215.out 0).trans rfl
      have hcz15_1 : w5.cell? ⟨gb215, 1, none⟩ = some (.string a0_1) := (blk_cell BK215.out 1).trans rfl
      have hcz15_2 : w5.cell? ⟨gb215, 2, none⟩ = some (.string a0_2) := (blk_cell BK215.out 2).trans rfl
      have hcz15_3 : w5.cell? ⟨gb215, 3, none⟩ = some (.string a0_3) := (blk_cell BK215.out 3).trans rfl
      have hfz15_0 := blk_frozen BK215.out 0
      have hfz15_1 := blk_frozen BK215.out 1
      have hfz15_2 := blk_frozen BK215.out 2
      have hfz15_3 := blk_frozen BK215.out 3
      have hcz16_0 : w5.cell? ⟨gb216, 0, none⟩ = some (.slice A1_0 l1_0.length c1_0) := (blk_cell BK216.out 0).trans rfl
      have hcz16_1 : w5.cell? ⟨gb216, 1, none⟩ = some (.string a1_1) := (blk_cell BK216.out 1).trans rfl
      have hcz16_2 : w5.cell? ⟨gb216, 2, none⟩ = some (.string a1_2) := (blk_cell BK216.out 2).trans rfl
      have hcz16_3 : w5.cell? ⟨gb216, 3, none⟩ = some (.string a1_3) := (blk_cell BK216.out 3).trans rfl
      have hfz16_0 := blk_frozen BK216.out 0
      have hfz16_1 := blk_frozen BK216.out 1
      have hfz16_2 := blk_frozen BK216.out 2
      have hfz16_3 := blk_frozen BK216.out 3
      go_wp2
      all_goals
        first
        | (exfalso; (try simp only [decide_eq_true_eq, decide_eq_false_iff_not] at *); first | done | omega)
        | repeat (go_quiet (fail); try go_wp2)
          go_meet
          case rel => exact ⟨_, (true), (by first | rfl | (simp; done) | (simp [*]; done)), H', ⟨by first | omega | exact Nat.le_refl _⟩, ⟨by (with_reducible repeat (first | refine blk_drewN ?_ _ | refine blk_drew ?_ | refine blk_alloc ?_ _)); exact BK215.out⟩, ⟨by (with_reducible repeat (first | refine blk_drewN ?_ _ | refine blk_drew ?_ | refine blk_alloc ?_ _)); exact BK216.out⟩, ⟨by repeat (first | (with_reducible first | exact HB.out | apply below_alloc | apply pw_below_drewN | apply below_drew1 | refine below_set ?_ GE215.out | refine below_set ?_ GE216.out) | exact HB.out)⟩⟩
  case rest =>
    clear HC3
    try clear c1
    try clear p2
    try clear c4
    try clear c6
    try clear c6b0
    try clear c6b1
    try clear c7
    try clear c7b0
    try clear c7b1
    try clear c8
    try clear c11
    try clear c14
    try clear hcz10_0
    try clear hcz10_1
    try clear hcz10_2
    try clear hcz10_3
    try clear hcz12_0
    try clear hcz12_1
    try clear hcz12_2
    try clear hcz12_3
    try clear hcz13_0
    try clear hcz13_1
    try clear hcz13_2
    try clear hcz13_3
    try clear hcz15_0
    try clear hcz15_1
    try clear hcz15_2
    try clear hcz15_3
    try clear hcz16_0
    try clear hcz16_1
    try clear hcz16_2
    try clear hcz16_3
    try clear hcz9_0
    try clear hcz9_1
    try clear hcz9_2
    try clear hcz9_3
    try clear hfz10_0
    try clear hfz10_1
    try clear hfz10_2
    try clear hfz10_3
    try clear hfz12_0
    try clear hfz12_1
    try clear hfz12_2
    try clear hfz12_3
    try clear hfz13_0
    try clear hfz13_1
    try clear hfz13_2
    try clear hfz13_3
    try clear hfz15_0
    try clear hfz15_1
    try clear hfz15_2
    try clear hfz15_3
    try clear hfz16_0
    try clear hfz16_1
    try clear hfz16_2
    try clear hfz16_3
    try clear hfz9_0
    try clear hfz9_1
    try clear hfz9_2
    try clear hfz9_3
    obtain ⟨kq, x26_2, rfl, HA, HJ2, BK215, BK216, HB⟩ := hcut
    cases kq with
    | zero => exact absurd HA.out (by simp [impl_mayBeSame.j0])
    | succ kj2 =>
      have H := HA.out
      clear HA
      simp only [impl_mayBeSame.j0] at H
      by_cases c17 : x26_2 = true
      · subst c17
        have H1 : (some false) = some r := by rw [if_pos rfl] at H; exact H
        clear H
        have H := H1
        clear H1
        obtain rfl := Option.some.inj H
        go_wp2
        all_goals
          first
          | (exfalso; (try simp only [decide_eq_true_eq, decide_eq_false_iff_not] at *); first | done | omega)
          | repeat (go_quiet (fail); try go_wp2)
            go_ret
            exact ⟨by first | rfl | (simp [errW_none, errW_some] <;> rfl) | (simp [*, errW_none, errW_some] <;> rfl), by repeat (first | (with_reducible first | exact HB.out | apply below_alloc | apply pw_below_drewN | apply below_drew1 | refine below_set ?_ GE215.out | refine below_set ?_ GE216.out) | exact HB.out)⟩
      · replace c17 := Bool.eq_false_iff.mpr c17
        subst c17
        have H1 : (impl_mayBeSame.l0 kj2 0 l0_0 a0_1 a0_2 a0_3 l1_0 a1_1 a1_2 a1_3) = some r := by rw [if_neg (show ¬ (false = true) by decide)] at H; exact H
        clear H
        have H := H1
        clear H1
        have H' := Aside0.mk H
        clear H
        go_wp2
        all_goals
          first
          | (exfalso; (try simp only [decide_eq_true_eq, decide_eq_false_iff_not] at *); first | done | omega)
          | repeat (go_quiet (fail); try go_wp2)
            go_loopg [5] kj2 (fun kq v5 w' => ∃ (x5_2 : Int), v5 = .int .i64 x5_2 ∧ Aside0 (impl_mayBeSame.l0 kq x5_2 l0_0 a0_1 a0_2 a0_3 l1_0 a1_1 a1_2 a1_3 = some r) ∧ Aside0 (kq ≤ kj2) ∧ Aside0 (w'.heap[gb215]? = some (.cells #[(.slice A0_0 l0_0.length c0_0), .string a0_1, .string a0_2, .string a0_3] 27 (0, 0))) ∧ Aside0 (w'.heap[gb216]? = some (.cells #[(.slice A1_0 l1_0.length c1_0), .string a1_1, .string a1_2, .string a1_3] 27 (0, 0))) ∧ Aside0 (Below w.heap.size w w'))
            case atStart => exact ⟨(0), (by first | rfl | (simp; done) | (simp [*]; done)), H', ⟨Nat.le_refl _⟩, ⟨by (with_reducible repeat (first | refine blk_drewN ?_ _ | refine blk_drew ?_ | refine blk_alloc ?_ _)); exact BK215.out⟩, ⟨by (with_reducible repeat (first | refine blk_drewN ?_ _ | refine blk_drew ?_ | refine blk_alloc ?_ _)); exact BK216.out⟩, ⟨by repeat (first | (with_reducible first | exact HB.out | apply below_alloc | apply pw_below_drewN | apply below_drew1 | refine below_set ?_ GE215.out | refine below_set ?_ GE216.out) | exact HB.out)⟩⟩
            case round =>
              clear H'
              try clear c1
              try clear p2
              try clear c4
              try clear c6
              try clear c6b0
              try clear c6b1
              try clear c7
              try clear c7b0
              try clear c7b1
              try clear c8
              try clear c11
              try clear c14
              try clear c17
              try clear hcz10_0
              try clear hcz10_1
              try clear hcz10_2
              try clear hcz10_3
              try clear hcz12_0
              try clear hcz12_1
              try clear hcz12_2
              try clear hcz12_3
              try clear hcz13_0
              try clear hcz13_1
              try clear hcz13_2
              try clear hcz13_3
              try clear hcz15_0
              try clear hcz15_1
              try clear hcz15_2
              try clear hcz15_3
              try clear hcz16_0
              try clear hcz16_1
              try clear hcz16_2
              try clear hcz16_3
              try clear hcz9_0
              try clear hcz9_1
              try clear hcz9_2
              try clear hcz9_3
              try clear hfz10_0
              try clear hfz10_1
              try clear hfz10_2
              try clear hfz10_3
              try clear hfz12_0
              try clear hfz12_1
              try clear hfz12_2
              try clear hfz12_3
              try clear hfz13_0
              try clear hfz13_1
              try clear hfz13_2
              try clear hfz13_3
              try clear hfz15_0
              try clear hfz15_1
              try clear hfz15_2
              try clear hfz15_3
              try clear hfz16_0
              try clear hfz16_1
              try clear hfz16_2
              try clear hfz16_3
              try clear hfz9_0
              try clear hfz9_1
              try clear hfz9_2
              try clear hfz9_3
              try clear p2
              obtain ⟨x5_2, rfl, HA, HK2, BK215, BK216, HB⟩ := hrel
              cases gk with
              | zero => exact absurd HA.out (by simp [impl_mayBeSame.l0])
              | succ k2 =>
                have H := HA.out
                clear HA
                simp only [impl_mayBeSame.l0] at H
                obtain ⟨ji18, hji18⟩ : ∃ j_ : Int, (mn (l0_0.length : Int) (l1_0.length : Int)) = j_ := ⟨_, rfl⟩
                replace H : (if x5_2 < (ji18) then (if 0 ≤ x5_2 then (if x5_2 < (l0_0.length : Int) then (if x5_2 < (l1_0.length : Int) then (if (rdOf ByteArray.empty l0_0 x5_2).toList = (rdOf ByteArray.empty l1_0 x5_2).toList then (impl_mayBeSame.l0 k2 (wrap64 (x5_2 + 1)) l0_0 a0_1 a0_2 a0_3 l1_0 a1_1 a1_2 a1_3) else (if ((rdOf ByteArray.empty l0_0 x5_2).size : Int) = 1 then ((strings_HasPrefix.f (rdOf ByteArray.empty l1_0 x5_2) (rdOf ByteArray.empty l0_0 x5_2)).bind fun t219 => (if t219 = true then (impl_mayBeSame.l0 k2 (wrap64 (x5_2 + 1)) l0_0 a0_1 a0_2 a0_3 l1_0 a1_1 a1_2 a1_3) else (if ((rdOf ByteArray.empty l1_0 x5_2).size : Int) = 1 then ((strings_HasPrefix.f (rdOf ByteArray.empty l0_0 x5_2) (rdOf ByteArray.empty l1_0 x5_2)).bind fun t220 => (if t220 = true then (impl_mayBeSame.l0 k2 (wrap64 (x5_2 + 1)) l0_0 a0_1 a0_2 a0_3 l1_0 a1_1 a1_2 a1_3) else (some false))) else (some false)))) else (if ((rdOf ByteArray.empty l1_0 x5_2).size : Int) = 1 then ((strings_HasPrefix.f (rdOf ByteArray.empty l0_0 x5_2) (rdOf ByteArray.empty l1_0 x5_2)).bind fun t221 => (if t221 = true then (impl_mayBeSame.l0 k2 (wrap64 (x5_2 + 1)) l0_0 a0_1 a0_2 a0_3 l1_0 a1_1 a1_2 a1_3) else (some false))) else (some false)))) else (none)) else (none)) else (none)) else (some true)) = some r := by first | (rw [hji18] at H; exact H) | (simp only [hji18] at H ⊢; exact H)
                have hji18_ : (if (l1_0.length : Int) < (l0_0.length : Int) then (l1_0.length : Int) else (l0_0.length : Int)) = ji18 := hji18
                by_cases c19 : x5_2 < (ji18)
                · rw [if_pos c19] at H
                  have c19b0 : decide (x5_2 < (ji18)) = true := decide_eq_true c19
                  clear c19
                  by_cases c20 : 0 ≤ x5_2
                  · rw [if_pos c20] at H
                    have c20b0 : decide (0 ≤ x5_2) = true := decide_eq_true c20
                    clear c20
                    by_cases c21 : x5_2 < (l0_0.length : Int)
                    · rw [if_pos c21] at H
                      have c21b0 : decide (x5_2 < (l0_0.length : Int)) = true := decide_eq_true c21
                      clear c21
                      by_cases c22 : x5_2 < (l1_0.length : Int)
                      · rw [if_pos c22] at H
                        have c22b0 : decide (x5_2 < (l1_0.length : Int)) = true := decide_eq_true c22
                        clear c22
                        by_cases c23 : (rdOf ByteArray.empty l0_0 x5_2).toList = (rdOf ByteArray.empty l1_0 x5_2).toList
                        · rw [if_pos c23] at H
                          have c23b0 : ((rdOf ByteArray.empty l0_0 x5_2).toList == (rdOf ByteArray.empty l1_0 x5_2).toList) = true := beq_iff_eq.mpr c23
                          have c23b1 : ((rdOf ByteArray.empty l0_0 x5_2).toList != (rdOf ByteArray.empty l1_0 x5_2).toList) = false := bne_eq_false_iff_eq.mpr c23
                          clear c23
                          have H' := Aside0.mk H
                          clear H
                          have hnb24 := NB215_216.out
                          have hnc24 := NB216_215.out
                          have hcz25_0 : wr.cell? ⟨gb215, 0, none⟩ = some (.slice A0_0 l0_0.length c0_0) := (blk_cell BK215.out 0).trans rfl
                          have hcz25_1 : wr.cell? ⟨gb215, 1, none⟩ = some (.string a0_1) := (blk_cell BK215.out 1).trans rfl
                          have hcz25_2 : wr.cell? ⟨gb215, 2, none⟩ = some (.string a0_2) := (blk_cell BK215.out 2).trans rfl
                          have hcz25_3 : wr.cell? ⟨gb215, 3, none⟩ = some (.string a0_3) := (blk_cell BK215.out 3).trans rfl
                          have hfz25_0 := blk_frozen BK215.out 0
                          have hfz25_1 := blk_frozen BK215.out 1
                          have hfz25_2 := blk_frozen BK215.out 2
                          have hfz25_3 := blk_frozen BK215.out 3
                          have hcz26_0 : wr.cell? ⟨gb216, 0, none⟩ = some (.slice A1_0 l1_0.length c1_0) := (blk_cell BK216.out 0).trans rfl
                          have hcz26_1 : wr.cell? ⟨gb216, 1, none⟩ = some (.string a1_1) := (blk_cell BK216.out 1).trans rfl
                          have hcz26_2 : wr.cell? ⟨gb216, 2, none⟩ = some (.string a1_2) := (blk_cell BK216.out 2).trans rfl
                          have hcz26_3 : wr.cell? ⟨gb216, 3, none⟩ = some (.string a1_3) := (blk_cell BK216.out 3).trans rfl
                          have hfz26_0 := blk_frozen BK216.out 0
                          have hfz26_1 := blk_frozen BK216.out 1
                          have hfz26_2 := blk_frozen BK216.out 2
                          have hfz26_3 := blk_frozen BK216.out 3
                          have p217 : 0 ≤ (x5_2 : Int) := of_decide_eq_true (by first | (with_reducible assumption) | assumption)
                          have q217 : x5_2 < (l0_0.length : Int) := of_decide_eq_true (by first | (with_reducible assumption) | assumption)
                          obtain ⟨ad217, e217, hx217_0⟩ := Kd.at_string HR0_0.out x5_2 p217 q217
                          cases e217
                          replace hx217_0 := (HB.out.cell (World.block_lt_of_cell? w _ hx217_0)).trans hx217_0
                          replace p217 := eq_true p217
                          replace q217 := eq_true q217
                          have p218 : 0 ≤ (x5_2 : Int) := of_decide_eq_true (by first | (with_reducible assumption) | assumption)
                          have q218 : x5_2 < (l1_0.length : Int) := of_decide_eq_true (by first | (with_reducible assumption) | assumption)
                          obtain ⟨ad218, e218, hx218_0⟩ := Kd.at_string HR1_0.out x5_2 p218 q218
                          cases e218
                          replace hx218_0 := (HB.out.cell (World.block_lt_of_cell? w _ hx218_0)).trans hx218_0
                          replace p218 := eq_true p218
                          replace q218 := eq_true q218
                          go_wp2
                          all_goals
                            first
                            | (exfalso; (try simp only [decide_eq_true_eq, decide_eq_false_iff_not] at *); first | done | omega)
                            | repeat (go_quiet (fail); try go_wp2)
                              go_roundg k2
                              case measure => have := HJ2.out; have := HK2.out; omega
                              case rel => exact ⟨(wrap64 (x5_2 + 1)), (by first | rfl | (simp; done) | (simp [*]; done)), H', ⟨by have := HJ2.out; have := HK2.out; omega⟩, ⟨by (with_reducible repeat (first | refine blk_drewN ?_ _ | refine blk_drew ?_ | refine blk_alloc ?_ _)); exact BK215.out⟩, ⟨by (with_reducible repeat (first | refine blk_drewN ?_ _ | refine blk_drew ?_ | refine blk_alloc ?_ _)); exact BK216.out⟩, ⟨by repeat (first | (with_reducible first | exact HB.out | apply below_alloc | apply pw_below_drewN | apply below_drew1 | refine below_set ?_ GE215.out | refine below_set ?_ GE216.out) | exact HB.out)⟩⟩
                        · rw [if_neg c23] at H
                          have c23b0 : ((rdOf ByteArray.empty l0_0 x5_2).toList == (rdOf ByteArray.empty l1_0 x5_2).toList) = false := beq_eq_false_iff_ne.mpr c23
                          have c23b1 : ((rdOf ByteArray.empty l0_0 x5_2).toList != (rdOf ByteArray.empty l1_0 x5_2).toList) = true := bne_iff_ne.mpr c23
                          by_cases c27 : ((rdOf ByteArray.empty l0_0 x5_2).size : Int) = 1
                          · rw [if_pos c27] at H
                            have c27b0 : (((rdOf ByteArray.empty l0_0 x5_2).size : Int) == 1) = true := beq_iff_eq.mpr c27
                            have c27b1 : (((rdOf ByteArray.empty l0_0 x5_2).size : Int) != 1) = false := bne_eq_false_iff_eq.mpr c27
                            clear c27
                            replace H := Option.bind_eq_some_iff.mp H
                            obtain ⟨t219, A280, H⟩ := H
                            replace H : (if t219 = true then (impl_mayBeSame.l0 k2 (wrap64 (x5_2 + 1)) l0_0 a0_1 a0_2 a0_3 l1_0 a1_1 a1_2 a1_3) else (if ((rdOf ByteArray.empty l1_0 x5_2).size : Int) = 1 then ((strings_HasPrefix.f (rdOf ByteArray.empty l0_0 x5_2) (rdOf ByteArray.empty l1_0 x5_2)).bind fun t220 => (if t220 = true then (impl_mayBeSame.l0 k2 (wrap64 (x5_2 + 1)) l0_0 a0_1 a0_2 a0_3 l1_0 a1_1 a1_2 a1_3) else (some false))) else (some false))) = some r := H
                            have A28 := Aside0.mk A280
                            clear A280
                            by_cases c29 : t219 = true
                            · subst c29
                              have H1 : (impl_mayBeSame.l0 k2 (wrap64 (x5_2 + 1)) l0_0 a0_1 a0_2 a0_3 l1_0 a1_1 a1_2 a1_3) = some r := by rw [if_pos rfl] at H; exact H
                              clear H
                              have H := H1
                              clear H1
                              have H' := Aside0.mk H
                              clear H
                              have hnb30 := NB215_216.out
                              have hnc30 := NB216_215.out
                              have hcz31_0 : wr.cell? ⟨gb215, 0, none⟩ = some (.slice A0_0 l0_0.length c0_0) := (blk_cell BK215.out 0).trans rfl
                              have hcz31_1 : wr.cell? ⟨gb215, 1, none⟩ = some (.string a0_1) := (blk_cell BK215.out 1).trans rfl
                              have hcz31_2 : wr.cell? ⟨gb215, 2, none⟩ = some (.string a0_2) := (blk_cell BK215.out 2).trans rfl
                              have hcz31_3 : wr.cell? ⟨gb215, 3, none⟩ = some (.string a0_3) := (blk_cell BK215.out 3).trans rfl
                              have hfz31_0 := blk_frozen BK215.out 0
                              have hfz31_1 := blk_frozen BK215.out 1
                              have hfz31_2 := blk_frozen BK215.out 2
                              have hfz31_3 := blk_frozen BK215.out 3
                              have hcz32_0 : wr.cell? ⟨gb216, 0, none⟩ = some (.slice A1_0 l1_0.length c1_0) := (blk_cell BK216.out 0).trans rfl
                              have hcz32_1 : wr.cell? ⟨gb216, 1, none⟩ = some (.string a1_1) := (blk_cell BK216.out 1).trans rfl
                              have hcz32_2 : wr.cell? ⟨gb216, 2, none⟩ = some (.string a1_2) := (blk_cell BK216.out 2).trans rfl
                              have hcz32_3 : wr.cell? ⟨gb216, 3, none⟩ = some (.string a1_3) := (blk_cell BK216.out 3).trans rfl
                              have hfz32_0 := blk_frozen BK216.out 0
                              have hfz32_1 := blk_frozen BK216.out 1
                              have hfz32_2 := blk_frozen BK216.out 2
                              have hfz32_3 := blk_frozen BK216.out 3
                              have p217 : 0 ≤ (x5_2 : Int) := of_decide_eq_true (by first | (with_reducible assumption) | assumption)
                              have q217 : x5_2 < (l0_0.length : Int) := of_decide_eq_true (by first | (with_reducible assumption) | assumption)
                              obtain ⟨ad217, e217, hx217_0⟩ := Kd.at_string HR0_0.out x5_2 p217 q217
                              cases e217
                              replace hx217_0 := (HB.out.cell (World.block_lt_of_cell? w _ hx217_0)).trans hx217_0
                              replace p217 := eq_true p217
                              replace q217 := eq_true q217
                              have p218 : 0 ≤ (x5_2 : Int) := of_decide_eq_true (by first | (with_reducible assumption) | assumption)
                              have q218 : x5_2 < (l1_0.length : Int) := of_decide_eq_true (by first | (with_reducible assumption) | assumption)
                              obtain ⟨ad218, e218, hx218_0⟩ := Kd.at_string HR1_0.out x5_2 p218 q218
                              cases e218
                              replace hx218_0 := (HB.out.cell (World.block_lt_of_cell? w _ hx218_0)).trans hx218_0
                              replace p218 := eq_true p218
                              replace q218 := eq_true q218
                              go_wp2_with (first | (go_at_call 77; (with_reducible refine (strings_HasPrefix.calls (rdOf ByteArray.empty l1_0 x5_2) (rdOf ByteArray.empty l0_0 x5_2) true _ A28.out).mono ?_); rintro e w' ⟨rfl, ⟨nd, rfl⟩⟩; (try first | exact ⟨rfl, _, World.drewN_drewN _ _ _⟩ | exact ⟨rfl, _, Eq.trans (World.drewN_drewN _ _ _) (congrArg (World.drewN _) (Nat.add_assoc _ _ _))⟩)))
                              all_goals
                                first
                                | (exfalso; (try simp only [decide_eq_true_eq, decide_eq_false_iff_not] at *); first | done | omega)
                                | repeat (go_quiet (first | (go_at_call 77; (with_reducible refine (strings_HasPrefix.calls (rdOf ByteArray.empty l1_0 x5_2) (rdOf ByteArray.empty l0_0 x5_2) true _ A28.out).mono ?_); rintro e w' ⟨rfl, ⟨nd, rfl⟩⟩; (try first | exact ⟨rfl, _, World.drewN_drewN _ _ _⟩ | exact ⟨rfl, _, Eq.trans (World.drewN_drewN _ _ _) (congrArg (World.drewN _) (Nat.add_assoc _ _ _))⟩))); try go_wp2_with (first | (go_at_call 77; (with_reducible refine (strings_HasPrefix.calls (rdOf ByteArray.empty l1_0 x5_2) (rdOf ByteArray.empty l0_0 x5_2) true _ A28.out).mono ?_); rintro e w' ⟨rfl, ⟨nd, rfl⟩⟩; (try first | exact ⟨rfl, _, World.drewN_drewN _ _ _⟩ | exact ⟨rfl, _, Eq.trans (World.drewN_drewN _ _ _) (congrArg (World.drewN _) (Nat.add_assoc _ _ _))⟩))))
                                  go_roundg k2
                                  case measure => have := HJ2.out; have := HK2.out; omega
                                  case rel => exact ⟨(wrap64 (x5_2 + 1)), (by first | rfl | (simp; done) | (simp [*]; done)), H', ⟨by have := HJ2.out; have := HK2.out; omega⟩, ⟨by (with_reducible repeat (first | refine blk_drewN ?_ _ | refine blk_drew ?_ | refine blk_alloc ?_ _)); exact BK215.out⟩, ⟨by (with_reducible repeat (first | refine blk_drewN ?_ _ | refine blk_drew ?_ | refine blk_alloc ?_ _)); exact BK216.out⟩, ⟨by repeat (first | (with_reducible first | exact HB.out | apply below_alloc | apply pw_below_drewN | apply below_drew1 | refine below_set ?_ GE215.out | refine below_set ?_ GE216.out) | exact HB.out)⟩⟩
                            · replace c29 := Bool.eq_false_iff.mpr c29
                              subst c29
                              have H1 : (if ((rdOf ByteArray.empty l1_0 x5_2).size : Int) = 1 then ((strings_HasPrefix.f (rdOf ByteArray.empty l0_0 x5_2) (rdOf ByteArray.empty l1_0 x5_2)).bind fun t220 => (if t220 = true then (impl_mayBeSame.l0 k2 (wrap64 (x5_2 + 1)) l0_0 a0_1 a0_2 a0_3 l1_0 a1_1 a1_2 a1_3) else (some false))) else (some false)) = some r := by rw [if_neg (show ¬ (false = true) by decide)] at H; exact H
                              clear H
                              have H := H1
                              clear H1
                              by_cases c33 : ((rdOf ByteArray.empty l1_0 x5_2).size : Int) = 1
                              · rw [if_pos c33] at H
                                have c33b0 : (((rdOf ByteArray.empty l1_0 x5_2).size : Int) == 1) = true := beq_iff_eq.mpr c33
                                have c33b1 : (((rdOf ByteArray.empty l1_0 x5_2).size : Int) != 1) = false := bne_eq_false_iff_eq.mpr c33
                                clear c33
                                replace H := Option.bind_eq_some_iff.mp H
                                obtain ⟨t220, A340, H⟩ := H
                                replace H : (if t220 = true then (impl_mayBeSame.l0 k2 (wrap64 (x5_2 + 1)) l0_0 a0_1 a0_2 a0_3 l1_0 a1_1 a1_2 a1_3) else (some false)) = some r := H
                                have A34 := Aside0.mk A340
                                clear A340
                                by_cases c35 : t220 = true
                                · subst c35
                                  have H1 : (impl_mayBeSame.l0 k2 (wrap64 (x5_2 + 1)) l0_0 a0_1 a0_2 a0_3 l1_0 a1_1 a1_2 a1_3) = some r := by rw [if_pos rfl] at H; exact H
                                  clear H
                                  have H := H1
                                  clear H1
                                  have H' := Aside0.mk H
                                  clear H
                                  have hnb36 := NB215_216.out
                                  have hnc36 := NB216_215.out
                                  have hcz37_0 : wr.cell? ⟨gb215, 0, none⟩ = some (.slice A0_0 l0_0.length c0_0) := (blk_cell BK215.out 0).trans rfl
                                  have hcz37_1 : wr.cell? ⟨gb215, 1, none⟩ = some (.string a0_1) := (blk_cell BK215.out 1).trans rfl
                                  have hcz37_2 : wr.cell? ⟨gb215, 2, none⟩ = some (.string a0_2) := (blk_cell BK215.out 2).trans rfl
                                  have hcz37_3 : wr.cell? ⟨gb215, 3, none⟩ = some (.string a0_3) := (blk_cell BK215.out 3).trans rfl
                                  have hfz37_0 := blk_frozen BK215.out 0
                                  have hfz37_1 := blk_frozen BK215.out 1
                                  have hfz37_2 := blk_frozen BK215.out 2
                                  have hfz37_3 := blk_frozen BK215.out 3
                                  have hcz38_0 : wr.cell? ⟨gb216, 0, none⟩ = some (.slice A1_0 l1_0.length c1_0) := (blk_cell BK216.out 0).trans rfl
                                  have hcz38_1 : wr.cell? ⟨gb216, 1, none⟩ = some (.string a1_1) := (blk_cell BK216.out 1).trans rfl
                                  have hcz38_2 : wr.cell? ⟨gb216, 2, none⟩ = some (.string a1_2) := (blk_cell BK216.out 2).trans rfl
                                  have hcz38_3 : wr.cell? ⟨gb216, 3, none⟩ = some (.string a1_3) := (blk_cell BK216.out 3).trans rfl
                                  have hfz38_0 := blk_frozen BK216.out 0
                                  have hfz38_1 := blk_frozen BK216.out 1
                                  have hfz38_2 := blk_frozen BK216.out 2
                                  have hfz38_3 := blk_frozen BK216.out 3
                                  have p217 : 0 ≤ (x5_2 : Int) := of_decide_eq_true (by first | (with_reducible assumption) | assumption)
                                  have q217 : x5_2 < (l0_0.length : Int) := of_decide_eq_true (by first | (with_reducible assumption) | assumption)
                                  obtain ⟨ad217, e217, hx217_0⟩ := Kd.at_string HR0_0.out x5_2 p217 q217
                                  cases e217
                                  replace hx217_0 := (HB.out.cell (World.block_lt_of_cell? w _ hx217_0)).trans hx217_0
                                  replace p217 := eq_true p217
                                  replace q217 := eq_true q217
                                  have p218 : 0 ≤ (x5_2 : Int) := of_decide_eq_true (by first | (with_reducible assumption) | assumption)
                                  have q218 : x5_2 < (l1_0.length : Int) := of_decide_eq_true (by first | (with_reducible assumption) | assumption)
                                  obtain ⟨ad218, e218, hx218_0⟩ := Kd.at_string HR1_0.out x5_2 p218 q218
                                  cases e218
                                  replace hx218_0 := (HB.out.cell (World.block_lt_of_cell? w _ hx218_0)).trans hx218_0
                                  replace p218 := eq_true p218
                                  replace q218 := eq_true q218
                                  go_wp2_with (first | (go_at_call 77; (with_reducible refine (strings_HasPrefix.calls (rdOf ByteArray.empty l1_0 x5_2) (rdOf ByteArray.empty l0_0 x5_2) false _ A28.out).mono ?_); rintro e w' ⟨rfl, ⟨nd, rfl⟩⟩; (try first | exact ⟨rfl, _, World.drewN_drewN _ _ _⟩ | exact ⟨rfl, _, Eq.trans (World.drewN_drewN _ _ _) (congrArg (World.drewN _) (Nat.add_assoc _ _ _))⟩)) | (go_at_call 77; (with_reducible refine (strings_HasPrefix.calls (rdOf ByteArray.empty l0_0 x5_2) (rdOf ByteArray.empty l1_0 x5_2) true _ A34.out).mono ?_); rintro e w' ⟨rfl, ⟨nd, rfl⟩⟩; (try first | exact ⟨rfl, _, World.drewN_drewN _ _ _⟩ | exact ⟨rfl, _, Eq.trans (World.drewN_drewN _ _ _) (congrArg (World.drewN _) (Nat.add_assoc _ _ _))⟩)))
                                  all_goals
                                    first
                                    | (exfalso; (try simp only [decide_eq_true_eq, decide_eq_false_iff_not] at *); first | done | omega)
                                    | repeat (go_quiet (first | (go_at_call 77; (with_reducible refine (strings_HasPrefix.calls (rdOf ByteArray.empty l1_0 x5_2) (rdOf ByteArray.empty l0_0 x5_2) false _ A28.out).mono ?_); rintro e w' ⟨rfl, ⟨nd, rfl⟩⟩; (try first | exact ⟨rfl, _, World.drewN_drewN _ _ _⟩ | exact ⟨rfl, _, Eq.trans (World.drewN_drewN _ _ _) (congrArg (World.drewN _) (Nat.add_assoc _ _ _))⟩)) | (go_at_call 77; (with_reducible refine (strings_HasPrefix.calls (rdOf ByteArray.empty l0_0 x5_2) (rdOf ByteArray.empty l1_0 x5_2) true _ A34.out).mono ?_); rintro e w' ⟨rfl, ⟨nd, rfl⟩⟩; (try first | exact ⟨rfl, _, World.drewN_drewN _ _ _⟩ | exact ⟨rfl, _, Eq.trans (World.drewN_drewN _ _ _) (congrArg (World.drewN _) (Nat.add_assoc _ _ _))⟩))); try go_wp2_with (first | (go_at_call 77; (with_reducible refine (strings_HasPrefix.calls (rdOf ByteArray.empty l1_0 x5_2) (rdOf ByteArray.empty l0_0 x5_2) false _ A28.out).mono ?_); rintro e w' ⟨rfl, ⟨nd, rfl⟩⟩; (try first | exact ⟨rfl, _, World.drewN_drewN _ _ _⟩ | exact ⟨rfl, _, Eq.trans (World.drewN_drewN _ _ _) (congrArg (World.drewN _) (Nat.add_assoc _ _ _))⟩)) | (go_at_call 77; (with_reducible refine (strings_HasPrefix.calls (rdOf ByteArray.empty l0_0 x5_2) (rdOf ByteArray.empty l1_0 x5_2) true _ A34.out).mono ?_); rintro e w' ⟨rfl, ⟨nd, rfl⟩⟩; (try first | exact ⟨rfl, _, World.drewN_drewN _ _ _⟩ | exact ⟨rfl, _, Eq.trans (World.drewN_drewN _ _ _) (congrArg (World.drewN _) (Nat.add_assoc _ _ _))⟩))))
                                      go_roundg k2
                                      case measure => have := HJ2.out; have := HK2.out; omega
                                      case rel => exact ⟨(wrap64 (x5_2 + 1)), (by first | rfl | (simp; done) | (simp [*]; done)), H', ⟨by have := HJ2.out; have := HK2.out; omega⟩, ⟨by (with_reducible repeat (first | refine blk_drewN ?_ _ | refine blk_drew ?_ | refine blk_alloc ?_ _)); exact BK215.out⟩, ⟨by (with_reducible repeat (first | refine blk_drewN ?_ _ | refine blk_drew ?_ | refine blk_alloc ?_ _)); exact BK216.out⟩, ⟨by repeat (first | (with_reducible first | exact HB.out | apply below_alloc | apply pw_below_drewN | apply below_drew1 | refine below_set ?_ GE215.out | refine below_set ?_ GE216.out) | exact HB.out)⟩⟩
                                · replace c35 := Bool.eq_false_iff.mpr c35
                                  subst c35
                                  have H1 : (some false) = some r := by rw [if_neg (show ¬ (false = true) by decide)] at H; exact H
                                  clear H
                                  have H := H1
                                  clear H1
                                  obtain rfl := Option.some.inj H
                                  have hnb39 := NB215_216.out
                                  have hnc39 := NB216_215.out
                                  have hcz40_0 : wr.cell? ⟨gb215, 0, none⟩ = some (.slice A0_0 l0_0.length c0_0) := (blk_cell BK215.out 0).trans rfl
                                  have hcz40_1 : wr.cell? ⟨gb215, 1, none⟩ = some (.string a0_1) := (blk_cell BK215.out 1).trans rfl
                                  have hcz40_2 : wr.cell? ⟨gb215, 2, none⟩ = some (.string a0_2) := (blk_cell BK215.out 2).trans rfl
                                  have hcz40_3 : wr.cell? ⟨gb215, 3, none⟩ = some (.string a0_3) := (blk_cell BK215.out 3).trans rfl
                                  have hfz40_0 := blk_frozen BK215.out 0
                                  have hfz40_1 := blk_frozen BK215.out 1
                                  have hfz40_2 := blk_frozen BK215.out 2
                                  have hfz40_3 := blk_frozen BK215.out 3
                                  have hcz41_0 : wr.cell? ⟨gb216, 0, none⟩ = some (.slice A1_0 l1_0.length c1_0) := (blk_cell BK216.out 0).trans rfl
                                  have hcz41_1 : wr.cell? ⟨gb216, 1, none⟩ = some (.string a1_1) := (blk_cell BK216.out 1).trans rfl
                                  have hcz41_2 : wr.cell? ⟨gb216, 2, none⟩ = some (.string a1_2) := (blk_cell BK216.out 2).trans rfl
                                  have hcz41_3 : wr.cell? ⟨gb216, 3, none⟩ = some (.string a1_3) := (blk_cell BK216.out 3).trans rfl
                                  have hfz41_0 := blk_frozen BK216.out 0
                                  have hfz41_1 := blk_frozen BK216.out 1
                                  have hfz41_2 := blk_frozen BK216.out 2
                                  have hfz41_3 := blk_frozen BK216.out 3
                                  have p217 : 0 ≤ (x5_2 : Int) := of_decide_eq_true (by first | (with_reducible assumption) | assumption)
                                  have q217 : x5_2 < (l0_0.length : Int) := of_decide_eq_true (by first | (with_reducible assumption) | assumption)
                                  obtain ⟨ad217, e217, hx217_0⟩ := Kd.at_string HR0_0.out x5_2 p217 q217
                                  cases e217
                                  replace hx217_0 := (HB.out.cell (World.block_lt_of_cell? w _ hx217_0)).trans hx217_0
                                  replace p217 := eq_true p217
                                  replace q217 := eq_true q217
                                  have p218 : 0 ≤ (x5_2 : Int) := of_decide_eq_true (by first | (with_reducible assumption) | assumption)
                                  have q218 : x5_2 < (l1_0.length : Int) := of_decide_eq_true (by first | (with_reducible assumption) | assumption)
                                  obtain ⟨ad218, e218, hx218_0⟩ := Kd.at_string HR1_0.out x5_2 p218 q218
                                  cases e218
                                  replace hx218_0 := (HB.out.cell (World.block_lt_of_cell? w _ hx218_0)).trans hx218_0
                                  replace p218 := eq_true p218
                                  replace q218 := eq_true q218
                                  go_wp2_with (first | (go_at_call 77; (with_reducible refine (strings_HasPrefix.calls (rdOf ByteArray.empty l1_0 x5_2) (rdOf ByteArray.empty l0_0 x5_2) false _ A28.out).mono ?_); rintro e w' ⟨rfl, ⟨nd, rfl⟩⟩; (try first | exact ⟨rfl, _, World.drewN_drewN _ _ _⟩ | exact ⟨rfl, _, Eq.trans (World.drewN_drewN _ _ _) (congrArg (World.drewN _) (Nat.add_assoc _ _ _))⟩)) | (go_at_call 77; (with_reducible refine (strings_HasPrefix.calls (rdOf ByteArray.empty l0_0 x5_2) (rdOf ByteArray.empty l1_0 x5_2) false _ A34.out).mono ?_); rintro e w' ⟨rfl, ⟨nd, rfl⟩⟩; (try first | exact ⟨rfl, _, World.drewN_drewN _ _ _⟩ | exact ⟨rfl, _, Eq.trans (World.drewN_drewN _ _ _) (congrArg (World.drewN _) (Nat.add_assoc _ _ _))⟩)))
                                  all_goals
                                    first
                                    | (exfalso; (try simp only [decide_eq_true_eq, decide_eq_false_iff_not] at *); first | done | omega)
                                    | repeat (go_quiet (first | (go_at_call 77; (with_reducible refine (strings_HasPrefix.calls (rdOf ByteArray.empty l1_0 x5_2) (rdOf ByteArray.empty l0_0 x5_2) false _ A28.out).mono ?_); rintro e w' ⟨rfl, ⟨nd, rfl⟩⟩; (try first | exact ⟨rfl, _, World.drewN_drewN _ _ _⟩ | exact ⟨rfl, _, Eq.trans (World.drewN_drewN _ _ _) (congrArg (World.drewN _) (Nat.add_assoc _ _ _))⟩)) | (go_at_call 77; (with_reducible refine (strings_HasPrefix.calls (rdOf ByteArray.empty l0_0 x5_2) (rdOf ByteArray.empty l1_0 x5_2) false _ A34.out).mono ?_); rintro e w' ⟨rfl, ⟨nd, rfl⟩⟩; (try first | exact ⟨rfl, _, World.drewN_drewN _ _ _⟩ | exact ⟨rfl, _, Eq.trans (World.drewN_drewN _ _ _) (congrArg (World.drewN _) (Nat.add_assoc _ _ _))⟩))); try go_wp2_with (first | (go_at_call 77; (with_reducible refine (strings_HasPrefix.calls (rdOf ByteArray.empty l1_0 x5_2) (rdOf ByteArray.empty l0_0 x5_2) false _ A28.out).mono ?_); rintro e w' ⟨rfl, ⟨nd, rfl⟩⟩; (try first | exact ⟨rfl, _, World.drewN_drewN _ _ _⟩ | exact ⟨rfl, _, Eq.trans (World.drewN_drewN _ _ _) (congrArg (World.drewN _) (Nat.add_assoc _ _ _))⟩)) | (go_at_call 77; (with_reducible refine (strings_HasPrefix.calls (rdOf ByteArray.empty l0_0 x5_2) (rdOf ByteArray.empty l1_0 x5_2) false _ A34.out).mono ?_); rintro e w' ⟨rfl, ⟨nd, rfl⟩⟩; (try first | exact ⟨rfl, _, World.drewN_drewN _ _ _⟩ | exact ⟨rfl, _, Eq.trans (World.drewN_drewN _ _ _) (congrArg (World.drewN _) (Nat.add_assoc _ _ _))⟩))))
                                      go_ret
                                      exact ⟨by first | rfl | (simp [errW_none, errW_some] <;> rfl) | (simp only [← hji18]; first | rfl | (simp [errW_none, errW_some] <;> rfl)) | (simp [*, errW_none, errW_some] <;> rfl), by repeat (first | (with_reducible first | exact HB.out | apply below_alloc | apply pw_below_drewN | apply below_drew1 | refine below_set ?_ GE215.out | refine below_set ?_ GE216.out) | exact HB.out)⟩
                              · rw [if_neg c33] at H
                                have c33b0 : (((rdOf ByteArray.empty l1_0 x5_2).size : Int) == 1) = false := beq_eq_false_iff_ne.mpr c33
                                have c33b1 : (((rdOf ByteArray.empty l1_0 x5_2).size : Int) != 1) = true := bne_iff_ne.mpr c33
                                obtain rfl := Option.some.inj H
                                have hnb42 := NB215_216.out
                                have hnc42 := NB216_215.out
                                have hcz43_0 : wr.cell? ⟨gb215, 0, none⟩ = some (.slice A0_0 l0_0.length c0_0) := (blk_cell BK215.out 0).trans rfl
                                have hcz43_1 : wr.cell? ⟨gb215, 1, none⟩ = some (.string a0_1) := (blk_cell BK215.out 1).trans rfl
                                have hcz43_2 : wr.cell? ⟨gb215, 2, none⟩ = some (.string a0_2) := (blk_cell BK215.out 2).trans rfl
                                have hcz43_3 : wr.cell? ⟨gb215, 3, none⟩ = some (.string a0_3) := (blk_cell BK215.out 3).trans rfl
                                have hfz43_0 := blk_frozen BK215.out 0
                                have hfz43_1 := blk_frozen BK215.out 1
                                have hfz43_2 := blk_frozen BK215.out 2
                                have hfz43_3 := blk_frozen BK215.out 3
                                have hcz44_0 : wr.cell? ⟨gb216, 0, none⟩ = some (.slice A1_0 l1_0.length c1_0) := (blk_cell BK216.out 0).trans rfl
                                have hcz44_1 : wr.cell? ⟨gb216, 1, none⟩ = some (.string a1_1) := (blk_cell BK216.out 1).trans rfl
                                have hcz44_2 : wr.cell? ⟨gb216, 2, none⟩ = some (.string a1_2) := (blk_cell BK216.out 2).trans rfl
                                have hcz44_3 : wr.cell? ⟨gb216, 3, none⟩ = some (.string a1_3) := (blk_cell BK216.out 3).trans rfl
                                have hfz44_0 := blk_frozen BK216.out 0
                                have hfz44_1 := blk_frozen BK216.out 1
                                have hfz44_2 := blk_frozen BK216.out 2
                                have hfz44_3 := blk_frozen BK216.out 3
                                have p217 : 0 ≤ (x5_2 : Int) := of_decide_eq_true (by first | (with_reducible assumption) | assumption)
                                have q217 : x5_2 < (l0_0.length : Int) := of_decide_eq_true (by first | (with_reducible assumption) | assumption)
                                obtain ⟨ad217, e217, hx217_0⟩ := Kd.at_string HR0_0.out x5_2 p217 q217
                                cases e217
                                replace hx217_0 := (HB.out.cell (World.block_lt_of_cell? w _ hx217_0)).trans hx217_0
                                replace p217 := eq_true p217
                                replace q217 := eq_true q217
                                have p218 : 0 ≤ (x5_2 : Int) := of_decide_eq_true (by first | (with_reducible assumption) | assumption)
                                have q218 : x5_2 < (l1_0.length : Int) := of_decide_eq_true (by first | (with_reducible assumption) | assumption)
                                obtain ⟨ad218, e218, hx218_0⟩ := Kd.at_string HR1_0.out x5_2 p218 q218
                                cases e218
                                replace hx218_0 := (HB.out.cell (World.block_lt_of_cell? w _ hx218_0)).trans hx218_0
                                replace p218 := eq_true p218
                                replace q218 := eq_true q218
                                go_wp2_with (first | (go_at_call 77; (with_reducible refine (strings_HasPrefix.calls (rdOf ByteArray.empty l1_0 x5_2) (rdOf ByteArray.empty l0_0 x5_2) false _ A28.out).mono ?_); rintro e w' ⟨rfl, ⟨nd, rfl⟩⟩; (try first | exact ⟨rfl, _, World.drewN_drewN _ _ _⟩ | exact ⟨rfl, _, Eq.trans (World.drewN_drewN _ _ _) (congrArg (World.drewN _) (Nat.add_assoc _ _ _))⟩)))
                                all_goals
                                  first
                                  | (exfalso; (try simp only [decide_eq_true_eq, decide_eq_false_iff_not] at *); first | done | omega)
                                  | repeat (go_quiet (first | (go_at_call 77; (with_reducible refine (strings_HasPrefix.calls (rdOf ByteArray.empty l1_0 x5_2) (rdOf ByteArray.empty l0_0 x5_2) false _ A28.out).mono ?_); rintro e w' ⟨rfl, ⟨nd, rfl⟩⟩; (try first | exact ⟨rfl, _, World.drewN_drewN _ _ _⟩ | exact ⟨rfl, _, Eq.trans (World.drewN_drewN _ _ _) (congrArg (World.drewN _) (Nat.add_assoc _ _ _))⟩))); try go_wp2_with (first | (go_at_call 77; (with_reducible refine (strings_HasPrefix.calls (rdOf ByteArray.empty l1_0 x5_2) (rdOf ByteArray.empty l0_0 x5_2) false _ A28.out).mono ?_); rintro e w' ⟨rfl, ⟨nd, rfl⟩⟩; (try first | exact ⟨rfl, _, World.drewN_drewN _ _ _⟩ | exact ⟨rfl, _, Eq.trans (World.drewN_drewN _ _ _) (congrArg (World.drewN _) (Nat.add_assoc _ _ _))⟩))))
                                    go_ret
                                    exact ⟨by first | rfl | (simp [errW_none, errW_some] <;> rfl) | (simp only [← hji18]; first | rfl | (simp [errW_none, errW_some] <;> rfl)) | (simp [*, errW_none, errW_some] <;> rfl), by repeat (first | (with_reducible first | exact HB.out | apply below_alloc | apply pw_below_drewN | apply below_drew1 | refine below_set ?_ GE215.out | refine below_set ?_ GE216.out) | exact HB.out)⟩
                          · rw [if_neg c27] at H
                            have c27b0 : (((rdOf ByteArray.empty l0_0 x5_2).size : Int) == 1) = false := beq_eq_false_iff_ne.mpr c27
                            have c27b1 : (((rdOf ByteArray.empty l0_0 x5_2).size : Int) != 1) = true := bne_iff_ne.mpr c27
                            by_cases c45 : ((rdOf ByteArray.empty l1_0 x5_2).size : Int) = 1
                            · rw [if_pos c45] at H
                              have c45b0 : (((rdOf ByteArray.empty l1_0 x5_2).size : Int) == 1) = true := beq_iff_eq.mpr c45
                              have c45b1 : (((rdOf ByteArray.empty l1_0 x5_2).size : Int) != 1) = false := bne_eq_false_iff_eq.mpr c45
                              clear c45
                              replace H := Option.bind_eq_some_iff.mp H
                              obtain ⟨t221, A460, H⟩ := H
                              replace H : (if t221 = true then (impl_mayBeSame.l0 k2 (wrap64 (x5_2 + 1)) l0_0 a0_1 a0_2 a0_3 l1_0 a1_1 a1_2 a1_3) else (some false)) = some r := H
                              have A46 := Aside0.mk A460
                              clear A460
                              by_cases c47 : t221 = true
                              · subst c47
                                have H1 : (impl_mayBeSame.l0 k2 (wrap64 (x5_2 + 1)) l0_0 a0_1 a0_2 a0_3 l1_0 a1_1 a1_2 a1_3) = some r := by rw [if_pos rfl] at H; exact H
                                clear H
                                have H := H1
                                clear H1
                                have H' := Aside0.mk H
                                clear H
                                have hnb48 := NB215_216.out
                                have hnc48 := NB216_215.out
                                have hcz49_0 : wr.cell? ⟨gb215, 0, none⟩ = some (.slice A0_0 l0_0.length c0_0) := (blk_cell BK215.out 0).trans rfl
                                have hcz49_1 : wr.cell? ⟨gb215, 1, none⟩ = some (.string a0_1) := (blk_cell BK215.out 1).trans rfl
                                have hcz49_2 : wr.cell? ⟨gb215, 2, none⟩ = some (.string a0_2) := (blk_cell BK215.out 2).trans rfl
                                have hcz49_3 : wr.cell? ⟨gb215, 3, none⟩ = some (.string a0_3) := (blk_cell BK215.out 3).trans rfl
                                have hfz49_0 := blk_frozen BK215.out 0
                                have hfz49_1 := blk_frozen BK215.out 1
                                have hfz49_2 := blk_frozen BK215.out 2
                                have hfz49_3 := blk_frozen BK215.out 3
                                have hcz50_0 : wr.cell? ⟨gb216, 0, none⟩ = some (.slice A1_0 l1_0.length c1_0) := (blk_cell BK216.out 0).trans rfl
                                have hcz50_1 : wr.cell? ⟨gb216, 1, none⟩ = some (.string a1_1) := (blk_cell BK216.out 1).trans rfl
                                have hcz50_2 : wr.cell? ⟨gb216, 2, none⟩ = some (.string a1_2) := (blk_cell BK216.out 2).trans rfl
                                have hcz50_3 : wr.cell? ⟨gb216, 3, none⟩ = some (.string a1_3) := (blk_cell BK216.out 3).trans rfl
                                have hfz50_0 := blk_frozen BK216.out 0
                                have hfz50_1 := blk_frozen BK216.out 1
                                have hfz50_2 := blk_frozen BK216.out 2
                                have hfz50_3 := blk_frozen BK216.out 3
                                have p217 : 0 ≤ (x5_2 : Int) := of_decide_eq_true (by first | (with_reducible assumption) | assumption)
                                have q217 : x5_2 < (l0_0.length : Int) := of_decide_eq_true (by first | (with_reducible assumption) | assumption)
                                obtain ⟨ad217, e217, hx217_0⟩ := Kd.at_string HR0_0.out x5_2 p217 q217
                                cases e217
                                replace hx217_0 := (HB.out.cell (World.block_lt_of_cell? w _ hx217_0)).trans hx217_0
                                replace p217 := eq_true p217
                                replace q217 := eq_true q217
                                have p218 : 0 ≤ (x5_2 : Int) := of_decide_eq_true (by first | (with_reducible assumption) | assumption)
                                have q218 : x5_2 < (l1_0.length : Int) := of_decide_eq_true (by first | (with_reducible assumption) | assumption)
                                obtain ⟨ad218, e218, hx218_0⟩ := Kd.at_string HR1_0.out x5_2 p218 q218
                                cases e218
                                replace hx218_0 := (HB.out.cell (World.block_lt_of_cell? w _ hx218_0)).trans hx218_0
                                replace p218 := eq_true p218
                                replace q218 := eq_true q218
                                go_wp2_with (first | (go_at_call 77; (with_reducible refine (strings_HasPrefix.calls (rdOf ByteArray.empty l0_0 x5_2) (rdOf ByteArray.empty l1_0 x5_2) true _ A46.out).mono ?_); rintro e w' ⟨rfl, ⟨nd, rfl⟩⟩; (try first | exact ⟨rfl, _, World.drewN_drewN _ _ _⟩ | exact ⟨rfl, _, Eq.trans (World.drewN_drewN _ _ _) (congrArg (World.drewN _) (Nat.add_assoc _ _ _))⟩)))
                                all_goals
                                  first
                                  | (exfalso; (try simp only [decide_eq_true_eq, decide_eq_false_iff_not] at *); first | done | omega)
                                  | repeat (go_quiet (first | (go_at_call 77; (with_reducible refine (strings_HasPrefix.calls (rdOf ByteArray.empty l0_0 x5_2) (rdOf ByteArray.empty l1_0 x5_2) true _ A46.out).mono ?_); rintro e w' ⟨rfl, ⟨nd, rfl⟩⟩; (try first | exact ⟨rfl, _, World.drewN_drewN _ _ _⟩ | exact ⟨rfl, _, Eq.trans (World.drewN_drewN _ _ _) (congrArg (World.drewN _) (Nat.add_assoc _ _ _))⟩))); try go_wp2_with (first | (go_at_call 77; (with_reducible refine (strings_HasPrefix.calls (rdOf ByteArray.empty l0_0 x5_2) (rdOf ByteArray.empty l1_0 x5_2) true _ A46.out).mono ?_); rintro e w' ⟨rfl, ⟨nd, rfl⟩⟩; (try first | exact ⟨rfl, _, World.drewN_drewN _ _ _⟩ | exact ⟨rfl, _, Eq.trans (World.drewN_drewN _ _ _) (congrArg (World.drewN _) (Nat.add_assoc _ _ _))⟩))))
                                    go_roundg k2
                                    case measure => have := HJ2.out; have := HK2.out; omega
                                    case rel => exact ⟨(wrap64 (x5_2 + 1)), (by first | rfl | (simp; done) | (simp [*]; done)), H', ⟨by have := HJ2.out; have := HK2.out; omega⟩, ⟨by (with_reducible repeat (first | refine blk_drewN ?_ _ | refine blk_drew ?_ | refine blk_alloc ?_ _)); exact BK215.out⟩, ⟨by (with_reducible repeat (first | refine blk_drewN ?_ _ | refine blk_drew ?_ | refine blk_alloc ?_ _)); exact BK216.out⟩, ⟨by repeat (first | (with_reducible first | exact HB.out | apply below_alloc | apply pw_below_drewN | apply below_drew1 | refine below_set ?_ GE215.out | refine below_set ?_ GE216.out) | exact HB.out)⟩⟩
                              · replace c47 := Bool.eq_false_iff.mpr c47
                                subst c47
                                have H1 : (some false) = some r := by rw [if_neg (show ¬ (false = true) by decide)] at H; exact H
                                clear H
                                have H := H1
                                clear H1
                                obtain rfl := Option.some.inj H
                                have hnb51 := NB215_216.out
                                have hnc51 := NB216_215.out
                                have hcz52_0 : wr.cell? ⟨gb215, 0, none⟩ = some (.slice A0_0 l0_0.length c0_0) := (blk_cell BK215.out 0).trans rfl
                                have hcz52_1 : wr.cell? ⟨gb215, 1, none⟩ = some (.string a0_1) := (blk_cell BK215.out 1).trans rfl
                                have hcz52_2 : wr.cell? ⟨gb215, 2, none⟩ = some (.string a0_2) := (blk_cell BK215.out 2).trans rfl
                                have hcz52_3 : wr.cell? ⟨gb215, 3, none⟩ = some (.string a0_3) := (blk_cell BK215.out 3).trans rfl
                                have hfz52_0 := blk_frozen BK215.out 0
                                have hfz52_1 := blk_frozen BK215.out 1
                                have hfz52_2 := blk_frozen BK215.out 2
                                have hfz52_3 := blk_frozen BK215.out 3
                                have hcz53_0 : wr.cell? ⟨gb216, 0, none⟩ = some (.slice A1_0 l1_0.length c1_0) := (blk_cell BK216.out 0).trans rfl
                                have hcz53_1 : wr.cell? ⟨gb216, 1, none⟩ = some (.string a1_1) := (blk_cell BK216.out 1).trans rfl
                                have hcz53_2 : wr.cell? ⟨gb216, 2, none⟩ = some (.string a1_2) := (blk_cell BK216.out 2).trans rfl
                                have hcz53_3 : wr.cell? ⟨gb216, 3, none⟩ = some (.string a1_3) := (blk_cell BK216.out 3).trans rfl
                                have hfz53_0 := blk_frozen BK216.out 0
                                have hfz53_1 := blk_frozen BK216.out 1
                                have hfz53_2 := blk_frozen BK216.out 2
                                have hfz53_3 := blk_frozen BK216.out 3
                                have p217 : 0 ≤ (x5_2 : Int) := of_decide_eq_true (by first | (with_reducible assumption) | assumption)
                                have q217 : x5_2 < (l0_0.length : Int) := of_decide_eq_true (by first | (with_reducible assumption) | assumption)
                                obtain ⟨ad217, e217, hx217_0⟩ := Kd.at_string HR0_0.out x5_2 p217 q217
                                cases e217
                                replace hx217_0 := (HB.out.cell (World.block_lt_of_cell? w _ hx217_0)).trans hx217_0
                                replace p217 := eq_true p217
                                replace q217 := eq_true q217
                                have p218 : 0 ≤ (x5_2 : Int) := of_decide_eq_true (by first | (with_reducible assumption) | assumption)
                                have q218 : x5_2 < (l1_0.length : Int) := of_decide_eq_true (by first | (with_reducible assumption) | assumption)
                                obtain ⟨ad218, e218, hx218_0⟩ := Kd.at_string HR1_0.out x5_2 p218 q218
                                cases e218
                                replace hx218_0 := (HB.out.cell (World.block_lt_of_cell? w _ hx218_0)).trans hx218_0
                                replace p218 := eq_true p218
                                replace q218 := eq_true q218
                                go_wp2_with (first | (go_at_call 77; (with_reducible refine (strings_HasPrefix.calls (rdOf ByteArray.empty l0_0 x5_2) (rdOf ByteArray.empty l1_0 x5_2) false _ A46.out).mono ?_); rintro e w' ⟨rfl, ⟨nd, rfl⟩⟩; (try first | exact ⟨rfl, _, World.drewN_drewN _ _ _⟩ | exact ⟨rfl, _, Eq.trans (World.drewN_drewN _ _ _) (congrArg (World.drewN _) (Nat.add_assoc _ _ _))⟩)))
                                all_goals
                                  first
                                  | (exfalso; (try simp only [decide_eq_true_eq, decide_eq_false_iff_not] at *); first | done | omega)
                                  | repeat (go_quiet (first | (go_at_call 77; (with_reducible refine (strings_HasPrefix.calls (rdOf ByteArray.empty l0_0 x5_2) (rdOf ByteArray.empty l1_0 x5_2) false _ A46.out).mono ?_); rintro e w' ⟨rfl, ⟨nd, rfl⟩⟩; (try first | exact ⟨rfl, _, World.drewN_drewN _ _ _⟩ | exact ⟨rfl, _, Eq.trans (World.drewN_drewN _ _ _) (congrArg (World.drewN _) (Nat.add_assoc _ _ _))⟩))); try go_wp2_with (first | (go_at_call 77; (with_reducible refine (strings_HasPrefix.calls (rdOf ByteArray.empty l0_0 x5_2) (rdOf ByteArray.empty l1_0 x5_2) false _ A46.out).mono ?_); rintro e w' ⟨rfl, ⟨nd, rfl⟩⟩; (try first | exact ⟨rfl, _, World.drewN_drewN _ _ _⟩ | exact ⟨rfl, _, Eq.trans (World.drewN_drewN _ _ _) (congrArg (World.drewN _) (Nat.add_assoc _ _ _))⟩))))
                                    go_ret
                                    exact ⟨by first | rfl | (simp [errW_none, errW_some] <;> rfl) | (simp only [← hji18]; first | rfl | (simp [errW_none, errW_some] <;> rfl)) | (simp [*, errW_none, errW_some] <;> rfl), by repeat (first | (with_reducible first | exact HB.out | apply below_alloc | apply pw_below_drewN | apply below_drew1 | refine below_set ?_ GE215.out | refine below_set ?_ GE216.out) | exact HB.out)⟩
                            · rw [if_neg c45] at H
                              have c45b0 : (((rdOf ByteArray.empty l1_0 x5_2).size : Int) == 1) = false := beq_eq_false_iff_ne.mpr c45
                              have c45b1 : (((rdOf ByteArray.empty l1_0 x5_2).size : Int) != 1) = true := bne_iff_ne.mpr c45
                              obtain rfl := Option.some.inj H
                              have hnb54 := NB215_216.out
                              have hnc54 := NB216_215.out
                              have hcz55_0 : wr.cell? ⟨gb215, 0, none⟩ = some (.slice A0_0 l0_0.length c0_0) := (blk_cell BK215.out 0).trans rfl
                              have hcz55_1 : wr.cell? ⟨gb215, 1, none⟩ = some (.string a0_1) := (blk_cell BK215.out 1).trans rfl
                              have hcz55_2 : wr.cell? ⟨gb215, 2, none⟩ = some (.string a0_2) := (blk_cell BK215.out 2).trans rfl
                              have hcz55_3 : wr.cell? ⟨gb215, 3, none⟩ = some (.string a0_3) := (blk_cell BK215.out 3).trans rfl
                              have hfz55_0 := blk_frozen BK215.out 0
                              have hfz55_1 := blk_frozen BK215.out 1
                              have hfz55_2 := blk_frozen BK215.out 2
                              have hfz55_3 := blk_frozen BK215.out 3
                              have hcz56_0 : wr.cell? ⟨gb216, 0, none⟩ = some (.slice A1_0 l1_0.length c1_0) := (blk_cell BK216.out 0).trans rfl
                              have hcz56_1 : wr.cell? ⟨gb216, 1, none⟩ = some (.string a1_1) := (blk_cell BK216.out 1).trans rfl
                              have hcz56_2 : wr.cell? ⟨gb216, 2, none⟩ = some (.string a1_2) := (blk_cell BK216.out 2).trans rfl
                              have hcz56_3 : wr.cell? ⟨gb216, 3, none⟩ = some (.string a1_3) := (blk_cell BK216.out 3).trans rfl
                              have hfz56_0 := blk_frozen BK216.out 0
                              have hfz56_1 := blk_frozen BK216.out 1
                              have hfz56_2 := blk_frozen BK216.out 2
                              have hfz56_3 := blk_frozen BK216.out 3
                              have p217 : 0 ≤ (x5_2 : Int) := of_decide_eq_true (by first | (with_reducible assumption) | assumption)
                              have q217 : x5_2 < (l0_0.length : Int) := of_decide_eq_true (by first | (with_reducible assumption) | assumption)
                              obtain ⟨ad217, e217, hx217_0⟩ := Kd.at_string HR0_0.out x5_2 p217 q217
                              cases e217
                              replace hx217_0 := (HB.out.cell (World.block_lt_of_cell? w _ hx217_0)).trans hx217_0
                              replace p217 := eq_true p217
                              replace q217 := eq_true q217
                              have p218 : 0 ≤ (x5_2 : Int) := of_decide_eq_true (by first | (with_reducible assumption) | assumption)
                              have q218 : x5_2 < (l1_0.length : Int) := of_decide_eq_true (by first | (with_reducible assumption) | assumption)
                              obtain ⟨ad218, e218, hx218_0⟩ := Kd.at_string HR1_0.out x5_2 p218 q218
                              cases e218
                              replace hx218_0 := (HB.out.cell (World.block_lt_of_cell? w _ hx218_0)).trans hx218_0
                              replace p218 := eq_true p218
                              replace q218 := eq_true q218
                              go_wp2
                              all_goals
                                first
                                | (exfalso; (try simp only [decide_eq_true_eq, decide_eq_false_iff_not] at *); first | done | omega)
                                | repeat (go_quiet (fail); try go_wp2)
                                  go_ret
                                  exact ⟨by first | rfl | (simp [errW_none, errW_some] <;> rfl) | (simp only [← hji18]; first | rfl | (simp [errW_none, errW_some] <;> rfl)) | (simp [*, errW_none, errW_some] <;> rfl), by repeat (first | (with_reducible first | exact HB.out | apply below_alloc | apply pw_below_drewN | apply below_drew1 | refine below_set ?_ GE215.out | refine below_set ?_ GE216.out) | exact HB.out)⟩
                      · rw [if_neg c22] at H
                        exact absurd H (by simp)
                    · rw [if_neg c21] at H
                      exact absurd H (by simp)
                  · rw [if_neg c20] at H
                    exact absurd H (by simp)
                · rw [if_neg c19] at H
                  have c19b0 : decide (x5_2 < (ji18)) = false := decide_eq_false c19
                  clear c19
                  obtain rfl := Option.some.inj H
                  have hnb57 := NB215_216.out
                  have hnc57 := NB216_215.out
                  have hcz58_0 : wr.cell? ⟨gb215, 0, none⟩ = some (.slice A0_0 l0_0.length c0_0) := (blk_cell BK215.out 0).trans rfl
                  have hcz58_1 : wr.cell? ⟨gb215, 1, none⟩ = some (.string a0_1) := (blk_cell BK215.out 1).trans rfl
                  have hcz58_2 : wr.cell? ⟨gb215, 2, none⟩ = some (.string a0_2) := (blk_cell BK215.out 2).trans rfl
                  have hcz58_3 : wr.cell? ⟨gb215, 3, none⟩ = some (.string a0_3) := (blk_cell BK215.out 3).trans rfl
                  have hfz58_0 := blk_frozen BK215.out 0
                  have hfz58_1 := blk_frozen BK215.out 1
                  have hfz58_2 := blk_frozen BK215.out 2
                  have hfz58_3 := blk_frozen BK215.out 3
                  have hcz59_0 : wr.cell? ⟨gb216, 0, none⟩ = some (.slice A1_0 l1_0.length c1_0) := (blk_cell BK216.out 0).trans rfl
                  have hcz59_1 : wr.cell? ⟨gb216, 1, none⟩ = some (.string a1_1) := (blk_cell BK216.out 1).trans rfl
                  have hcz59_2 : wr.cell? ⟨gb216, 2, none⟩ = some (.string a1_2) := (blk_cell BK216.out 2).trans rfl
                  have hcz59_3 : wr.cell? ⟨gb216, 3, none⟩ = some (.string a1_3) := (blk_cell BK216.out 3).trans rfl
                  have hfz59_0 := blk_frozen BK216.out 0
                  have hfz59_1 := blk_frozen BK216.out 1
                  have hfz59_2 := blk_frozen BK216.out 2
                  have hfz59_3 := blk_frozen BK216.out 3
                  go_wp2
                  all_goals
                    first
                    | (exfalso; (try simp only [decide_eq_true_eq, decide_eq_false_iff_not] at *); first | done | omega)
                    | repeat (go_quiet (fail); try go_wp2)
                      go_ret
                      exact ⟨by first | rfl | (simp [errW_none, errW_some] <;> rfl) | (simp only [← hji18]; first | rfl | (simp [errW_none, errW_some] <;> rfl)) | (simp [*, errW_none, errW_some] <;> rfl), by repeat (first | (with_reducible first | exact HB.out | apply below_alloc | apply pw_below_drewN | apply below_drew1 | refine below_set ?_ GE215.out | refine below_set ?_ GE216.out) | exact HB.out)⟩

end Go.Proofs.YtcckamdpncbkoaaDoor.G

namespace Go.Proofs.YtcckamdpncbkoaaDoor.G
open Go.RowKit Go.Proofs.YtcckamdpncbkoaaDoorW.PrintWords Go.Proofs.YtcckamdpncbkoaaDoorW.PrintLast Go.Proofs.YtcckamdpncbkoaaDoor.B
set_option linter.unusedVariables false
set_option linter.unusedSimpArgs false
def headD (x y : ByteArray) : Bool := decide (bt x 0 = bt y 0)
def fitD (x y : ByteArray) : Bool := decide (x.toList = y.toList) || ((decide (x.size = 1) && headD x y) || (decide (y.size = 1) && headD x y))
theorem spec_fit (x y : ByteArray) (hx : 1 ≤ x.size) (hy : 1 ≤ y.size) : spec_l2Fits.f x y = some (fitD x y) := by
  have a1 : (0 : Int) < (x.size : Int) := by omega
  have a2 : (0 : Int) < (y.size : Int) := by omega
  unfold spec_l2Fits.f fitD headD
  by_cases e : x.toList = y.toList
  · simp [e]
  · rw [if_neg e]
    by_cases c1 : x.size = 1
    · rw [if_pos (show (x.size : Int) = 1 by omega), if_pos a1, if_pos a2]
      by_cases c3 : bt x 0 = bt y 0
      · rw [if_pos c3]; simp [c1, c3]
      · rw [if_neg c3]
        by_cases c2 : y.size = 1
        · rw [if_pos (show (y.size : Int) = 1 by omega)]; simp [e, c1, c2, c3]
        · rw [if_neg (show ¬ (y.size : Int) = 1 by omega)]; simp [e, c1, c2, c3]
    · rw [if_neg (show ¬ (x.size : Int) = 1 by omega)]
      by_cases c2 : y.size = 1
      · rw [if_pos (show (y.size : Int) = 1 by omega), if_pos a1, if_pos a2]
        by_cases c3 : bt x 0 = bt y 0 <;> simp [e, c1, c2, c3]
      · rw [if_neg (show ¬ (y.size : Int) = 1 by omega)]; simp [e, c1, c2]
theorem pre_one (s p : ByteArray) (hp : p.size = 1) (hs : 1 ≤ s.size) : strings_HasPrefix.f s p = some (headD p s) := by
  have a1 : (s.size : Int) ≥ (p.size : Int) := by omega
  have a2 : (0 : Int) ≤ (p.size : Int) := by omega
  have a3 : (p.size : Int) ≤ (s.size : Int) := by omega
  unfold strings_HasPrefix.f stringslite_HasPrefix.f headD
  rw [if_pos a1, if_pos a2, if_pos a3]
  show some _ = some _
  congr 1
  have b1 := bt_getD p 0 (by omega)
  have b2 := bt_getD s 0 (by omega)
  rw [show ((0 : Nat) : Int) = 0 from rfl] at b1 b2
  rw [b1, b2, toList_L, toList_L, L_extract, hp]
  have l1 : (L p).length = 1 := by rw [L_len, hp]
  have l2 : 1 ≤ (L s).length := by rw [L_len]; exact hs
  revert l1 l2
  generalize L p = u
  generalize L s = v
  intro l1 l2
  match u, v, l1, l2 with
  | [a], b :: v, _, _ =>
    by_cases e : a = b
    · subst e; simp
    · have e' : ¬ b = a := fun h => e h.symm
      have e2 : ¬ a.toNat = b.toNat := fun h => e (UInt8.toNat_inj.1 h)
      simp
      rw [beq_false_of_ne e', eq_comm, decide_eq_false_iff_not]; omega
theorem head_comm (x y : ByteArray) : headD x y = headD y x := by unfold headD; rw [decide_eq_decide]; exact eq_comm
def fitL (a b : List ByteArray) : Nat → Nat → Bool
  | 0, _ => true
  | d + 1, i => fitD (rdOf ByteArray.empty a (i : Int)) (rdOf ByteArray.empty b (i : Int)) && fitL a b d (i + 1)
def tailD (P F S P' F' S' : ByteArray) : Bool := decide (P.toList = P'.toList) && (decide (F.toList = F'.toList) && (S.toList == S'.toList))
def mayD (G : List ByteArray) (P F S : ByteArray) (G' : List ByteArray) (P' F' S' : ByteArray) : Bool := fitL G G' (min G.length G'.length) 0 && tailD P F S P' F' S'
theorem rd_pos (l : List ByteArray) (i : Nat) (h : i < l.length) (hp : ∀ x ∈ l, 1 ≤ x.size) : 1 ≤ (rdOf ByteArray.empty l (i : Int)).size := by
  rw [rd_get l i h]; exact hp _ (List.getElem_mem h)
theorem spec_may_loop (G : List ByteArray) (P F S : ByteArray) (G' : List ByteArray) (P' F' S' : ByteArray) (hG : G.length ≤ 3) (hG' : G'.length ≤ 3) (hp : ∀ x ∈ G, 1 ≤ x.size) (hp' : ∀ x ∈ G', 1 ≤ x.size) (d : Nat) : ∀ i : Nat, i ≤ G.length → i ≤ G'.length → min G.length G'.length - i = d →
    Ev (fun k => spec_l2May.l0 k (i : Int) G P F S G' P' F' S') (fitL G G' d i && tailD P F S P' F' S') := by
  have hstop : ∀ i : Nat, Ev (fun k => spec_l2May.j1 k (i : Int) false G P F S G' P' F' S') (tailD P F S P' F' S') := by
    intro i
    refine Ev.step (f := fun _ => some (tailD P F S P' F' S')) (fun k => ?_) (Ev.now _)
    simp only [spec_l2May.j1]
    rw [if_neg (by simp)]
    unfold tailD
    by_cases c1 : P.toList = P'.toList <;> by_cases c2 : F.toList = F'.toList <;> simp [c1, c2]
  induction d with
  | zero =>
    intro i h1 h2 hd
    show Ev _ (true && _)
    rw [Bool.true_and]
    by_cases c : i < G.length
    · refine Ev.step (f := fun k => spec_l2May.j1 k (i : Int) false G P F S G' P' F' S') (fun k => ?_) (hstop i)
      simp only [spec_l2May.l0]
      have e : decide ((i : Int) < (G'.length : Int)) = false := decide_eq_false (by omega)
      rw [if_pos (by omega), e]
    · refine Ev.step (f := fun k => spec_l2May.j1 k (i : Int) false G P F S G' P' F' S') (fun k => ?_) (hstop i)
      simp only [spec_l2May.l0]
      rw [if_neg (by omega)]
  | succ d ih =>
    intro i h1 h2 hd
    have c1 : i < G.length := by omega
    have c2 : i < G'.length := by omega
    have hw : wrap64 ((i : Int) + 1) = ((i + 1 : Nat) : Int) := by rw [w64 (by omega) (by omega)]; rfl
    have hf := spec_fit _ _ (rd_pos G i c1 hp) (rd_pos G' i c2 hp')
    refine Ev.step (f := fun k => spec_l2May.j1 k (i : Int) true G P F S G' P' F' S') (fun k => ?_) ?_
    · simp only [spec_l2May.l0]
      have e : decide ((i : Int) < (G'.length : Int)) = true := decide_eq_true (by omega)
      rw [if_pos (by omega), e]
    · refine Ev.step (f := fun k => if fitD (rdOf ByteArray.empty G (i : Int)) (rdOf ByteArray.empty G' (i : Int)) = true then spec_l2May.l0 k ((i + 1 : Nat) : Int) G P F S G' P' F' S' else some false) (fun k => ?_) ?_
      · simp only [spec_l2May.j1]
        rw [if_pos trivial, if_pos (by omega), if_pos (by omega), if_pos (by omega), hf, hw]; rfl
      · show Ev _ ((fitD _ _ && fitL G G' d (i + 1)) && _)
        cases h : fitD (rdOf ByteArray.empty G (i : Int)) (rdOf ByteArray.empty G' (i : Int)) with
        | true => exact ev_pos rfl (ev_eq (ih (i + 1) (by omega) (by omega) (by omega)) (by simp))
        | false => exact ev_neg (by simp) (ev_eq (Ev.now _) (by simp))
theorem spec_may (G : List ByteArray) (P F S : ByteArray) (G' : List ByteArray) (P' F' S' : ByteArray) (hG : G.length ≤ 3) (hG' : G'.length ≤ 3) (hp : ∀ x ∈ G, 1 ≤ x.size) (hp' : ∀ x ∈ G', 1 ≤ x.size) :
    Ev (fun k => spec_l2May.f k G P F S G' P' F' S') (mayD G P F S G' P' F' S') :=
  spec_may_loop G P F S G' P' F' S' hG hG' hp hp' _ 0 (by omega) (by omega) rfl
theorem impl_step (G : List ByteArray) (P F S : ByteArray) (G' : List ByteArray) (P' F' S' : ByteArray) (i k : Nat) (c1 : i < G.length) (c2 : i < G'.length) (hG : G.length ≤ 3) (hp : ∀ x ∈ G, 1 ≤ x.size) (hp' : ∀ x ∈ G', 1 ≤ x.size) :
    impl_mayBeSame.l0 (k + 1) (i : Int) G P F S G' P' F' S' = if fitD (rdOf ByteArray.empty G (i : Int)) (rdOf ByteArray.empty G' (i : Int)) = true then impl_mayBeSame.l0 k ((i + 1 : Nat) : Int) G P F S G' P' F' S' else some false := by
  have hw : wrap64 ((i : Int) + 1) = ((i + 1 : Nat) : Int) := by rw [w64 (by omega) (by omega)]; rfl
  have hm : (i : Int) < mn (G.length : Int) (G'.length : Int) := by unfold mn; split <;> omega
  have hx := rd_pos G i c1 hp
  have hy := rd_pos G' i c2 hp'
  simp only [impl_mayBeSame.l0]
  rw [if_pos hm, if_pos (by omega), if_pos (by omega), if_pos (by omega), hw]
  revert hx hy
  generalize rdOf ByteArray.empty G (i : Int) = x
  generalize rdOf ByteArray.empty G' (i : Int) = y
  intro hx hy
  generalize impl_mayBeSame.l0 k ((i + 1 : Nat) : Int) G P F S G' P' F' S' = R
  unfold fitD
  by_cases e : x.toList = y.toList
  · simp [e]
  · rw [if_neg e]
    by_cases a : x.size = 1
    · rw [if_pos (by omega), pre_one y x a hy]
      by_cases b : y.size = 1
      · rw [if_pos (by omega), pre_one x y b hx, head_comm y x]
        cases headD x y <;> simp [e, a, b]
      · rw [if_neg (by omega)]
        cases headD x y <;> simp [e, a, b]
    · rw [if_neg (by omega)]
      by_cases b : y.size = 1
      · rw [if_pos (by omega), pre_one x y b hx, head_comm y x]
        cases headD x y <;> simp [e, a, b]
      · rw [if_neg (by omega)]
        simp [e, a, b]
theorem impl_may_loop (G : List ByteArray) (P F S : ByteArray) (G' : List ByteArray) (P' F' S' : ByteArray) (hG : G.length ≤ 3) (hG' : G'.length ≤ 3) (hp : ∀ x ∈ G, 1 ≤ x.size) (hp' : ∀ x ∈ G', 1 ≤ x.size) (d : Nat) : ∀ i : Nat, i ≤ G.length → i ≤ G'.length → min G.length G'.length - i = d →
    Ev (fun k => impl_mayBeSame.l0 k (i : Int) G P F S G' P' F' S') (fitL G G' d i) := by
  induction d with
  | zero =>
    intro i h1 h2 hd
    refine Ev.step (f := fun _ => some true) (fun k => ?_) (Ev.now _)
    have hm : ¬ (i : Int) < mn (G.length : Int) (G'.length : Int) := by unfold mn; split <;> omega
    simp only [impl_mayBeSame.l0]
    rw [if_neg hm]
  | succ d ih =>
    intro i h1 h2 hd
    refine Ev.step (f := fun k => if fitD (rdOf ByteArray.empty G (i : Int)) (rdOf ByteArray.empty G' (i : Int)) = true then impl_mayBeSame.l0 k ((i + 1 : Nat) : Int) G P F S G' P' F' S' else some false) (fun k => impl_step G P F S G' P' F' S' i k (by omega) (by omega) hG hp hp') ?_
    show Ev _ (fitD _ _ && fitL G G' d (i + 1))
    cases h : fitD (rdOf ByteArray.empty G (i : Int)) (rdOf ByteArray.empty G' (i : Int)) with
    | true => exact ev_pos rfl (ev_eq (ih (i + 1) (by omega) (by omega) (by omega)) (by simp))
    | false => exact ev_neg (by simp) (ev_eq (Ev.now _) (by simp))
theorem impl_may (G : List ByteArray) (P F S : ByteArray) (G' : List ByteArray) (P' F' S' : ByteArray) (hG : G.length ≤ 3) (hG' : G'.length ≤ 3) (hp : ∀ x ∈ G, 1 ≤ x.size) (hp' : ∀ x ∈ G', 1 ≤ x.size) :
    Ev (fun k => impl_mayBeSame.f k G P F S G' P' F' S') (mayD G P F S G' P' F' S') := by
  have hj1 : Ev (fun k => impl_mayBeSame.j0 k true G P F S G' P' F' S') false := Ev.step (f := fun _ => some false) (fun k => by simp [impl_mayBeSame.j0]) (Ev.now _)
  have hj0 : Ev (fun k => impl_mayBeSame.j0 k false G P F S G' P' F' S') (fitL G G' (min G.length G'.length) 0) :=
    Ev.step (f := fun k => impl_mayBeSame.l0 k ((0 : Nat) : Int) G P F S G' P' F' S') (fun k => by simp [impl_mayBeSame.j0]) (impl_may_loop G P F S G' P' F' S' hG hG' hp hp' _ 0 (by omega) (by omega) rfl)
  unfold impl_mayBeSame.f mayD tailD
  by_cases c1 : P.toList = P'.toList
  · refine ev_pos c1 ?_
    by_cases c2 : F.toList = F'.toList
    · refine ev_pos c2 ?_
      by_cases c3 : S.toList = S'.toList
      · have e : (S.toList != S'.toList) = false := by simp [c3]
        rw [e]; exact ev_eq hj0 (by simp [c1, c2, c3])
      · have e : (S.toList != S'.toList) = true := by simp [c3]
        rw [e]; exact ev_eq hj1 (by simp [c3])
    · exact ev_neg c2 (ev_eq hj1 (by simp [c2]))
  · exact ev_neg c1 (ev_eq hj1 (by simp [c1]))
theorem good_pos {G : List ByteArray} {P F S : ByteArray} (h : goodN G P F S = true) : G.length ≤ 3 ∧ ∀ x ∈ G, 1 ≤ x.size := by
  unfold goodN at h
  simp only [Bool.and_eq_true, decide_eq_true_eq] at h
  refine ⟨h.2.1, fun x hx => ?_⟩
  have := List.all_eq_true.1 h.1 x hx
  unfold greatD at this
  rw [Bool.and_eq_true] at this
  exact (word_in this.1).1
end Go.Proofs.YtcckamdpncbkoaaDoor.G

namespace Go.Proofs.YtcckamdpncbkoaaDoor.G
open Go.RowKit Go.Proofs.YtcckamdpncbkoaaDoorW.PrintWords Go.Proofs.YtcckamdpncbkoaaDoorW.PrintLast Go.Proofs.YtcckamdpncbkoaaDoorW.PrintMore
open Go.Proofs.YtcckamdpncbkoaaDoor.Gl Go.Proofs.YtcckamdpncbkoaaDoor.Ext
attribute [local go_sem] max2_int min2_int max_two min_two max_three min_three max_four min_four   -- for this text's walks alone
set_option linter.unusedVariables false
set_option linter.unusedSimpArgs false

/-! ### spec_l2Full: function 53 -/
def spec_l2Full.f (k : Nat) (l0_0 : List ByteArray) (a0_1 : ByteArray) (a0_2 : ByteArray) (a0_3 : ByteArray) : Option (ByteArray) := (spec_l2Given.f k l0_0 a0_1 a0_2 a0_3).bind fun t342 => ((spec_l2Join.f k (([t342, a0_1, a0_2, a0_3] : List ByteArray))).bind fun t346 => (some t346))
theorem spec_l2Full.mono : ∀ a0 a1 a2 a3 k, LeO (spec_l2Full.f k a0 a1 a2 a3) (spec_l2Full.f (k + 1) a0 a1 a2 a3) := by
  intro a0 a1 a2 a3 k
  unfold spec_l2Full.f
  repeat' first
      | (with_reducible exact spec_l2Given.mono _ _ _ _ _)
      | (with_reducible exact spec_l2Join.mono _ _)
      | (with_reducible exact LeO.refl _)
      | (with_reducible exact LeO.none _)
      | (with_reducible refine LeO.ite ?_ ?_)
      | (with_reducible refine LeO.bind ?_ (fun _ => ?_))
      | exact spec_l2Given.mono _ _ _ _ _
      | exact spec_l2Join.mono _ _
      | exact LeO.none _
      | refine LeO.ite ?_ ?_
      | refine LeO.bind ?_ (fun _ => ?_)
def spec_l2Full.T1 : Bool × List (List Nat × List Nat) := (true, [([], []), ([0], [0]), ([], []), ([2], [2]), ([], []), ([4], [4]), ([], []), ([6], [6]), ([1, 3, 5, 7], [1, 3, 5, 7]), ([8, 1], [8]), ([9, 9, 0, 1, 2, 3, 4, 5, 6, 7, 8, 9], [9])])
def spec_l2Full.B1 : List Nat := [0, 1, 0, 4, 0, 16, 0, 64, 255, 511, 1023]
theorem spec_l2Full.tab1 : rtab .any (opsOf Tryd.f53 1) = spec_l2Full.T1 := by kernel_rfl
theorem spec_l2Full.bits1 : waitsOk spec_l2Full.T1.2 spec_l2Full.B1 = true := by kernel_rfl
set_option maxHeartbeats 8000000 in
set_option maxRecDepth 100000 in
theorem spec_l2Full.calls (k : Nat) (A0_0 : Option Addr) (c0_0 : Nat) (l0_0 : List ByteArray) (a0_1 : ByteArray) (a0_2 : ByteArray) (a0_3 : ByteArray) (r : ByteArray) (w : World) (hr0_0 : Kd.C Kd.string w A0_0 l0_0.length l0_0) (hc0_0 : l0_0.length ≤ c0_0) (h : spec_l2Full.f k l0_0 a0_1 a0_2 a0_3 = some r) :
    Calls Tryd.prog 53 #[.agg #[.slice A0_0 l0_0.length c0_0, .string a0_1, .string a0_2, .string a0_3]] w fun e w' => e = .returned (.string r) ∧ Below w.heap.size w w' := by
  have hu27 := Tryd.underlying27
  have HR0_0 := Aside0.mk hr0_0
  have HC0_0 := Aside0.mk hc0_0
  clear hr0_0 hc0_0
  have HB := Aside0.mk (Below.refl w.heap.size w)
  have H : ((spec_l2Given.f k l0_0 a0_1 a0_2 a0_3).bind fun t342 => ((spec_l2Join.f k (([t342, a0_1, a0_2, a0_3] : List ByteArray))).bind fun t346 => (some t346))) = some r := h
  clear h
  replace H := Option.bind_eq_some_iff.mp H
  obtain ⟨t342, A20, H⟩ := H
  replace H : ((spec_l2Join.f k (([t342, a0_1, a0_2, a0_3] : List ByteArray))).bind fun t346 => (some t346)) = some r := H
  have A2 := Aside0.mk A20
  clear A20
  obtain ⟨y343, hy343⟩ : ∃ y_ : List ByteArray, y_ = (([t342, a0_1, a0_2, a0_3] : List ByteArray)) := ⟨_, rfl⟩
  replace H : ((spec_l2Join.f k y343).bind fun t346 => (some t346)) = some r := by first | (rw [hy343]; with_reducible exact H) | (have H2_ := (Option.bind_some _ _).symm.trans H; rw [hy343]; with_reducible exact H2_) | (have H2_ := (Option.bind_some _ _).symm.trans H; with_reducible exact H2_) | with_reducible exact H | (rw [hy343]; exact H) | exact H
  have Ny343 := Aside0.mk hy343
  clear hy343
  replace H := Option.bind_eq_some_iff.mp H
  obtain ⟨t346, A30, H⟩ := H
  replace H : (some t346) = some r := H
  have A3 := Aside0.mk A30
  clear A30
  obtain rfl := Option.some.inj H
  go_enter Tryd.func53, Tryd.ntmps53
  try go_wp2_with (first | ((with_reducible refine gate_dst (N := 1) rfl ?_); refine box_event ?hg (N := 1) ?hd (cs := #[.slice A0_0 l0_0.length c0_0, .string a0_1, .string a0_2, .string a0_3]) (t := 27) ?hr ?_; (case hd => rfl); (case hg => rfl); (case hr => first | (go_simp; done) | (go_simp; rfl)); intro gb341 hg w4 hbox hb; have n0_ := Aside0.mk (below_step (by repeat (first | (with_reducible first | exact HB.out | apply below_alloc | apply pw_below_drewN | apply below_drew1) | exact HB.out)) hb); have n1_ := Aside0.mk (hbox); have n2_ := Aside0.mk ((by rw [hg]; exact (below_size (by repeat (first | (with_reducible first | exact HB.out | apply below_alloc | apply pw_below_drewN | apply below_drew1) | exact HB.out))) : w.heap.size ≤ gb341)); have n3_ := Aside0.mk ((by rw [hg]; exact (below_size (by repeat (first | (with_reducible first | exact HB.out | apply below_alloc | apply pw_below_drewN | apply below_drew1) | exact HB.out))) : w.heap.size ≤ gb341)); clear HB; have HB := n0_; have BK341 := n1_; have GW341 := n2_; have GE341 := n3_; clear n0_ n1_ n2_ n3_; clear hb hbox hg))
  have n0_ := Aside0.mk (blk_drew BK341.out)
  have n1_ := Aside0.mk (below_drew1 HB.out)
  clear BK341
  clear HB
  have BK341 := n0_
  have HB := n1_
  clear n0_ n1_
  refine start_ (n := 11) (S := fun w' => w'.cell? ⟨gb341, 0, none⟩ = some (.slice A0_0 l0_0.length c0_0) ∧ w'.cell? ⟨gb341, 1, none⟩ = some (.string a0_1) ∧ w'.cell? ⟨gb341, 2, none⟩ = some (.string a0_2) ∧ w'.cell? ⟨gb341, 3, none⟩ = some (.string a0_3)) (ds := []) #[false, false, false, false, false, false, false, false, false, false, false] (by kernel_rfl) rfl rfl ⟨(blk_cell BK341.out 0).trans rfl, (blk_cell BK341.out 1).trans rfl, (blk_cell BK341.out 2).trans rfl, (blk_cell BK341.out 3).trans rfl⟩ (fun hHeld => ?_); refine with_tabW spec_l2Full.tab1 spec_l2Full.bits1 (fun HT_ HW_ => ?_)
  generalize w4.drew = w5 at BK341 HB hHeld ⊢
  refine pure_ (i := 2) (N := some 5) (v := ?_) (a' := ?_) #[false, false, true, false, false, false, false, false, false, false, false] rfl rfl (any_of HT_.out (by kernel_rfl)) (fun _ _ _ h => h) (Or.inl ⟨by rfl, ?_⟩) ?_ ?_
  rotate_left
  · intro w'
    go_simp
    with_reducible rfl
  rotate_left
  · simp only [Act.put, List.setIfInBounds_toArray, List.set_cons_zero, List.set_cons_succ, i64_w, i32_w]
    rfl
  refine pure_ (i := 4) (N := some 7) (v := ?_) (a' := ?_) #[false, false, true, false, true, false, false, false, false, false, false] rfl rfl (any_of HT_.out (by kernel_rfl)) (fun _ _ _ h => h) (Or.inl ⟨by rfl, ?_⟩) ?_ ?_
  rotate_left
  · intro w'
    go_simp
    with_reducible rfl
  rotate_left
  · simp only [Act.put, List.setIfInBounds_toArray, List.set_cons_zero, List.set_cons_succ, i64_w, i32_w]
    rfl
  refine pure_ (i := 6) (N := some 9) (v := ?_) (a' := ?_) #[false, false, true, false, true, false, true, false, false, false, false] rfl rfl (any_of HT_.out (by kernel_rfl)) (fun _ _ _ h => h) (Or.inl ⟨by rfl, ?_⟩) ?_ ?_
  rotate_left
  · intro w'
    go_simp
    with_reducible rfl
  rotate_left
  · simp only [Act.put, List.setIfInBounds_toArray, List.set_cons_zero, List.set_cons_succ, i64_w, i32_w]
    rfl
  refine take_ (i := 0) (N := some 3) (v := ?_) (a' := ?_) #[true, false, true, false, true, false, true, false, false, false, false] rfl rfl (take_ofW HT_.out HW_.out (by kernel_rfl)) (fun _ _ _ h => h) (Or.inl ⟨by rfl, ?_⟩) hHeld ?_ ?_
  rotate_left
  · rintro w' ⟨s0, s1, s2, s3⟩
    go_simp
    with_reducible rfl
  rotate_left
  · simp only [Act.put, List.setIfInBounds_toArray, List.set_cons_zero, List.set_cons_succ, i64_w, i32_w]
    rfl
  refine take_ (i := 3) (N := some 6) (v := ?_) (a' := ?_) #[true, false, true, true, true, false, true, false, false, false, false] rfl rfl (take_ofW HT_.out HW_.out (by kernel_rfl)) (fun _ _ _ h => h) (Or.inl ⟨by rfl, ?_⟩) hHeld ?_ ?_
  rotate_left
  · rintro w' ⟨s0, s1, s2, s3⟩
    go_simp
    with_reducible rfl
  rotate_left
  · simp only [Act.put, List.setIfInBounds_toArray, List.set_cons_zero, List.set_cons_succ, i64_w, i32_w]
    rfl
  refine take_ (i := 5) (N := some 8) (v := ?_) (a' := ?_) #[true, false, true, true, true, true, true, false, false, false, false] rfl rfl (take_ofW HT_.out HW_.out (by kernel_rfl)) (fun _ _ _ h => h) (Or.inl ⟨by rfl, ?_⟩) hHeld ?_ ?_
  rotate_left
  · rintro w' ⟨s0, s1, s2, s3⟩
    go_simp
    with_reducible rfl
  rotate_left
  · simp only [Act.put, List.setIfInBounds_toArray, List.set_cons_zero, List.set_cons_succ, i64_w, i32_w]
    rfl
  refine take_ (i := 7) (N := some 10) (v := ?_) (a' := ?_) #[true, false, true, true, true, true, true, true, false, false, false] rfl rfl (take_ofW HT_.out HW_.out (by kernel_rfl)) (fun _ _ _ h => h) (Or.inl ⟨by rfl, ?_⟩) hHeld ?_ ?_
  rotate_left
  · rintro w' ⟨s0, s1, s2, s3⟩
    go_simp
    with_reducible rfl
  rotate_left
  · simp only [Act.put, List.setIfInBounds_toArray, List.set_cons_zero, List.set_cons_succ, i64_w, i32_w]
    rfl
  refine one_ (i := 1) (N := some 4) #[true, true, true, true, true, true, true, true, false, false, false] rfl rfl (one_of HT_.out (by kernel_rfl)) (by decide) (fun K hK => ?_)
  refine goes_ Tryd.func81 (by kernel_rfl) rfl #[.agg #[.slice A0_0 l0_0.length c0_0, .string a0_1, .string a0_2, .string a0_3]] (by rfl) rfl rfl (by (try simp only [List.map_toArray, List.map_cons, List.map_nil]); first | done | rfl | (simp only [List.length_drop, List.length_take]; rfl)) ?_
  with_reducible refine (spec_l2Given.calls k _ _ l0_0 a0_1 a0_2 a0_3 t342 _ ?side1 ?side2 A2.out).mono ?_
  (case side1 => repeat (first | exact (Kd.C_below HR0_0.out HB.out) | (with_reducible refine Kd.C_alloc ?_ _) | (with_reducible refine Kd.C_drewN ?_ _) | (with_reducible refine Kd.C_drew ?_)))
  (case side2 => exact HC0_0.out)
  rintro e w6 ⟨rfl, hb⟩
  refine ⟨_, rfl, ?_⟩
  have n0_ := Aside0.mk (blk_below (g := gb341) (o := .cells #[.slice A0_0 l0_0.length c0_0, .string a0_1, .string a0_2, .string a0_3] 27 (0, 0)) (by (with_reducible repeat (first | refine blk_drewN ?_ _ | refine blk_drew ?_ | refine blk_alloc ?_ _)); exact BK341.out) hb)
  have n1_ := Aside0.mk (below_step (by repeat (first | (with_reducible first | exact HB.out | apply below_alloc | apply pw_below_drewN | apply below_drew1 | refine below_set ?_ GE341.out) | exact HB.out)) hb)
  clear BK341
  clear HB
  have BK341 := n0_
  have HB := n1_
  clear n0_ n1_
  (try clear hb)
  (try clear hb2)
  (try clear hk)
  (try clear hi)
  refine hK.out _ _ ⟨(blk_cell BK341.out 0).trans rfl, (blk_cell BK341.out 1).trans rfl, (blk_cell BK341.out 2).trans rfl, (blk_cell BK341.out 3).trans rfl⟩ (fun hHeld => ?_)
  clear hK K
  refine norm_ (a' := ?_) ?_ ?_
  rotate_left
  · show Act.put _ (some 4) _ = _
    simp only [Act.put, List.setIfInBounds_toArray, List.set_cons_zero, List.set_cons_succ, i64_w, i32_w]
    rfl
  refine one_ (i := 8) (N := some 11) #[true, true, true, true, true, true, true, true, true, false, false] rfl rfl (one_of HT_.out (by kernel_rfl)) (by decide) (fun K hK => ?_)
  refine Kd.R_lit_step Kd.string _ 9 ?hg (N := 11) ?hd (xs := ([t342, a0_1, a0_2, a0_3] : List ByteArray)) (inner := [.string t342, .string a0_1, .string a0_2, .string a0_3]) (ok := fun _ => True) (okp := fun _ => True) ?hr ?hp (fun _ hk => hk) trivial (Below.refl _ _) (Nat.le_refl _) (by simp) ?_; (case hd => rfl); (case hg => rfl); (case hr => first | (go_simp; done) | (go_simp; rfl)); (case hp => exact (Reps.one (show Kd.M Kd.string _ _ _ t342 [.string t342] from rfl) (Reps.one (show Kd.M Kd.string _ _ _ a0_1 [.string a0_1] from rfl) (Reps.one (show Kd.M Kd.string _ _ _ a0_2 [.string a0_2] from rfl) (Reps.one (show Kd.M Kd.string _ _ _ a0_3 [.string a0_3] from rfl) (Reps.none _ _))))))
  intro v344 w7 ho8 hb hg_ hnew_
  clear hg_ hnew_
  (first | rw [← Ny343.out] at ho8 | (simp only [Int.reduceToNat] at ho8; rw [← Ny343.out] at ho8))
  have n0_ := Aside0.mk (Kd.R_lower ho8 (below_size (by repeat (first | (with_reducible first | exact HB.out | apply below_alloc | apply pw_below_drewN | apply below_drew1 | refine below_set ?_ GE341.out) | exact HB.out))))
  have n1_ := Aside0.mk (blk_below (g := gb341) (o := .cells #[.slice A0_0 l0_0.length c0_0, .string a0_1, .string a0_2, .string a0_3] 27 (0, 0)) (by (with_reducible repeat (first | refine blk_drewN ?_ _ | refine blk_drew ?_ | refine blk_alloc ?_ _)); exact BK341.out) hb)
  have n2_ := Aside0.mk (below_step (by repeat (first | (with_reducible first | exact HB.out | apply below_alloc | apply pw_below_drewN | apply below_drew1 | refine below_set ?_ GE341.out) | exact HB.out)) hb)
  clear BK341
  clear HB
  have HO345 := n0_
  have BK341 := n1_
  have HB := n2_
  clear n0_ n1_ n2_
  clear hb ho8
  obtain ⟨Ao9, co9, eo9⟩ := Kd.R_slice HO345.out
  (first | subst eo9 | (injection eo9 with f1_ f2_ f3_; have f4_ := f1_.symm; have f5_ := f3_.symm; clear f1_ f2_ f3_; subst f4_; subst f5_))
  refine hK.out _ _ ⟨(blk_cell BK341.out 0).trans rfl, (blk_cell BK341.out 1).trans rfl, (blk_cell BK341.out 2).trans rfl, (blk_cell BK341.out 3).trans rfl⟩ (fun hHeld => ?_)
  clear hK K
  refine norm_ (a' := ?_) ?_ ?_
  rotate_left
  · show Act.put _ (some 11) _ = _
    simp only [Act.put, List.setIfInBounds_toArray, List.set_cons_zero, List.set_cons_succ, i64_w, i32_w]
    rfl
  refine one_ (i := 9) (N := some 12) #[true, true, true, true, true, true, true, true, true, true, false] rfl rfl (one_of HT_.out (by kernel_rfl)) (by decide) (fun K hK => ?_)
  refine goes_ Tryd.func80 (by kernel_rfl) rfl #[.slice Ao9 y343.length co9] (by rfl) rfl rfl (by (try simp only [List.map_toArray, List.map_cons, List.map_nil]); first | done | rfl | (simp only [List.length_drop, List.length_take]; rfl)) ?_
  with_reducible refine (spec_l2Join.calls k _ _ y343 t346 _ ?side1 ?side2 A3.out).mono ?_
  (case side1 => repeat (first | exact (Kd.R_reads' HO345.out).2.2 | (with_reducible refine Kd.C_alloc ?_ _) | (with_reducible refine Kd.C_drewN ?_ _) | (with_reducible refine Kd.C_drew ?_)))
  (case side2 => exact (Kd.R_reads' HO345.out).2.1)
  rintro e w' ⟨rfl, ⟨nd, rfl⟩⟩
  refine ⟨_, rfl, ?_⟩
  refine hK.out _ _ ⟨(blk_cell BK341.out 0).trans rfl, (blk_cell BK341.out 1).trans rfl, (blk_cell BK341.out 2).trans rfl, (blk_cell BK341.out 3).trans rfl⟩ (fun hHeld => ?_)
  clear hK K
  refine norm_ (a' := ?_) ?_ ?_
  rotate_left
  · show Act.put _ (some 12) _ = _
    simp only [Act.put, List.setIfInBounds_toArray, List.set_cons_zero, List.set_cons_succ, i64_w, i32_w]
    rfl
  refine pure_ (i := 10) (N := some 2) (v := ?_) (a' := ?_) #[true, true, true, true, true, true, true, true, true, true, true] rfl rfl (any_of HT_.out (by kernel_rfl)) (fun _ _ _ h => h) (Or.inl ⟨by rfl, ?_⟩) ?_ ?_
  rotate_left
  · intro w'
    go_simp
    with_reducible rfl
  rotate_left
  · simp only [Act.put, List.setIfInBounds_toArray, List.set_cons_zero, List.set_cons_succ, i64_w, i32_w]
    rfl
  refine done_ (done_of HT_.out (by kernel_rfl)) ?_
  try go_wp2
  go_ret
  exact ⟨by first | rfl | (simp [errW_none, errW_some] <;> rfl) | (simp [*, errW_none, errW_some] <;> rfl), by repeat (first | (with_reducible first | exact HB.out | apply below_alloc | apply pw_below_drewN | apply below_drew1 | refine below_set ?_ GE341.out) | exact HB.out)⟩

end Go.Proofs.YtcckamdpncbkoaaDoor.G

namespace Go.Proofs.YtcckamdpncbkoaaDoor.G
open Go.RowKit Go.Proofs.YtcckamdpncbkoaaDoorW.PrintWords Go.Proofs.YtcckamdpncbkoaaDoorW.PrintLast Go.Proofs.YtcckamdpncbkoaaDoorW.PrintMore
open Go.Proofs.YtcckamdpncbkoaaDoor.Gl Go.Proofs.YtcckamdpncbkoaaDoor.Ext
attribute [local go_sem] max2_int min2_int max_two min_two max_three min_three max_four min_four   -- for this text's walks alone
set_option linter.unusedVariables false
set_option linter.unusedSimpArgs false

/-! ### impl_fullForm: function 54 -/
def impl_fullForm.f (l0_0 : List ByteArray) (a0_1 : ByteArray) (a0_2 : ByteArray) (a0_3 : ByteArray) : Option (ByteArray) := (strings_Join.f l0_0 (⟨#[32]⟩ : ByteArray)).bind fun t351 => ((impl_spaced.f (([t351, a0_1, a0_2, a0_3] : List ByteArray))).bind fun t355 => (some t355))
def impl_fullForm.T1 : Bool × List (List Nat × List Nat) := (true, [([], []), ([0], [0]), ([1], [1]), ([], []), ([3], [3]), ([], []), ([5], [5]), ([], []), ([7], [7]), ([2, 4, 6, 8], [2, 4, 6, 8]), ([9, 2], [9]), ([10, 10, 0, 1, 2, 3, 4, 5, 6, 7, 8, 9, 10], [10])])
def impl_fullForm.B1 : List Nat := [0, 1, 3, 0, 8, 0, 32, 0, 128, 511, 1023, 2047]
theorem impl_fullForm.tab1 : rtab .any (opsOf Tryd.f54 1) = impl_fullForm.T1 := by kernel_rfl
theorem impl_fullForm.bits1 : waitsOk impl_fullForm.T1.2 impl_fullForm.B1 = true := by kernel_rfl
set_option maxHeartbeats 8000000 in
set_option maxRecDepth 100000 in
theorem impl_fullForm.calls (A0_0 : Option Addr) (c0_0 : Nat) (l0_0 : List ByteArray) (a0_1 : ByteArray) (a0_2 : ByteArray) (a0_3 : ByteArray) (r : ByteArray) (w : World) (hr0_0 : Kd.C Kd.string w A0_0 l0_0.length l0_0) (hc0_0 : l0_0.length ≤ c0_0) (h : impl_fullForm.f l0_0 a0_1 a0_2 a0_3 = some r) :
    Calls Tryd.prog 54 #[.agg #[.slice A0_0 l0_0.length c0_0, .string a0_1, .string a0_2, .string a0_3]] w fun e w' => e = .returned (.string r) ∧ Below w.heap.size w w' := by
  have hu27 := Tryd.underlying27
  have HR0_0 := Aside0.mk hr0_0
  have HC0_0 := Aside0.mk hc0_0
  clear hr0_0 hc0_0
  have HB := Aside0.mk (Below.refl w.heap.size w)
  have H : ((strings_Join.f l0_0 (⟨#[32]⟩ : ByteArray)).bind fun t351 => ((impl_spaced.f (([t351, a0_1, a0_2, a0_3] : List ByteArray))).bind fun t355 => (some t355))) = some r := h
  clear h
  replace H := Option.bind_eq_some_iff.mp H
  obtain ⟨t351, A20, H⟩ := H
  replace H : ((impl_spaced.f (([t351, a0_1, a0_2, a0_3] : List ByteArray))).bind fun t355 => (some t355)) = some r := H
  have A2 := Aside0.mk A20
  clear A20
  obtain ⟨y352, hy352⟩ : ∃ y_ : List ByteArray, y_ = (([t351, a0_1, a0_2, a0_3] : List ByteArray)) := ⟨_, rfl⟩
  replace H : ((impl_spaced.f y352).bind fun t355 => (some t355)) = some r := by first | (rw [hy352]; with_reducible exact H) | (have H2_ := (Option.bind_some _ _).symm.trans H; rw [hy352]; with_reducible exact H2_) | (have H2_ := (Option.bind_some _ _).symm.trans H; with_reducible exact H2_) | with_reducible exact H | (rw [hy352]; exact H) | exact H
  have Ny352 := Aside0.mk hy352
  clear hy352
  replace H := Option.bind_eq_some_iff.mp H
  obtain ⟨t355, A30, H⟩ := H
  replace H : (some t355) = some r := H
  have A3 := Aside0.mk A30
  clear A30
  obtain rfl := Option.some.inj H
  go_enter Tryd.func54, Tryd.ntmps54
  try go_wp2_with (first | ((with_reducible refine gate_dst (N := 1) rfl ?_); refine box_event ?hg (N := 1) ?hd (cs := #[.slice A0_0 l0_0.length c0_0, .string a0_1, .string a0_2, .string a0_3]) (t := 27) ?hr ?_; (case hd => rfl); (case hg => rfl); (case hr => first | (go_simp; done) | (go_simp; rfl)); intro gb350 hg w4 hbox hb; have n0_ := Aside0.mk (below_step (by repeat (first | (with_reducible first | exact HB.out | apply below_alloc | apply pw_below_drewN | apply below_drew1) | exact HB.out)) hb); have n1_ := Aside0.mk (hbox); have n2_ := Aside0.mk ((by rw [hg]; exact (below_size (by repeat (first | (with_reducible first | exact HB.out | apply below_alloc | apply pw_below_drewN | apply below_drew1) | exact HB.out))) : w.heap.size ≤ gb350)); have n3_ := Aside0.mk ((by rw [hg]; exact (below_size (by repeat (first | (with_reducible first | exact HB.out | apply below_alloc | apply pw_below_drewN | apply below_drew1) | exact HB.out))) : w.heap.size ≤ gb350)); clear HB; have HB := n0_; have BK350 := n1_; have GW350 := n2_; have GE350 := n3_; clear n0_ n1_ n2_ n3_; clear hb hbox hg))
  have n0_ := Aside0.mk (blk_drew BK350.out)
  have n1_ := Aside0.mk (below_drew1 HB.out)
  clear BK350
  clear HB
  have BK350 := n0_
  have HB := n1_
  clear n0_ n1_
  refine start_ (n := 12) (S := fun w' => w'.cell? ⟨gb350, 0, none⟩ = some (.slice A0_0 l0_0.length c0_0) ∧ w'.cell? ⟨gb350, 1, none⟩ = some (.string a0_1) ∧ w'.cell? ⟨gb350, 2, none⟩ = some (.string a0_2) ∧ w'.cell? ⟨gb350, 3, none⟩ = some (.string a0_3)) (ds := []) #[false, false, false, false, false, false, false, false, false, false, false, false] (by kernel_rfl) rfl rfl ⟨(blk_cell BK350.out 0).trans rfl, (blk_cell BK350.out 1).trans rfl, (blk_cell BK350.out 2).trans rfl, (blk_cell BK350.out 3).trans rfl⟩ (fun hHeld => ?_); refine with_tabW impl_fullForm.tab1 impl_fullForm.bits1 (fun HT_ HW_ => ?_)
  generalize w4.drew = w5 at BK350 HB hHeld ⊢
  refine pure_ (i := 0) (N := some 3) (v := ?_) (a' := ?_) #[true, false, false, false, false, false, false, false, false, false, false, false] rfl rfl (any_of HT_.out (by kernel_rfl)) (fun _ _ _ h => h) (Or.inl ⟨by rfl, ?_⟩) ?_ ?_
  rotate_left
  · intro w'
    go_simp
    with_reducible rfl
  rotate_left
  · simp only [Act.put, List.setIfInBounds_toArray, List.set_cons_zero, List.set_cons_succ, i64_w, i32_w]
    rfl
  refine pure_ (i := 3) (N := some 6) (v := ?_) (a' := ?_) #[true, false, false, true, false, false, false, false, false, false, false, false] rfl rfl (any_of HT_.out (by kernel_rfl)) (fun _ _ _ h => h) (Or.inl ⟨by rfl, ?_⟩) ?_ ?_
  rotate_left
  · intro w'
    go_simp
    with_reducible rfl
  rotate_left
  · simp only [Act.put, List.setIfInBounds_toArray, List.set_cons_zero, List.set_cons_succ, i64_w, i32_w]
    rfl
  refine pure_ (i := 5) (N := some 8) (v := ?_) (a' := ?_) #[true, false, false, true, false, true, false, false, false, false, false, false] rfl rfl (any_of HT_.out (by kernel_rfl)) (fun _ _ _ h => h) (Or.inl ⟨by rfl, ?_⟩) ?_ ?_
  rotate_left
  · intro w'
    go_simp
    with_reducible rfl
  rotate_left
  · simp only [Act.put, List.setIfInBounds_toArray, List.set_cons_zero, List.set_cons_succ, i64_w, i32_w]
    rfl
  refine pure_ (i := 7) (N := some 10) (v := ?_) (a' := ?_) #[true, false, false, true, false, true, false, true, false, false, false, false] rfl rfl (any_of HT_.out (by kernel_rfl)) (fun _ _ _ h => h) (Or.inl ⟨by rfl, ?_⟩) ?_ ?_
  rotate_left
  · intro w'
    go_simp
    with_reducible rfl
  rotate_left
  · simp only [Act.put, List.setIfInBounds_toArray, List.set_cons_zero, List.set_cons_succ, i64_w, i32_w]
    rfl
  refine take_ (i := 1) (N := some 4) (v := ?_) (a' := ?_) #[true, true, false, true, false, true, false, true, false, false, false, false] rfl rfl (take_ofW HT_.out HW_.out (by kernel_rfl)) (fun _ _ _ h => h) (Or.inl ⟨by rfl, ?_⟩) hHeld ?_ ?_
  rotate_left
  · rintro w' ⟨s0, s1, s2, s3⟩
    go_simp
    with_reducible rfl
  rotate_left
  · simp only [Act.put, List.setIfInBounds_toArray, List.set_cons_zero, List.set_cons_succ, i64_w, i32_w]
    rfl
  refine take_ (i := 4) (N := some 7) (v := ?_) (a' := ?_) #[true, true, false, true, true, true, false, true, false, false, false, false] rfl rfl (take_ofW HT_.out HW_.out (by kernel_rfl)) (fun _ _ _ h => h) (Or.inl ⟨by rfl, ?_⟩) hHeld ?_ ?_
  rotate_left
  · rintro w' ⟨s0, s1, s2, s3⟩
    go_simp
    with_reducible rfl
  rotate_left
  · simp only [Act.put, List.setIfInBounds_toArray, List.set_cons_zero, List.set_cons_succ, i64_w, i32_w]
    rfl
  refine take_ (i := 6) (N := some 9) (v := ?_) (a' := ?_) #[true, true, false, true, true, true, true, true, false, false, false, false] rfl rfl (take_ofW HT_.out HW_.out (by kernel_rfl)) (fun _ _ _ h => h) (Or.inl ⟨by rfl, ?_⟩) hHeld ?_ ?_
  rotate_left
  · rintro w' ⟨s0, s1, s2, s3⟩
    go_simp
    with_reducible rfl
  rotate_left
  · simp only [Act.put, List.setIfInBounds_toArray, List.set_cons_zero, List.set_cons_succ, i64_w, i32_w]
    rfl
  refine take_ (i := 8) (N := some 11) (v := ?_) (a' := ?_) #[true, true, false, true, true, true, true, true, true, false, false, false] rfl rfl (take_ofW HT_.out HW_.out (by kernel_rfl)) (fun _ _ _ h => h) (Or.inl ⟨by rfl, ?_⟩) hHeld ?_ ?_
  rotate_left
  · rintro w' ⟨s0, s1, s2, s3⟩
    go_simp
    with_reducible rfl
  rotate_left
  · simp only [Act.put, List.setIfInBounds_toArray, List.set_cons_zero, List.set_cons_succ, i64_w, i32_w]
    rfl
  refine one_ (i := 2) (N := some 5) #[true, true, true, true, true, true, true, true, true, false, false, false] rfl rfl (one_of HT_.out (by kernel_rfl)) (by decide) (fun K hK => ?_)
  refine goes_ Tryd.func61 (by kernel_rfl) rfl #[.slice A0_0 l0_0.length c0_0, .string (⟨#[32]⟩ : ByteArray)] (by rfl) rfl rfl (by (try simp only [List.map_toArray, List.map_cons, List.map_nil]); first | done | rfl | (simp only [List.length_drop, List.length_take]; rfl)) ?_
  with_reducible refine (strings_Join.calls _ _ l0_0 (⟨#[32]⟩ : ByteArray) t351 _ ?side1 ?side2 A2.out).mono ?_
  (case side1 => repeat (first | exact (Kd.C_below HR0_0.out HB.out) | (with_reducible refine Kd.C_alloc ?_ _) | (with_reducible refine Kd.C_drewN ?_ _) | (with_reducible refine Kd.C_drew ?_)))
  (case side2 => exact HC0_0.out)
  rintro e w6 ⟨rfl, hb⟩
  refine ⟨_, rfl, ?_⟩
  have n0_ := Aside0.mk (blk_below (g := gb350) (o := .cells #[.slice A0_0 l0_0.length c0_0, .string a0_1, .string a0_2, .string a0_3] 27 (0, 0)) (by (with_reducible repeat (first | refine blk_drewN ?_ _ | refine blk_drew ?_ | refine blk_alloc ?_ _)); exact BK350.out) hb)
  have n1_ := Aside0.mk (below_step (by repeat (first | (with_reducible first | exact HB.out | apply below_alloc | apply pw_below_drewN | apply below_drew1 | refine below_set ?_ GE350.out) | exact HB.out)) hb)
  clear BK350
  clear HB
  have BK350 := n0_
  have HB := n1_
  clear n0_ n1_
  (try clear hb)
  (try clear hb2)
  (try clear hk)
  (try clear hi)
  refine hK.out _ _ ⟨(blk_cell BK350.out 0).trans rfl, (blk_cell BK350.out 1).trans rfl, (blk_cell BK350.out 2).trans rfl, (blk_cell BK350.out 3).trans rfl⟩ (fun hHeld => ?_)
  clear hK K
  refine norm_ (a' := ?_) ?_ ?_
  rotate_left
  · show Act.put _ (some 5) _ = _
    simp only [Act.put, List.setIfInBounds_toArray, List.set_cons_zero, List.set_cons_succ, i64_w, i32_w]
    rfl
  refine one_ (i := 9) (N := some 12) #[true, true, true, true, true, true, true, true, true, true, false, false] rfl rfl (one_of HT_.out (by kernel_rfl)) (by decide) (fun K hK => ?_)
  refine Kd.R_lit_step Kd.string _ 9 ?hg (N := 12) ?hd (xs := ([t351, a0_1, a0_2, a0_3] : List ByteArray)) (inner := [.string t351, .string a0_1, .string a0_2, .string a0_3]) (ok := fun _ => True) (okp := fun _ => True) ?hr ?hp (fun _ hk => hk) trivial (Below.refl _ _) (Nat.le_refl _) (by simp) ?_; (case hd => rfl); (case hg => rfl); (case hr => first | (go_simp; done) | (go_simp; rfl)); (case hp => exact (Reps.one (show Kd.M Kd.string _ _ _ t351 [.string t351] from rfl) (Reps.one (show Kd.M Kd.string _ _ _ a0_1 [.string a0_1] from rfl) (Reps.one (show Kd.M Kd.string _ _ _ a0_2 [.string a0_2] from rfl) (Reps.one (show Kd.M Kd.string _ _ _ a0_3 [.string a0_3] from rfl) (Reps.none _ _))))))
  intro v353 w7 ho8 hb hg_ hnew_
  clear hg_ hnew_
  (first | rw [← Ny352.out] at ho8 | (simp only [Int.reduceToNat] at ho8; rw [← Ny352.out] at ho8))
  have n0_ := Aside0.mk (Kd.R_lower ho8 (below_size (by repeat (first | (with_reducible first | exact HB.out | apply below_alloc | apply pw_below_drewN | apply below_drew1 | refine below_set ?_ GE350.out) | exact HB.out))))
  have n1_ := Aside0.mk (blk_below (g := gb350) (o := .cells #[.slice A0_0 l0_0.length c0_0, .string a0_1, .string a0_2, .string a0_3] 27 (0, 0)) (by (with_reducible repeat (first | refine blk_drewN ?_ _ | refine blk_drew ?_ | refine blk_alloc ?_ _)); exact BK350.out) hb)
  have n2_ := Aside0.mk (below_step (by repeat (first | (with_reducible first | exact HB.out | apply below_alloc | apply pw_below_drewN | apply below_drew1 | refine below_set ?_ GE350.out) | exact HB.out)) hb)
  clear BK350
  clear HB
  have HO354 := n0_
  have BK350 := n1_
  have HB := n2_
  clear n0_ n1_ n2_
  clear hb ho8
  obtain ⟨Ao9, co9, eo9⟩ := Kd.R_slice HO354.out
  (first | subst eo9 | (injection eo9 with f1_ f2_ f3_; have f4_ := f1_.symm; have f5_ := f3_.symm; clear f1_ f2_ f3_; subst f4_; subst f5_))
  refine hK.out _ _ ⟨(blk_cell BK350.out 0).trans rfl, (blk_cell BK350.out 1).trans rfl, (blk_cell BK350.out 2).trans rfl, (blk_cell BK350.out 3).trans rfl⟩ (fun hHeld => ?_)
  clear hK K
  refine norm_ (a' := ?_) ?_ ?_
  rotate_left
  · show Act.put _ (some 12) _ = _
    simp only [Act.put, List.setIfInBounds_toArray, List.set_cons_zero, List.set_cons_succ, i64_w, i32_w]
    rfl
  refine one_ (i := 10) (N := some 13) #[true, true, true, true, true, true, true, true, true, true, true, false] rfl rfl (one_of HT_.out (by kernel_rfl)) (by decide) (fun K hK => ?_)
  refine goes_ Tryd.func82 (by kernel_rfl) rfl #[.slice Ao9 y352.length co9] (by rfl) rfl rfl (by (try simp only [List.map_toArray, List.map_cons, List.map_nil]); first | done | rfl | (simp only [List.length_drop, List.length_take]; rfl)) ?_
  with_reducible refine (impl_spaced.calls (fun k_ => some k_ = (.slice Ao9 y352.length co9 : Value).ownBlock) (.slice Ao9 y352.length co9) y352 t355 w _ ?side1 ?side2 A3.out).mono ?_
  (case side1 => repeat (first | (with_reducible first | exact HB.out | apply below_alloc | apply pw_below_drewN | apply below_drew1 | refine below_set ?_ GE350.out) | exact HB.out))
  (case side2 => exact Kd.R_tight rfl HO354.out)
  rintro e w10 ⟨rfl, hb, hkp⟩
  refine ⟨_, rfl, ?_⟩
  have n0_ := Aside0.mk (blk_kept (by (with_reducible repeat (first | refine blk_drewN ?_ _ | refine blk_drew ?_ | refine blk_alloc ?_ _)); exact BK350.out) hkp (fun hs_ => (fun e_ => (Kd.R_ne HO354.out BK350.out (by decide)) e_) hs_))
  have n1_ := Aside0.mk (hb)
  clear BK350
  clear HB
  clear HO354
  have BK350 := n0_
  have HB := n1_
  clear n0_ n1_
  (try clear hb)
  (try clear hkp)
  refine hK.out _ _ ⟨(blk_cell BK350.out 0).trans rfl, (blk_cell BK350.out 1).trans rfl, (blk_cell BK350.out 2).trans rfl, (blk_cell BK350.out 3).trans rfl⟩ (fun hHeld => ?_)
  clear hK K
  refine norm_ (a' := ?_) ?_ ?_
  rotate_left
  · show Act.put _ (some 13) _ = _
    simp only [Act.put, List.setIfInBounds_toArray, List.set_cons_zero, List.set_cons_succ, i64_w, i32_w]
    rfl
  refine pure_ (i := 11) (N := some 2) (v := ?_) (a' := ?_) #[true, true, true, true, true, true, true, true, true, true, true, true] rfl rfl (any_of HT_.out (by kernel_rfl)) (fun _ _ _ h => h) (Or.inl ⟨by rfl, ?_⟩) ?_ ?_
  rotate_left
  · intro w'
    go_simp
    with_reducible rfl
  rotate_left
  · simp only [Act.put, List.setIfInBounds_toArray, List.set_cons_zero, List.set_cons_succ, i64_w, i32_w]
    rfl
  refine done_ (done_of HT_.out (by kernel_rfl)) ?_
  try go_wp2
  go_ret
  exact ⟨by first | rfl | (simp [errW_none, errW_some] <;> rfl) | (simp [*, errW_none, errW_some] <;> rfl), by repeat (first | (with_reducible first | exact HB.out | apply below_alloc | apply pw_below_drewN | apply below_drew1 | refine below_set ?_ GE350.out) | exact HB.out)⟩

end Go.Proofs.YtcckamdpncbkoaaDoor.G

namespace Go.Proofs.YtcckamdpncbkoaaDoor.G
open Go.RowKit Go.Proofs.YtcckamdpncbkoaaDoorW.PrintWords Go.Proofs.YtcckamdpncbkoaaDoorW.PrintLast Go.Proofs.YtcckamdpncbkoaaDoor.B
set_option linter.unusedVariables false
set_option linter.unusedSimpArgs false
def spB : ByteArray := ⟨#[32]⟩
def glu (s p : ByteArray) : ByteArray := (if s.size ≠ 0 ∧ p.size ≠ 0 then s ++ spB else s) ++ p
def joinD (l : List ByteArray) : ByteArray := l.foldl glu ByteArray.empty
def sumB (l : List ByteArray) : Nat := (l.map fun x => x.size + 1).sum
theorem sumB_cons (a : ByteArray) (l : List ByteArray) : sumB (a :: l) = a.size + 1 + sumB l := by simp [sumB]
theorem glu_size (s p : ByteArray) : (glu s p).size ≤ s.size + (p.size + 1) := by
  unfold glu
  rw [size_append]
  split
  · rw [size_append]; show s.size + 1 + p.size ≤ _; omega
  · omega
theorem fold_size (l : List ByteArray) : ∀ s : ByteArray, (l.foldl glu s).size ≤ s.size + sumB l := by
  induction l with
  | nil => intro s; simp [sumB]
  | cons p l ih =>
    intro s
    have := ih (glu s p)
    have h2 := glu_size s p
    rw [List.foldl_cons, sumB_cons]; omega
theorem joinD_size (l : List ByteArray) : (joinD l).size ≤ sumB l := by
  have := fold_size l ByteArray.empty
  have e : ByteArray.empty.size = 0 := rfl
  unfold joinD; omega
theorem L_nil {s : ByteArray} (h : s.size = 0) : L s = [] := (size_pos_iff s).1 h
theorem L_glu (s p : ByteArray) : L (glu s p) = if s.size ≠ 0 ∧ p.size ≠ 0 then L s ++ 32 :: L p else L s ++ L p := by
  unfold glu
  rw [L_append]
  split
  · rw [L_append, List.append_assoc]; rfl
  · rfl
theorem fold_join (l : List ByteArray) : ∀ s : ByteArray, L (l.foldl glu s) = if s.size = 0 then Lib.join ((l.filter fun x => !decide (x.size = 0)).map (·.data.toList)) [32] else L s ++ Lib.joinTail [32] ((l.filter fun x => !decide (x.size = 0)).map (·.data.toList)) := by
  induction l with
  | nil =>
    intro s
    by_cases h : s.size = 0
    · rw [if_pos h]; simp [Lib.join_nil, L_nil h]
    · rw [if_neg h]; simp [Lib.joinTail]
  | cons p l ih =>
    intro s
    rw [List.foldl_cons, ih]
    by_cases hp : p.size = 0
    · have e : glu s p = s := L_inj (by rw [L_glu, if_neg (fun h => h.2 hp), L_nil hp, List.append_nil])
      rw [e, List.filter_cons_of_neg (by simp [hp])]
    · have hg : ¬ (glu s p).size = 0 := by rw [← L_len, L_glu]; split <;> simp [L_len, hp]
      rw [if_neg hg, List.filter_cons_of_pos (by simp [hp]), List.map_cons, L_glu]
      by_cases h : s.size = 0
      · rw [if_neg (fun x => x.1 h), if_pos h, L_nil h, List.nil_append, Lib.join_cons]
      · rw [if_pos (And.intro h hp), if_neg h]
        simp [Lib.joinTail]
theorem join_filter (l : List ByteArray) : Lib.join ((l.filter fun x => !decide (x.size = 0)).map (·.data.toList)) (⟨#[32]⟩ : ByteArray).data.toList = L (joinD l) := by
  have := fold_join l ByteArray.empty
  rw [if_pos (show ByteArray.empty.size = 0 from rfl)] at this
  exact this.symm
theorem filter_all {l : List ByteArray} (h : ∀ x ∈ l, 1 ≤ x.size) : (l.filter fun x => !decide (x.size = 0)) = l := by
  rw [List.filter_eq_self]
  intro x hx
  have := h x hx
  show (!decide (x.size = 0)) = true
  rw [decide_eq_false (by omega)]; rfl
theorem libJoin_filter (l : List ByteArray) (hl : l.length ≤ 1000) (hs : sumB l ≤ 140737488355328) : strings_Join.f (l.filter fun x => !decide (x.size = 0)) (⟨#[32]⟩ : ByteArray) = some (joinD l) := by
  have h1 : (l.filter fun x => !decide (x.size = 0)).length ≤ l.length := List.length_filter_le _ _
  have h2 := joinD_size l
  unfold strings_Join.f
  rw [join_filter, if_pos ⟨by omega, by rw [L_len]; omega⟩]
theorem libJoin_all (l : List ByteArray) (hp : ∀ x ∈ l, 1 ≤ x.size) (hl : l.length ≤ 1000) (hs : sumB l ≤ 140737488355328) : strings_Join.f l (⟨#[32]⟩ : ByteArray) = some (joinD l) := by
  have := libJoin_filter l hl hs
  rwa [filter_all hp] at this
theorem spaced_eq (l : List ByteArray) (h1 : 1 ≤ l.length) (hl : l.length ≤ 1000) (hs : sumB l ≤ 140737488355328) : impl_spaced.f l = some (joinD l) := by
  unfold impl_spaced.f
  rw [if_pos ⟨h1, hl⟩]
  exact libJoin_filter l hl hs
theorem spec_join_loop (l : List ByteArray) (hl : l.length ≤ 4611686018427387904) (hs : sumB l ≤ 140737488355328) (d : Nat) : ∀ (s : ByteArray) (i : Nat), i ≤ l.length → l.length - i = d → s.size + sumB (l.drop i) ≤ 140737488355328 →
    Ev (fun k => spec_l2Join.l0 k l s (i : Int)) ((l.drop i).foldl glu s) := by
  induction d with
  | zero =>
    intro s i h1 hd hb
    refine Ev.step (f := fun _ => some s) (fun k => ?_) (ev_eq (Ev.now _) ?_)
    · simp only [spec_l2Join.l0]; rw [if_neg (by omega)]
    · rw [List.drop_of_length_le (by omega)]; rfl
  | succ d ih =>
    intro s i h1 hd hb
    have hi : i < l.length := by omega
    have hw : wrap64 ((i : Int) + 1) = ((i + 1 : Nat) : Int) := by rw [w64 (by omega) (by omega)]; rfl
    rw [List.drop_eq_getElem_cons hi] at hb ⊢
    rw [sumB_cons] at hb
    have hg := glu_size s l[i]
    rw [List.foldl_cons]
    refine Ev.step (f := fun k => spec_l2Join.l0 k l (glu s l[i]) ((i + 1 : Nat) : Int)) (fun k => ?_) (ih (glu s l[i]) (i + 1) (by omega) (by omega) (by omega))
    simp only [spec_l2Join.l0, rd_get l i hi]
    have a1 : (i : Int) < (l.length : Int) := by omega
    have a2 : (0 : Int) ≤ (i : Int) := by omega
    have a3 : s.size + l[i].size ≤ 9223372036854775807 := by omega
    have a4 : s.size + 1 ≤ 9223372036854775807 := by omega
    have a5 : (s ++ (⟨#[32]⟩ : ByteArray)).size + l[i].size ≤ 9223372036854775807 := by
      rw [size_append]; show s.size + 1 + l[i].size ≤ _; omega
    simp only [if_pos a1, if_pos a2, if_pos a3, if_pos a4, if_pos a5, hw]
    unfold glu
    by_cases hs0 : s.size = 0
    · have b : s.toList = ([] : List UInt8) := (nil_iff s).2 hs0
      simp only [b, hs0, ne_eq, not_true_eq_false, false_and, if_true, if_false]
    · have b : ¬ s.toList = ([] : List UInt8) := fun e => hs0 ((nil_iff s).1 e)
      rw [if_neg b]
      by_cases hp : l[i].size = 0
      · have b2 : (l[i]).toList = ([] : List UInt8) := (nil_iff _).2 hp
        rw [if_pos b2, if_neg (fun x : s.size ≠ 0 ∧ l[i].size ≠ 0 => x.2 hp)]
      · have b2 : ¬ (l[i]).toList = ([] : List UInt8) := fun e => hp ((nil_iff _).1 e)
        rw [if_neg b2, if_pos (show s.size ≠ 0 ∧ l[i].size ≠ 0 from ⟨hs0, hp⟩)]
        rfl
theorem spec_join (l : List ByteArray) (hl : l.length ≤ 4611686018427387904) (hs : sumB l ≤ 140737488355328) : Ev (fun k => spec_l2Join.f k l) (joinD l) := by
  have := spec_join_loop l hl hs _ ByteArray.empty 0 (by omega) rfl (by rw [List.drop_zero]; show 0 + _ ≤ _; omega)
  unfold spec_l2Join.f
  rw [List.drop_zero] at this
  exact this
theorem sumB_bulk (l : List ByteArray) : sumB l = bulkS l := by
  induction l with
  | nil => rfl
  | cons a l ih => rw [sumB_cons, ih]; unfold bulkS; rw [bytesS_cons, List.length_cons]; omega
def fullD (G : List ByteArray) (P F S : ByteArray) : ByteArray := joinD [joinD G, P, F, S]
theorem full_sum (G : List ByteArray) (P F S : ByteArray) (h : bulkN G P F S ≤ 1048576) : sumB G ≤ 1048576 ∧ sumB [joinD G, P, F, S] ≤ 1048580 := by
  have h1 := joinD_size G
  have h2 := sumB_bulk G
  unfold bulkN at h
  simp only [sumB_cons]
  refine ⟨by omega, ?_⟩
  show _ + (_ + (_ + (_ + sumB []))) ≤ _
  have : sumB [] = 0 := rfl
  omega
theorem spec_full (G : List ByteArray) (P F S : ByteArray) (h : bulkN G P F S ≤ 1048576) : Ev (fun k => spec_l2Full.f k G P F S) (fullD G P F S) := by
  obtain ⟨h1, h2⟩ := full_sum G P F S h
  have hn : G.length ≤ bulkN G P F S := by unfold bulkN bulkS; omega
  unfold spec_l2Full.f spec_l2Given.f
  exact Ev.bind (Ev.bind (spec_join G (by omega) (by omega)) (Ev.now _)) (Ev.bind (spec_join _ (by simp) (by omega)) (Ev.now _))
theorem impl_full (G : List ByteArray) (P F S : ByteArray) (hg : goodN G P F S = true) (h : bulkN G P F S ≤ 1048576) : impl_fullForm.f G P F S = some (fullD G P F S) := by
  obtain ⟨h1, h2⟩ := full_sum G P F S h
  obtain ⟨h3, h4⟩ := good_pos hg
  unfold impl_fullForm.f
  rw [libJoin_all G h4 (by omega) (by omega)]
  show (impl_spaced.f [joinD G, P, F, S]).bind _ = _
  rw [spaced_eq _ (by simp) (by simp) (by omega)]
  rfl
end Go.Proofs.YtcckamdpncbkoaaDoor.G

namespace Go.Proofs.YtcckamdpncbkoaaDoor.G
open Go.RowKit Go.Proofs.YtcckamdpncbkoaaDoorW.PrintWords Go.Proofs.YtcckamdpncbkoaaDoorW.PrintLast Go.Proofs.YtcckamdpncbkoaaDoor.B
set_option linter.unusedVariables false
set_option linter.unusedSimpArgs false
def cmB : ByteArray := ⟨#[44, 32]⟩
def tailI (t : ByteArray) (G : List ByteArray) (S : ByteArray) : ByteArray := if S.size = 0 then (t ++ cmB) ++ joinD G else (((t ++ cmB) ++ joinD G) ++ cmB) ++ S
def invD (G : List ByteArray) (P F S : ByteArray) : ByteArray := if G.length > 0 ∨ S.size ≠ 0 then tailI (joinD [P, F]) G S else joinD [P, F]
theorem inv_sum (G : List ByteArray) (P F S : ByteArray) (h : bulkN G P F S ≤ 1048576) : (joinD G).size ≤ 1048576 ∧ sumB [P, F] ≤ 1048580 ∧ (joinD [P, F]).size ≤ 1048580 ∧ S.size ≤ 1048576 ∧ G.length ≤ 1048576 ∧ sumB G ≤ 1048576 := by
  have h1 := joinD_size G
  have h2 := sumB_bulk G
  have h3 := joinD_size [P, F]
  have h4 : sumB [P, F] = P.size + 1 + (F.size + 1 + 0) := rfl
  unfold bulkN at h
  unfold bulkS at h h2
  omega
theorem cm_size (t : ByteArray) : (t ++ (⟨#[44, 32]⟩ : ByteArray)).size = t.size + 2 := by rw [size_append]; rfl
theorem cm_size' (t : ByteArray) : ((⟨#[44, 32]⟩ : ByteArray) ++ t).size = 2 + t.size := by rw [size_append]; rfl
theorem spec_inv_j (t : ByteArray) (G : List ByteArray) (P F S : ByteArray) (ht : t.size ≤ 1048580) (h : bulkN G P F S ≤ 1048576) : Ev (fun k => spec_l2Inverse.j0 k t true G P F S) (tailI t G S) := by
  obtain ⟨b1, b2, b3, b4, b5, b6⟩ := inv_sum G P F S h
  obtain ⟨K, hK⟩ := spec_join G (by omega) (by omega)
  have hK' : ∀ k, K ≤ k → spec_l2Given.f k G P F S = some (joinD G) := fun k hk => by unfold spec_l2Given.f; rw [show spec_l2Join.f k G = some (joinD G) from hK k hk]; rfl
  refine ⟨K + 1, fun k hk => ?_⟩
  obtain ⟨k', rfl⟩ : ∃ k', k = k' + 1 := ⟨k - 1, by omega⟩
  have a1 : t.size + 2 ≤ 9223372036854775807 := by omega
  have a2 : (t ++ (⟨#[44, 32]⟩ : ByteArray)).size + (joinD G).size ≤ 9223372036854775807 := by rw [cm_size]; omega
  have a3 : ((t ++ (⟨#[44, 32]⟩ : ByteArray)) ++ joinD G).size + 2 ≤ 9223372036854775807 := by rw [size_append, cm_size]; omega
  have a4 : (((t ++ (⟨#[44, 32]⟩ : ByteArray)) ++ joinD G) ++ (⟨#[44, 32]⟩ : ByteArray)).size + S.size ≤ 9223372036854775807 := by rw [cm_size, size_append, cm_size]; omega
  simp only [spec_l2Inverse.j0]
  rw [if_pos trivial, if_pos a1, hK' k' (by omega)]
  simp only [Option.bind_some]
  rw [if_pos a2]
  unfold tailI
  by_cases c : S.size = 0
  · rw [if_pos ((nil_iff S).2 c), if_pos c]; rfl
  · rw [if_neg (fun e => c ((nil_iff S).1 e)), if_pos a3, if_pos a4, if_neg c]; rfl
theorem spec_inv (G : List ByteArray) (P F S : ByteArray) (h : bulkN G P F S ≤ 1048576) : Ev (fun k => spec_l2Inverse.f k G P F S) (invD G P F S) := by
  obtain ⟨b1, b2, b3, b4, b5, b6⟩ := inv_sum G P F S h
  have hj := spec_inv_j (joinD [P, F]) G P F S b3 h
  unfold spec_l2Inverse.f invD
  refine Ev.bind (spec_join [P, F] (by simp) (by omega)) ?_
  by_cases c : G.length > 0
  · exact ev_pos (by omega) (ev_eq hj (if_pos (Or.inl c)).symm)
  · refine ev_neg (by omega) ?_
    by_cases d : S.size = 0
    · have e : (S.toList != ([] : List UInt8)) = false := by rw [(nil_iff S).2 d]; rfl
      rw [e]
      refine Ev.step (f := fun _ => some (joinD [P, F])) (fun k => ?_) (ev_eq (Ev.now _) (if_neg (fun x => x.elim c (fun y => y d))).symm)
      simp only [spec_l2Inverse.j0]
      rw [if_neg (by simp), if_pos ((nil_iff S).2 d)]
    · have e : (S.toList != ([] : List UInt8)) = true := bne_iff_ne.2 (fun x => d ((nil_iff S).1 x))
      rw [e]
      exact ev_eq hj (if_pos (Or.inr d)).symm
theorem app3 (a b c : ByteArray) : a ++ (b ++ c) = (a ++ b) ++ c := L_inj (by simp only [L_append, List.append_assoc])
theorem impl_inv_j (t : ByteArray) (G : List ByteArray) (P F S : ByteArray) (ht : t.size ≤ 1048580) (hg : goodN G P F S = true) (h : bulkN G P F S ≤ 1048576) : Ev (fun k => impl_inverseForm.j0 k t true G P F S) (tailI t G S) := by
  obtain ⟨b1, b2, b3, b4, b5, b6⟩ := inv_sum G P F S h
  obtain ⟨h3, h4⟩ := good_pos hg
  have hK := libJoin_all G h4 (by omega) (by omega)
  refine ⟨1, fun k hk => ?_⟩
  obtain ⟨k', rfl⟩ : ∃ k', k = k' + 1 := ⟨k - 1, by omega⟩
  have a1 : 2 + (joinD G).size ≤ 9223372036854775807 := by omega
  have a2 : t.size + ((⟨#[44, 32]⟩ : ByteArray) ++ joinD G).size ≤ 9223372036854775807 := by rw [cm_size']; omega
  have a3 : 2 + S.size ≤ 9223372036854775807 := by omega
  have a4 : (t ++ ((⟨#[44, 32]⟩ : ByteArray) ++ joinD G)).size + ((⟨#[44, 32]⟩ : ByteArray) ++ S).size ≤ 9223372036854775807 := by rw [cm_size', size_append, cm_size']; omega
  simp only [impl_inverseForm.j0]
  rw [if_pos trivial, hK]
  simp only [Option.bind_some]
  rw [if_pos a1, if_pos a2]
  unfold tailI
  by_cases c : S.size = 0
  · rw [if_pos ((nil_iff S).2 c), if_pos c, app3]; rfl
  · rw [if_neg (fun e => c ((nil_iff S).1 e)), if_pos a3, if_pos a4, if_neg c, app3, app3]; rfl
theorem impl_inv (G : List ByteArray) (P F S : ByteArray) (hg : goodN G P F S = true) (h : bulkN G P F S ≤ 1048576) : Ev (fun k => impl_inverseForm.f k G P F S) (invD G P F S) := by
  obtain ⟨b1, b2, b3, b4, b5, b6⟩ := inv_sum G P F S h
  have hj := impl_inv_j (joinD [P, F]) G P F S b3 hg h
  unfold impl_inverseForm.f invD
  refine ev_bind0 (spaced_eq [P, F] (by simp) (by simp) (by omega)) ?_
  by_cases c : G.length > 0
  · exact ev_pos (by omega) (ev_eq hj (if_pos (Or.inl c)).symm)
  · refine ev_neg (by omega) ?_
    by_cases d : S.size = 0
    · have e : (S.toList != ([] : List UInt8)) = false := by rw [(nil_iff S).2 d]; rfl
      rw [e]
      refine Ev.step (f := fun _ => some (joinD [P, F])) (fun k => ?_) (ev_eq (Ev.now _) (if_neg (fun x => x.elim c (fun y => y d))).symm)
      simp only [impl_inverseForm.j0]
      rw [if_neg (by simp), if_pos ((nil_iff S).2 d)]
    · have e : (S.toList != ([] : List UInt8)) = true := bne_iff_ne.2 (fun x => d ((nil_iff S).1 x))
      rw [e]
      exact ev_eq hj (if_pos (Or.inr d)).symm
end Go.Proofs.YtcckamdpncbkoaaDoor.G

namespace Go.Proofs.YtcckamdpncbkoaaDoor.Pure
open Go.RowKit Go.Proofs.YtcckamdpncbkoaaDoor.G Go.Proofs.YtcckamdpncbkoaaDoorW.PrintWords Go.Proofs.YtcckamdpncbkoaaDoorW.PrintLast Go.Proofs.YtcckamdpncbkoaaDoor.B Go.Proofs.YtcckamdpncbkoaaDoor.Opn
set_option linter.unusedVariables false
set_option linter.unusedSimpArgs false
def invR (G : List ByteArray) (P F S : ByteArray) : ByteArray × Bool := if goodN G P F S = true then (invD G P F S, true) else ((⟨#[]⟩ : ByteArray), false)
theorem spec_f (G : List ByteArray) (P F S : ByteArray) (h : bulkN G P F S ≤ 1048576) : Ev (fun k => spec_InverseForm.f k G P F S) (invR G P F S) := by
  have hn : G.length ≤ bulkN G P F S ∧ P.size ≤ bulkN G P F S := by unfold bulkN bulkS; omega
  unfold spec_InverseForm.f invR
  refine Ev.bind (spec_name G P F S (by omega) (by omega)) ?_
  exact ev_ite (fun hg => Ev.bind (spec_inv G P F S h) (Ev.now _)) (fun _ => Ev.now _)
theorem impl_f (G : List ByteArray) (P F S : ByteArray) (h : bulkN G P F S ≤ 1048576) : Ev (fun k => impl_InverseForm.f k G P F S) (invR G P F S) := by
  have hn : G.length ≤ bulkN G P F S ∧ P.size ≤ bulkN G P F S := by unfold bulkN bulkS; omega
  unfold impl_InverseForm.f invR
  refine Ev.bind (impl_valid G P F S (by omega) (by omega)) ?_
  exact ev_ite (fun hg => Ev.bind (impl_inv G P F S hg h) (Ev.now _)) (fun _ => Ev.now _)
theorem FnExactInverseForm : laws_FnExactInverseForm.Pur := by
  intro G P F S hG hP hF hS
  apply Ev.rounds
  unfold laws_FnExactInverseForm.f
  refine Ev.bind (szN_ev G P F S hG.2 hG.1 hP hF hS 1048576 (by omega) (by omega)) ?_
  by_cases c : (bulkN G P F S : Int) ≤ 1048576
  · have hl : lftOf 1048576 (bulkN G P F S) = 1048576 - bulkN G P F S := by unfold lftOf; rw [if_pos c]
    have hn : G.length ≤ bulkN G P F S ∧ P.size ≤ bulkN G P F S := by unfold bulkN bulkS; omega
    have hs := spec_f G P F S (by omega)
    have hi := impl_f G P F S (by omega)
    have ht := toN_ev G P F S (by omega)
    have he := eqN_same G P F S (by omega)
    rw [hl]
    refine ev_neg (by omega) (Ev.bind ht (Ev.bind hs (Ev.bind ht (Ev.bind hi (ev_pos rfl ?_)))))
    have e : ((invR G P F S).2 != (invR G P F S).2) = false := by simp
    rw [e]
    refine Ev.step (f := fun k => (laws_toName.f k G P F S).bind fun bt378 => ((laws_eqName.f k G P F S bt378.1 bt378.2.1 bt378.2.2.1 bt378.2.2.2).bind fun t384 => (if t384 = true then (some true) else (some false)))) (fun k => by simp [laws_FnExactInverseForm.j0]) ?_
    exact Ev.bind ht (Ev.bind he (ev_pos rfl (Ev.now _)))
  · have hl : lftOf 1048576 (bulkN G P F S) = -1 := by unfold lftOf; rw [if_neg c]
    rw [hl]
    exact ev_pos (by omega) (Ev.now _)
end Go.Proofs.YtcckamdpncbkoaaDoor.Pure
