/- Texts of this session for the law FnExactChangedFields, put together by a program (merge.py): each ends with its namespace; conditions stand with each theorem. -/
import Derived.Test.YthfbogcpjfledaaGreatDoorKFnExactChangedFields7
import Derived.Test.YthfbogcpjfledaaGreatDoorKFnExactChangedFields3
import Derived.Test.YthfbogcpjfledaaGreatDoorKFnExactChangedFields4
import Derived.Test.YthfbogcpjfledaaGreatDoorKFnExactChangedFields2
import Derived.Test.YthfbogcpjfledaaGreatDoorKFnExactChangedFields5
import Derived.Test.YthfbogcpjfledaaGreatDoorKFnExactChangedFields6
import Derived.Lib.IndexMore
import Derived.Lib.ItoaLen
import Derived.Lib.ItoaNum
namespace Go.Proofs.YthfbogcpjfledaaGreatDoor.G
open Go.RowKit Go.Proofs.YthfbogcpjfledaaGreatDoorW.PrintWords Go.Proofs.YthfbogcpjfledaaGreatDoorW.PrintLast Go.Proofs.YthfbogcpjfledaaGreatDoor.B
set_option linter.unusedVariables false
set_option linter.unusedSimpArgs false
def upD (c : Int) : Bool := decide (65 ≤ c) && decide (c ≤ 90)
def loD (c : Int) : Bool := decide (97 ≤ c) && decide (c ≤ 122)
def leD (c : Int) : Bool := upD c || loD c
def inD (n : Nat) : Bool := decide (1 ≤ n) && decide (n ≤ 12)
theorem spec_up (c : Int) : spec_l2Upper.f c = some (upD c) := by unfold spec_l2Upper.f upD; by_cases h : 65 ≤ c <;> simp [h]
theorem spec_lo (c : Int) : spec_l2Lower.f c = some (loD c) := by unfold spec_l2Lower.f loD; by_cases h : 97 ≤ c <;> simp [h]
theorem impl_up (c : Int) : impl_isUpper.f c = some (upD c) := by unfold impl_isUpper.f upD; by_cases h : 65 ≤ c <;> simp [h]
theorem impl_lo (c : Int) : impl_isLower.f c = some (loD c) := by unfold impl_isLower.f loD; by_cases h : 97 ≤ c <;> simp [h]
theorem spec_le (c : Int) : spec_l2Letter.f c = some (leD c) := by unfold spec_l2Letter.f leD; rw [spec_up, spec_lo]; cases upD c <;> simp
theorem impl_le (c : Int) : impl_isLetter.f c = some (leD c) := by unfold impl_isLetter.f leD; rw [impl_up, impl_lo]; cases upD c <;> simp
theorem in12 (n : Nat) : (if (n : Int) ≥ 1 then some (decide ((n : Int) ≤ 12)) else some false) = some (inD n) := by
  unfold inD;by_cases h : 1 ≤ n
  · rw [if_pos (by omega)]
    congr 1
    rw [dt h, Bool.true_and, decide_eq_decide]; omega
  · rw [if_neg (by omega)]; simp [h]
theorem spec_in (s : ByteArray) : spec_l1In.f (s.size : Int) 1 12 = some (inD s.size) := in12 s.size
theorem impl_in (s : ByteArray) : impl_inside.f (s.size : Int) 1 12 = some (inD s.size) := in12 s.size
theorem inD_iff {n : Nat} : inD n = true ↔ 1 ≤ n ∧ n ≤ 12 := by simp [inD]
def okD (s : ByteArray) (i : Nat) : Bool := leD (bt s i) || ((decide (bt s i = 45) || decide (bt s i = 39)) && leD (bt s ((i : Int) - 1)))
def wlD (s : ByteArray) : Nat → Nat → Bool
  | 0, _ => true
  | d + 1, i => okD s i && wlD s d (i + 1)
def wordD (s : ByteArray) : Bool := inD s.size && ((leD (bt s 0) && leD (bt s ((s.size : Int) - 1))) && wlD s (s.size - 1) 1)
def greatD (s : ByteArray) : Bool := wordD s && upD (bt s 0)
theorem word_step (s : ByteArray) (i k : Nat) (h1 : 1 ≤ i) (h2 : i < s.size) (h3 : s.size ≤ 12) : spec_l2Word.l0 (k + 1) s (i : Int) = if okD s i = true then spec_l2Word.l0 k s ((i + 1 : Nat) : Int) else some false := by
  have hw : wrap64 ((i : Int) + 1) = ((i + 1 : Nat) : Int) := by rw [w64 (by omega) (by omega)]; rfl
  have hw' : wrap64 ((i : Int) - 1) = (i : Int) - 1 := w64 (by omega) (by omega)
  have a1 : (0 : Int) ≤ (i : Int) - 1 := by omega
  have a2 : (i : Int) - 1 < (s.size : Int) := by omega
  simp only [spec_l2Word.l0];rw [if_pos (show (i : Int) < (s.size : Int) by omega), if_pos (show (0 : Int) ≤ (i : Int) by omega), spec_le, hw, hw'];simp only [Option.bind_some, if_pos a1, if_pos a2, spec_le];unfold okD;generalize ((i + 1 : Nat) : Int) = j
  cases leD (bt s i) <;> cases leD (bt s ((i : Int) - 1)) <;> by_cases c : bt s i = 45 <;> by_cases d : bt s i = 39 <;> simp [c, d]
theorem word_loop (s : ByteArray) (hs : s.size ≤ 12) (d : Nat) : ∀ i : Nat, 1 ≤ i → i ≤ s.size → s.size - i = d → Ev (fun k => spec_l2Word.l0 k s (i : Int)) (wlD s d i) := by
  induction d with
  | zero =>
    intro i h1 h2 hd;refine Ev.step (f := fun _ => some true) (fun k => ?_) (Ev.now _);simp only [spec_l2Word.l0]; rw [if_neg (by omega)]
  | succ d ih =>
    intro i h1 h2 hd;refine Ev.step (f := fun k => if okD s i = true then spec_l2Word.l0 k s ((i + 1 : Nat) : Int) else some false) (fun k => word_step s i k h1 (by omega) hs) ?_;unfold wlD
    cases h : okD s i with
    | true => exact ev_pos rfl (ev_eq (ih (i + 1) (by omega) (by omega) (by omega)) (by simp))
    | false => exact ev_neg (by simp) (ev_eq (Ev.now _) (by simp))
theorem loops_eq (s : ByteArray) (k : Nat) : ∀ i : Int, impl_isNameWord.l0 k s i = spec_l2Word.l0 k s i := by
  induction k with
  | zero => intro i; simp [impl_isNameWord.l0, spec_l2Word.l0]
  | succ k ih => intro i; simp only [impl_isNameWord.l0, spec_l2Word.l0, impl_le, spec_le, ih]
theorem spec_word (s : ByteArray) : Ev (fun k => spec_l2Word.f k s) (wordD s) := by
  unfold spec_l2Word.f wordD
  cases h : inD s.size with
  | false =>
    refine Ev.step (f := fun _ => some false) (fun k => ?_) (ev_eq (Ev.now _) (by simp));simp only [spec_in, h, Option.bind_some, spec_l2Word.j0]; simp
  | true =>
    obtain ⟨h1, h2⟩ := inD_iff.1 h;have hw : wrap64 ((s.size : Int) - 1) = (s.size : Int) - 1 := w64 (by omega) (by omega);refine Ev.step (f := fun k => if (leD (bt s 0) && leD (bt s ((s.size : Int) - 1))) = true then spec_l2Word.l0 k s ((1 : Nat) : Int) else some false) (fun k => ?_) ?_
    · have a1 : (0 : Int) < (s.size : Int) := by omega
      have a2 : (0 : Int) ≤ (s.size : Int) - 1 := by omega
      have a3 : (s.size : Int) - 1 < (s.size : Int) := by omega
      simp only [spec_in, h, Option.bind_some, if_pos a1, if_pos a2, if_pos a3, hw, spec_le, spec_l2Word.j0]
      cases leD (bt s 0) <;> cases leD (bt s ((s.size : Int) - 1)) <;> simp
    · cases h3 : (leD (bt s 0) && leD (bt s ((s.size : Int) - 1))) with
      | true => exact ev_pos rfl (ev_eq (word_loop s h2 (s.size - 1) 1 (by omega) (by omega) rfl) (by simp))
      | false => exact ev_neg (by simp) (ev_eq (Ev.now _) (by simp))
theorem impl_word (s : ByteArray) : Ev (fun k => impl_isNameWord.f k s) (wordD s) := by
  unfold impl_isNameWord.f wordD
  cases h : inD s.size with
  | false =>
    refine Ev.step (f := fun _ => some false) (fun k => ?_) (ev_eq (Ev.now _) (by simp));simp only [impl_in, h, Option.bind_some, impl_isNameWord.j0]; simp
  | true =>
    obtain ⟨h1, h2⟩ := inD_iff.1 h;have hw : wrap64 ((s.size : Int) - 1) = (s.size : Int) - 1 := w64 (by omega) (by omega);refine Ev.step (f := fun k => if (leD (bt s 0) && leD (bt s ((s.size : Int) - 1))) = true then spec_l2Word.l0 k s ((0 : Nat) : Int) else some false) (fun k => ?_) ?_
    · have a1 : (0 : Int) < (s.size : Int) := by omega
      have a2 : (0 : Int) ≤ (s.size : Int) - 1 := by omega
      have a3 : (s.size : Int) - 1 < (s.size : Int) := by omega
      simp only [impl_in, h, Option.bind_some, if_pos a1, if_pos a2, if_pos a3, hw, impl_le, impl_isNameWord.j0, loops_eq]
      cases leD (bt s 0) <;> cases leD (bt s ((s.size : Int) - 1)) <;> simp
    · cases h3 : (leD (bt s 0) && leD (bt s ((s.size : Int) - 1))) with
      | true =>
        refine ev_pos rfl (Ev.step (f := fun k => spec_l2Word.l0 k s ((1 : Nat) : Int)) (fun k => ?_) (ev_eq (word_loop s h2 (s.size - 1) 1 (by omega) (by omega) rfl) (by simp)))
        have h0 : leD (bt s 0) = true := by simp at h3; exact h3.1
        simp only [spec_l2Word.l0];rw [if_pos (by omega), if_pos (by omega), spec_le, show ((0 : Nat) : Int) = 0 from rfl, h0, w64 (by omega) (by omega)];simp
      | false => exact ev_neg (by simp) (ev_eq (Ev.now _) (by simp))
theorem word_in {s : ByteArray} (h : wordD s = true) : 1 ≤ s.size ∧ s.size ≤ 12 := by
  unfold wordD at h
  cases hi : inD s.size with
  | true => exact inD_iff.1 hi
  | false => rw [hi] at h; simp at h
theorem impl_great (s : ByteArray) : Ev (fun k => impl_isGreatWord.f k s) (greatD s) := by
  unfold impl_isGreatWord.f greatD;refine Ev.bind (impl_word s) ?_
  cases h : wordD s with
  | true =>
    have := word_in h;refine ev_pos rfl (ev_pos (by omega) (ev_eq (Ev.congr (f := fun _ => some (upD (bt s 0))) (fun k => by rw [impl_up]; rfl) (Ev.now _)) (by simp)))
  | false => exact ev_neg (by simp) (ev_eq (Ev.now _) (by simp))
def lowF (s : ByteArray) (j : Nat) : Bool := ((L s).drop j).all fun b => loD (b.toNat : Int)
def lowD (s : ByteArray) : Bool := lowF s 0
def wsD (l : List ByteArray) : Bool := l.all fun w => inD w.size && lowD w
theorem lowF_step (s : ByteArray) (j : Nat) (h : j < s.size) : lowF s j = (loD (bt s j) && lowF s (j + 1)) := by
  unfold lowF
  have hl : j < (L s).length := by rw [L_len]; exact h
  rw [List.drop_eq_getElem_cons hl, List.all_cons, bt_get s j h]
theorem lowF_end (s : ByteArray) (j : Nat) (h : s.size ≤ j) : lowF s j = true := by
  unfold lowF;rw [List.drop_of_length_le (by rw [L_len]; exact h)]; rfl
theorem low_all (s : ByteArray) (h : lowD s = true) (j : Nat) (hj : j < s.size) : leD (bt s j) = true := by
  have hl : j < (L s).length := by rw [L_len]; exact hj
  have := List.all_eq_true.1 h _ (by rw [List.drop_zero]; exact List.getElem_mem hl);rw [bt_get s j hj];unfold leD;rw [this]; simp
theorem wl_low (s : ByteArray) (h : lowD s = true) (d : Nat) : ∀ i, i + d ≤ s.size → wlD s d i = true := by
  induction d with
  | zero => intro i _; rfl
  | succ d ih =>
    intro i hi;unfold wlD okD;rw [low_all s h i (by omega), ih (i + 1) (by omega)]; rfl
theorem word_low (s : ByteArray) : (wordD s && lowD s) = (inD s.size && lowD s) := by
  cases h : lowD s with
  | false => simp
  | true =>
    unfold wordD
    cases hi : inD s.size with
    | false => simp
    | true =>
      obtain ⟨h1, h2⟩ := inD_iff.1 hi;have e1 := low_all s h 0 (by omega);have e2 := low_all s h (s.size - 1) (by omega);rw [show ((s.size - 1 : Nat) : Int) = (s.size : Int) - 1 by omega] at e2;rw [show ((0 : Nat) : Int) = 0 from rfl] at e1;rw [e1, e2, wl_low s h (s.size - 1) 1 (by omega)]; rfl
theorem rd_get (l : List ByteArray) (i : Nat) (h : i < l.length) : rdOf ByteArray.empty l (i : Int) = l[i] := by simp [rdOf, h]
theorem spec_inner (ws : List ByteArray) (i : Nat) (hi : i < ws.length) (hs : (ws[i]).size ≤ 12) (hl : ws.length ≤ 4611686018427387904) (T : Bool) (hT : Ev (fun k => spec_l2Particle.l0 k ws ((i + 1 : Nat) : Int)) T) (d : Nat) : ∀ j : Nat, j ≤ (ws[i]).size → (ws[i]).size - j = d →
    Ev (fun k => spec_l2Particle.l1 k ws (i : Int) (j : Int)) (lowF ws[i] j && T) := by
  have hw : wrap64 ((i : Int) + 1) = ((i + 1 : Nat) : Int) := by rw [w64 (by omega) (by omega)]; rfl
  induction d with
  | zero =>
    intro j h1 hd;refine Ev.step (f := fun k => spec_l2Particle.l0 k ws ((i + 1 : Nat) : Int)) (fun k => ?_) (ev_eq hT (by rw [lowF_end _ _ (by omega)]; simp));simp only [spec_l2Particle.l1, rd_get ws i hi];rw [if_pos (by omega), if_pos (by omega), if_neg (by omega), hw]
  | succ d ih =>
    intro j h1 hd;rw [lowF_step _ j (by omega)]
    have hw' : wrap64 ((j : Int) + 1) = ((j + 1 : Nat) : Int) := by rw [w64 (by omega) (by omega)]; rfl
    refine Ev.step (f := fun k => if loD (bt ws[i] (j : Int)) = true then spec_l2Particle.l1 k ws (i : Int) ((j + 1 : Nat) : Int) else some false) (fun k => ?_) ?_
    · simp only [spec_l2Particle.l1, rd_get ws i hi]
      rw [if_pos (by omega), if_pos (by omega), if_pos (by omega), if_pos (by omega), hw', spec_lo]; rfl
    · cases h : loD (bt ws[i] (j : Int)) with
      | true => exact ev_pos rfl (ev_eq (ih (j + 1) (by omega) (by omega)) (by simp))
      | false => exact ev_neg (by simp) (ev_eq (Ev.now _) (by simp))
theorem spec_outer (ws : List ByteArray) (hl : ws.length ≤ 4611686018427387904) (d : Nat) : ∀ i : Nat, i ≤ ws.length → ws.length - i = d →
    Ev (fun k => spec_l2Particle.l0 k ws (i : Int)) (wsD (ws.drop i) && decide (ws.length ≤ 2)) := by
  induction d with
  | zero =>
    intro i h1 hd;refine Ev.step (f := fun k => some (decide ((ws.length : Int) ≤ 2))) (fun k => ?_) (ev_eq (Ev.now _) ?_)
    · simp only [spec_l2Particle.l0]; rw [if_neg (by omega)]
    · rw [List.drop_of_length_le (by omega)]
      show decide _ = (true && decide _)
      rw [Bool.true_and, decide_eq_decide]; omega
  | succ d ih =>
    intro i h1 hd
    have hi : i < ws.length := by omega
    refine Ev.step (f := fun k => (spec_l2Word.f k ws[i]).bind fun t => if t = true then spec_l2Particle.l1 k ws (i : Int) ((0 : Nat) : Int) else some false) (fun k => ?_) ?_
    · simp only [spec_l2Particle.l0, rd_get ws i hi]
      rw [if_pos (by omega), if_pos (by omega)]; rfl
    · refine Ev.bind (spec_word _) ?_
      have e : (wsD (ws.drop i) && decide (ws.length ≤ 2)) = ((wordD ws[i] && lowD ws[i]) && (wsD (ws.drop (i + 1)) && decide (ws.length ≤ 2))) := by
        rw [word_low, List.drop_eq_getElem_cons hi];simp only [wsD, List.all_cons, Bool.and_assoc]
      rw [e]
      cases h : wordD ws[i] with
      | true => exact ev_pos rfl (ev_eq (spec_inner ws i hi (word_in h).2 hl _ (ih (i + 1) (by omega) (by omega)) _ 0 (by omega) rfl) (by simp [lowD]))
      | false => exact ev_neg (by simp) (ev_eq (Ev.now _) (by simp))
theorem impl_inner (ws ws' : List ByteArray) (n i : Nat) (w : ByteArray) (hi : i < 4611686018427387904) (hs : w.size ≤ 12) (T : Bool) (hT : Ev (fun k => impl_isParticle.l0 k ws ws' (n : Int) ((i + 1 : Nat) : Int)) T) (d : Nat) : ∀ j : Nat, j ≤ w.size → w.size - j = d →
    Ev (fun k => impl_isParticle.l1 k ws w (j : Int) ws' (n : Int) (i : Int)) (lowF w j && T) := by
  have hw : wrap64 ((i : Int) + 1) = ((i + 1 : Nat) : Int) := by rw [w64 (by omega) (by omega)]; rfl
  induction d with
  | zero =>
    intro j h1 hd;refine Ev.step (f := fun k => impl_isParticle.l0 k ws ws' (n : Int) ((i + 1 : Nat) : Int)) (fun k => ?_) (ev_eq hT (by rw [lowF_end _ _ (by omega)]; simp));simp only [impl_isParticle.l1];rw [if_neg (by omega), hw]
  | succ d ih =>
    intro j h1 hd;rw [lowF_step _ j (by omega)]
    have hw' : wrap64 ((j : Int) + 1) = ((j + 1 : Nat) : Int) := by rw [w64 (by omega) (by omega)]; rfl
    refine Ev.step (f := fun k => if loD (bt w (j : Int)) = true then impl_isParticle.l1 k ws w ((j + 1 : Nat) : Int) ws' (n : Int) (i : Int) else some false) (fun k => ?_) ?_
    · simp only [impl_isParticle.l1]
      rw [if_pos (by omega), if_pos (by omega), hw', impl_lo]; rfl
    · cases h : loD (bt w (j : Int)) with
      | true => exact ev_pos rfl (ev_eq (ih (j + 1) (by omega) (by omega)) (by simp))
      | false => exact ev_neg (by simp) (ev_eq (Ev.now _) (by simp))
theorem impl_outer (ws : List ByteArray) (hl : ws.length ≤ 4611686018427387904) (d : Nat) : ∀ i : Nat, i ≤ ws.length → ws.length - i = d →
    Ev (fun k => impl_isParticle.l0 k ws ws (ws.length : Int) (i : Int)) (wsD (ws.drop i) && decide (ws.length ≤ 2)) := by
  induction d with
  | zero =>
    intro i h1 hd;refine Ev.step (f := fun k => some (decide ((ws.length : Int) ≤ 2))) (fun k => ?_) (ev_eq (Ev.now _) ?_)
    · simp only [impl_isParticle.l0]; rw [if_neg (by omega)]
    · rw [List.drop_of_length_le (by omega)]
      show decide _ = (true && decide _)
      rw [Bool.true_and, decide_eq_decide]; omega
  | succ d ih =>
    intro i h1 hd
    have hi : i < ws.length := by omega
    have e : (wsD (ws.drop i) && decide (ws.length ≤ 2)) = (inD (ws[i]).size && (lowD ws[i] && (wsD (ws.drop (i + 1)) && decide (ws.length ≤ 2)))) := by
      rw [List.drop_eq_getElem_cons hi];simp only [wsD, List.all_cons, Bool.and_assoc]
    rw [e];refine Ev.step (f := fun k => if inD (ws[i]).size = true then impl_isParticle.l1 k ws ws[i] ((0 : Nat) : Int) ws (ws.length : Int) (i : Int) else some false) (fun k => ?_) ?_
    · simp only [impl_isParticle.l0, rd_get ws i hi]
      rw [if_pos (by omega), if_pos (by omega), if_pos (by omega), impl_in]; rfl
    · cases h : inD (ws[i]).size with
      | true => exact ev_pos rfl (ev_eq (impl_inner ws ws ws.length i ws[i] (by omega) (inD_iff.1 h).2 _ (ih (i + 1) (by omega) (by omega)) _ 0 (by omega) rfl) (by simp [lowD]))
      | false => exact ev_neg (by simp) (ev_eq (Ev.now _) (by simp))
def wordsOf (s : ByteArray) : List ByteArray := (spl 32 (L s)).map mkB
def partD (s : ByteArray) : Bool := decide (s.size = 0) || (wsD (wordsOf s) && decide ((wordsOf s).length ≤ 2))
theorem wordsOf_len (s : ByteArray) : (wordsOf s).length ≤ s.size + 1 := by
  have := spl_length 32 (L s);rw [L_len] at this;unfold wordsOf;rw [List.length_map]; exact this
theorem nil_iff (s : ByteArray) : s.toList = ([] : List UInt8) ↔ s.size = 0 := by rw [toList_L, size_pos_iff]
theorem split_sp (s : ByteArray) (c : UInt8) (hs : s.size ≤ 4294967280) : strings_Split.f s (⟨#[c]⟩ : ByteArray) = some ((spl c (L s)).map mkB) := by
  have e : (⟨#[c]⟩ : ByteArray) = mkB [c] := rfl
  have h1 : (mkB [c]).size = 1 := by rw [size_mk]; rfl
  have hc := Lib.countB_le (mkB [c]) (by omega) s.size s (Nat.le_refl _);unfold strings_Split.f;rw [e, if_pos ⟨by omega, by omega, Lib.splitB_all (mkB [c]) (by omega) 0 _ s rfl, by omega⟩, splitB_eq]
theorem spec_part (s : ByteArray) (hs : s.size ≤ 4294967280) : Ev (fun k => spec_l2Particle.f k s) (partD s) := by
  unfold spec_l2Particle.f partD;by_cases h : s.size = 0
  · exact ev_pos ((nil_iff s).2 h) (ev_eq (Ev.now _) (by simp [h]))
  · refine ev_neg (fun e => h ((nil_iff s).1 e)) (Ev.bind (split_ev s 32 (by omega)) (ev_eq (spec_outer (wordsOf s) (by have := wordsOf_len s; omega) _ 0 (by omega) rfl) ?_))
    simp [h]
theorem impl_part (s : ByteArray) (hs : s.size ≤ 4294967280) : Ev (fun k => impl_isParticle.f k s) (partD s) := by
  unfold impl_isParticle.f partD;by_cases h : s.size = 0
  · exact ev_pos ((nil_iff s).2 h) (ev_eq (Ev.now _) (by simp [h]))
  · refine ev_neg (fun e => h ((nil_iff s).1 e)) (ev_bind0 (split_sp s 32 hs) (ev_eq (impl_outer (wordsOf s) (by have := wordsOf_len s; omega) _ 0 (by omega) rfl) ?_))
    simp [h]
def rngD (c : Int) : Bool := decide (32 ≤ c) && decide (c ≤ 126)
def rngF (s : ByteArray) : Nat → Nat → Bool
  | 0, _ => true
  | d + 1, i => rngD (bt s (i : Int)) && rngF s d (i + 1)
def edgeD (s : ByteArray) : Bool := !decide (bt s 0 = 32) && !decide (bt s ((s.size : Int) - 1) = 32)
theorem trimR (n : Nat) : ∀ s : ByteArray, s.size = n → n ≤ 4611686018427387904 → ∃ t, Ev (fun k => strings_trimRightByte.f k s 32) t ∧ t.size ≤ n ∧ (1 ≤ n → bt s ((n : Int) - 1) = 32 → t.size < n) ∧ ((n = 0 ∨ bt s ((n : Int) - 1) ≠ 32) → t = s) := by
  induction n with
  | zero =>
    intro s hs hb;refine ⟨s, Ev.step (f := fun _ => some s) (fun k => ?_) (Ev.now _), by omega, fun h => by omega, fun _ => rfl⟩;simp only [strings_trimRightByte.f, strings_trimRightByte.l0]; rw [if_neg (by omega)]
  | succ n ih =>
    intro s hs hb
    have hw : wrap64 ((s.size : Int) - 1) = (n : Int) := by rw [w64 (by omega) (by omega)]; omega
    have e0 : ((n + 1 : Nat) : Int) - 1 = (n : Int) := by omega
    rw [e0];by_cases c : bt s (n : Int) = 32
    · have hs' : (s.extract 0 n).size = n := by rw [ByteArray.size_extract]; omega
      obtain ⟨t, ht, h1, _, _⟩ := ih (s.extract 0 n) hs' (by omega);refine ⟨t, Ev.step (f := fun k => strings_trimRightByte.f k (s.extract 0 n) 32) (fun k => ?_) ht, by omega, fun _ _ => by omega, fun h => ?_⟩
      · simp only [strings_trimRightByte.f, strings_trimRightByte.l0, hw]
        rw [if_pos (by omega), if_pos (by omega), if_pos (by omega), if_pos c, if_pos (by omega), Int.toNat_natCast]
      · rcases h with h | h
        · omega
        · exact absurd c h
    · refine ⟨s, Ev.step (f := fun _ => some s) (fun k => ?_) (Ev.now _), by omega, fun _ h => absurd h c, fun _ => rfl⟩
      simp only [strings_trimRightByte.f, strings_trimRightByte.l0, hw];rw [if_pos (by omega), if_pos (by omega), if_pos (by omega), if_neg c]
theorem trimL (n : Nat) : ∀ s : ByteArray, s.size = n → n ≤ 4611686018427387904 → ∃ t, Ev (fun k => strings_trimLeftByte.f k s 32) t ∧ t.size ≤ n ∧ (1 ≤ n → bt s 0 = 32 → t.size < n) ∧ ((n = 0 ∨ bt s 0 ≠ 32) → t = s) := by
  induction n with
  | zero =>
    intro s hs hb;refine ⟨s, Ev.step (f := fun _ => some s) (fun k => ?_) (Ev.now _), by omega, fun h => by omega, fun _ => rfl⟩;simp only [strings_trimLeftByte.f, strings_trimLeftByte.l0]; rw [if_neg (by omega)]
  | succ n ih =>
    intro s hs hb;by_cases c : bt s 0 = 32
    · have hs' : (s.extract 1 s.size).size = n := by rw [ByteArray.size_extract]; omega
      obtain ⟨t, ht, h1, _, _⟩ := ih (s.extract 1 s.size) hs' (by omega);refine ⟨t, Ev.step (f := fun k => strings_trimLeftByte.f k (s.extract 1 s.size) 32) (fun k => ?_) ht, by omega, fun _ _ => by omega, fun h => ?_⟩
      · simp only [strings_trimLeftByte.f, strings_trimLeftByte.l0]
        rw [if_pos (by omega), if_pos (by omega), if_pos c, if_pos (by omega)]
      · rcases h with h | h
        · omega
        · exact absurd c h
    · refine ⟨s, Ev.step (f := fun _ => some s) (fun k => ?_) (Ev.now _), by omega, fun _ h => absurd h c, fun _ => rfl⟩
      simp only [strings_trimLeftByte.f, strings_trimLeftByte.l0];rw [if_pos (by omega), if_pos (by omega), if_neg c]
theorem trim_ev (s : ByteArray) (h1 : 1 ≤ s.size) (h2 : s.size ≤ 4611686018427387904) : ∃ t, Ev (fun k => strings_Trim.f k s (⟨#[32]⟩ : ByteArray)) t ∧ (t.toList == s.toList) = edgeD s := by
  obtain ⟨t1, ht1, ha, hb, hc⟩ := trimR s.size s rfl h2;obtain ⟨t2, ht2, ha', hb', hc'⟩ := trimL t1.size t1 rfl (by omega);refine ⟨t2, ?_, ?_⟩
  · unfold strings_Trim.f
    have hz : ¬ s.toList = ([] : List UInt8) := fun e => by rw [toList_L] at e; have := (size_pos_iff s).2 e; omega
    refine ev_neg hz ?_
    have e1 : ((⟨#[32]⟩ : ByteArray).toList == ([] : List UInt8)) = false := by rw [toList_L]; rfl
    have e2 : ((⟨#[32]⟩ : ByteArray).size : Int) = 1 := rfl;have e3 : bt (⟨#[32]⟩ : ByteArray) 0 = 32 := rfl;rw [e1];refine Ev.step (f := fun k => strings_Trim.j1 k s (⟨#[32]⟩ : ByteArray) true) (fun k => ?_) (Ev.step (f := fun k => (strings_trimRightByte.f k s 32).bind fun t => (strings_trimLeftByte.f k t 32).bind fun u => some u) (fun k => ?_) (Ev.bind ht1 (Ev.bind ht2 (Ev.now _))))
    · simp only [strings_Trim.j0]
      rw [if_neg (by simp), e2, if_pos rfl, if_pos (by omega), e3]; rfl
    · simp only [strings_Trim.j1]
      rw [if_pos trivial, e2, if_pos (by omega), e3]
  · unfold edgeD
    by_cases c : bt s ((s.size : Int) - 1) = 32
    · have : t2.size < s.size := by have := hb h1 c; omega
      have ne : ¬ t2.toList = s.toList := fun e => by have := toList_eq_iff.1 e; subst this; omega
      rw [show (t2.toList == s.toList) = false by simpa using ne]; simp [c]
    · have e := hc (Or.inr c)
      subst e;by_cases c0 : bt t1 0 = 32
      · have h3 := hb' h1 c0
        have ne : ¬ t2.toList = t1.toList := fun e => by have := toList_eq_iff.1 e; subst this; omega
        rw [show (t2.toList == t1.toList) = false by simpa using ne]; simp [c0]
      · have e := hc' (Or.inr c0)
        subst e;simp [c, c0]
theorem print_loop (s : ByteArray) (h1 : 1 ≤ s.size) (h2 : s.size ≤ 100) (d : Nat) : ∀ i : Nat, i ≤ s.size → s.size - i = d →
    Ev (fun k => impl_isPrintable.l0 k s (i : Int)) (rngF s d i && edgeD s) := by
  induction d with
  | zero =>
    intro i hi hd;obtain ⟨t, ht, e⟩ := trim_ev s h1 (by omega);refine Ev.step (f := fun k => (strings_Trim.f k s (⟨#[32]⟩ : ByteArray)).bind fun Rb => (some (Rb.toList == s.toList))) (fun k => ?_) (Ev.bind ht (ev_eq (Ev.now _) (by rw [e]; simp [rngF])));simp only [impl_isPrintable.l0]; rw [if_neg (by omega)]
  | succ d ih =>
    intro i hi hd
    have hw : wrap64 ((i : Int) + 1) = ((i + 1 : Nat) : Int) := by rw [w64 (by omega) (by omega)]; rfl
    refine Ev.step (f := fun k => if rngD (bt s (i : Int)) = true then impl_isPrintable.l0 k s ((i + 1 : Nat) : Int) else some false) (fun k => ?_) ?_
    · simp only [impl_isPrintable.l0]
      rw [if_pos (by omega), if_pos (by omega), hw];unfold rngD;by_cases c1 : bt s (i : Int) < 32
      · rw [if_pos c1, if_neg (by simp; omega)]
      · rw [if_neg c1]
        by_cases c2 : bt s (i : Int) > 126
        · rw [if_pos c2, if_neg (by simp; omega)]
        · rw [if_neg c2, if_pos (by simp; omega)]
    · unfold rngF
      cases h : rngD (bt s (i : Int)) with
      | true => exact ev_pos rfl (ev_eq (ih (i + 1) (by omega) (by omega)) (by simp))
      | false => exact ev_neg (by simp) (ev_eq (Ev.now _) (by simp))
theorem trim_nil (s : ByteArray) (h : s.size = 0) : Ev (fun k => strings_Trim.f k s (⟨#[32]⟩ : ByteArray)) s := by
  unfold strings_Trim.f;refine ev_pos ((nil_iff s).2 h) (Ev.step (f := fun _ => some s) (fun k => ?_) (Ev.now _));simp only [strings_Trim.j0];rw [if_pos trivial]
def textD (s : ByteArray) : Bool := decide (s.size ≤ 40) && (decide (s.size = 0) || (rngF s s.size 0 && edgeD s))
theorem impl_text (s : ByteArray) : Ev (fun k => impl_isText.f k s) (textD s) := by
  unfold impl_isText.f textD;by_cases h : s.size ≤ 40
  · refine ev_pos (by omega) ?_
    unfold impl_isPrintable.f;by_cases h0 : s.size = 0
    · refine Ev.bind (a := true) ?_ (ev_eq (Ev.now _) (by simp [h, h0]))
      refine Ev.step (f := fun k => (strings_Trim.f k s (⟨#[32]⟩ : ByteArray)).bind fun Rb => (some (Rb.toList == s.toList))) (fun k => ?_) (Ev.bind (trim_nil s h0) (ev_eq (Ev.now _) (by simp)));simp only [impl_isPrintable.l0]; rw [if_neg (by omega)]
    · exact Ev.bind (print_loop s (by omega) (by omega) _ 0 (by omega) rfl) (ev_eq (Ev.now _) (by simp [h, h0]))
  · exact ev_neg (by omega) (ev_eq (Ev.now _) (by simp [h]))
theorem spec_text_end (s : ByteArray) (h2 : s.size ≤ 40) : Ev (fun k => spec_l4Text.l0 k s (s.size : Int)) (decide (s.size = 0) || edgeD s) := by
  refine Ev.step (f := fun _ => some (decide (s.size = 0) || edgeD s)) (fun k => ?_) (Ev.now _);simp only [spec_l4Text.l0];rw [if_neg (by omega)];by_cases h0 : s.size = 0
  · rw [if_pos ((nil_iff s).2 h0)]; simp [h0]
  · have hw : wrap64 ((s.size : Int) - 1) = (s.size : Int) - 1 := w64 (by omega) (by omega)
    rw [if_neg (fun e => h0 ((nil_iff s).1 e)), if_pos (by omega)];unfold edgeD;by_cases c : bt s 0 = 32
    · rw [if_pos c]; simp [c, h0]
    · rw [if_neg c, hw, if_pos (by omega), if_pos (by omega)]
      by_cases e : bt s ((s.size : Int) - 1) = 32
      · rw [e]; simp [h0]
      · rw [show (bt s ((s.size : Int) - 1) != 32) = true from bne_iff_ne.2 e]; simp [c, e, h0]
theorem spec_text_loop (s : ByteArray) (h2 : s.size ≤ 40) (d : Nat) : ∀ i : Nat, i ≤ s.size → s.size - i = d →
    Ev (fun k => spec_l4Text.l0 k s (i : Int)) (rngF s d i && (decide (s.size = 0) || edgeD s)) := by
  induction d with
  | zero =>
    intro i hi hd
    obtain rfl : i = s.size := by omega
    exact ev_eq (spec_text_end s h2) (by simp [rngF])
  | succ d ih =>
    intro i hi hd
    have hw : wrap64 ((i : Int) + 1) = ((i + 1 : Nat) : Int) := by rw [w64 (by omega) (by omega)]; rfl
    refine Ev.step (f := fun k => if rngD (bt s (i : Int)) = true then spec_l4Text.l0 k s ((i + 1 : Nat) : Int) else some false) (fun k => ?_) ?_
    · simp only [spec_l4Text.l0]
      rw [if_pos (by omega), if_pos (by omega), hw];unfold rngD;by_cases c1 : bt s (i : Int) < 32
      · rw [if_pos c1, if_neg (by simp; omega)]
      · rw [if_neg c1]
        by_cases c2 : bt s (i : Int) > 126
        · rw [if_pos c2, if_neg (by simp; omega)]
        · rw [if_neg c2, if_pos (by simp; omega)]
    · unfold rngF
      cases h : rngD (bt s (i : Int)) with
      | true => exact ev_pos rfl (ev_eq (ih (i + 1) (by omega) (by omega)) (by simp))
      | false => exact ev_neg (by simp) (ev_eq (Ev.now _) (by simp))
theorem spec_text (s : ByteArray) : Ev (fun k => spec_l4Text.f k s) (textD s) := by
  unfold spec_l4Text.f textD;by_cases h : s.size ≤ 40
  · refine ev_neg (by omega) (ev_eq (spec_text_loop s h _ 0 (by omega) rfl) ?_)
    by_cases h0 : s.size = 0
    · rw [h0]; simp [rngF]
    · simp [h, h0]
  · exact ev_pos (by omega) (ev_eq (Ev.now _) (by simp [h]))
def digD (c : Int) : Bool := decide (48 ≤ c) && decide (c ≤ 57)
def keyC (c : Int) : Bool := loD c || digD c
def keyF (s : ByteArray) : Nat → Nat → Bool
  | 0, _ => true
  | d + 1, i => keyC (bt s (i : Int)) && keyF s d (i + 1)
def inK (n : Nat) : Bool := decide (1 ≤ n) && decide (n ≤ 10)
def keyD (s : ByteArray) : Bool := inK s.size && (loD (bt s 0) && keyF s s.size 0)
theorem in10 (n : Nat) : (if (n : Int) ≥ 1 then some (decide ((n : Int) ≤ 10)) else some false) = some (inK n) := by
  unfold inK;by_cases h : 1 ≤ n
  · rw [if_pos (by omega)]
    congr 1
    rw [dt h, Bool.true_and, decide_eq_decide]; omega
  · rw [if_neg (by omega)]; simp [h]
theorem inK_iff {n : Nat} : inK n = true ↔ 1 ≤ n ∧ n ≤ 10 := by simp [inK]
theorem impl_dig (c : Int) : impl_isDigit.f c = some (digD c) := by unfold impl_isDigit.f digD; by_cases h : 48 ≤ c <;> simp [h]
theorem spec_key_loop (s : ByteArray) (h2 : s.size ≤ 10) (d : Nat) : ∀ i : Nat, i ≤ s.size → s.size - i = d → Ev (fun k => spec_l4Key.l0 k s (i : Int)) (keyF s d i) := by
  induction d with
  | zero =>
    intro i hi hd;refine Ev.step (f := fun _ => some true) (fun k => ?_) (Ev.now _);simp only [spec_l4Key.l0]; rw [if_neg (by omega)]
  | succ d ih =>
    intro i hi hd
    have hw : wrap64 ((i : Int) + 1) = ((i + 1 : Nat) : Int) := by rw [w64 (by omega) (by omega)]; rfl
    refine Ev.step (f := fun k => if keyC (bt s (i : Int)) = true then spec_l4Key.l0 k s ((i + 1 : Nat) : Int) else some false) (fun k => ?_) ?_
    · simp only [spec_l4Key.l0]
      rw [if_pos (by omega), if_pos (by omega), hw, spec_lo];simp only [Option.bind_some];unfold keyC
      cases loD (bt s (i : Int)) with
      | true => rw [if_pos rfl, Bool.true_or, if_pos rfl]
      | false =>
        rw [if_neg (by simp)];unfold digD;by_cases c1 : bt s (i : Int) < 48
        · rw [if_pos c1, if_neg (by simp; omega)]
        · rw [if_neg c1]
          by_cases c2 : bt s (i : Int) > 57
          · rw [if_pos c2, if_neg (by simp; omega)]
          · rw [if_neg c2, if_pos (by simp; omega)]
    · unfold keyF
      cases h : keyC (bt s (i : Int)) with
      | true => exact ev_pos rfl (ev_eq (ih (i + 1) (by omega) (by omega)) (by simp))
      | false => exact ev_neg (by simp) (ev_eq (Ev.now _) (by simp))
theorem impl_key_loop (s : ByteArray) (h2 : s.size ≤ 10) (d : Nat) : ∀ i : Nat, i ≤ s.size → s.size - i = d → Ev (fun k => impl_isKey.l0 k s (i : Int)) (keyF s d i) := by
  induction d with
  | zero =>
    intro i hi hd;refine Ev.step (f := fun _ => some true) (fun k => ?_) (Ev.now _);simp only [impl_isKey.l0]; rw [if_neg (by omega)]
  | succ d ih =>
    intro i hi hd
    have hw : wrap64 ((i : Int) + 1) = ((i + 1 : Nat) : Int) := by rw [w64 (by omega) (by omega)]; rfl
    refine Ev.step (f := fun k => if keyC (bt s (i : Int)) = true then impl_isKey.l0 k s ((i + 1 : Nat) : Int) else some false) (fun k => ?_) ?_
    · simp only [impl_isKey.l0]
      rw [if_pos (by omega), if_pos (by omega), hw, impl_lo];simp only [Option.bind_some];unfold keyC
      cases loD (bt s (i : Int)) with
      | true => rw [if_pos rfl, Bool.true_or, if_pos rfl]
      | false =>
        rw [if_neg (by simp), impl_dig];simp only [Option.bind_some, Bool.false_or]
    · unfold keyF
      cases h : keyC (bt s (i : Int)) with
      | true => exact ev_pos rfl (ev_eq (ih (i + 1) (by omega) (by omega)) (by simp))
      | false => exact ev_neg (by simp) (ev_eq (Ev.now _) (by simp))
theorem spec_key (s : ByteArray) : Ev (fun k => spec_l4Key.f k s) (keyD s) := by
  have hj1 : Ev (fun k => spec_l4Key.j0 k s true) false := Ev.step (f := fun _ => some false) (fun k => by simp [spec_l4Key.j0]) (Ev.now _);unfold spec_l4Key.f spec_l1In.f keyD;rw [in10];refine Ev.bind (a := inK s.size) (Ev.now _) ?_
  cases h : inK s.size with
  | false => exact ev_neg (by simp) (ev_eq hj1 (by simp))
  | true =>
    obtain ⟨h1, h2⟩ := inK_iff.1 h;refine ev_pos rfl (ev_pos (by omega) (ev_bind0 (spec_lo _) ?_))
    cases loD (bt s 0) with
    | false => exact ev_eq hj1 (by simp)
    | true => exact Ev.step (f := fun k => spec_l4Key.l0 k s ((0 : Nat) : Int)) (fun k => by simp [spec_l4Key.j0]) (ev_eq (spec_key_loop s h2 _ 0 (by omega) rfl) (by simp))
theorem impl_key (s : ByteArray) : Ev (fun k => impl_isKey.f k s) (keyD s) := by
  have hj1 : Ev (fun k => impl_isKey.j0 k s true) false := Ev.step (f := fun _ => some false) (fun k => by simp [impl_isKey.j0]) (Ev.now _);unfold impl_isKey.f impl_inside.f keyD;rw [in10];refine Ev.bind (a := inK s.size) (Ev.now _) ?_
  cases h : inK s.size with
  | false => exact ev_neg (by simp) (ev_eq hj1 (by simp))
  | true =>
    obtain ⟨h1, h2⟩ := inK_iff.1 h;refine ev_pos rfl (ev_pos (by omega) (ev_bind0 (impl_lo _) ?_))
    cases loD (bt s 0) with
    | false => exact ev_eq hj1 (by simp)
    | true => exact Ev.step (f := fun k => impl_isKey.l0 k s ((0 : Nat) : Int)) (fun k => by simp [impl_isKey.j0]) (ev_eq (impl_key_loop s h2 _ 0 (by omega) rfl) (by simp))
def bytesS (l : List ByteArray) : Nat := (l.map (·.size)).sum
def bulkS (l : List ByteArray) : Nat := l.length + bytesS l
theorem bytesS_cons (a : ByteArray) (l : List ByteArray) : bytesS (a :: l) = a.size + bytesS l := by simp [bytesS]
def lftOf (left : Int) (n : Nat) : Int := if (n : Int) ≤ left then left - n else -1
theorem szS_loop (l : List ByteArray) (hb : ∀ s ∈ l, s.size ≤ 9223372036854775807) (hl : l.length ≤ 9223372036854775807) (d : Nat) : ∀ (left : Int) (i : Nat), 0 ≤ left → left ≤ 4611686018427387904 → l.length - i = d → i ≤ l.length →
    Ev (fun k => laws_szStringS.l0 k l left i) (lftOf left (bytesS (l.drop i))) := by
  induction d with
  | zero =>
    intro left i h0 h1 hd hi;refine Ev.step (f := fun _ => some left) (fun k => ?_) (ev_eq (Ev.now _) ?_)
    · simp only [laws_szStringS.l0]; rw [if_neg (by omega)]
    · rw [List.drop_of_length_le (by omega)]; simp [lftOf, bytesS]; omega
  | succ d ih =>
    intro left i h0 h1 hd hi
    have hlt : i < l.length := by omega
    have hs := hb l[i] (List.getElem_mem hlt)
    have hr : rdOf ByteArray.empty l (i : Int) = l[i] := by simp [rdOf, hlt]
    have hw : wrap64 (left - (l[i].size : Int)) = left - (l[i].size : Int) := w64 (by omega) (by omega);rw [List.drop_eq_getElem_cons hlt, bytesS_cons];by_cases hn : left - (l[i].size : Int) < 0
    · refine Ev.step (f := fun _ => some (-1)) (fun k => ?_) (ev_eq (Ev.now _) ?_)
      · simp only [laws_szStringS.l0]; rw [if_pos (by omega), if_pos (by omega), hr, hw, if_pos hn]
      · unfold lftOf; rw [if_neg (by omega)]
    · refine Ev.step (f := fun k => laws_szStringS.l0 k l (left - (l[i].size : Int)) ((i + 1 : Nat) : Int)) (fun k => ?_) (ev_eq (ih (left - (l[i].size : Int)) (i + 1) (by omega) (by omega) (by omega) (by omega)) ?_)
      · simp only [laws_szStringS.l0]; rw [if_pos (by omega), if_pos (by omega), hr, hw, if_neg hn, w64 (x := (i : Int) + 1) (by omega) (by omega)]; rfl
      · unfold lftOf; split <;> split <;> omega
theorem szS_ev (l : List ByteArray) (hb : ∀ s ∈ l, s.size ≤ 9223372036854775807) (hl : l.length ≤ 9223372036854775807) (left : Int) (h0 : 0 ≤ left) (h1 : left ≤ 4611686018427387904) :
    Ev (fun k => laws_szStringS.f k l left) (lftOf left (bulkS l)) := by
  unfold laws_szStringS.f;have hw : wrap64 (left - (l.length : Int)) = left - (l.length : Int) := w64 (by omega) (by omega);rw [hw];by_cases hn : left - (l.length : Int) < 0
  · refine ev_pos hn (ev_eq (Ev.now _) ?_)
    unfold lftOf bulkS; rw [if_neg (by omega)]
  · refine ev_neg hn (ev_eq (szS_loop l hb hl l.length (left - l.length) 0 (by omega) (by omega) rfl (by omega)) ?_)
    rw [List.drop_zero]
    unfold lftOf bulkS; split <;> split <;> omega
theorem toS_loop (l : List ByteArray) (hl : l.length ≤ 17592186044416) (d : Nat) : ∀ (i : Nat), l.length - i = d → i ≤ l.length →
    Ev (fun k => laws_toStringS.l0 k l (l.take i ++ List.replicate (l.length - i) (⟨#[]⟩ : ByteArray)) i) l := by
  induction d with
  | zero =>
    intro i hd hi;refine Ev.step (f := fun _ => some l) (fun k => ?_) (Ev.now _);simp only [laws_toStringS.l0]; rw [if_neg (by omega), hd, List.take_of_length_le (by omega)]; simp
  | succ d ih =>
    intro i hd hi
    have hlt : i < l.length := by omega
    refine Ev.step (f := fun k => laws_toStringS.l0 k l (l.take (i + 1) ++ List.replicate (l.length - (i + 1)) (⟨#[]⟩ : ByteArray)) ((i + 1 : Nat) : Int)) (fun k => ?_) (ih (i + 1) (by omega) (by omega))
    have hr : rdOf ByteArray.empty l (i : Int) = l[i] := by simp [rdOf, hlt]
    have hlen : (l.take i).length = i := by simp; omega
    have e : (l.take i ++ List.replicate (l.length - i) (⟨#[]⟩ : ByteArray)).set i l[i] = l.take (i + 1) ++ List.replicate (l.length - (i + 1)) (⟨#[]⟩ : ByteArray) := by
      rw [List.set_append_right _ _ (by omega), hlen, Nat.sub_self, show l.length - i = (l.length - (i + 1)) + 1 by omega, List.replicate_succ, List.set_cons_zero, List.take_succ_eq_append_getElem hlt, List.append_assoc];rfl
    simp only [laws_toStringS.l0];rw [if_pos (by omega), if_pos (by omega), if_pos (by simp; omega), hr, w64 (x := (i : Int) + 1) (by omega) (by omega), Int.toNat_natCast, e];rfl
theorem toS_ev (l : List ByteArray) (hl : l.length ≤ 17592186044416) : Ev (fun k => laws_toStringS.f k l) l := by
  unfold laws_toStringS.f;refine ev_pos (by omega) (ev_pos (by omega) ?_);have := toS_loop l hl l.length 0 rfl (by omega)
  simpa using this
def sufD (S : ByteArray) : Bool := decide (S.size = 0) || wordD S
def restD (P F S : ByteArray) : Bool := partD P && (greatD F && sufD S)
def goodN (G : List ByteArray) (P F S : ByteArray) : Bool := G.all greatD && (decide (G.length ≤ 3) && restD P F S)
theorem spec_tail (P F S : ByteArray) (hP : P.size ≤ 4294967280) : Ev (fun k => (spec_l2Particle.f k P).bind fun Rc => (if Rc = true then ((spec_l2Word.f k F).bind fun nc => (if nc = true then (if 0 < (F.size : Int) then ((spec_l2Upper.f (bt F 0)).bind fun pb => (if pb = true then (if S.toList = ([] : List UInt8) then (some true) else ((spec_l2Word.f k S).bind fun Ac => (some Ac))) else (some false))) else (none)) else (some false))) else (some false))) (restD P F S) := by
  unfold restD;refine Ev.bind (spec_part P hP) ?_
  cases partD P with
  | false => exact ev_neg (by simp) (Ev.now _)
  | true =>
    refine ev_pos rfl (Ev.bind (spec_word F) ?_);unfold greatD
    cases h : wordD F with
    | false => exact ev_neg (by simp) (Ev.now _)
    | true =>
      have := word_in h;refine ev_pos rfl (ev_pos (by omega) (ev_bind0 (spec_up _) ?_))
      cases upD (bt F 0) with
      | false => exact ev_neg (by simp) (Ev.now _)
      | true =>
        refine ev_pos rfl ?_;unfold sufD;by_cases h : S.size = 0
        · exact ev_pos ((nil_iff S).2 h) (ev_eq (Ev.now _) (by simp [h]))
        · exact ev_neg (fun e => h ((nil_iff S).1 e)) (Ev.bind (spec_word S) (ev_eq (Ev.now _) (by simp [h])))
theorem spec_good_loop (G : List ByteArray) (P F S : ByteArray) (hG : G.length ≤ 4611686018427387904) (hP : P.size ≤ 4294967280) (d : Nat) : ∀ i : Nat, i ≤ G.length → G.length - i = d →
    Ev (fun k => spec_l2Good.l0 k (i : Int) G P F S) ((G.drop i).all greatD && (decide (G.length ≤ 3) && restD P F S)) := by
  induction d with
  | zero =>
    intro i h1 hd;refine Ev.step (f := fun k => if (G.length : Int) ≤ 3 then ((spec_l2Particle.f k P).bind fun Rc => (if Rc = true then ((spec_l2Word.f k F).bind fun nc => (if nc = true then (if 0 < (F.size : Int) then ((spec_l2Upper.f (bt F 0)).bind fun pb => (if pb = true then (if S.toList = ([] : List UInt8) then (some true) else ((spec_l2Word.f k S).bind fun Ac => (some Ac))) else (some false))) else (none)) else (some false))) else (some false))) else some false) (fun k => ?_) ?_
    · simp only [spec_l2Good.l0]; rw [if_neg (by omega)]
    · rw [List.drop_of_length_le (by omega)]
      by_cases h : G.length ≤ 3
      · exact ev_pos (by omega) (ev_eq (spec_tail P F S hP) (by simp [h]))
      · exact ev_neg (by omega) (ev_eq (Ev.now _) (by simp [h]))
  | succ d ih =>
    intro i h1 hd
    have hi : i < G.length := by omega
    have hw : wrap64 ((i : Int) + 1) = ((i + 1 : Nat) : Int) := by rw [w64 (by omega) (by omega)]; rfl
    rw [List.drop_eq_getElem_cons hi, List.all_cons, Bool.and_assoc];refine Ev.step (f := fun k => (spec_l2Word.f k G[i]).bind fun aae => (if aae = true then (if 0 < ((G[i]).size : Int) then ((spec_l2Upper.f (bt G[i] 0)).bind fun Gb => (if Gb = true then (spec_l2Good.l0 k ((i + 1 : Nat) : Int) G P F S) else (some false))) else (none)) else (some false))) (fun k => ?_) ?_
    · simp only [spec_l2Good.l0, rd_get G i hi]
      rw [if_pos (by omega), if_pos (by omega), hw]
    · refine Ev.bind (spec_word _) ?_
      rw [show greatD G[i] = (wordD G[i] && upD (bt G[i] 0)) from rfl]
      cases h : wordD G[i] with
      | false => exact ev_neg (by simp) (ev_eq (Ev.now _) (by simp))
      | true =>
        have := word_in h;refine ev_pos rfl (ev_pos (by omega) (ev_bind0 (spec_up _) ?_))
        cases upD (bt G[i] 0) with
        | false => exact ev_neg (by simp) (ev_eq (Ev.now _) (by simp))
        | true => exact ev_pos rfl (ev_eq (ih (i + 1) (by omega) (by omega)) (by simp))
theorem spec_name (G : List ByteArray) (P F S : ByteArray) (hG : G.length ≤ 4611686018427387904) (hP : P.size ≤ 4294967280) : Ev (fun k => spec_l2Good.f k G P F S) (goodN G P F S) := by
  have := spec_good_loop G P F S hG hP _ 0 (by omega) rfl;unfold spec_l2Good.f goodN;rw [List.drop_zero] at this;exact this
theorem idx_loop (G : List ByteArray) (hG : G.length ≤ 4611686018427387904) (d : Nat) : ∀ i : Nat, i ≤ G.length → G.length - i = d →
    ∃ v, Ev (fun k => slices_IndexFunc_string_string_at_67.l0 k G (G.length : Int) (i : Int)) v ∧ decide (v ≥ 0) = !((G.drop i).all greatD) := by
  induction d with
  | zero =>
    intro i h1 hd;refine ⟨-1, Ev.step (f := fun _ => some (-1)) (fun k => ?_) (Ev.now _), ?_⟩
    · simp only [slices_IndexFunc_string_string_at_67.l0]; rw [if_neg (by omega)]
    · rw [List.drop_of_length_le (by omega)]; simp
  | succ d ih =>
    intro i h1 hd
    have hi : i < G.length := by omega
    have hw : wrap64 ((i : Int) + 1) = ((i + 1 : Nat) : Int) := by rw [w64 (by omega) (by omega)]; rfl
    rw [List.drop_eq_getElem_cons hi, List.all_cons]
    have hst : ∀ v, Ev (fun k => (impl_IsValidName_1.f k G[i]).bind fun t => if t = true then some (i : Int) else slices_IndexFunc_string_string_at_67.l0 k G (G.length : Int) ((i + 1 : Nat) : Int)) v → Ev (fun k => slices_IndexFunc_string_string_at_67.l0 k G (G.length : Int) (i : Int)) v := by
      intro v hv;refine Ev.step (fun k => ?_) hv;simp only [slices_IndexFunc_string_string_at_67.l0, rd_get G i hi];rw [if_pos (by omega), if_pos (by omega), if_pos (by omega), hw]
    have hf : Ev (fun k => impl_IsValidName_1.f k G[i]) (!greatD G[i]) := by
      unfold impl_IsValidName_1.f;exact Ev.bind (impl_great _) (Ev.now _)
    cases h : greatD G[i] with
    | true =>
      obtain ⟨v, hv, e⟩ := ih (i + 1) (by omega) (by omega);refine ⟨v, hst v (Ev.bind hf (ev_neg (by simp [h]) hv)), ?_⟩;rw [e]; simp
    | false =>
      refine ⟨(i : Int), hst _ (Ev.bind hf (ev_pos (by simp [h]) (Ev.now _))), ?_⟩;simp
theorem contains_ev (G : List ByteArray) (hG : G.length ≤ 4611686018427387904) : Ev (fun k => slices_ContainsFunc_string_string_at_67.f k G) (!(G.all greatD)) := by
  obtain ⟨v, hv, e⟩ := idx_loop G hG _ 0 (by omega) rfl;unfold slices_ContainsFunc_string_string_at_67.f slices_IndexFunc_string_string_at_67.f;rw [List.drop_zero] at e;exact Ev.bind hv (ev_eq (Ev.now _) e)
theorem impl_valid (G : List ByteArray) (P F S : ByteArray) (hG : G.length ≤ 4611686018427387904) (hP : P.size ≤ 4294967280) : Ev (fun k => impl_IsValidName.f k G P F S) (goodN G P F S) := by
  have hj1 : Ev (fun k => impl_IsValidName.j0 k true G P F S) false := Ev.step (f := fun _ => some false) (fun k => by simp [impl_IsValidName.j0]) (Ev.now _)
  have hj0 : Ev (fun k => impl_IsValidName.j0 k false G P F S) (restD P F S) := by
    refine Ev.step (f := fun k => (impl_isParticle.f k P).bind fun aaf => (if aaf = true then ((impl_isGreatWord.f k F).bind fun t173 => (if t173 = true then (if S.toList = ([] : List UInt8) then (some true) else ((impl_isNameWord.f k S).bind fun aag => (some aag))) else (some false))) else (some false))) (fun k => by simp [impl_IsValidName.j0]) ?_;unfold restD;refine Ev.bind (impl_part P hP) ?_
    cases partD P with
    | false => exact ev_neg (by simp) (Ev.now _)
    | true =>
      refine ev_pos rfl (Ev.bind (impl_great F) ?_)
      cases greatD F with
      | false => exact ev_neg (by simp) (Ev.now _)
      | true =>
        refine ev_pos rfl ?_;unfold sufD;by_cases h : S.size = 0
        · exact ev_pos ((nil_iff S).2 h) (ev_eq (Ev.now _) (by simp [h]))
        · exact ev_neg (fun e => h ((nil_iff S).1 e)) (Ev.bind (impl_word S) (ev_eq (Ev.now _) (by simp [h])))
  unfold impl_IsValidName.f goodN;by_cases h : G.length ≤ 3
  · refine ev_neg (by omega) (Ev.bind (contains_ev G hG) ?_)
    cases G.all greatD with
    | true => exact ev_eq hj0 (by simp [h])
    | false => exact ev_eq hj1 (by simp)
  · exact ev_pos (by omega) (ev_eq hj1 (by simp [h]))
def bulkN (G : List ByteArray) (P F S : ByteArray) : Nat := bulkS G + P.size + F.size + S.size
theorem szN_ev (G : List ByteArray) (P F S : ByteArray) (hb : ∀ s ∈ G, s.size ≤ 9223372036854775807) (hl : G.length ≤ 9223372036854775807) (hP : P.size ≤ 9223372036854775807) (hF : F.size ≤ 9223372036854775807) (hS : S.size ≤ 9223372036854775807) (left : Int) (h0 : 0 ≤ left) (h1 : left ≤ 4611686018427387904) :
    Ev (fun k => laws_szName.f k G P F S left) (lftOf left (bulkN G P F S)) := by
  unfold laws_szName.f;refine Ev.bind (szS_ev G hb hl left h0 h1) ?_;unfold bulkN;by_cases c : (bulkS G : Int) ≤ left
  · have e : lftOf left (bulkS G) = left - bulkS G := by unfold lftOf; rw [if_pos c]
    rw [e];have w1 : wrap64 (left - (bulkS G : Int) - (P.size : Int)) = left - (bulkS G : Int) - (P.size : Int) := w64 (by omega) (by omega);rw [w1];refine ev_neg (by omega) ?_;by_cases c1 : left - (bulkS G : Int) - (P.size : Int) < 0
    · exact ev_pos c1 (ev_eq (Ev.now _) (by unfold lftOf; rw [if_neg (by omega)]))
    refine ev_neg c1 ?_;have w2 : wrap64 (left - (bulkS G : Int) - (P.size : Int) - (F.size : Int)) = left - (bulkS G : Int) - (P.size : Int) - (F.size : Int) := w64 (by omega) (by omega);rw [w2];by_cases c2 : left - (bulkS G : Int) - (P.size : Int) - (F.size : Int) < 0
    · exact ev_pos c2 (ev_eq (Ev.now _) (by unfold lftOf; rw [if_neg (by omega)]))
    refine ev_neg c2 ?_;have w3 : wrap64 (left - (bulkS G : Int) - (P.size : Int) - (F.size : Int) - (S.size : Int)) = left - (bulkS G : Int) - (P.size : Int) - (F.size : Int) - (S.size : Int) := w64 (by omega) (by omega);rw [w3];by_cases c3 : left - (bulkS G : Int) - (P.size : Int) - (F.size : Int) - (S.size : Int) < 0
    · exact ev_pos c3 (ev_eq (Ev.now _) (by unfold lftOf; rw [if_neg (by omega)]))
    · exact ev_neg c3 (ev_eq (Ev.now _) (by unfold lftOf; rw [if_pos (by omega)]; omega))
  · have e : lftOf left (bulkS G) = -1 := by unfold lftOf; rw [if_neg c]
    rw [e];exact ev_pos (by omega) (ev_eq (Ev.now _) (by unfold lftOf; rw [if_neg (by omega)]))
theorem toN_ev (G : List ByteArray) (P F S : ByteArray) (hl : G.length ≤ 17592186044416) : Ev (fun k => laws_toName.f k G P F S) (G, P, F, S) := by
  unfold laws_toName.f;exact Ev.bind (toS_ev G hl) (Ev.now _)
theorem eqS_same_loop (l : List ByteArray) (hl : l.length ≤ 4611686018427387904) (d : Nat) : ∀ i : Nat, i ≤ l.length → l.length - i = d → Ev (fun k => laws_eqStringS.l0 k l l (i : Int)) true := by
  induction d with
  | zero =>
    intro i h1 hd;refine Ev.step (f := fun _ => some true) (fun k => ?_) (Ev.now _);simp only [laws_eqStringS.l0]; rw [if_neg (by omega)]
  | succ d ih =>
    intro i h1 hd
    have hw : wrap64 ((i : Int) + 1) = ((i + 1 : Nat) : Int) := by rw [w64 (by omega) (by omega)]; rfl
    refine Ev.step (f := fun k => laws_eqStringS.l0 k l l ((i + 1 : Nat) : Int)) (fun k => ?_) (ih (i + 1) (by omega) (by omega));simp only [laws_eqStringS.l0];rw [if_pos (by omega), if_pos (by omega), if_pos (by omega), if_pos trivial, hw]
theorem eqS_same (l : List ByteArray) (hl : l.length ≤ 4611686018427387904) : Ev (fun k => laws_eqStringS.f k l l) true := by
  unfold laws_eqStringS.f;exact ev_pos rfl (eqS_same_loop l hl _ 0 (by omega) rfl)
theorem eqN_same (G : List ByteArray) (P F S : ByteArray) (hl : G.length ≤ 4611686018427387904) : Ev (fun k => laws_eqName.f k G P F S G P F S) true := by
  unfold laws_eqName.f;exact Ev.bind (eqS_same G hl) (ev_pos rfl (ev_pos rfl (ev_pos rfl (ev_pos rfl (Ev.now _)))))
end Go.Proofs.YthfbogcpjfledaaGreatDoor.G

namespace Go.Proofs.YthfbogcpjfledaaGreatDoor.G
open Go.RowKit Go.Proofs.YthfbogcpjfledaaGreatDoorW.PrintWords Go.Proofs.YthfbogcpjfledaaGreatDoorW.PrintLast Go.Proofs.YthfbogcpjfledaaGreatDoor.B Go.Proofs.YthfbogcpjfledaaGreatDoor.Opn
set_option linter.unusedVariables false
set_option linter.unusedSimpArgs false
def conv (x : S55) : S62 := ⟨x.f0, x.f1, x.f2, x.f3⟩
def bulkL (l : List S55) : Nat := (l.map fun x => bulkN x.f0 x.f1 x.f2 x.f3).sum
theorem rd24 (l : List S55) (i : Nat) (h : i < l.length) : rd_T55 l (i : Int) = l[i] := by simp [rd_T55, h]
theorem rd27 (l : List S62) (i : Nat) (h : i < l.length) : rd_T62 l (i : Int) = l[i] := by simp [rd_T62, h]
theorem bulkL_cons (a : S55) (l : List S55) : bulkL (a :: l) = bulkN a.f0 a.f1 a.f2 a.f3 + bulkL l := by simp [bulkL]
theorem bulkL_mem {l : List S55} {x : S55} (h : x ∈ l) : bulkN x.f0 x.f1 x.f2 x.f3 ≤ bulkL l := by
  induction l with
  | nil => simp at h
  | cons a l ih =>
    rw [bulkL_cons]
    rcases List.mem_cons.1 h with rfl | h
    · omega
    · have := ih h; omega
theorem szL_loop (l : List S55) (hb : ∀ x ∈ l, ok55 x) (hl : l.length ≤ 9223372036854775807) (d : Nat) : ∀ (left : Int) (i : Nat), 0 ≤ left → left ≤ 1048576 → l.length - i = d → i ≤ l.length →
    Ev (fun k => laws_szNameS.l0 k l left (i : Int)) (lftOf left (bulkL (l.drop i))) := by
  induction d with
  | zero =>
    intro left i h0 h1 hd hi;refine Ev.step (f := fun _ => some left) (fun k => ?_) (ev_eq (Ev.now _) ?_)
    · simp only [laws_szNameS.l0]; rw [if_neg (by omega)]
    · rw [List.drop_of_length_le (by omega)]; unfold lftOf bulkL; simp; omega
  | succ d ih =>
    intro left i h0 h1 hd hi
    have hlt : i < l.length := by omega
    obtain ⟨b0, b1, b2, b3⟩ := hb l[i] (List.getElem_mem hlt);have hsz := szN_ev (l[i]).f0 (l[i]).f1 (l[i]).f2 (l[i]).f3 b0.2 b0.1 b1 b2 b3 left h0 (by omega)
    have hw : wrap64 ((i : Int) + 1) = ((i + 1 : Nat) : Int) := by rw [w64 (by omega) (by omega)]; rfl
    rw [List.drop_eq_getElem_cons hlt, bulkL_cons];refine Ev.step (f := fun k => (laws_szName.f k (l[i]).f0 (l[i]).f1 (l[i]).f2 (l[i]).f3 left).bind fun jk => (if jk < 0 then (some (-1)) else (laws_szNameS.l0 k l jk ((i + 1 : Nat) : Int)))) (fun k => ?_) (Ev.bind hsz ?_)
    · simp only [laws_szNameS.l0, rd24 l i hlt, hw]
      rw [if_pos (by omega), if_pos (by omega)]
    · by_cases c : (bulkN (l[i]).f0 (l[i]).f1 (l[i]).f2 (l[i]).f3 : Int) ≤ left
      · have e : lftOf left (bulkN (l[i]).f0 (l[i]).f1 (l[i]).f2 (l[i]).f3) = left - bulkN (l[i]).f0 (l[i]).f1 (l[i]).f2 (l[i]).f3 := by unfold lftOf; rw [if_pos c]
        rw [e];refine ev_neg (by omega) (ev_eq (ih _ (i + 1) (by omega) (by omega) (by omega) (by omega)) ?_)
        unfold lftOf; split <;> split <;> omega
      · have e : lftOf left (bulkN (l[i]).f0 (l[i]).f1 (l[i]).f2 (l[i]).f3) = -1 := by unfold lftOf; rw [if_neg c]
        rw [e];exact ev_pos (by omega) (ev_eq (Ev.now _) (by unfold lftOf; rw [if_neg (by omega)]))
theorem szL_ev (l : List S55) (hb : ∀ x ∈ l, ok55 x) (hl : l.length ≤ 9223372036854775807) (left : Int) (h0 : 0 ≤ left) (h1 : left ≤ 1048576) :
    Ev (fun k => laws_szNameS.f k l left) (lftOf left (l.length + bulkL l)) := by
  unfold laws_szNameS.f;have hw : wrap64 (left - (l.length : Int)) = left - (l.length : Int) := w64 (by omega) (by omega);rw [hw];by_cases hn : left - (l.length : Int) < 0
  · exact ev_pos hn (ev_eq (Ev.now _) (by unfold lftOf; rw [if_neg (by omega)]))
  · refine ev_neg hn (ev_eq (szL_loop l hb hl l.length (left - l.length) 0 (by omega) (by omega) rfl (by omega)) ?_)
    rw [List.drop_zero]
    unfold lftOf; split <;> split <;> omega
theorem toL_loop (l : List S55) (hl : l.length ≤ 1048576) (hs : ∀ x ∈ l, x.f0.length ≤ 1048576) (d : Nat) : ∀ (i : Nat), l.length - i = d → i ≤ l.length →
    Ev (fun k => laws_toNameS.l0 k l ((l.take i).map conv ++ List.replicate (l.length - i) z62) (i : Int)) (l.map conv) := by
  induction d with
  | zero =>
    intro i hd hi;refine Ev.step (f := fun _ => some (l.map conv)) (fun k => ?_) (Ev.now _);simp only [laws_toNameS.l0]; rw [if_neg (by omega), hd, List.take_of_length_le (by omega)]; simp
  | succ d ih =>
    intro i hd hi
    have hlt : i < l.length := by omega
    have hw : wrap64 ((i : Int) + 1) = ((i + 1 : Nat) : Int) := by rw [w64 (by omega) (by omega)]; rfl
    have hlen : ((l.take i).map conv).length = i := by simp; omega
    have hall : ((l.take i).map conv ++ List.replicate (l.length - i) z62).length = l.length := by simp; omega
    have e : ((l.take i).map conv ++ List.replicate (l.length - i) z62).set i (conv l[i]) = (l.take (i + 1)).map conv ++ List.replicate (l.length - (i + 1)) z62 := by
      rw [List.set_append_right _ _ (by omega), hlen, Nat.sub_self, show l.length - i = (l.length - (i + 1)) + 1 by omega, List.replicate_succ, List.set_cons_zero, List.take_succ_eq_append_getElem hlt, List.map_append, List.append_assoc];rfl
    have ht := toN_ev (l[i]).f0 (l[i]).f1 (l[i]).f2 (l[i]).f3 (by have := hs _ (List.getElem_mem hlt); omega);refine Ev.step (f := fun k => (laws_toName.f k (l[i]).f0 (l[i]).f1 (l[i]).f2 (l[i]).f3).bind fun FE => laws_toNameS.l0 k l (((l.take i).map conv ++ List.replicate (l.length - i) z62).set i (⟨FE.1, FE.2.1, FE.2.2.1, FE.2.2.2⟩ : S62)) ((i + 1 : Nat) : Int)) (fun k => ?_) (Ev.bind ht ?_)
    · have a3 : (i : Int) < ((((l.take i).map conv ++ List.replicate (l.length - i) z62).length : Nat) : Int) := by rw [hall]; omega
      simp only [laws_toNameS.l0, rd24 l i hlt, hw, if_pos a3, Int.toNat_natCast];rw [if_pos (by omega), if_pos (by omega)]
    · have hq := ih (i + 1) (by omega) (by omega)
      rw [← e] at hq;exact hq
theorem toL_ev (l : List S55) (hl : l.length ≤ 1048576) (hs : ∀ x ∈ l, x.f0.length ≤ 1048576) : Ev (fun k => laws_toNameS.f k l) (l.map conv) := by
  unfold laws_toNameS.f;refine ev_pos (by omega) (ev_pos (by omega) ?_);have := toL_loop l hl hs l.length 0 rfl (by omega)
  simpa using this
def goodS (x : S62) : Bool := goodN x.f0 x.f1 x.f2 x.f3
def okS (x : S62) : Prop := x.f0.length ≤ 4611686018427387904 ∧ x.f1.size ≤ 4294967280
def listD (l : List S62) : Bool := l.all goodS && decide (l.length ≤ 4)
theorem spec_list_loop (l : List S62) (ho : ∀ x ∈ l, okS x) (hl : l.length ≤ 1048576) (d : Nat) : ∀ i : Nat, i ≤ l.length → min l.length 5 - i = d → i ≤ 5 →
    Ev (fun k => spec_l2List.l0 k l (i : Int)) (((l.take 5).drop i).all goodS && decide (l.length ≤ 4)) := by
  have stop : ∀ i : Nat, Ev (fun k => spec_l2List.j1 k l (i : Int) false) (decide (l.length ≤ 4)) := fun i => by
    refine Ev.step (f := fun _ => some (decide ((l.length : Int) ≤ 4))) (fun k => by simp [spec_l2List.j1]) (ev_eq (Ev.now _) ?_);rw [decide_eq_decide]; omega
  induction d with
  | zero =>
    intro i h1 hd h5;rw [List.drop_of_length_le (by rw [List.length_take]; omega)];refine Ev.step (f := fun k => spec_l2List.j1 k l (i : Int) false) (fun k => ?_) (ev_eq (stop i) (by simp));simp only [spec_l2List.l0];by_cases c : i < l.length
    · rw [if_pos (by omega), df (by omega)]
    · rw [if_neg (by omega)]
  | succ d ih =>
    intro i h1 hd h5
    have hi : i < l.length := by omega
    have hw : wrap64 ((i : Int) + 1) = ((i + 1 : Nat) : Int) := by rw [w64 (by omega) (by omega)]; rfl
    have hi' : i < (l.take 5).length := by rw [List.length_take]; omega
    have hx := ho _ (List.getElem_mem hi);rw [List.drop_eq_getElem_cons hi', List.all_cons, List.getElem_take, Bool.and_assoc];refine Ev.step (f := fun k => spec_l2List.j1 k l (i : Int) true) (fun k => ?_) (Ev.step (f := fun k => (spec_l2Good.f k (l[i]).f0 (l[i]).f1 (l[i]).f2 (l[i]).f3).bind fun eX => (if eX = true then (spec_l2List.l0 k l ((i + 1 : Nat) : Int)) else (some false))) (fun k => ?_) (Ev.bind (spec_name _ _ _ _ hx.1 hx.2) ?_))
    · simp only [spec_l2List.l0]
      rw [if_pos (by omega), dt (by omega)]
    · simp only [spec_l2List.j1, rd27 l i hi, hw]
      rw [if_pos trivial, if_pos (by omega), if_pos (by omega)]
    · show Ev _ (goodN (l[i]).f0 (l[i]).f1 (l[i]).f2 (l[i]).f3 && _)
      cases goodN (l[i]).f0 (l[i]).f1 (l[i]).f2 (l[i]).f3 with
      | true => exact ev_pos rfl (ev_eq (ih (i + 1) (by omega) (by omega) (by omega)) (by simp))
      | false => exact ev_neg (by simp) (ev_eq (Ev.now _) (by simp))
theorem spec_list (l : List S62) (ho : ∀ x ∈ l, okS x) (hl : l.length ≤ 1048576) : Ev (fun k => spec_l2List.f k l) (listD l) := by
  have h := spec_list_loop l ho hl _ 0 (by omega) rfl (by omega);unfold spec_l2List.f listD;refine ev_eq h ?_;rw [List.drop_zero];by_cases c : l.length ≤ 4
  · rw [List.take_of_length_le (by omega)]
  · rw [df c]; simp
theorem idxN_loop (l : List S62) (ho : ∀ x ∈ l, okS x) (hl : l.length ≤ 1048576) (d : Nat) : ∀ i : Nat, i ≤ l.length → l.length - i = d →
    ∃ v, Ev (fun k => impl_Name_65_at_53.l0 k l (l.length : Int) (i : Int)) v ∧ decide (v ≥ 0) = !((l.drop i).all goodS) := by
  induction d with
  | zero =>
    intro i h1 hd;refine ⟨-1, Ev.step (f := fun _ => some (-1)) (fun k => ?_) (Ev.now _), ?_⟩
    · simp only [impl_Name_65_at_53.l0]; rw [if_neg (by omega)]
    · rw [List.drop_of_length_le (by omega)]; simp
  | succ d ih =>
    intro i h1 hd
    have hi : i < l.length := by omega
    have hw : wrap64 ((i : Int) + 1) = ((i + 1 : Nat) : Int) := by rw [w64 (by omega) (by omega)]; rfl
    have hx := ho _ (List.getElem_mem hi);rw [List.drop_eq_getElem_cons hi, List.all_cons]
    have hst : ∀ v, Ev (fun k => (impl_areNames_1.f k (l[i]).f0 (l[i]).f1 (l[i]).f2 (l[i]).f3).bind fun t => if t = true then some (i : Int) else impl_Name_65_at_53.l0 k l (l.length : Int) ((i + 1 : Nat) : Int)) v → Ev (fun k => impl_Name_65_at_53.l0 k l (l.length : Int) (i : Int)) v := by
      intro v hv;refine Ev.step (fun k => ?_) hv;simp only [impl_Name_65_at_53.l0, rd27 l i hi, hw];rw [if_pos (by omega), if_pos (by omega), if_pos (by omega)]
    have hf : Ev (fun k => impl_areNames_1.f k (l[i]).f0 (l[i]).f1 (l[i]).f2 (l[i]).f3) (!goodS l[i]) := by
      unfold impl_areNames_1.f;exact Ev.bind (impl_valid _ _ _ _ hx.1 hx.2) (Ev.now _)
    cases h : goodS l[i] with
    | true =>
      obtain ⟨v, hv, e⟩ := ih (i + 1) (by omega) (by omega);refine ⟨v, hst v (Ev.bind hf (ev_neg (by simp [h]) hv)), ?_⟩;rw [e]; simp
    | false =>
      refine ⟨(i : Int), hst _ (Ev.bind hf (ev_pos (by simp [h]) (Ev.now _))), ?_⟩;simp
theorem impl_list (l : List S62) (ho : ∀ x ∈ l, okS x) (hl : l.length ≤ 1048576) : Ev (fun k => impl_areNames.f k l) (listD l) := by
  unfold impl_areNames.f listD;by_cases c : l.length ≤ 4
  · obtain ⟨v, hv, e⟩ := idxN_loop l ho hl _ 0 (by omega) rfl
    rw [List.drop_zero] at e;refine ev_pos (by omega) (Ev.bind (g := fun k => impl_Name_52_at_53.f k l) (a := decide (v ≥ 0)) ?_ (ev_eq (Ev.now _) ?_))
    · unfold impl_Name_52_at_53.f impl_Name_65_at_53.f
      exact Ev.bind hv (Ev.now _)
    · rw [e]; simp [c]
  · exact ev_neg (by omega) (ev_eq (Ev.now _) (by simp [c]))
theorem list_good {l : List S62} (h : listD l = true) : l.length ≤ 4 ∧ ∀ x ∈ l, goodS x = true := by
  unfold listD at h;simp only [Bool.and_eq_true, decide_eq_true_eq] at h;exact ⟨h.2, fun x hx => List.all_eq_true.1 h.1 x hx⟩
theorem eqL_loop (l : List S62) (ho : ∀ x ∈ l, okS x) (hl : l.length ≤ 1048576) (d : Nat) : ∀ i : Nat, i ≤ l.length → l.length - i = d → Ev (fun k => laws_eqNameS.l0 k l l (i : Int)) true := by
  induction d with
  | zero =>
    intro i h1 hd;refine Ev.step (f := fun _ => some true) (fun k => ?_) (Ev.now _);simp only [laws_eqNameS.l0]; rw [if_neg (by omega)]
  | succ d ih =>
    intro i h1 hd
    have hi : i < l.length := by omega
    have hw : wrap64 ((i : Int) + 1) = ((i + 1 : Nat) : Int) := by rw [w64 (by omega) (by omega)]; rfl
    refine Ev.step (f := fun k => (laws_eqName.f k (l[i]).f0 (l[i]).f1 (l[i]).f2 (l[i]).f3 (l[i]).f0 (l[i]).f1 (l[i]).f2 (l[i]).f3).bind fun aah => (if aah = true then (laws_eqNameS.l0 k l l ((i + 1 : Nat) : Int)) else (some false))) (fun k => ?_) (Ev.bind (eqN_same _ _ _ _ (ho _ (List.getElem_mem hi)).1) (ev_pos rfl (ih (i + 1) (by omega) (by omega))));simp only [laws_eqNameS.l0, rd27 l i hi, hw];rw [if_pos (by omega), if_pos (by omega), if_pos (by omega)]
theorem eqL_same (l : List S62) (ho : ∀ x ∈ l, okS x) (hl : l.length ≤ 1048576) : Ev (fun k => laws_eqNameS.f k l l) true := by
  unfold laws_eqNameS.f;exact ev_pos rfl (eqL_loop l ho hl _ 0 (by omega) rfl)
theorem conv_ok {l : List S55} (h : bulkL l ≤ 1048576) : ∀ x ∈ l.map conv, okS x := by
  intro x hx;obtain ⟨y, hy, rfl⟩ := List.mem_map.1 hx;have := bulkL_mem hy;unfold bulkN bulkS at this;exact ⟨by show y.f0.length ≤ _; omega, by show y.f1.size ≤ _; omega⟩
end Go.Proofs.YthfbogcpjfledaaGreatDoor.G

namespace Go.Proofs.YthfbogcpjfledaaGreatDoor.G
open Go.RowKit Go.Proofs.YthfbogcpjfledaaGreatDoorW.PrintWords Go.Proofs.YthfbogcpjfledaaGreatDoorW.PrintLast
set_option linter.unusedVariables false
set_option linter.unusedSimpArgs false
def daysD (y m : Int) : Int :=
  if m = 2 then (if Int.tmod y 4 = 0 ∧ (Int.tmod y 100 ≠ 0 ∨ Int.tmod y 400 = 0) then 29 else 28) else if m = 4 ∨ m = 6 ∨ m = 9 ∨ m = 11 then 30 else 31
def goodD (y m d : Int) (c : Bool) : Bool :=
  if y = 0 ∧ m = 0 ∧ d = 0 ∧ c = false then true
  else if ¬ (1 ≤ y ∧ y ≤ 2999 ∧ 0 ≤ m ∧ m ≤ 12) then false
  else if m = 0 then decide (d = 0)
  else if c then false else decide (0 ≤ d ∧ d ≤ daysD y m)
theorem tmod_400_4 (y : Int) (h : Int.tmod y 400 = 0) : Int.tmod y 4 = 0 := by
  have h1 : (400 : Int) ∣ y := Int.dvd_of_tmod_eq_zero h;exact Int.tmod_eq_zero_of_dvd (Int.dvd_trans (by decide) h1)
theorem spec_days (k : Nat) (y m : Int) : spec_l3Days.f (k + 1) y m = some (daysD y m) := by
  unfold spec_l3Days.f daysD;by_cases h2 : m = 2
  · subst h2
    simp only [if_true, spec_l3Days.j0]
    by_cases a : Int.tmod y 4 = 0 <;> by_cases b : Int.tmod y 100 = 0 <;> by_cases c : Int.tmod y 400 = 0 <;> simp [a, b, c]
    · exact a (tmod_400_4 y c)
    · exact a (tmod_400_4 y c)
  · by_cases a : m = 4 <;> by_cases b : m = 6 <;> by_cases c : m = 9 <;> by_cases d : m = 11 <;> simp [h2, a, b, c, d]
theorem impl_days (y m : Int) : impl_daysInMonth.f y m = some (daysD y m) := by
  unfold impl_daysInMonth.f daysD;by_cases h2 : m = 2
  · subst h2
    by_cases a : Int.tmod y 4 = 0 <;> by_cases b : Int.tmod y 100 = 0 <;> by_cases c : Int.tmod y 400 = 0 <;> simp [a, b, c]
  · by_cases a : m = 4 <;> by_cases b : m = 6 <;> by_cases c : m = 9 <;> by_cases d : m = 11 <;> simp [h2, a, b, c, d]
theorem spec_good (k : Nat) (y m d : Int) (c : Bool) : spec_l3Good.f (k + 2) y m d c = some (goodD y m d c) := by
  unfold spec_l3Good.f goodD;by_cases z : y = 0 ∧ m = 0 ∧ d = 0 ∧ c = false
  · obtain ⟨rfl, rfl, rfl, rfl⟩ := z; simp
  · rw [if_neg (by simpa using z), if_neg z]
    simp only [spec_l1In.f]
    by_cases a : 1 ≤ y <;> by_cases b : y ≤ 2999 <;> by_cases e : 0 ≤ m <;> by_cases f : m ≤ 12 <;> simp [a, b, e, f, spec_l3Good.j0]
    rw [spec_days]
    by_cases g : m = 0 <;> by_cases h : d = 0 <;> by_cases i : 0 ≤ d <;> cases c <;> simp [g, h, i, spec_l1In.f, impl_inside.f]
theorem impl_good (k : Nat) (y m d : Int) (c : Bool) : impl_IsValidDate.f (k + 2) y m d c = some (goodD y m d c) := by
  unfold impl_IsValidDate.f goodD;by_cases z : y = 0 ∧ m = 0 ∧ d = 0 ∧ c = false
  · obtain ⟨rfl, rfl, rfl, rfl⟩ := z; simp
  · rw [if_neg (by simpa using z), if_neg z]
    simp only [impl_inside.f]
    by_cases a : 1 ≤ y <;> by_cases b : y ≤ 2999 <;> by_cases e : 0 ≤ m <;> by_cases f : m ≤ 12 <;> simp [a, b, e, f, impl_IsValidDate.j0]
    rw [impl_days]
    by_cases g : m = 0 <;> by_cases h : d = 0 <;> by_cases i : 0 ≤ d <;> cases c <;> simp [g, h, i, spec_l1In.f, impl_inside.f]
theorem daysD_le (y m : Int) : daysD y m ≤ 31 := by
  unfold daysD
  split
  · split <;> omega
  · split <;> omega
theorem good_bds {y m d : Int} {c : Bool} (h : goodD y m d c = true) (hy : y ≠ 0) : 1 ≤ y ∧ y ≤ 2999 ∧ 0 ≤ m ∧ m ≤ 12 ∧ 0 ≤ d ∧ d ≤ 31 := by
  unfold goodD at h;rw [if_neg (fun z => hy z.1)] at h;by_cases c1 : 1 ≤ y ∧ y ≤ 2999 ∧ 0 ≤ m ∧ m ≤ 12
  · rw [if_neg (fun z => z c1)] at h
    refine ⟨c1.1, c1.2.1, c1.2.2.1, c1.2.2.2, ?_⟩;by_cases c2 : m = 0
    · rw [if_pos c2] at h
      have := od h;omega
    · rw [if_neg c2] at h
      cases c with
      | true => simp at h
      | false =>
        have h2 := od (by simpa using h : decide (0 ≤ d ∧ d ≤ daysD y m) = true);have := daysD_le y m;omega
  · rw [if_pos c1] at h; cases h
end Go.Proofs.YthfbogcpjfledaaGreatDoor.G

namespace Go.Proofs.YthfbogcpjfledaaGreatDoor.G
open Go.RowKit Go.Proofs.YthfbogcpjfledaaGreatDoorW.PrintWords Go.Proofs.YthfbogcpjfledaaGreatDoorW.PrintLast Go.Proofs.YthfbogcpjfledaaGreatDoor.B Go.Proofs.YthfbogcpjfledaaGreatDoor.Opn
set_option linter.unusedVariables false
set_option linter.unusedSimpArgs false
def kindD (n : Int) : Bool := decide (1 ≤ n) && decide (n ≤ 4)
def volD (n : Int) : Bool := decide (0 ≤ n) && decide (n ≤ 9999)
def crossD (X K : ByteArray) : Bool := decide (X.size = 0) || (keyD X && (X.toList != K.toList))
theorem in_kind (n : Int) : (if n ≥ 1 then some (decide (n ≤ 4)) else some false) = some (kindD n) := by
  unfold kindD;by_cases h : n ≥ 1
  · rw [if_pos h, dt (show 1 ≤ n from h)]; rfl
  · rw [if_neg h, df (show ¬ 1 ≤ n from h)]; rfl
theorem in_vol (n : Int) : (if n ≥ 0 then some (decide (n ≤ 9999)) else some false) = some (volD n) := by
  unfold volD;by_cases h : n ≥ 0
  · rw [if_pos h, dt (show 0 ≤ n from h)]; rfl
  · rw [if_neg h, df (show ¬ 0 ≤ n from h)]; rfl
theorem spec_date (y m d : Int) (c : Bool) : Ev (fun k => spec_l3Good.f k y m d c) (goodD y m d c) := ⟨2, fun k hk => by
  obtain ⟨k', rfl⟩ : ∃ k', k = k' + 2 := ⟨k - 2, by omega⟩
  exact spec_good k' y m d c⟩
theorem impl_date (y m d : Int) (c : Bool) : Ev (fun k => impl_IsValidDate.f k y m d c) (goodD y m d c) := ⟨2, fun k hk => by
  obtain ⟨k', rfl⟩ : ∃ k', k = k' + 2 := ⟨k - 2, by omega⟩
  exact impl_good k' y m d c⟩
theorem spec_cross (X K : ByteArray) : Ev (fun k => if X.toList = ([] : List UInt8) then (some true) else ((spec_l4Key.f k X).bind fun J3 => (if J3 = true then (some (X.toList != K.toList)) else (some false)))) (crossD X K) := by
  unfold crossD;by_cases h : X.size = 0
  · exact ev_pos ((nil_iff X).2 h) (ev_eq (Ev.now _) (by simp [h]))
  · refine ev_neg (fun e => h ((nil_iff X).1 e)) (Ev.bind (spec_key X) ?_)
    cases keyD X with
    | true => exact ev_pos rfl (ev_eq (Ev.now _) (by simp [h]))
    | false => exact ev_neg (by simp) (ev_eq (Ev.now _) (by simp [h]))
theorem impl_cross (X K : ByteArray) : Ev (fun k => if X.toList = ([] : List UInt8) then (some true) else ((impl_isKey.f k X).bind fun J3 => (if J3 = true then (some (X.toList != K.toList)) else (some false)))) (crossD X K) := by
  unfold crossD;by_cases h : X.size = 0
  · exact ev_pos ((nil_iff X).2 h) (ev_eq (Ev.now _) (by simp [h]))
  · refine ev_neg (fun e => h ((nil_iff X).1 e)) (Ev.bind (impl_key X) ?_)
    cases keyD X with
    | true => exact ev_pos rfl (ev_eq (Ev.now _) (by simp [h]))
    | false => exact ev_neg (by simp) (ev_eq (Ev.now _) (by simp [h]))
def headE (K : ByteArray) (kd : Int) (A E : List S62) : Bool := keyD K && (kindD kd && (listD A && listD E))
def textsE (T C Pb Pg : ByteArray) : Bool := textD T && (textD C && (textD Pb && textD Pg))
def tailE (y m d : Int) (c : Bool) (v : Int) : Bool := goodD y m d c && volD v
def entD (K : ByteArray) (kd : Int) (A E : List S62) (T C Pb : ByteArray) (y m d : Int) (c : Bool) (v : Int) (Pg X : ByteArray) : Bool :=
  headE K kd A E && (textsE T C Pb Pg && (tailE y m d c v && crossD X K))
theorem ev_and {g : Nat → Option Bool} {f n : Nat → Option Bool} {b r : Bool} (h : Ev g b) (hn : Ev n false) (hf : b = true → Ev f r) : Ev (fun k => (g k).bind fun t => if t = true then f k else n k) (b && r) := by
  refine Ev.bind h ?_
  cases b with
  | true => exact ev_pos rfl (ev_eq (hf rfl) (by simp))
  | false => exact ev_neg (by simp) (ev_eq hn (by simp))
theorem ev_and0 {o : Option Bool} {f n : Nat → Option Bool} {b r : Bool} (h : o = some b) (hn : Ev n false) (hf : b = true → Ev f r) : Ev (fun k => o.bind fun t => if t = true then f k else n k) (b && r) := by
  subst h
  cases b with
  | true => exact ev_bind0 rfl (ev_pos rfl (ev_eq (hf rfl) (by simp)))
  | false => exact ev_bind0 rfl (ev_neg (by simp) (ev_eq hn (by simp)))
theorem ev_last {g f n : Nat → Option Bool} {J : Nat → Bool → Option Bool} {b r : Bool} (h : Ev g b) (hn : Ev (fun k => J k true) false) (hf : Ev (fun k => J k false) r) : Ev (fun k => (g k).bind fun t => J k (!t)) (b && r) := by
  refine Ev.bind h ?_
  cases b with
  | true => exact ev_eq hf (by simp)
  | false => exact ev_eq hn (by simp)
section
variable (K : ByteArray) (kd : Int) (A E : List S62) (T C Pb : ByteArray) (y m d : Int) (c : Bool) (v : Int) (Pg X : ByteArray)
theorem spec_ent (hA : ∀ x ∈ A, okS x) (lA : A.length ≤ 1048576) (hE : ∀ x ∈ E, okS x) (lE : E.length ≤ 1048576) : Ev (fun k => spec_l4Entry.f k K kd A E T C Pb y m d c v Pg X) (entD K kd A E T C Pb y m d c v Pg X) := by
  have n1 : Ev (fun k => spec_l4Entry.j1 k true K kd A E T C Pb y m d c v Pg X) false := Ev.step (f := fun _ => some false) (fun k => by simp [spec_l4Entry.j1]) (Ev.now _);have n0 : Ev (fun k => spec_l4Entry.j0 k true K kd A E T C Pb y m d c v Pg X) false := Ev.step (f := fun _ => some false) (fun k => by simp [spec_l4Entry.j0]) (Ev.now _)
  have p1 : Ev (fun k => spec_l4Entry.j1 k false K kd A E T C Pb y m d c v Pg X) (goodD y m d c && (volD v && crossD X K)) := by
    refine Ev.step (f := fun k => (spec_l3Good.f k y m d c).bind fun aai => (if aai = true then ((spec_l1In.f v 0 9999).bind fun aaj => (if aaj = true then (if X.toList = ([] : List UInt8) then (some true) else ((spec_l4Key.f k X).bind fun J3 => (if J3 = true then (some (X.toList != K.toList)) else (some false)))) else (some false))) else (some false))) (fun k => by simp [spec_l4Entry.j1]) ?_;exact ev_and (spec_date y m d c) (Ev.now _) (fun _ => ev_and0 (by unfold spec_l1In.f; exact in_vol v) (Ev.now _) (fun _ => spec_cross X K))
  have p0 : Ev (fun k => spec_l4Entry.j0 k false K kd A E T C Pb y m d c v Pg X) (textD T && (textD C && (textD Pb && (textD Pg && (goodD y m d c && (volD v && crossD X K)))))) := by
    refine Ev.step (f := fun k => (spec_l4Text.f k T).bind fun aak => (if aak = true then ((spec_l4Text.f k C).bind fun aal => (if aal = true then ((spec_l4Text.f k Pb).bind fun aam => (if aam = true then ((spec_l4Text.f k Pg).bind fun aan => (spec_l4Entry.j1 k (!aan) K kd A E T C Pb y m d c v Pg X)) else (spec_l4Entry.j1 k true K kd A E T C Pb y m d c v Pg X))) else (spec_l4Entry.j1 k true K kd A E T C Pb y m d c v Pg X))) else (spec_l4Entry.j1 k true K kd A E T C Pb y m d c v Pg X))) (fun k => by simp [spec_l4Entry.j0]) ?_;exact ev_and (spec_text T) n1 (fun _ => ev_and (spec_text C) n1 (fun _ => ev_and (spec_text Pb) n1 (fun _ => ev_last (f := fun _ => none) (n := fun _ => none) (J := fun k b => spec_l4Entry.j1 k b K kd A E T C Pb y m d c v Pg X) (spec_text Pg) n1 p1)))
  unfold spec_l4Entry.f;refine ev_eq (ev_and (spec_key K) n0 (fun _ => ev_and0 (by unfold spec_l1In.f; exact in_kind kd) n0 (fun _ => ev_and (spec_list A hA lA) n0 (fun _ => ev_last (f := fun _ => none) (n := fun _ => none) (J := fun k b => spec_l4Entry.j0 k b K kd A E T C Pb y m d c v Pg X) (spec_list E hE lE) n0 p0)))) ?_;unfold entD headE textsE tailE;simp only [Bool.and_assoc]
theorem impl_ent (hA : ∀ x ∈ A, okS x) (lA : A.length ≤ 1048576) (hE : ∀ x ∈ E, okS x) (lE : E.length ≤ 1048576) : Ev (fun k => impl_IsValidEntry.f k K kd A E T C Pb y m d c v Pg X) (entD K kd A E T C Pb y m d c v Pg X) := by
  have n0 : Ev (fun k => impl_IsValidEntry.j0 k true K kd A E T C Pb y m d c v Pg X) false := Ev.step (f := fun _ => some false) (fun k => by simp [impl_IsValidEntry.j0]) (Ev.now _)
  have p0 : Ev (fun k => impl_IsValidEntry.j0 k false K kd A E T C Pb y m d c v Pg X) (textD T && (textD C && (textD Pb && (textD Pg && crossD X K)))) := by
    refine Ev.step (f := fun k => (impl_isText.f k T).bind fun aao => (if aao = true then ((impl_isText.f k C).bind fun aap => (if aap = true then ((impl_isText.f k Pb).bind fun aaq => (if aaq = true then ((impl_isText.f k Pg).bind fun aar => (if aar = true then (if X.toList = ([] : List UInt8) then (some true) else ((impl_isKey.f k X).bind fun aas => (if aas = true then (some (X.toList != K.toList)) else (some false)))) else (some false))) else (some false))) else (some false))) else (some false))) (fun k => by simp [impl_IsValidEntry.j0]) ?_;exact ev_and (impl_text T) (Ev.now _) (fun _ => ev_and (impl_text C) (Ev.now _) (fun _ => ev_and (impl_text Pb) (Ev.now _) (fun _ => ev_and (impl_text Pg) (Ev.now _) (fun _ => impl_cross X K))))
  have hk : impl_isKind.f kd = some (kindD kd) := by unfold impl_isKind.f impl_inside.f; rw [in_kind]; rfl
  have hv : impl_inside.f v 0 9999 = some (volD v) := by unfold impl_inside.f; exact in_vol v
  unfold impl_IsValidEntry.f;refine ev_eq (ev_and (impl_key K) n0 (fun _ => ev_and0 hk n0 (fun _ => ev_and (impl_list A hA lA) n0 (fun _ => ev_and (impl_list E hE lE) n0 (fun _ => ev_and (impl_date y m d c) n0 (fun _ => ev_last (f := fun _ => none) (n := fun _ => none) (J := fun k b => impl_IsValidEntry.j0 k b K kd A E T C Pb y m d c v Pg X) (Ev.congr (fun _ => hv) (Ev.now _)) n0 p0)))))) ?_;unfold entD headE textsE tailE;simp only [Bool.and_assoc]
  cases keyD K <;> cases kindD kd <;> cases listD A <;> cases listD E <;> simp only [Bool.true_and, Bool.false_and]
  cases textD T <;> cases textD C <;> cases textD Pb <;> cases textD Pg <;> cases goodD y m d c <;> cases volD v <;> simp
end
def bulkE (K : ByteArray) (A E : List S55) (T C Pb Pg X : ByteArray) : Nat := K.size + (A.length + bulkL A) + (E.length + bulkL E) + T.size + C.size + Pb.size + Pg.size + X.size
theorem szE_ev (K : ByteArray) (kd : Int) (A E : List S55) (T C Pb : ByteArray) (y m d : Int) (c : Bool) (v : Int) (Pg X : ByteArray) (hA : ∀ x ∈ A, ok55 x) (lA : A.length ≤ 9223372036854775807) (hE : ∀ x ∈ E, ok55 x) (lE : E.length ≤ 9223372036854775807)
    (bK : K.size ≤ 9223372036854775807) (bT : T.size ≤ 9223372036854775807) (bC : C.size ≤ 9223372036854775807) (bP : Pb.size ≤ 9223372036854775807) (bG : Pg.size ≤ 9223372036854775807) (bX : X.size ≤ 9223372036854775807) (left : Int) (h0 : 0 ≤ left) (h1 : left ≤ 1048576) :
    Ev (fun k => laws_szEntry.f k K kd A E T C Pb y m d c v Pg X left) (lftOf left (bulkE K A E T C Pb Pg X)) := by
  have neg : ∀ n : Nat, ¬ (n : Int) ≤ left → lftOf left n = -1 := fun n h => by unfold lftOf; rw [if_neg h]
  unfold laws_szEntry.f;have w0 : wrap64 (left - (K.size : Int)) = left - (K.size : Int) := w64 (by omega) (by omega);rw [w0];by_cases c0 : left - (K.size : Int) < 0
  · exact ev_pos c0 (ev_eq (Ev.now _) (neg _ (by unfold bulkE; omega)).symm)
  refine ev_neg c0 (Ev.bind (szL_ev A hA lA _ (by omega) (by omega)) ?_);by_cases c1 : ((A.length + bulkL A : Nat) : Int) ≤ left - (K.size : Int)
  · have e : lftOf (left - (K.size : Int)) (A.length + bulkL A) = left - (K.size : Int) - (A.length + bulkL A : Nat) := by unfold lftOf; rw [if_pos c1]
    rw [e];refine ev_neg (by omega) (Ev.bind (szL_ev E hE lE _ (by omega) (by omega)) ?_);by_cases c2 : ((E.length + bulkL E : Nat) : Int) ≤ left - (K.size : Int) - (A.length + bulkL A : Nat)
    · have e : lftOf (left - (K.size : Int) - (A.length + bulkL A : Nat)) (E.length + bulkL E) = left - (K.size : Int) - (A.length + bulkL A : Nat) - (E.length + bulkL E : Nat) := by unfold lftOf; rw [if_pos c2]
      rw [e]
      obtain ⟨l2, Rm⟩ : ∃ l2, l2 = left - (K.size : Int) - (A.length + bulkL A : Nat) - (E.length + bulkL E : Nat) := ⟨_, rfl⟩
      rw [← Rm];refine ev_neg (by omega) ?_;have w1 : wrap64 (l2 - (T.size : Int)) = l2 - (T.size : Int) := w64 (by omega) (by omega);rw [w1];by_cases c3 : l2 - (T.size : Int) < 0
      · exact ev_pos c3 (ev_eq (Ev.now _) (neg _ (by unfold bulkE; omega)).symm)
      refine ev_neg c3 ?_;have w2 : wrap64 (l2 - (T.size : Int) - (C.size : Int)) = l2 - (T.size : Int) - (C.size : Int) := w64 (by omega) (by omega);rw [w2];by_cases c4 : l2 - (T.size : Int) - (C.size : Int) < 0
      · exact ev_pos c4 (ev_eq (Ev.now _) (neg _ (by unfold bulkE; omega)).symm)
      refine ev_neg c4 ?_;have w3 : wrap64 (l2 - (T.size : Int) - (C.size : Int) - (Pb.size : Int)) = l2 - (T.size : Int) - (C.size : Int) - (Pb.size : Int) := w64 (by omega) (by omega);rw [w3];by_cases c5 : l2 - (T.size : Int) - (C.size : Int) - (Pb.size : Int) < 0
      · exact ev_pos c5 (ev_eq (Ev.now _) (neg _ (by unfold bulkE; omega)).symm)
      refine ev_neg c5 ?_;have w4 : wrap64 (l2 - (T.size : Int) - (C.size : Int) - (Pb.size : Int) - (Pg.size : Int)) = l2 - (T.size : Int) - (C.size : Int) - (Pb.size : Int) - (Pg.size : Int) := w64 (by omega) (by omega);rw [w4];by_cases c6 : l2 - (T.size : Int) - (C.size : Int) - (Pb.size : Int) - (Pg.size : Int) < 0
      · exact ev_pos c6 (ev_eq (Ev.now _) (neg _ (by unfold bulkE; omega)).symm)
      refine ev_neg c6 ?_;have w5 : wrap64 (l2 - (T.size : Int) - (C.size : Int) - (Pb.size : Int) - (Pg.size : Int) - (X.size : Int)) = l2 - (T.size : Int) - (C.size : Int) - (Pb.size : Int) - (Pg.size : Int) - (X.size : Int) := w64 (by omega) (by omega);rw [w5];by_cases c7 : l2 - (T.size : Int) - (C.size : Int) - (Pb.size : Int) - (Pg.size : Int) - (X.size : Int) < 0
      · exact ev_pos c7 (ev_eq (Ev.now _) (neg _ (by unfold bulkE; omega)).symm)
      · exact ev_neg c7 (ev_eq (Ev.now _) (by unfold lftOf; rw [if_pos (by unfold bulkE; omega)]; unfold bulkE; omega))
    · have e : lftOf (left - (K.size : Int) - (A.length + bulkL A : Nat)) (E.length + bulkL E) = -1 := by unfold lftOf; rw [if_neg c2]
      rw [e];exact ev_pos (by omega) (ev_eq (Ev.now _) (neg _ (by unfold bulkE; omega)).symm)
  · have e : lftOf (left - (K.size : Int)) (A.length + bulkL A) = -1 := by unfold lftOf; rw [if_neg c1]
    rw [e];exact ev_pos (by omega) (ev_eq (Ev.now _) (neg _ (by unfold bulkE; omega)).symm)
theorem toE_ev (K : ByteArray) (kd : Int) (A E : List S55) (T C Pb : ByteArray) (y m d : Int) (c : Bool) (v : Int) (Pg X : ByteArray) (lA : A.length ≤ 1048576) (sA : ∀ x ∈ A, x.f0.length ≤ 1048576) (lE : E.length ≤ 1048576) (sE : ∀ x ∈ E, x.f0.length ≤ 1048576) :
    Ev (fun k => laws_toEntry.f k K kd A E T C Pb y m d c v Pg X) (K, kd, A.map conv, E.map conv, T, C, Pb, y, m, d, c, v, Pg, X) := by
  unfold laws_toEntry.f;exact Ev.bind (toL_ev A lA sA) (Ev.bind (toL_ev E lE sE) (Ev.now _))
theorem eqE_same (K : ByteArray) (kd : Int) (A E : List S62) (T C Pb : ByteArray) (y m d : Int) (c : Bool) (v : Int) (Pg X : ByteArray) (hA : ∀ x ∈ A, okS x) (lA : A.length ≤ 1048576) (hE : ∀ x ∈ E, okS x) (lE : E.length ≤ 1048576) :
    Ev (fun k => laws_eqEntry.f k K kd A E T C Pb y m d c v Pg X K kd A E T C Pb y m d c v Pg X) true := by
  have hd : laws_eqDate.f y m d c y m d c = some true := by unfold laws_eqDate.f; simp
  unfold laws_eqEntry.f;exact ev_pos rfl (ev_pos rfl (Ev.bind (eqL_same A hA lA) (ev_pos rfl (Ev.bind (eqL_same E hE lE) (ev_pos rfl (ev_pos rfl (ev_pos rfl (ev_pos rfl (ev_bind0 hd (ev_pos rfl (ev_pos rfl (ev_pos rfl (ev_pos rfl (Ev.now _))))))))))))))
end Go.Proofs.YthfbogcpjfledaaGreatDoor.G

namespace Go.Proofs.YthfbogcpjfledaaGreatDoor.G
open Go.RowKit Go.Proofs.YthfbogcpjfledaaGreatDoorW.PrintWords Go.Proofs.YthfbogcpjfledaaGreatDoorW.PrintLast Go.Proofs.YthfbogcpjfledaaGreatDoor.B
set_option linter.unusedVariables false
set_option linter.unusedSimpArgs false
theorem good_pos {G : List ByteArray} {P F S : ByteArray} (h : goodN G P F S = true) : G.length ≤ 3 ∧ ∀ x ∈ G, 1 ≤ x.size := by
  unfold goodN at h;simp only [Bool.and_eq_true, decide_eq_true_eq] at h;refine ⟨h.2.1, fun x hx => ?_⟩;have := List.all_eq_true.1 h.1 x hx;unfold greatD at this;rw [Bool.and_eq_true] at this;exact (word_in this.1).1
def spB : ByteArray := ⟨#[32]⟩
def glu (s p : ByteArray) : ByteArray := (if s.size ≠ 0 ∧ p.size ≠ 0 then s ++ spB else s) ++ p
def joinD (l : List ByteArray) : ByteArray := l.foldl glu ByteArray.empty
def sumB (l : List ByteArray) : Nat := (l.map fun x => x.size + 1).sum
theorem sumB_cons (a : ByteArray) (l : List ByteArray) : sumB (a :: l) = a.size + 1 + sumB l := by simp [sumB]
theorem glu_size (s p : ByteArray) : (glu s p).size ≤ s.size + (p.size + 1) := by
  unfold glu;rw [size_append]
  split
  · rw [size_append]; show s.size + 1 + p.size ≤ _; omega
  · omega
theorem fold_size (l : List ByteArray) : ∀ s : ByteArray, (l.foldl glu s).size ≤ s.size + sumB l := by
  induction l with
  | nil => intro s; simp [sumB]
  | cons p l ih =>
    intro s;have := ih (glu s p);have h2 := glu_size s p;rw [List.foldl_cons, sumB_cons]; omega
theorem joinD_size (l : List ByteArray) : (joinD l).size ≤ sumB l := by
  have := fold_size l ByteArray.empty;have e : ByteArray.empty.size = 0 := rfl;unfold joinD; omega
theorem L_nil {s : ByteArray} (h : s.size = 0) : L s = [] := (size_pos_iff s).1 h
theorem L_glu (s p : ByteArray) : L (glu s p) = if s.size ≠ 0 ∧ p.size ≠ 0 then L s ++ 32 :: L p else L s ++ L p := by
  unfold glu;rw [L_append]
  split
  · rw [L_append, List.append_assoc]; rfl
  · rfl
theorem fold_join (l : List ByteArray) : ∀ s : ByteArray, L (l.foldl glu s) = if s.size = 0 then Lib.join ((l.filter fun x => !decide (x.size = 0)).map (·.data.toList)) [32] else L s ++ Lib.joinTail [32] ((l.filter fun x => !decide (x.size = 0)).map (·.data.toList)) := by
  induction l with
  | nil =>
    intro s;by_cases h : s.size = 0
    · rw [if_pos h]; simp [Lib.join_nil, L_nil h]
    · rw [if_neg h]; simp [Lib.joinTail]
  | cons p l ih =>
    intro s;rw [List.foldl_cons, ih];by_cases hp : p.size = 0
    · have e : glu s p = s := L_inj (by rw [L_glu, if_neg (fun h => h.2 hp), L_nil hp, List.append_nil])
      rw [e, List.filter_cons_of_neg (by simp [hp])]
    · have hg : ¬ (glu s p).size = 0 := by rw [← L_len, L_glu]; split <;> simp [L_len, hp]
      rw [if_neg hg, List.filter_cons_of_pos (by simp [hp]), List.map_cons, L_glu];by_cases h : s.size = 0
      · rw [if_neg (fun x => x.1 h), if_pos h, L_nil h, List.nil_append, Lib.join_cons]
      · rw [if_pos (And.intro h hp), if_neg h]
        simp [Lib.joinTail]
theorem join_filter (l : List ByteArray) : Lib.join ((l.filter fun x => !decide (x.size = 0)).map (·.data.toList)) (⟨#[32]⟩ : ByteArray).data.toList = L (joinD l) := by
  have := fold_join l ByteArray.empty;rw [if_pos (show ByteArray.empty.size = 0 from rfl)] at this;exact this.symm
theorem filter_all {l : List ByteArray} (h : ∀ x ∈ l, 1 ≤ x.size) : (l.filter fun x => !decide (x.size = 0)) = l := by
  rw [List.filter_eq_self];intro x hx;have := h x hx
  show (!decide (x.size = 0)) = true
  rw [df (by omega)]; rfl
theorem libJoin_filter (l : List ByteArray) (hl : l.length ≤ 1000) (hs : sumB l ≤ 140737488355328) : strings_Join.f (l.filter fun x => !decide (x.size = 0)) (⟨#[32]⟩ : ByteArray) = some (joinD l) := by
  have h1 : (l.filter fun x => !decide (x.size = 0)).length ≤ l.length := List.length_filter_le _ _;have h2 := joinD_size l;unfold strings_Join.f;rw [join_filter, if_pos ⟨by omega, by rw [L_len]; omega⟩]
theorem libJoin_all (l : List ByteArray) (hp : ∀ x ∈ l, 1 ≤ x.size) (hl : l.length ≤ 1000) (hs : sumB l ≤ 140737488355328) : strings_Join.f l (⟨#[32]⟩ : ByteArray) = some (joinD l) := by
  have := libJoin_filter l hl hs
  rwa [filter_all hp] at this
theorem spaced_eq (l : List ByteArray) (h1 : 1 ≤ l.length) (hl : l.length ≤ 1000) (hs : sumB l ≤ 140737488355328) : impl_spaced.f l = some (joinD l) := by
  unfold impl_spaced.f;rw [if_pos ⟨h1, hl⟩];exact libJoin_filter l hl hs
theorem spec_join_loop (l : List ByteArray) (hl : l.length ≤ 4611686018427387904) (hs : sumB l ≤ 140737488355328) (d : Nat) : ∀ (s : ByteArray) (i : Nat), i ≤ l.length → l.length - i = d → s.size + sumB (l.drop i) ≤ 140737488355328 →
    Ev (fun k => spec_l2Join.l0 k l s (i : Int)) ((l.drop i).foldl glu s) := by
  induction d with
  | zero =>
    intro s i h1 hd hb;refine Ev.step (f := fun _ => some s) (fun k => ?_) (ev_eq (Ev.now _) ?_)
    · simp only [spec_l2Join.l0]; rw [if_neg (by omega)]
    · rw [List.drop_of_length_le (by omega)]; rfl
  | succ d ih =>
    intro s i h1 hd hb
    have hi : i < l.length := by omega
    have hw : wrap64 ((i : Int) + 1) = ((i + 1 : Nat) : Int) := by rw [w64 (by omega) (by omega)]; rfl
    rw [List.drop_eq_getElem_cons hi] at hb ⊢;rw [sumB_cons] at hb;have hg := glu_size s l[i];rw [List.foldl_cons];refine Ev.step (f := fun k => spec_l2Join.l0 k l (glu s l[i]) ((i + 1 : Nat) : Int)) (fun k => ?_) (ih (glu s l[i]) (i + 1) (by omega) (by omega) (by omega));simp only [spec_l2Join.l0, rd_get l i hi]
    have a1 : (i : Int) < (l.length : Int) := by omega
    have a2 : (0 : Int) ≤ (i : Int) := by omega
    have a3 : s.size + l[i].size ≤ 9223372036854775807 := by omega
    have a4 : s.size + 1 ≤ 9223372036854775807 := by omega
    have a5 : (s ++ (⟨#[32]⟩ : ByteArray)).size + l[i].size ≤ 9223372036854775807 := by
      rw [size_append]; show s.size + 1 + l[i].size ≤ _; omega
    simp only [if_pos a1, if_pos a2, if_pos a3, if_pos a4, if_pos a5, hw];unfold glu;by_cases hs0 : s.size = 0
    · have b : s.toList = ([] : List UInt8) := (nil_iff s).2 hs0
      simp only [b, hs0, ne_eq, not_true_eq_false, false_and, if_true, if_false]
    · have b : ¬ s.toList = ([] : List UInt8) := fun e => hs0 ((nil_iff s).1 e)
      rw [if_neg b];by_cases hp : l[i].size = 0
      · have b2 : (l[i]).toList = ([] : List UInt8) := (nil_iff _).2 hp
        rw [if_pos b2, if_neg (fun x : s.size ≠ 0 ∧ l[i].size ≠ 0 => x.2 hp)]
      · have b2 : ¬ (l[i]).toList = ([] : List UInt8) := fun e => hp ((nil_iff _).1 e)
        rw [if_neg b2, if_pos (show s.size ≠ 0 ∧ l[i].size ≠ 0 from ⟨hs0, hp⟩)];rfl
theorem spec_join (l : List ByteArray) (hl : l.length ≤ 4611686018427387904) (hs : sumB l ≤ 140737488355328) : Ev (fun k => spec_l2Join.f k l) (joinD l) := by
  have := spec_join_loop l hl hs _ ByteArray.empty 0 (by omega) rfl (by rw [List.drop_zero]; show 0 + _ ≤ _; omega);unfold spec_l2Join.f;rw [List.drop_zero] at this;exact this
theorem sumB_bulk (l : List ByteArray) : sumB l = bulkS l := by
  induction l with
  | nil => rfl
  | cons a l ih => rw [sumB_cons, ih]; unfold bulkS; rw [bytesS_cons, List.length_cons]; omega
def cmB : ByteArray := ⟨#[44, 32]⟩
def tailI (t : ByteArray) (G : List ByteArray) (S : ByteArray) : ByteArray := if S.size = 0 then (t ++ cmB) ++ joinD G else (((t ++ cmB) ++ joinD G) ++ cmB) ++ S
def invD (G : List ByteArray) (P F S : ByteArray) : ByteArray := if G.length > 0 ∨ S.size ≠ 0 then tailI (joinD [P, F]) G S else joinD [P, F]
theorem inv_sum (G : List ByteArray) (P F S : ByteArray) (h : bulkN G P F S ≤ 1048576) : (joinD G).size ≤ 1048576 ∧ sumB [P, F] ≤ 1048580 ∧ (joinD [P, F]).size ≤ 1048580 ∧ S.size ≤ 1048576 ∧ G.length ≤ 1048576 ∧ sumB G ≤ 1048576 := by
  have h1 := joinD_size G;have h2 := sumB_bulk G;have h3 := joinD_size [P, F];have h4 : sumB [P, F] = P.size + 1 + (F.size + 1 + 0) := rfl;unfold bulkN at h;unfold bulkS at h h2;omega
theorem cm_size (t : ByteArray) : (t ++ (⟨#[44, 32]⟩ : ByteArray)).size = t.size + 2 := by rw [size_append]; rfl
theorem cm_size' (t : ByteArray) : ((⟨#[44, 32]⟩ : ByteArray) ++ t).size = 2 + t.size := by rw [size_append]; rfl
theorem spec_inv_j (t : ByteArray) (G : List ByteArray) (P F S : ByteArray) (ht : t.size ≤ 1048580) (h : bulkN G P F S ≤ 1048576) : Ev (fun k => spec_l2Inverse.j0 k t true G P F S) (tailI t G S) := by
  obtain ⟨b1, b2, b3, b4, b5, b6⟩ := inv_sum G P F S h;obtain ⟨K, hK⟩ := spec_join G (by omega) (by omega)
  have hK' : ∀ k, K ≤ k → spec_l2Given.f k G P F S = some (joinD G) := fun k hk => by unfold spec_l2Given.f; rw [show spec_l2Join.f k G = some (joinD G) from hK k hk]; rfl
  refine ⟨K + 1, fun k hk => ?_⟩
  obtain ⟨k', rfl⟩ : ∃ k', k = k' + 1 := ⟨k - 1, by omega⟩
  have a1 : t.size + 2 ≤ 9223372036854775807 := by omega
  have a2 : (t ++ (⟨#[44, 32]⟩ : ByteArray)).size + (joinD G).size ≤ 9223372036854775807 := by rw [cm_size]; omega
  have a3 : ((t ++ (⟨#[44, 32]⟩ : ByteArray)) ++ joinD G).size + 2 ≤ 9223372036854775807 := by rw [size_append, cm_size]; omega
  have a4 : (((t ++ (⟨#[44, 32]⟩ : ByteArray)) ++ joinD G) ++ (⟨#[44, 32]⟩ : ByteArray)).size + S.size ≤ 9223372036854775807 := by rw [cm_size, size_append, cm_size]; omega
  simp only [spec_l2Inverse.j0];rw [if_pos trivial, if_pos a1, hK' k' (by omega)];simp only [Option.bind_some];rw [if_pos a2];unfold tailI;by_cases c : S.size = 0
  · rw [if_pos ((nil_iff S).2 c), if_pos c]; rfl
  · rw [if_neg (fun e => c ((nil_iff S).1 e)), if_pos a3, if_pos a4, if_neg c]; rfl
theorem spec_inv (G : List ByteArray) (P F S : ByteArray) (h : bulkN G P F S ≤ 1048576) : Ev (fun k => spec_l2Inverse.f k G P F S) (invD G P F S) := by
  obtain ⟨b1, b2, b3, b4, b5, b6⟩ := inv_sum G P F S h;have hj := spec_inv_j (joinD [P, F]) G P F S b3 h;unfold spec_l2Inverse.f invD;refine Ev.bind (spec_join [P, F] (by simp) (by omega)) ?_;by_cases c : G.length > 0
  · exact ev_pos (by omega) (ev_eq hj (if_pos (Or.inl c)).symm)
  · refine ev_neg (by omega) ?_
    by_cases d : S.size = 0
    · have e : (S.toList != ([] : List UInt8)) = false := by rw [(nil_iff S).2 d]; rfl
      rw [e];refine Ev.step (f := fun _ => some (joinD [P, F])) (fun k => ?_) (ev_eq (Ev.now _) (if_neg (fun x => x.elim c (fun y => y d))).symm);simp only [spec_l2Inverse.j0];rw [if_neg (by simp), if_pos ((nil_iff S).2 d)]
    · have e : (S.toList != ([] : List UInt8)) = true := bne_iff_ne.2 (fun x => d ((nil_iff S).1 x))
      rw [e];exact ev_eq hj (if_pos (Or.inr d)).symm
theorem app3 (a b c : ByteArray) : a ++ (b ++ c) = (a ++ b) ++ c := L_inj (by simp only [L_append, List.append_assoc])
theorem impl_inv_j (t : ByteArray) (G : List ByteArray) (P F S : ByteArray) (ht : t.size ≤ 1048580) (hg : goodN G P F S = true) (h : bulkN G P F S ≤ 1048576) : Ev (fun k => impl_inverseForm.j0 k t true G P F S) (tailI t G S) := by
  obtain ⟨b1, b2, b3, b4, b5, b6⟩ := inv_sum G P F S h;obtain ⟨h3, h4⟩ := good_pos hg;have hK := libJoin_all G h4 (by omega) (by omega);refine ⟨1, fun k hk => ?_⟩
  obtain ⟨k', rfl⟩ : ∃ k', k = k' + 1 := ⟨k - 1, by omega⟩
  have a1 : 2 + (joinD G).size ≤ 9223372036854775807 := by omega
  have a2 : t.size + ((⟨#[44, 32]⟩ : ByteArray) ++ joinD G).size ≤ 9223372036854775807 := by rw [cm_size']; omega
  have a3 : 2 + S.size ≤ 9223372036854775807 := by omega
  have a4 : (t ++ ((⟨#[44, 32]⟩ : ByteArray) ++ joinD G)).size + ((⟨#[44, 32]⟩ : ByteArray) ++ S).size ≤ 9223372036854775807 := by rw [cm_size', size_append, cm_size']; omega
  simp only [impl_inverseForm.j0];rw [if_pos trivial, hK];simp only [Option.bind_some];rw [if_pos a1, if_pos a2];unfold tailI;by_cases c : S.size = 0
  · rw [if_pos ((nil_iff S).2 c), if_pos c, app3]; rfl
  · rw [if_neg (fun e => c ((nil_iff S).1 e)), if_pos a3, if_pos a4, if_neg c, app3, app3]; rfl
theorem impl_inv (G : List ByteArray) (P F S : ByteArray) (hg : goodN G P F S = true) (h : bulkN G P F S ≤ 1048576) : Ev (fun k => impl_inverseForm.f k G P F S) (invD G P F S) := by
  obtain ⟨b1, b2, b3, b4, b5, b6⟩ := inv_sum G P F S h;have hj := impl_inv_j (joinD [P, F]) G P F S b3 hg h;unfold impl_inverseForm.f invD;refine ev_bind0 (spaced_eq [P, F] (by simp) (by simp) (by omega)) ?_;by_cases c : G.length > 0
  · exact ev_pos (by omega) (ev_eq hj (if_pos (Or.inl c)).symm)
  · refine ev_neg (by omega) ?_
    by_cases d : S.size = 0
    · have e : (S.toList != ([] : List UInt8)) = false := by rw [(nil_iff S).2 d]; rfl
      rw [e];refine Ev.step (f := fun _ => some (joinD [P, F])) (fun k => ?_) (ev_eq (Ev.now _) (if_neg (fun x => x.elim c (fun y => y d))).symm);simp only [impl_inverseForm.j0];rw [if_neg (by simp), if_pos ((nil_iff S).2 d)]
    · have e : (S.toList != ([] : List UInt8)) = true := bne_iff_ne.2 (fun x => d ((nil_iff S).1 x))
      rw [e];exact ev_eq hj (if_pos (Or.inr d)).symm
def smB : ByteArray := ⟨#[59, 32]⟩
def ivS (x : S62) : ByteArray := invD x.f0 x.f1 x.f2 x.f3
theorem iv_len (G : List ByteArray) (P F S : ByteArray) (h : bulkN G P F S ≤ 1048576) : (invD G P F S).size ≤ 3200000 := by
  obtain ⟨h1, h2, h3, h4, h5, h6⟩ := inv_sum G P F S h;have hc : cmB.size = 2 := rfl;unfold invD tailI
  split
  · split
    · rw [size_append, size_append]; omega
    · rw [size_append, size_append, size_append, size_append]; omega
  · omega
theorem lens_le2 (B : Nat) (l : List (List UInt8)) (h : ∀ x ∈ l, x.length ≤ B) : Lib.lens l ≤ B * l.length := by
  induction l with
  | nil => exact Nat.le_refl _
  | cons a l ih =>
    have h1 := ih (fun x hx => h x (List.mem_cons_of_mem _ hx));have h2 := h a (List.mem_cons_self);simp only [Lib.lens, List.map_cons, List.sum_cons, List.length_cons] at h1 ⊢;rw [Nat.mul_succ]; omega
theorem join_le2 (B : Nat) (sep : List UInt8) (l : List (List UInt8)) (h : ∀ x ∈ l, x.length ≤ B) : (Lib.join l sep).length ≤ (B + sep.length) * l.length := by
  cases l with
  | nil => simp [Lib.join_nil]
  | cons a l =>
    have h1 := lens_le2 B l (fun x hx => h x (List.mem_cons_of_mem _ hx));have h2 := h a (List.mem_cons_self);rw [Lib.join_cons, List.length_append, Lib.joinTail_length, List.length_cons, Nat.mul_succ, Nat.add_mul];omega
theorem tail_snoc (sep y : List UInt8) (l : List (List UInt8)) : Lib.joinTail sep (l ++ [y]) = Lib.joinTail sep l ++ (sep ++ y) := by
  induction l with
  | nil => simp [Lib.joinTail]
  | cons a l ih => simp [Lib.joinTail, ih]
theorem join_snoc (sep y : List UInt8) (l : List (List UInt8)) : Lib.join (l ++ [y]) sep = if l = [] then y else Lib.join l sep ++ (sep ++ y) := by
  cases l with
  | nil => simp [Lib.join_cons, Lib.joinTail]
  | cons a l => rw [if_neg (by simp), List.cons_append, Lib.join_cons, Lib.join_cons, tail_snoc, List.append_assoc]
def ntD (l : List S62) : ByteArray := mkB (Lib.join (l.map fun x => L (ivS x)) [59, 32])
structure NOk (l : List S62) : Prop where
  four : l.length ≤ 4
  good : ∀ x ∈ l, goodS x = true
  bulk : ∀ x ∈ l, bulkN x.f0 x.f1 x.f2 x.f3 ≤ 1048576
theorem nt_size {l : List S62} (h : NOk l) (i : Nat) : (ntD (l.take i)).size ≤ 13000000 := by
  unfold ntD;rw [size_mk]
  have := join_le2 3200000 [59, 32] ((l.take i).map fun x => L (ivS x)) (fun x hx => by
    obtain ⟨y, hy, rfl⟩ := List.mem_map.1 hx;rw [L_len]
    exact iv_len _ _ _ _ (h.bulk y (List.mem_of_mem_take hy)))
  have h4 := h.four
  have hl : ((l.take i).map fun x => L (ivS x)).length ≤ 4 := by rw [List.length_map, List.length_take]; omega
  exact Nat.le_trans this (Nat.le_trans (Nat.mul_le_mul_left _ hl) (by decide))
theorem nt_next (l : List S62) (i : Nat) (hi : i < l.length) : ntD (l.take (i + 1)) = if i = 0 then ntD (l.take i) ++ ivS l[i] else (ntD (l.take i) ++ smB) ++ ivS l[i] := by
  have e : (l.take (i + 1)).map (fun x => L (ivS x)) = (l.take i).map (fun x => L (ivS x)) ++ [L (ivS l[i])] := by
    rw [List.take_succ_eq_append_getElem hi, List.map_append]; rfl
  apply L_inj;unfold ntD;rw [L_mk, e, join_snoc];by_cases c : i = 0
  · subst c
    rw [if_pos (by simp), if_pos rfl, L_append, L_mk];simp [Lib.join_nil]
  · rw [if_neg (fun z => by have := congrArg List.length z; rw [List.length_map, List.length_take, List.length_nil] at this; omega), if_neg c, L_append, L_append, L_mk]
    have : L smB = [59, 32] := rfl;rw [this, List.append_assoc]
theorem spec_nt_loop (l : List S62) (h : NOk l) (d : Nat) : ∀ i : Nat, i ≤ l.length → l.length - i = d → Ev (fun k => spec_l4Names.l0 k l (ntD (l.take i)) (i : Int)) (ntD l) := by
  have h4 := h.four
  induction d with
  | zero =>
    intro i h1 h2;refine Ev.step (f := fun _ => some (ntD l)) (fun k => ?_) (Ev.now _);simp only [spec_l4Names.l0];rw [if_neg (by omega), List.take_of_length_le (by omega)]
  | succ d ih =>
    intro i h1 h2
    have hi : i < l.length := by omega
    have hm := List.getElem_mem hi
    have hw : wrap64 ((i : Int) + 1) = ((i + 1 : Nat) : Int) := by rw [w64 (by omega) (by omega)]; rfl
    have hz := nt_size h i;have hv := iv_len _ _ _ _ (h.bulk _ hm);have hs := spec_inv _ _ _ _ (h.bulk _ hm);have hn := ih (i + 1) (by omega) (by omega);rw [nt_next l i hi] at hn
    have hb : (ntD (l.take i) ++ (⟨#[59, 32]⟩ : ByteArray)).size = (ntD (l.take i)).size + 2 := by rw [size_append]; rfl
    by_cases c : i = 0
    · subst c
      rw [if_pos rfl] at hn;refine Ev.step (f := fun k => (spec_l2Inverse.f k (l[0]).f0 (l[0]).f1 (l[0]).f2 (l[0]).f3).bind fun t => if (ntD (l.take 0)).size + t.size ≤ 9223372036854775807 then spec_l4Names.l0 k l (ntD (l.take 0) ++ t) ((0 + 1 : Nat) : Int) else none) (fun k => ?_) (Ev.bind hs (ev_pos (by show _ + (ivS l[0]).size ≤ _; unfold ivS; omega) hn));simp only [spec_l4Names.l0, rd27 l 0 hi, hw];rw [if_pos (by omega), if_neg (by omega), if_pos (by omega)]
    · rw [if_neg c] at hn
      refine Ev.step (f := fun k => (spec_l2Inverse.f k (l[i]).f0 (l[i]).f1 (l[i]).f2 (l[i]).f3).bind fun t => if (ntD (l.take i) ++ (⟨#[59, 32]⟩ : ByteArray)).size + t.size ≤ 9223372036854775807 then spec_l4Names.l0 k l ((ntD (l.take i) ++ (⟨#[59, 32]⟩ : ByteArray)) ++ t) ((i + 1 : Nat) : Int) else none) (fun k => ?_) (Ev.bind hs (ev_pos (by show _ + (ivS l[i]).size ≤ _; rw [hb]; unfold ivS; omega) hn));simp only [spec_l4Names.l0, rd27 l i hi, hw];rw [if_pos (by omega), if_pos (by omega), if_pos (by omega), if_pos (by omega)]
theorem spec_nt (l : List S62) (h : NOk l) : Ev (fun k => spec_l4Names.f k l) (ntD l) := by
  unfold spec_l4Names.f;have := spec_nt_loop l h _ 0 (by omega) rfl;have e : ntD (l.take 0) = (⟨#[]⟩ : ByteArray) := rfl;rw [e] at this;exact this
theorem impl_nt_loop (l : List S62) (h : NOk l) (d : Nat) : ∀ i : Nat, i ≤ l.length → l.length - i = d → Ev (fun k => impl_namesText.l0 k ((l.take i).map ivS) l (l.length : Int) (i : Int)) (ntD l) := by
  have h4 := h.four
  induction d with
  | zero =>
    intro i h1 h2;have hz := nt_size h l.length;rw [List.take_length] at hz
    have hj : strings_Join.f ((l.take i).map ivS) (⟨#[59, 32]⟩ : ByteArray) = some (ntD l) := by
      rw [List.take_of_length_le (by omega)];unfold strings_Join.f
      have e : (l.map ivS).map (·.data.toList) = l.map fun x => L (ivS x) := by rw [List.map_map]; rfl
      rw [e];rw [if_pos ⟨by rw [List.length_map]; omega, by unfold ntD at hz; rw [size_mk] at hz; exact Nat.le_trans hz (by decide)⟩];rfl
    refine Ev.step (f := fun _ => some (ntD l)) (fun k => ?_) (Ev.now _);simp only [impl_namesText.l0];rw [if_neg (by omega), hj];rfl
  | succ d ih =>
    intro i h1 h2
    have hi : i < l.length := by omega
    have hm := List.getElem_mem hi
    have hw : wrap64 ((i : Int) + 1) = ((i + 1 : Nat) : Int) := by rw [w64 (by omega) (by omega)]; rfl
    have hs := impl_inv _ _ _ _ (h.good _ hm) (h.bulk _ hm);have hn := ih (i + 1) (by omega) (by omega);rw [List.take_succ_eq_append_getElem hi, List.map_append] at hn;refine Ev.step (f := fun k => (impl_inverseForm.f k (l[i]).f0 (l[i]).f1 (l[i]).f2 (l[i]).f3).bind fun t => impl_namesText.l0 k ((l.take i).map ivS ++ [t]) l (l.length : Int) ((i + 1 : Nat) : Int)) (fun k => ?_) (Ev.bind hs hn);simp only [impl_namesText.l0, rd27 l i hi, hw];rw [if_pos (by omega), if_pos (by omega), if_pos (by omega)]
    have hq : ((l.take i).map ivS).length < 8796093022208 := by rw [List.length_map, List.length_take]; omega
    simp only [if_pos hq]
theorem impl_nt (l : List S62) (h : NOk l) : Ev (fun k => impl_namesText.f k l) (ntD l) := by
  unfold impl_namesText.f;exact impl_nt_loop l h _ 0 (by omega) rfl
end Go.Proofs.YthfbogcpjfledaaGreatDoor.G

namespace Go.Proofs.YthfbogcpjfledaaGreatDoor.B
open Go.RowKit Go.Proofs.YthfbogcpjfledaaGreatDoorW.PrintWords Go.Proofs.YthfbogcpjfledaaGreatDoorW.PrintLast
set_option linter.unusedVariables false
set_option linter.unusedSimpArgs false
end Go.Proofs.YthfbogcpjfledaaGreatDoor.B

namespace Go.Proofs.YthfbogcpjfledaaGreatDoor.G
open Go.RowKit Go.Proofs.YthfbogcpjfledaaGreatDoorW.PrintWords Go.Proofs.YthfbogcpjfledaaGreatDoorW.PrintLast Go.Proofs.YthfbogcpjfledaaGreatDoor.B
set_option linter.unusedVariables false
set_option linter.unusedSimpArgs false
def tenB : ByteArray := (⟨#[48, 49, 50, 51, 52, 53, 54, 55, 56, 57]⟩ : ByteArray)
theorem ten_fin : ∀ i : Fin 10, ((L tenB).drop i.val).take 1 = [UInt8.ofNat (48 + i.val)] := by decide
theorem ten_at (i : Nat) (h : i < 10) (x : Int) (hx : x = i) (y : Int) (hy : y = (i + 1 : Nat)) : tenB.extract x.toNat y.toNat = mkB [UInt8.ofNat (48 + i)] := by
  apply L_inj
  have e1 : x.toNat = i := by omega
  have e2 : y.toNat = i + 1 := by omega
  rw [L_extract, L_mk, e1, e2, show i + 1 - i = 1 by omega];exact ten_fin ⟨i, h⟩
theorem dec_len (u : Nat) (h : u ≤ 9223372036854775807) : (Lib.decDigits u).length ≤ 21 := by
  have := Lib.itoa_length_le (u : Int) (by omega) (by omega);unfold Lib.itoa at this;rw [if_neg (by omega)] at this
  simpa using this
theorem num_nat (n : Nat) : ∀ u : Nat, u ≤ n → u ≤ 4611686018427387904 → Ev (fun k => spec_l1Num.f k (u : Int)) (mkB (Lib.decDigits u)) := by
  induction n with
  | zero =>
    intro u hu _
    have : u = 0 := by omega
    subst this;refine Ev.step (f := fun _ => some (mkB (Lib.decDigits 0))) (fun k => ?_) (Ev.now _);have hd : Lib.decDigits 0 = [UInt8.ofNat (48 + 0)] := Lib.decDigits_one (by omega);simp only [spec_l1Num.f];rw [hd, if_neg (by omega), if_pos (by omega), if_pos (by omega), w64 (by omega) (by omega), if_pos (by omega), if_pos (by omega)];exact congrArg some (ten_at 0 (by omega) _ (by omega) _ (by omega))
  | succ n ih =>
    intro u hu hb;by_cases h : u < 10
    · refine Ev.step (f := fun _ => some (mkB (Lib.decDigits u))) (fun k => ?_) (Ev.now _)
      simp only [spec_l1Num.f];rw [Lib.decDigits_one h, if_neg (by omega), if_pos (by omega), if_pos (by omega), w64 (by omega) (by omega), if_pos (by omega), if_pos (by omega)];exact congrArg some (ten_at u h _ rfl _ (by omega))
    · have hdiv : Int.tdiv (u : Int) 10 = ((u / 10 : Nat) : Int) := rfl
      have hmod : Int.tmod (u : Int) 10 = ((u % 10 : Nat) : Int) := rfl;have hm : u % 10 < 10 := Nat.mod_lt _ (by omega);have hq := ih (u / 10) (by omega) (by omega);have hl := dec_len (u / 10) (by omega);have hw1 : wrap64 (((u / 10 : Nat) : Int)) = ((u / 10 : Nat) : Int) := w64 (by omega) (by omega)
      have xI : wrap64 (((u % 10 : Nat) : Int) + 1) = ((u % 10 + 1 : Nat) : Int) := by rw [w64 (by omega) (by omega)]; rfl
      have ht := ten_at (u % 10) hm ((u % 10 : Nat) : Int) rfl ((u % 10 + 1 : Nat) : Int) rfl
      have hd : Lib.decDigits u = Lib.decDigits (u / 10) ++ [UInt8.ofNat (48 + u % 10)] := by rw [Lib.decDigits, dif_neg h]
      have a1 : (0 : Int) ≤ ((u % 10 : Nat) : Int) := by omega
      have a2 : ((u % 10 : Nat) : Int) ≤ ((u % 10 + 1 : Nat) : Int) := by omega
      have a3 : ((u % 10 + 1 : Nat) : Int) ≤ 10 := by omega
      refine Ev.step (f := fun k => (spec_l1Num.f k ((u / 10 : Nat) : Int)).bind fun t => if t.size + (tenB.extract ((u % 10 : Nat) : Int).toNat ((u % 10 + 1 : Nat) : Int).toNat).size ≤ 9223372036854775807 then some (t ++ tenB.extract ((u % 10 : Nat) : Int).toNat ((u % 10 + 1 : Nat) : Int).toNat) else none) (fun k => ?_) ?_
      · simp only [spec_l1Num.f]
        rw [if_neg (show ¬ (u : Int) < 0 by omega), if_neg (show ¬ (u : Int) < 10 by omega)];simp only [hdiv, hmod, hw1, xI, if_pos a1, if_pos a2, if_pos a3];rfl
      · rw [ht]
        refine Ev.bind hq (ev_pos ?_ (ev_eq (Ev.now _) ?_))
        · rw [size_mk, size_mk, List.length_singleton]; omega
        · rw [hd, mk_append]
theorem num_ev (x : Int) (h0 : -4611686018427387904 ≤ x) (h1 : x ≤ 4611686018427387904) : Ev (fun k => spec_l1Num.f k x) (mkB (Lib.itoa x)) := by
  unfold Lib.itoa;by_cases h : x < 0
  · rw [if_pos h]
    have hq := num_nat x.natAbs x.natAbs (Nat.le_refl _) (by omega);have hl := dec_len x.natAbs (by omega)
    have hw : wrap64 (-x) = ((x.natAbs : Nat) : Int) := by rw [w64 (by omega) (by omega)]; omega
    refine Ev.step (f := fun k => (spec_l1Num.f k ((x.natAbs : Nat) : Int)).bind fun t => if 1 + t.size ≤ 9223372036854775807 then some ((⟨#[45]⟩ : ByteArray) ++ t) else none) (fun k => ?_) ?_
    · simp only [spec_l1Num.f]; rw [if_pos h, hw]
    · refine Ev.bind hq (ev_pos (by rw [size_mk]; omega) (ev_eq (Ev.now _) ?_))
      rw [show (⟨#[45]⟩ : ByteArray) = mkB [45] from rfl, mk_append]; rfl
  · rw [if_neg h]
    have hq := num_nat x.toNat x.toNat (Nat.le_refl _) (by omega);rw [show ((x.toNat : Nat) : Int) = x by omega] at hq;exact hq
end Go.Proofs.YthfbogcpjfledaaGreatDoor.G



namespace Go.Proofs.YthfbogcpjfledaaGreatDoor.G
open Go.RowKit Go.Proofs.YthfbogcpjfledaaGreatDoorW.PrintWords Go.Proofs.YthfbogcpjfledaaGreatDoorW.PrintLast Go.Proofs.YthfbogcpjfledaaGreatDoor.B
set_option linter.unusedVariables false
set_option linter.unusedSimpArgs false
theorem pad_same (k : Nat) : ∀ (w : Int) (t : ByteArray), impl_digits.l0 k w t = spec_l3Pad.l0 k w t := by
  induction k with
  | zero => intro w t; rfl
  | succ k ih => intro w t; simp only [impl_digits.l0, spec_l3Pad.l0, ih]
theorem pad_loop (w : Nat) (hw : w ≤ 10) (d : Nat) : ∀ t : ByteArray, w - t.size = d → t.size ≤ 1000 → ∃ u, Ev (fun k => spec_l3Pad.l0 k (w : Int) t) u ∧ u.size ≤ max w t.size := by
  induction d with
  | zero =>
    intro t h ht;refine ⟨t, Ev.step (f := fun _ => some t) (fun k => ?_) (Ev.now _), by omega⟩;simp only [spec_l3Pad.l0]; rw [if_neg (by omega)]
  | succ d ih =>
    intro t h ht
    have hs : ((⟨#[48]⟩ : ByteArray) ++ t).size = 1 + t.size := by rw [size_append]; rfl
    obtain ⟨u, hu, hz⟩ := ih ((⟨#[48]⟩ : ByteArray) ++ t) (by omega) (by omega);refine ⟨u, Ev.step (fun k => ?_) hu, by omega⟩;simp only [spec_l3Pad.l0]; rw [if_pos (by omega), if_pos (by omega)]
theorem pad_ev (n : Int) (w : Nat) (h0 : 0 ≤ n) (h1 : n ≤ 1000000) (hw : w ≤ 10) : ∃ u, Ev (fun k => spec_l3Pad.f k n (w : Int)) u ∧ Ev (fun k => impl_digits.f k n (w : Int)) u ∧ u.size ≤ 30 := by
  have hl := Lib.itoa_length_le n (by omega) (by omega)
  have hz : (mkB (Lib.itoa n)).size ≤ 21 := by rw [size_mk]; exact hl
  obtain ⟨u, hu, hs⟩ := pad_loop w hw _ (mkB (Lib.itoa n)) rfl (by omega);refine ⟨u, ?_, ?_, by omega⟩
  · unfold spec_l3Pad.f
    exact Ev.bind (num_ev n (by omega) (by omega)) hu
  · have hi : strconv_Itoa.f n = some (mkB (Lib.itoa n)) := by
      unfold strconv_Itoa.f;rw [if_pos ⟨by omega, by omega⟩]; rfl
    unfold impl_digits.f;exact ev_bind0 hi (Ev.congr (fun k => pad_same k _ _) hu)
theorem sz1 (b : UInt8) (t : ByteArray) : ((⟨#[b]⟩ : ByteArray) ++ t).size = 1 + t.size := by rw [size_append]; rfl
theorem sz2 (b : UInt8) (t : ByteArray) : (t ++ (⟨#[b]⟩ : ByteArray)).size = t.size + 1 := by rw [size_append]; rfl
theorem assoc3 (a b c : ByteArray) : (a ++ b) ++ c = a ++ (b ++ c) := L_inj (by rw [L_append, L_append, L_append, L_append, List.append_assoc])
theorem date_text (y m d : Int) (c : Bool) (hy : 1 ≤ y ∧ y ≤ 2999) (hm : 0 ≤ m ∧ m ≤ 12) (hd : 0 ≤ d ∧ d ≤ 31) : ∃ v, Ev (fun k => spec_l3Text.f k y m d c) v ∧ Ev (fun k => impl_formatDate.f k y m d c) v := by
  obtain ⟨Y, sY, iY, zY⟩ := pad_ev y 4 (by omega) (by omega) (by omega);obtain ⟨M, sM, iM, zM⟩ := pad_ev m 2 (by omega) (by omega) (by omega);obtain ⟨D, sD, iD, zD⟩ := pad_ev d 2 (by omega) (by omega) (by omega);have e2 := sz2 45 Y;have e1 := sz1 45 M;have e1' := sz1 45 D
  have ny : ¬ y = 0 := by omega
  -- the program: behind the year
  have impl_rest : ∀ x : ByteArray, x.size ≤ 60 → Ev (fun k => impl_formatDate.j0 k x y m d c) (if m > 0 then (if d > 0 then (x ++ ((⟨#[45]⟩ : ByteArray) ++ M)) ++ ((⟨#[45]⟩ : ByteArray) ++ D) else x ++ ((⟨#[45]⟩ : ByteArray) ++ M)) else (if d > 0 then x ++ ((⟨#[45]⟩ : ByteArray) ++ D) else x)) := by
    intro x hx
    have xm : (x ++ ((⟨#[45]⟩ : ByteArray) ++ M)).size = x.size + (1 + M.size) := by rw [size_append, e1]
    by_cases cm : m > 0
    · rw [if_pos cm]
      by_cases cd : d > 0
      · rw [if_pos cd]
        refine Ev.step (f := fun k => (impl_digits.f k m 2).bind fun nc => (if 1 + nc.size ≤ 9223372036854775807 then (if x.size + ((⟨#[45]⟩ : ByteArray) ++ nc).size ≤ 9223372036854775807 then ((impl_digits.f k d 2).bind fun pb => (if 1 + pb.size ≤ 9223372036854775807 then (if (x ++ ((⟨#[45]⟩ : ByteArray) ++ nc)).size + ((⟨#[45]⟩ : ByteArray) ++ pb).size ≤ 9223372036854775807 then (some ((x ++ ((⟨#[45]⟩ : ByteArray) ++ nc)) ++ ((⟨#[45]⟩ : ByteArray) ++ pb))) else (none)) else (none))) else (none)) else (none))) (fun k => by simp only [impl_formatDate.j0, if_pos cm, if_pos cd]) ?_;exact Ev.bind iM (ev_pos (by omega) (ev_pos (by omega) (Ev.bind iD (ev_pos (by omega) (ev_pos (by omega) (Ev.now _))))))
      · rw [if_neg cd]
        refine Ev.step (f := fun k => (impl_digits.f k m 2).bind fun nc => (if 1 + nc.size ≤ 9223372036854775807 then (if x.size + ((⟨#[45]⟩ : ByteArray) ++ nc).size ≤ 9223372036854775807 then (some (x ++ ((⟨#[45]⟩ : ByteArray) ++ nc))) else (none)) else (none))) (fun k => by simp only [impl_formatDate.j0, if_pos cm, if_neg cd]) ?_;exact Ev.bind iM (ev_pos (by omega) (ev_pos (by omega) (Ev.now _)))
    · rw [if_neg cm]
      by_cases cd : d > 0
      · rw [if_pos cd]
        refine Ev.step (f := fun k => (impl_digits.f k d 2).bind fun Ac => (if 1 + Ac.size ≤ 9223372036854775807 then (if x.size + ((⟨#[45]⟩ : ByteArray) ++ Ac).size ≤ 9223372036854775807 then (some (x ++ ((⟨#[45]⟩ : ByteArray) ++ Ac))) else (none)) else (none))) (fun k => by simp only [impl_formatDate.j0, if_neg cm, if_pos cd]) ?_;exact Ev.bind iD (ev_pos (by omega) (ev_pos (by omega) (Ev.now _)))
      · rw [if_neg cd]
        exact Ev.step (f := fun _ => some x) (fun k => by simp only [impl_formatDate.j0, if_neg cm, if_neg cd]) (Ev.now _)
  -- the reference: behind the month
  have spec_rest : ∀ x : ByteArray, x.size ≤ 100 → Ev (fun k => spec_l3Text.j0 k x y m d c) (if d > 0 then (if c = true then (⟨#[99]⟩ : ByteArray) ++ ((x ++ (⟨#[45]⟩ : ByteArray)) ++ D) else (x ++ (⟨#[45]⟩ : ByteArray)) ++ D) else (if c = true then (⟨#[99]⟩ : ByteArray) ++ x else x)) := by
    intro x hx;have x2 := sz2 45 x
    have x3 : ((x ++ (⟨#[45]⟩ : ByteArray)) ++ D).size = x.size + 1 + D.size := by rw [size_append, x2]
    by_cases cd : d > 0
    · rw [if_pos cd]
      by_cases cc : c = true
      · rw [if_pos cc]
        refine Ev.step (f := fun k => if x.size + 1 ≤ 9223372036854775807 then ((spec_l3Pad.f k d 2).bind fun EN => (if (x ++ (⟨#[45]⟩ : ByteArray)).size + EN.size ≤ 9223372036854775807 then (if 1 + ((x ++ (⟨#[45]⟩ : ByteArray)) ++ EN).size ≤ 9223372036854775807 then (some ((⟨#[99]⟩ : ByteArray) ++ ((x ++ (⟨#[45]⟩ : ByteArray)) ++ EN))) else (none)) else (none))) else (none)) (fun k => by simp only [spec_l3Text.j0, if_pos cd, if_pos cc]) ?_;exact ev_pos (by omega) (Ev.bind sD (ev_pos (by omega) (ev_pos (by omega) (Ev.now _))))
      · rw [if_neg cc]
        refine Ev.step (f := fun k => if x.size + 1 ≤ 9223372036854775807 then ((spec_l3Pad.f k d 2).bind fun EN => (if (x ++ (⟨#[45]⟩ : ByteArray)).size + EN.size ≤ 9223372036854775807 then (some ((x ++ (⟨#[45]⟩ : ByteArray)) ++ EN)) else (none))) else (none)) (fun k => by simp only [spec_l3Text.j0, if_pos cd, if_neg cc]) ?_;exact ev_pos (by omega) (Ev.bind sD (ev_pos (by omega) (Ev.now _)))
    · rw [if_neg cd]
      by_cases cc : c = true
      · rw [if_pos cc]
        refine Ev.step (f := fun k => if 1 + x.size ≤ 9223372036854775807 then (some ((⟨#[99]⟩ : ByteArray) ++ x)) else (none)) (fun k => by simp only [spec_l3Text.j0, if_neg cd, if_pos cc]) ?_;exact ev_pos (by omega) (Ev.now _)
      · rw [if_neg cc]
        exact Ev.step (f := fun _ => some x) (fun k => by simp only [spec_l3Text.j0, if_neg cd, if_neg cc]) (Ev.now _)
  have ym : ((Y ++ (⟨#[45]⟩ : ByteArray)) ++ M).size = Y.size + 1 + M.size := by rw [size_append, e2]
  have hspec : Ev (fun k => spec_l3Text.f k y m d c) (if m > 0 then (if d > 0 then (if c = true then (⟨#[99]⟩ : ByteArray) ++ ((((Y ++ (⟨#[45]⟩ : ByteArray)) ++ M) ++ (⟨#[45]⟩ : ByteArray)) ++ D) else (((Y ++ (⟨#[45]⟩ : ByteArray)) ++ M) ++ (⟨#[45]⟩ : ByteArray)) ++ D) else (if c = true then (⟨#[99]⟩ : ByteArray) ++ ((Y ++ (⟨#[45]⟩ : ByteArray)) ++ M) else (Y ++ (⟨#[45]⟩ : ByteArray)) ++ M))
      else (if d > 0 then (if c = true then (⟨#[99]⟩ : ByteArray) ++ ((Y ++ (⟨#[45]⟩ : ByteArray)) ++ D) else (Y ++ (⟨#[45]⟩ : ByteArray)) ++ D) else (if c = true then (⟨#[99]⟩ : ByteArray) ++ Y else Y))) := by
    unfold spec_l3Text.f;refine ev_neg ny (Ev.bind sY ?_);by_cases cm : m > 0
    · rw [if_pos cm]
      exact ev_pos cm (ev_pos (by omega) (Ev.bind sM (ev_pos (by omega) (spec_rest _ (by omega)))))
    · rw [if_neg cm]
      exact ev_neg cm (spec_rest _ (by omega))
  have himpl : Ev (fun k => impl_formatDate.f k y m d c) (if c = true then (if m > 0 then (if d > 0 then (((⟨#[99]⟩ : ByteArray) ++ Y) ++ ((⟨#[45]⟩ : ByteArray) ++ M)) ++ ((⟨#[45]⟩ : ByteArray) ++ D) else ((⟨#[99]⟩ : ByteArray) ++ Y) ++ ((⟨#[45]⟩ : ByteArray) ++ M)) else (if d > 0 then ((⟨#[99]⟩ : ByteArray) ++ Y) ++ ((⟨#[45]⟩ : ByteArray) ++ D) else (⟨#[99]⟩ : ByteArray) ++ Y))
      else (if m > 0 then (if d > 0 then (Y ++ ((⟨#[45]⟩ : ByteArray) ++ M)) ++ ((⟨#[45]⟩ : ByteArray) ++ D) else Y ++ ((⟨#[45]⟩ : ByteArray) ++ M)) else (if d > 0 then Y ++ ((⟨#[45]⟩ : ByteArray) ++ D) else Y))) := by
    unfold impl_formatDate.f;refine ev_neg ny (Ev.bind iY ?_);by_cases cc : c = true
    · rw [if_pos cc]
      have := sz1 99 Y;exact ev_pos cc (ev_pos (by omega) (impl_rest _ (by omega)))
    · rw [if_neg cc]
      exact ev_neg cc (impl_rest _ (by omega))
  refine ⟨_, hspec, ev_eq himpl ?_⟩
  · by_cases cm : m > 0 <;> by_cases cd : d > 0 <;> cases c <;> simp [cm, cd] <;> simp only [assoc3]
end Go.Proofs.YthfbogcpjfledaaGreatDoor.G

namespace Go.Proofs.YthfbogcpjfledaaGreatDoor.G
open Go.RowKit Go.Proofs.YthfbogcpjfledaaGreatDoorW.PrintWords Go.Proofs.YthfbogcpjfledaaGreatDoorW.PrintLast Go.Proofs.YthfbogcpjfledaaGreatDoor.B Go.Proofs.YthfbogcpjfledaaGreatDoor.Opn
set_option linter.unusedVariables false
set_option linter.unusedSimpArgs false
def fld8 : List (List UInt8) := [[97, 117, 116, 104, 111, 114, 115], [101, 100, 105, 116, 111, 114, 115], [116, 105, 116, 108, 101], [99, 111, 110, 116, 97, 105, 110, 101, 114], [112, 117, 98, 108, 105, 115, 104, 101, 114], [100, 97, 116, 101], [118, 111, 108, 117, 109, 101], [112, 97, 103, 101, 115]]
theorem field_ev (K : ByteArray) (kd : Int) (A E : List S62) (T C Pb : ByteArray) (y m d : Int) (c : Bool) (v : Int) (Pg X : ByteArray) (a : ByteArray) (hA : NOk A) (hE : NOk E) (hg : goodD y m d c = true) (hv : 0 ≤ v ∧ v ≤ 9999) (ha : L a ∈ fld8) :
    ∃ t, Ev (fun k => spec_l4Field.f k K kd A E T C Pb y m d c v Pg X a) (t, true) ∧ Ev (fun k => impl_fieldText.f k K kd A E T C Pb y m d c v Pg X a) t := by
  unfold fld8 at ha;unfold spec_l4Field.f impl_fieldText.f;by_cases c1 : a.toList = ([97, 117, 116, 104, 111, 114, 115] : List UInt8)
  · skip
    exact ⟨_, ev_pos c1 (Ev.bind (spec_nt A hA) (Ev.now _)), ev_pos c1 (Ev.bind (impl_nt A hA) (Ev.now _))⟩
  by_cases c2 : a.toList = ([101, 100, 105, 116, 111, 114, 115] : List UInt8)
  · skip
    exact ⟨_, ev_neg c1 (ev_pos c2 (Ev.bind (spec_nt E hE) (Ev.now _))), ev_neg c1 (ev_pos c2 (Ev.bind (impl_nt E hE) (Ev.now _)))⟩
  by_cases c3 : a.toList = ([116, 105, 116, 108, 101] : List UInt8)
  · skip
    exact ⟨_, ev_neg c1 (ev_neg c2 (ev_pos c3 (Ev.now _))), ev_neg c1 (ev_neg c2 (ev_pos c3 (Ev.now _)))⟩
  by_cases c4 : a.toList = ([99, 111, 110, 116, 97, 105, 110, 101, 114] : List UInt8)
  · skip
    exact ⟨_, ev_neg c1 (ev_neg c2 (ev_neg c3 (ev_pos c4 (Ev.now _)))), ev_neg c1 (ev_neg c2 (ev_neg c3 (ev_pos c4 (Ev.now _))))⟩
  by_cases c5 : a.toList = ([112, 117, 98, 108, 105, 115, 104, 101, 114] : List UInt8)
  · skip
    exact ⟨_, ev_neg c1 (ev_neg c2 (ev_neg c3 (ev_neg c4 (ev_pos c5 (Ev.now _))))), ev_neg c1 (ev_neg c2 (ev_neg c3 (ev_neg c4 (ev_pos c5 (Ev.now _)))))⟩
  by_cases c6 : a.toList = ([100, 97, 116, 101] : List UInt8)
  · skip
    have n8 : ¬ a.toList = ([112, 97, 103, 101, 115] : List UInt8) := by rw [c6]; decide
    by_cases y0 : y = 0
    · exact ⟨_, ev_neg c1 (ev_neg c2 (ev_neg c3 (ev_neg c4 (ev_neg c5 (ev_neg n8 (ev_pos c6 (ev_pos y0 (Ev.now _)))))))), ev_neg c1 (ev_neg c2 (ev_neg c3 (ev_neg c4 (ev_neg c5 (ev_pos c6 (ev_neg (by omega) (Ev.now _)))))))⟩
    · have hb := good_bds hg y0
      obtain ⟨t, sv, iv⟩ := date_text y m d c ⟨hb.1, hb.2.1⟩ ⟨hb.2.2.1, hb.2.2.2.1⟩ hb.2.2.2.2;exact ⟨_, ev_neg c1 (ev_neg c2 (ev_neg c3 (ev_neg c4 (ev_neg c5 (ev_neg n8 (ev_pos c6 (ev_neg y0 (Ev.bind sv (Ev.now _))))))))), ev_neg c1 (ev_neg c2 (ev_neg c3 (ev_neg c4 (ev_neg c5 (ev_pos c6 (ev_pos (by omega) (Ev.bind iv (Ev.now _))))))))⟩
  by_cases c7 : a.toList = ([118, 111, 108, 117, 109, 101] : List UInt8)
  · skip
    have n8 : ¬ a.toList = ([112, 97, 103, 101, 115] : List UInt8) := by rw [c7]; decide
    by_cases v0 : v = 0
    · exact ⟨_, ev_neg c1 (ev_neg c2 (ev_neg c3 (ev_neg c4 (ev_neg c5 (ev_neg n8 (ev_neg c6 (ev_pos c7 (ev_pos v0 (Ev.now _))))))))), ev_neg c1 (ev_neg c2 (ev_neg c3 (ev_neg c4 (ev_neg c5 (ev_neg c6 (ev_pos c7 (ev_neg (by omega) (Ev.now _))))))))⟩
    · have hi : strconv_Itoa.f v = some (mkB (Lib.itoa v)) := by
        unfold strconv_Itoa.f;rw [if_pos ⟨by omega, by omega⟩]; rfl
      exact ⟨_, ev_neg c1 (ev_neg c2 (ev_neg c3 (ev_neg c4 (ev_neg c5 (ev_neg n8 (ev_neg c6 (ev_pos c7 (ev_neg v0 (Ev.bind (num_ev v (by omega) (by omega)) (Ev.now _)))))))))), ev_neg c1 (ev_neg c2 (ev_neg c3 (ev_neg c4 (ev_neg c5 (ev_neg c6 (ev_pos c7 (ev_pos (by omega) (ev_bind0 hi (Ev.now _)))))))))⟩
  by_cases c8 : a.toList = ([112, 97, 103, 101, 115] : List UInt8)
  · skip
    exact ⟨_, ev_neg c1 (ev_neg c2 (ev_neg c3 (ev_neg c4 (ev_neg c5 (ev_pos c8 (Ev.now _)))))), ev_neg c1 (ev_neg c2 (ev_neg c3 (ev_neg c4 (ev_neg c5 (ev_neg c6 (ev_neg c7 (ev_pos c8 (Ev.now _))))))))⟩
  · exfalso
    rw [toList_L] at c1 c2 c3 c4 c5 c6 c7 c8;simp only [List.mem_cons, List.not_mem_nil, or_false] at ha
    rcases ha with h | h | h | h | h | h | h | h
    · exact c1 h
    · exact c2 h
    · exact c3 h
    · exact c4 h
    · exact c5 h
    · exact c6 h
    · exact c7 h
    · exact c8 h
theorem n_ok {l : List S62} (h : listD l = true) (hb : ∀ x ∈ l, bulkN x.f0 x.f1 x.f2 x.f3 ≤ 1048576) : NOk l := ⟨(list_good h).1, (list_good h).2, hb⟩
end Go.Proofs.YthfbogcpjfledaaGreatDoor.G

namespace Go.Proofs.YthfbogcpjfledaaGreatDoor.G
open Go.RowKit Go.Proofs.YthfbogcpjfledaaGreatDoor.Gl Go.Proofs.YthfbogcpjfledaaGreatDoorW.PrintWords Go.Proofs.YthfbogcpjfledaaGreatDoorW.PrintLast Go.Proofs.YthfbogcpjfledaaGreatDoor.B Go.Proofs.YthfbogcpjfledaaGreatDoor.Opn
set_option linter.unusedVariables false
set_option linter.unusedSimpArgs false
theorem chg_shift {α : Type} {f : Nat → Option α} {v : α} (h : Ev (fun k => f (k + 1)) v) : Ev f v := Ev.step (f := fun k => f (k + 1)) (fun _ => rfl) h
def difL (f g : ByteArray → ByteArray) (ns : List ByteArray) : List ByteArray := ns.filter (fun a => !decide ((f a).toList = (g a).toList))
def lastL (kd kd' : Int) (K K' : ByteArray) : List ByteArray := (if kd = kd' then [] else [(⟨#[107, 105, 110, 100]⟩ : ByteArray)]) ++ (if K.toList = K'.toList then [] else [(⟨#[107, 101, 121]⟩ : ByteArray)])
def endL (X X' : ByteArray) (kd kd' : Int) (K K' : ByteArray) : List ByteArray := (if X.toList = X'.toList then [] else [(⟨#[99, 114, 111, 115, 115]⟩ : ByteArray)]) ++ lastL kd kd' K K'
theorem tail_s (K : ByteArray) (kd : Int) (A E : List S62) (T C Pb : ByteArray) (y m d : Int) (c : Bool) (v : Int) (Pg X : ByteArray) (K' : ByteArray) (kd' : Int) (A' E' : List S62) (T' C' Pb' : ByteArray) (y' m' d' : Int) (c' : Bool) (v' : Int) (Pg' X' : ByteArray) (out : List ByteArray) (ho : out.length ≤ 9) : Ev (fun k => spec_ChangedFields.j2 k out K kd A E T C Pb y m d c v Pg X K' kd' A' E' T' C' Pb' y' m' d' c' v' Pg' X') (out ++ lastL kd kd' K K', true) := by
  apply chg_shift;simp only [spec_ChangedFields.j2];by_cases a : kd = kd'
  · by_cases b : K.toList = K'.toList
    · exact ev_pos a (ev_pos b (ev_eq (Ev.now _) (by unfold lastL; rw [if_pos a, if_pos b]; simp)))
    · exact ev_pos a (ev_neg b (ev_pos (by omega) (ev_eq (Ev.now _) (by unfold lastL; rw [if_pos a, if_neg b]; simp))))
  · refine ev_neg a (ev_pos (by omega) (ev_bind0 rfl ?_))
    by_cases b : K.toList = K'.toList
    · exact ev_pos b (ev_eq (Ev.now _) (by unfold lastL; rw [if_neg a, if_pos b]; simp))
    · exact ev_neg b (ev_pos (by rw [List.length_append, List.length_singleton]; omega) (ev_eq (Ev.now _) (by unfold lastL; rw [if_neg a, if_neg b]; simp)))
theorem tail_i (K : ByteArray) (kd : Int) (A E : List S62) (T C Pb : ByteArray) (y m d : Int) (c : Bool) (v : Int) (Pg X : ByteArray) (K' : ByteArray) (kd' : Int) (A' E' : List S62) (T' C' Pb' : ByteArray) (y' m' d' : Int) (c' : Bool) (v' : Int) (Pg' X' : ByteArray) (out : List ByteArray) (ho : out.length ≤ 9) : Ev (fun k => impl_changedFields.j1 k out K kd A E T C Pb y m d c v Pg X K' kd' A' E' T' C' Pb' y' m' d' c' v' Pg' X') (out ++ lastL kd kd' K K') := by
  apply chg_shift;simp only [impl_changedFields.j1];by_cases a : kd = kd'
  · by_cases b : K.toList = K'.toList
    · exact ev_pos a (ev_pos b (ev_eq (Ev.now _) (by unfold lastL; rw [if_pos a, if_pos b]; simp)))
    · exact ev_pos a (ev_neg b (ev_pos (by omega) (ev_eq (Ev.now _) (by unfold lastL; rw [if_pos a, if_neg b]; simp))))
  · refine ev_neg a (ev_pos (by omega) (ev_bind0 rfl ?_))
    by_cases b : K.toList = K'.toList
    · exact ev_pos b (ev_eq (Ev.now _) (by unfold lastL; rw [if_neg a, if_pos b]; simp))
    · exact ev_neg b (ev_pos (by rw [List.length_append, List.length_singleton]; omega) (ev_eq (Ev.now _) (by unfold lastL; rw [if_neg a, if_neg b]; simp)))
theorem flds_len : fieldsL.length = 8 := rfl
theorem flds_in (i : Nat) (hi : i < fieldsL.length) : L fieldsL[i] ∈ fld8 := by
  have h : ∀ a ∈ fieldsL, L a ∈ fld8 := by decide
  exact h _ (List.getElem_mem hi)
theorem chg_loop (K : ByteArray) (kd : Int) (A E : List S62) (T C Pb : ByteArray) (y m d : Int) (c : Bool) (v : Int) (Pg X : ByteArray) (K' : ByteArray) (kd' : Int) (A' E' : List S62) (T' C' Pb' : ByteArray) (y' m' d' : Int) (c' : Bool) (v' : Int) (Pg' X' : ByteArray) (f g : ByteArray → ByteArray)
    (hf : ∀ a, L a ∈ fld8 → Ev (fun k => spec_l4Field.f k K kd A E T C Pb y m d c v Pg X a) (f a, true) ∧ Ev (fun k => impl_fieldText.f k K kd A E T C Pb y m d c v Pg X a) (f a))
    (hg : ∀ a, L a ∈ fld8 → Ev (fun k => spec_l4Field.f k K' kd' A' E' T' C' Pb' y' m' d' c' v' Pg' X' a) (g a, true) ∧ Ev (fun k => impl_fieldText.f k K' kd' A' E' T' C' Pb' y' m' d' c' v' Pg' X' a) (g a)) (q : Nat) :
    ∀ (i : Nat) (out : List ByteArray), out.length ≤ i → i ≤ 8 → 8 - i = q → Ev (fun k => spec_ChangedFields.l0 k out fieldsL (i : Int) K kd A E T C Pb y m d c v Pg X K' kd' A' E' T' C' Pb' y' m' d' c' v' Pg' X') ((out ++ difL f g (fieldsL.drop i)) ++ endL X X' kd kd' K K', true) ∧ Ev (fun k => impl_changedFields.l0 k out (i : Int) K kd A E T C Pb y m d c v Pg X K' kd' A' E' T' C' Pb' y' m' d' c' v' Pg' X') ((out ++ difL f g (fieldsL.drop i)) ++ endL X X' kd kd' K K') := by
  have hlen := flds_len
  induction q with
  | zero =>
    intro i out ho h1 hd
    have hi : i = 8 := by omega
    subst hi
    have e : out ++ difL f g (fieldsL.drop 8) = out := by
      rw [List.drop_of_length_le (by omega)]; simp [difL]
    rw [e];refine ⟨?_, ?_⟩
    · apply chg_shift
      simp only [spec_ChangedFields.l0];refine ev_neg (by omega) ?_;by_cases a : X.toList = X'.toList
      · exact ev_pos a (ev_eq (tail_s K kd A E T C Pb y m d c v Pg X K' kd' A' E' T' C' Pb' y' m' d' c' v' Pg' X' out (by omega)) (by unfold endL; rw [if_pos a]; rfl))
      · exact ev_neg a (ev_pos (by omega) (ev_eq (tail_s K kd A E T C Pb y m d c v Pg X K' kd' A' E' T' C' Pb' y' m' d' c' v' Pg' X' _ (by rw [List.length_append, List.length_singleton]; omega)) (by unfold endL; rw [if_neg a]; simp)))
    · apply chg_shift
      simp only [impl_changedFields.l0];refine ev_neg (by omega) ?_;by_cases a : X.toList = X'.toList
      · exact ev_pos a (ev_eq (tail_i K kd A E T C Pb y m d c v Pg X K' kd' A' E' T' C' Pb' y' m' d' c' v' Pg' X' out (by omega)) (by unfold endL; rw [if_pos a]; rfl))
      · exact ev_neg a (ev_pos (by omega) (ev_eq (tail_i K kd A E T C Pb y m d c v Pg X K' kd' A' E' T' C' Pb' y' m' d' c' v' Pg' X' _ (by rw [List.length_append, List.length_singleton]; omega)) (by unfold endL; rw [if_neg a]; simp)))
  | succ q ih =>
    intro i out ho h1 hd
    have hi : i < fieldsL.length := by omega
    have hw : wrap64 ((i : Int) + 1) = ((i + 1 : Nat) : Int) := by rw [w64 (by omega) (by omega)]; rfl
    have hr : rdOf ByteArray.empty fieldsL (i : Int) = fieldsL[i] := by unfold rdOf; rw [show ((i : Int)).toNat = i by omega, List.getD_eq_getElem?_getD, List.getElem?_eq_getElem hi]; rfl
    obtain ⟨sf, jf⟩ := hf _ (flds_in i hi);obtain ⟨sg, jg⟩ := hg _ (flds_in i hi);rw [List.drop_eq_getElem_cons hi];generalize fieldsL[i] = a at hr sf jf sg jg
    have ed : difL f g (a :: fieldsL.drop (i + 1)) = (if (f a).toList = (g a).toList then [] else [a]) ++ difL f g (fieldsL.drop (i + 1)) := by
      unfold difL;rw [List.filter_cons];by_cases e : (f a).toList = (g a).toList
      · rw [if_pos e, dt e]; rfl
      · rw [if_neg e, df e]; rfl
    rw [ed]
    have g1 : (i : Int) < (fieldsL.length : Int) := by omega
    have g2 : (0 : Int) ≤ (i : Int) := by omega
    have g3 : out.length < 8796093022208 := by omega
    have g4 : (i : Int) < 8 := by omega
    by_cases e : (f a).toList = (g a).toList
    · rw [if_pos e, List.nil_append]
      obtain ⟨s1, i1⟩ := ih (i + 1) out (by omega) (by omega) (by omega);refine ⟨?_, ?_⟩
      · apply chg_shift
        simp only [spec_ChangedFields.l0, hr, hw];exact ev_pos g1 (ev_pos g2 (Ev.bind sf (Ev.bind sg (ev_pos e s1))))
      · apply chg_shift
        simp only [impl_changedFields.l0, hr, hw];exact ev_pos g4 (ev_pos g2 (Ev.bind jf (Ev.bind jg (ev_pos e i1))))
    · rw [if_neg e, ← List.append_assoc]
      obtain ⟨s1, i1⟩ := ih (i + 1) (out ++ [a]) (by rw [List.length_append, List.length_singleton]; omega) (by omega) (by omega);refine ⟨?_, ?_⟩
      · apply chg_shift
        simp only [spec_ChangedFields.l0, hr, hw];exact ev_pos g1 (ev_pos g2 (Ev.bind sf (Ev.bind sg (ev_neg e (ev_pos g3 s1)))))
      · apply chg_shift
        simp only [impl_changedFields.l0, hr, hw];exact ev_pos g4 (ev_pos g2 (Ev.bind jf (Ev.bind jg (ev_neg e (ev_pos g3 i1)))))
def chgL (f g : ByteArray → ByteArray) (X X' : ByteArray) (kd kd' : Int) (K K' : ByteArray) : List ByteArray := difL f g fieldsL ++ endL X X' kd kd' K K'
theorem end_len (X X' : ByteArray) (kd kd' : Int) (K K' : ByteArray) : (endL X X' kd kd' K K').length ≤ 3 := by
  unfold endL lastL
  split <;> split <;> split <;> simp
theorem chgL_len (f g : ByteArray → ByteArray) (X X' : ByteArray) (kd kd' : Int) (K K' : ByteArray) : (chgL f g X X' kd kd' K K').length ≤ 11 := by
  have h1 := end_len X X' kd kd' K K'
  have h2 : (difL f g fieldsL).length ≤ 8 := by
    have := List.length_filter_le (fun a => !decide ((f a).toList = (g a).toList)) fieldsL;rw [flds_len] at this;exact this
  unfold chgL;rw [List.length_append]; omega
theorem chg_ev (K : ByteArray) (kd : Int) (A E : List S62) (T C Pb : ByteArray) (y m d : Int) (c : Bool) (v : Int) (Pg X : ByteArray) (K' : ByteArray) (kd' : Int) (A' E' : List S62) (T' C' Pb' : ByteArray) (y' m' d' : Int) (c' : Bool) (v' : Int) (Pg' X' : ByteArray) (f g : ByteArray → ByteArray) (b b' : Bool)
    (hs : Ev (fun k => spec_l4Entry.f k K kd A E T C Pb y m d c v Pg X) b) (hi : Ev (fun k => impl_IsValidEntry.f k K kd A E T C Pb y m d c v Pg X) b) (hs' : Ev (fun k => spec_l4Entry.f k K' kd' A' E' T' C' Pb' y' m' d' c' v' Pg' X') b') (hi' : Ev (fun k => impl_IsValidEntry.f k K' kd' A' E' T' C' Pb' y' m' d' c' v' Pg' X') b')
    (hf : b = true → b' = true → ∀ a, L a ∈ fld8 → Ev (fun k => spec_l4Field.f k K kd A E T C Pb y m d c v Pg X a) (f a, true) ∧ Ev (fun k => impl_fieldText.f k K kd A E T C Pb y m d c v Pg X a) (f a))
    (hg : b = true → b' = true → ∀ a, L a ∈ fld8 → Ev (fun k => spec_l4Field.f k K' kd' A' E' T' C' Pb' y' m' d' c' v' Pg' X' a) (g a, true) ∧ Ev (fun k => impl_fieldText.f k K' kd' A' E' T' C' Pb' y' m' d' c' v' Pg' X' a) (g a)) :
    Ev (fun k => spec_ChangedFields.f k K kd A E T C Pb y m d c v Pg X K' kd' A' E' T' C' Pb' y' m' d' c' v' Pg' X') (if b = true ∧ b' = true then (chgL f g X X' kd kd' K K', true) else ([], false)) ∧ Ev (fun k => impl_ChangedFields.f k K kd A E T C Pb y m d c v Pg X K' kd' A' E' T' C' Pb' y' m' d' c' v' Pg' X') (if b = true ∧ b' = true then (chgL f g X X' kd kd' K K', true) else ([], false)) := by
  have no : Ev (fun k => spec_ChangedFields.j0 k ([] : List ByteArray) true K kd A E T C Pb y m d c v Pg X K' kd' A' E' T' C' Pb' y' m' d' c' v' Pg' X') ([], false) := by
    apply chg_shift;simp only [spec_ChangedFields.j0];exact ev_pos trivial (Ev.now _)
  unfold spec_ChangedFields.f impl_ChangedFields.f
  cases b with
  | false =>
    rw [if_neg (fun x => by cases x.1)];exact ⟨ev_bind0 rfl (Ev.bind hs (ev_neg (by simp) no)), Ev.bind hi (ev_neg (by simp) (Ev.now _))⟩
  | true =>
    cases b' with
    | false =>
      rw [if_neg (fun x => by cases x.2)];exact ⟨ev_bind0 rfl (Ev.bind hs (ev_pos rfl (Ev.bind hs' no))), Ev.bind hi (ev_pos rfl (Ev.bind hi' (ev_neg (by simp) (Ev.now _))))⟩
    | true =>
      rw [if_pos ⟨rfl, rfl⟩];obtain ⟨s, i⟩ := chg_loop K kd A E T C Pb y m d c v Pg X K' kd' A' E' T' C' Pb' y' m' d' c' v' Pg' X' f g (hf rfl rfl) (hg rfl rfl) 8 0 [] (by simp) (by omega) rfl;rw [List.drop_zero, List.nil_append] at s i;refine ⟨ev_bind0 rfl (Ev.bind hs (ev_pos rfl (Ev.bind hs' ?_))), Ev.bind hi (ev_pos rfl (Ev.bind hi' (ev_pos rfl (Ev.bind (a := chgL f g X X' kd kd' K K') ?_ (Ev.now _)))))⟩
      · apply chg_shift
        simp only [spec_ChangedFields.j0];exact ev_neg (by simp) (ev_bind0 rfl s)
      · unfold impl_changedFields.f
        exact i
end Go.Proofs.YthfbogcpjfledaaGreatDoor.G

namespace Go.Proofs.YthfbogcpjfledaaGreatDoor.Pure
open Go.RowKit Go.Proofs.YthfbogcpjfledaaGreatDoor.G Go.Proofs.YthfbogcpjfledaaGreatDoor.Gl Go.Proofs.YthfbogcpjfledaaGreatDoorW.PrintWords Go.Proofs.YthfbogcpjfledaaGreatDoorW.PrintLast Go.Proofs.YthfbogcpjfledaaGreatDoor.B Go.Proofs.YthfbogcpjfledaaGreatDoor.Opn
set_option linter.unusedVariables false
set_option linter.unusedSimpArgs false
theorem cntN_le (l : List S62) (h : ∀ x ∈ l, x.f0.length ≤ 1048576) : cntN l ≤ 1048579 * (l.length : Int) := by
  induction l with
  | nil => simp [cntN]
  | cons x r ih =>
    have := ih (fun y hy => h y (List.mem_cons_of_mem _ hy));have := h x List.mem_cons_self;simp only [cntN, elN, List.length_cons];omega
structure Ent1 (K : ByteArray) (kd : Int) (A E : List S55) (T C Pb : ByteArray) (y m d : Int) (c : Bool) (v : Int) (Pg X : ByteArray) : Prop where
  t : Ev (fun k => laws_toEntry.f k K kd A E T C Pb y m d c v Pg X) (K, kd, A.map conv, E.map conv, T, C, Pb, y, m, d, c, v, Pg, X)
  s : Ev (fun k => spec_l4Entry.f k K kd (A.map conv) (E.map conv) T C Pb y m d c v Pg X) (entD K kd (A.map conv) (E.map conv) T C Pb y m d c v Pg X)
  i : Ev (fun k => impl_IsValidEntry.f k K kd (A.map conv) (E.map conv) T C Pb y m d c v Pg X) (entD K kd (A.map conv) (E.map conv) T C Pb y m d c v Pg X)
  e : Ev (fun k => laws_eqEntry.f k K kd (A.map conv) (E.map conv) T C Pb y m d c v Pg X K kd (A.map conv) (E.map conv) T C Pb y m d c v Pg X) true
  f : ∃ f : ByteArray → ByteArray, entD K kd (A.map conv) (E.map conv) T C Pb y m d c v Pg X = true → ∀ a, L a ∈ fld8 → Ev (fun k => spec_l4Field.f k K kd (A.map conv) (E.map conv) T C Pb y m d c v Pg X a) (f a, true) ∧ Ev (fun k => impl_fieldText.f k K kd (A.map conv) (E.map conv) T C Pb y m d c v Pg X a) (f a)
  m : cntN (A.map conv) + cntN (E.map conv) ≤ 4398046511104 ∧ 0 ≤ cntN (A.map conv) ∧ 0 ≤ cntN (E.map conv)
theorem ent1 (K : ByteArray) (kd : Int) (A E : List S55) (T C Pb : ByteArray) (y m d : Int) (c : Bool) (v : Int) (Pg X : ByteArray) (q : bulkE K A E T C Pb Pg X ≤ 1048576) : Ent1 K kd A E T C Pb y m d c v Pg X := by
  have qA : A.length + bulkL A ≤ 1048576 := by unfold bulkE at q; omega
  have qE : E.length + bulkL E ≤ 1048576 := by unfold bulkE at q; omega
  have oA := conv_ok (l := A) (by omega);have oE := conv_ok (l := E) (by omega)
  have lA : (A.map conv).length ≤ 1048576 := by rw [List.length_map]; omega
  have lE : (E.map conv).length ≤ 1048576 := by rw [List.length_map]; omega
  have sA : ∀ x ∈ A, x.f0.length ≤ 1048576 := fun x hx => by have := bulkL_mem hx; unfold bulkN bulkS at this; omega
  have sE : ∀ x ∈ E, x.f0.length ≤ 1048576 := fun x hx => by have := bulkL_mem hx; unfold bulkN bulkS at this; omega
  have bA : ∀ x ∈ A.map conv, bulkN x.f0 x.f1 x.f2 x.f3 ≤ 1048576 := fun x hx => by
    obtain ⟨z, hz, rfl⟩ := List.mem_map.1 hx;have := bulkL_mem hz
    show bulkN z.f0 z.f1 z.f2 z.f3 ≤ _
    omega
  have bE : ∀ x ∈ E.map conv, bulkN x.f0 x.f1 x.f2 x.f3 ≤ 1048576 := fun x hx => by
    obtain ⟨z, hz, rfl⟩ := List.mem_map.1 hx;have := bulkL_mem hz
    show bulkN z.f0 z.f1 z.f2 z.f3 ≤ _
    omega
  refine ⟨toE_ev K kd A E T C Pb y m d c v Pg X (by omega) sA (by omega) sE, spec_ent K kd _ _ T C Pb y m d c v Pg X oA lA oE lE, impl_ent K kd _ _ T C Pb y m d c v Pg X oA lA oE lE, eqE_same K kd _ _ T C Pb y m d c v Pg X oA lA oE lE, ?_, ?_⟩
  · by_cases g : entD K kd (A.map conv) (E.map conv) T C Pb y m d c v Pg X = true
    · have g' := g
      unfold entD headE tailE at g';simp only [Bool.and_eq_true] at g'
      have hv : 0 ≤ v ∧ v ≤ 9999 := by
        have := g'.2.2.1.2;unfold volD at this
        simpa using this
      have key := fun a (ha : L a ∈ fld8) => field_ev K kd (A.map conv) (E.map conv) T C Pb y m d c v Pg X a (n_ok g'.1.2.2.1 bA) (n_ok g'.1.2.2.2 bE) g'.2.2.1.1 hv ha
      exact ⟨fun a => if h : L a ∈ fld8 then Classical.choose (key a h) else a, fun _ a ha => by
        simp only [dif_pos ha]; exact Classical.choose_spec (key a ha)⟩
    · exact ⟨id, fun h => absurd h g⟩
  · have a1 := cntN_nonneg (A.map conv)
    have a2 := cntN_nonneg (E.map conv);have a3 := cntN_le (A.map conv) (fun x hx => by obtain ⟨z, hz, rfl⟩ := List.mem_map.1 hx; exact sA z hz);have a4 := cntN_le (E.map conv) (fun x hx => by obtain ⟨z, hz, rfl⟩ := List.mem_map.1 hx; exact sE z hz);exact ⟨by omega, a1, a2⟩
theorem FnExactChangedFields : laws_FnExactChangedFields.Pur := by
  intro K kd A E T C Pb y m d c v Pg X K' kd' A' E' T' C' Pb' y' m' d' c' v' Pg' X' hK _ hA hE hT hC hP _ _ _ _ hG hX hK' _ hA' hE' hT' hC' hP' _ _ _ _ hG' hX';apply Ev.rounds;unfold laws_FnExactChangedFields.f;refine Ev.bind (szE_ev K kd A E T C Pb y m d c v Pg X hA.2 hA.1 hE.2 hE.1 hK hT hC hP hG hX 1048576 (by omega) (by omega)) ?_;by_cases q : (bulkE K A E T C Pb Pg X : Int) ≤ 1048576
  · have hl : lftOf 1048576 (bulkE K A E T C Pb Pg X) = 1048576 - bulkE K A E T C Pb Pg X := by unfold lftOf; rw [if_pos q]
    rw [hl];refine ev_neg (by omega) (Ev.bind (szE_ev K' kd' A' E' T' C' Pb' y' m' d' c' v' Pg' X' hA'.2 hA'.1 hE'.2 hE'.1 hK' hT' hC' hP' hG' hX' _ (by omega) (by omega)) ?_);by_cases q' : (bulkE K' A' E' T' C' Pb' Pg' X' : Int) ≤ 1048576 - bulkE K A E T C Pb Pg X
    · have hl' : lftOf (1048576 - bulkE K A E T C Pb Pg X) (bulkE K' A' E' T' C' Pb' Pg' X') = 1048576 - bulkE K A E T C Pb Pg X - bulkE K' A' E' T' C' Pb' Pg' X' := by unfold lftOf; rw [if_pos q']
      rw [hl'];obtain ⟨ht, hs, hi, he, ⟨f, hf⟩, hc⟩ := ent1 K kd A E T C Pb y m d c v Pg X (by omega);obtain ⟨ht', hs', hi', he', ⟨g, hg⟩, hc'⟩ := ent1 K' kd' A' E' T' C' Pb' y' m' d' c' v' Pg' X' (by omega);have key := chg_ev K kd (A.map conv) (E.map conv) T C Pb y m d c v Pg X K' kd' (A'.map conv) (E'.map conv) T' C' Pb' y' m' d' c' v' Pg' X' f g _ _ hs hi hs' hi' (fun h _ => hf h) (fun _ h => hg h)
      have hn : (if entD K kd (A.map conv) (E.map conv) T C Pb y m d c v Pg X = true ∧ entD K' kd' (A'.map conv) (E'.map conv) T' C' Pb' y' m' d' c' v' Pg' X' = true then (chgL f g X X' kd kd' K K', true) else (([] : List ByteArray), false)).1.length ≤ 11 := by
        split
        · exact chgL_len f g X X' kd kd' K K'
        · exact Nat.zero_le _
      obtain ⟨hsf, hif⟩ := key;generalize (if entD K kd (A.map conv) (E.map conv) T C Pb y m d c v Pg X = true ∧ entD K' kd' (A'.map conv) (E'.map conv) T' C' Pb' y' m' d' c' v' Pg' X' = true then (chgL f g X X' kd kd' K K', true) else (([] : List ByteArray), false)) = r at hsf hif hn;clear hf hg hs hi hs' hi';obtain ⟨l, b⟩ := r;have hn' : l.length ≤ 11 := hn
      have hm1 : laws_markEntry.f K kd (A.map conv) (E.map conv) T C Pb y m d c v Pg X 1 = some (1 + cntN (A.map conv) + cntN (E.map conv)) := by
        unfold laws_markEntry.f;exact if_pos ⟨by omega, by omega⟩
      have hm2 : laws_markEntry.f K' kd' (A'.map conv) (E'.map conv) T' C' Pb' y' m' d' c' v' Pg' X' (1 + cntN (A.map conv) + cntN (E.map conv)) = some (1 + cntN (A.map conv) + cntN (E.map conv) + cntN (A'.map conv) + cntN (E'.map conv)) := by
        unfold laws_markEntry.f;exact if_pos ⟨by omega, by omega⟩
      have heq : Ev (fun k => laws_eqStringS.f k l l) true := ev_eq (eqS_ev l l (by omega) (by omega)) (by simp);have hm : Ev (fun k => laws_markStringS.f k l 1) (1 + (l.length : Int), mts 1 l.length) := markS_ev l 1 (by omega) (by omega);have hh : Ev (fun k => laws_heldStringS.f k (mts 1 l.length) 1) (1 + (l.length : Int)) := heldS_ev 1 l.length (by omega) (by omega)
      have j2 : Ev (fun k => laws_FnExactChangedFields.j2 k (mts 1 l.length) (1 + (l.length : Int)) (b != b)) true := by
        apply chg_shift;simp only [laws_FnExactChangedFields.j2];exact ev_neg (by simp) (Ev.bind hh (ev_neg (by omega) (ev_pos rfl (Ev.now _))))
      have j1 : Ev (fun k => laws_FnExactChangedFields.j1 k l b l (b != b) K kd A E T C Pb y m d c v Pg X K' kd' A' E' T' C' Pb' y' m' d' c' v' Pg' X') true := by
        apply chg_shift;simp only [laws_FnExactChangedFields.j1];exact ev_neg (by simp) (Ev.bind hm (Ev.bind hh (ev_neg (by omega) (ev_pos rfl (Ev.bind ht (Ev.bind ht' (Ev.bind hif (Ev.bind heq (ev_pos rfl j2)))))))))
      have j0 : Ev (fun k => laws_FnExactChangedFields.j0 k l b l b (b != b) K kd A E T C Pb y m d c v Pg X K' kd' A' E' T' C' Pb' y' m' d' c' v' Pg' X' K kd (A.map conv) (E.map conv) T C Pb y m d c v Pg X K' kd' (A'.map conv) (E'.map conv) T' C' Pb' y' m' d' c' v' Pg' X') true := by
        apply chg_shift;simp only [laws_FnExactChangedFields.j0];exact ev_neg (by simp) (Ev.bind ht (Ev.bind he (ev_pos rfl (Ev.bind ht' (Ev.bind he' (ev_pos rfl (ev_bind0 hm1 (ev_bind0 hm2 (ev_neg (by omega) (Ev.bind heq (ev_pos rfl j1)))))))))))
      exact ev_neg (by omega) (Ev.bind ht (Ev.bind ht' (Ev.bind hsf (Ev.bind ht (Ev.bind ht' (Ev.bind hif (Ev.bind heq (ev_pos rfl j0))))))))
    · have hl' : lftOf (1048576 - bulkE K A E T C Pb Pg X) (bulkE K' A' E' T' C' Pb' Pg' X') = -1 := by unfold lftOf; rw [if_neg q']
      rw [hl'];exact ev_pos (by omega) (Ev.now _)
  · have hl : lftOf 1048576 (bulkE K A E T C Pb Pg X) = -1 := by unfold lftOf; rw [if_neg q]
    rw [hl];exact ev_pos (by omega) (Ev.now _)
end Go.Proofs.YthfbogcpjfledaaGreatDoor.Pure
