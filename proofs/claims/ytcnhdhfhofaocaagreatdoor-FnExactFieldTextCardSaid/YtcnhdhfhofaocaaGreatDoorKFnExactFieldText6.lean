/- Texts of this session for the law FnExactFieldText, put together by a program (merge.py): each ends with its namespace; conditions stand with each theorem. -/
import Derived.Test.YtcnhdhfhofaocaaGreatDoorKFnExactFieldText5
import Derived.Test.YtcnhdhfhofaocaaGreatDoorKFnExactFieldText4
import Derived.Test.YtcnhdhfhofaocaaGreatDoorKFnExactFieldText3
namespace Go.Proofs.YtcnhdhfhofaocaaGreatDoor.G
open Go.RowKit Go.Proofs.YtcnhdhfhofaocaaGreatDoorW.PrintWords Go.Proofs.YtcnhdhfhofaocaaGreatDoorW.PrintLast Go.Proofs.YtcnhdhfhofaocaaGreatDoor.B
set_option linter.unusedVariables false
set_option linter.unusedSimpArgs false
theorem pad_same (k : Nat) : ∀ (w : Int) (t : ByteArray), impl_digits.l0 k w t = spec_l3Pad.l0 k w t := by
  induction k with
  | zero => intro w t; rfl
  | succ k ih => intro w t; simp only [impl_digits.l0, spec_l3Pad.l0, ih]
theorem pad_loop (w : Nat) (hw : w ≤ 10) (d : Nat) : ∀ t : ByteArray, w - t.size = d → t.size ≤ 1000 → ∃ u, Ev (fun k => spec_l3Pad.l0 k (w : Int) t) u ∧ u.size ≤ max w t.size := by
  induction d with
  | zero =>
    intro t h ht
    refine ⟨t, Ev.step (f := fun _ => some t) (fun k => ?_) (Ev.now _), by omega⟩
    simp only [spec_l3Pad.l0]; rw [if_neg (by omega)]
  | succ d ih =>
    intro t h ht
    have hs : ((⟨#[48]⟩ : ByteArray) ++ t).size = 1 + t.size := by rw [size_append]; rfl
    obtain ⟨u, hu, hz⟩ := ih ((⟨#[48]⟩ : ByteArray) ++ t) (by omega) (by omega)
    refine ⟨u, Ev.step (fun k => ?_) hu, by omega⟩
    simp only [spec_l3Pad.l0]; rw [if_pos (by omega), if_pos (by omega)]
theorem pad_ev (n : Int) (w : Nat) (h0 : 0 ≤ n) (h1 : n ≤ 1000000) (hw : w ≤ 10) : ∃ u, Ev (fun k => spec_l3Pad.f k n (w : Int)) u ∧ Ev (fun k => impl_digits.f k n (w : Int)) u ∧ u.size ≤ 30 := by
  have hl := Lib.itoa_length_le n (by omega) (by omega)
  have hz : (mkB (Lib.itoa n)).size ≤ 21 := by rw [size_mk]; exact hl
  obtain ⟨u, hu, hs⟩ := pad_loop w hw _ (mkB (Lib.itoa n)) rfl (by omega)
  refine ⟨u, ?_, ?_, by omega⟩
  · unfold spec_l3Pad.f
    exact Ev.bind (num_ev n (by omega) (by omega)) hu
  · have hi : strconv_Itoa.f n = some (mkB (Lib.itoa n)) := by
      unfold strconv_Itoa.f
      rw [if_pos ⟨by omega, by omega⟩]; rfl
    unfold impl_digits.f
    exact ev_bind0 hi (Ev.congr (fun k => pad_same k _ _) hu)
theorem sz1 (b : UInt8) (t : ByteArray) : ((⟨#[b]⟩ : ByteArray) ++ t).size = 1 + t.size := by rw [size_append]; rfl
theorem sz2 (b : UInt8) (t : ByteArray) : (t ++ (⟨#[b]⟩ : ByteArray)).size = t.size + 1 := by rw [size_append]; rfl
theorem assoc3 (a b c : ByteArray) : (a ++ b) ++ c = a ++ (b ++ c) := L_inj (by rw [L_append, L_append, L_append, L_append, List.append_assoc])
theorem date_text (y m d : Int) (c : Bool) (hy : 1 ≤ y ∧ y ≤ 2999) (hm : 0 ≤ m ∧ m ≤ 12) (hd : 0 ≤ d ∧ d ≤ 31) : ∃ v, Ev (fun k => spec_l3Text.f k y m d c) v ∧ Ev (fun k => impl_formatDate.f k y m d c) v := by
  obtain ⟨Y, sY, iY, zY⟩ := pad_ev y 4 (by omega) (by omega) (by omega)
  obtain ⟨M, sM, iM, zM⟩ := pad_ev m 2 (by omega) (by omega) (by omega)
  obtain ⟨D, sD, iD, zD⟩ := pad_ev d 2 (by omega) (by omega) (by omega)
  have e2 := sz2 45 Y
  have e1 := sz1 45 M
  have e1' := sz1 45 D
  have ny : ¬ y = 0 := by omega
  -- the program: behind the year
  have impl_rest : ∀ x : ByteArray, x.size ≤ 60 → Ev (fun k => impl_formatDate.j0 k x y m d c) (if m > 0 then (if d > 0 then (x ++ ((⟨#[45]⟩ : ByteArray) ++ M)) ++ ((⟨#[45]⟩ : ByteArray) ++ D) else x ++ ((⟨#[45]⟩ : ByteArray) ++ M)) else (if d > 0 then x ++ ((⟨#[45]⟩ : ByteArray) ++ D) else x)) := by
    intro x hx
    have xm : (x ++ ((⟨#[45]⟩ : ByteArray) ++ M)).size = x.size + (1 + M.size) := by rw [size_append, e1]
    by_cases cm : m > 0
    · rw [if_pos cm]
      by_cases cd : d > 0
      · rw [if_pos cd]
        refine Ev.step (f := fun k => (impl_digits.f k m 2).bind fun t135 => (if 1 + t135.size ≤ 9223372036854775807 then (if x.size + ((⟨#[45]⟩ : ByteArray) ++ t135).size ≤ 9223372036854775807 then ((impl_digits.f k d 2).bind fun t136 => (if 1 + t136.size ≤ 9223372036854775807 then (if (x ++ ((⟨#[45]⟩ : ByteArray) ++ t135)).size + ((⟨#[45]⟩ : ByteArray) ++ t136).size ≤ 9223372036854775807 then (some ((x ++ ((⟨#[45]⟩ : ByteArray) ++ t135)) ++ ((⟨#[45]⟩ : ByteArray) ++ t136))) else (none)) else (none))) else (none)) else (none))) (fun k => by simp only [impl_formatDate.j0, if_pos cm, if_pos cd]) ?_
        exact Ev.bind iM (ev_pos (by omega) (ev_pos (by omega) (Ev.bind iD (ev_pos (by omega) (ev_pos (by omega) (Ev.now _))))))
      · rw [if_neg cd]
        refine Ev.step (f := fun k => (impl_digits.f k m 2).bind fun t135 => (if 1 + t135.size ≤ 9223372036854775807 then (if x.size + ((⟨#[45]⟩ : ByteArray) ++ t135).size ≤ 9223372036854775807 then (some (x ++ ((⟨#[45]⟩ : ByteArray) ++ t135))) else (none)) else (none))) (fun k => by simp only [impl_formatDate.j0, if_pos cm, if_neg cd]) ?_
        exact Ev.bind iM (ev_pos (by omega) (ev_pos (by omega) (Ev.now _)))
    · rw [if_neg cm]
      by_cases cd : d > 0
      · rw [if_pos cd]
        refine Ev.step (f := fun k => (impl_digits.f k d 2).bind fun t137 => (if 1 + t137.size ≤ 9223372036854775807 then (if x.size + ((⟨#[45]⟩ : ByteArray) ++ t137).size ≤ 9223372036854775807 then (some (x ++ ((⟨#[45]⟩ : ByteArray) ++ t137))) else (none)) else (none))) (fun k => by simp only [impl_formatDate.j0, if_neg cm, if_pos cd]) ?_
        exact Ev.bind iD (ev_pos (by omega) (ev_pos (by omega) (Ev.now _)))
      · rw [if_neg cd]
        exact Ev.step (f := fun _ => some x) (fun k => by simp only [impl_formatDate.j0, if_neg cm, if_neg cd]) (Ev.now _)
  -- the reference: behind the month
  have spec_rest : ∀ x : ByteArray, x.size ≤ 100 → Ev (fun k => spec_l3Text.j0 k x y m d c) (if d > 0 then (if c = true then (⟨#[99]⟩ : ByteArray) ++ ((x ++ (⟨#[45]⟩ : ByteArray)) ++ D) else (x ++ (⟨#[45]⟩ : ByteArray)) ++ D) else (if c = true then (⟨#[99]⟩ : ByteArray) ++ x else x)) := by
    intro x hx
    have x2 := sz2 45 x
    have x3 : ((x ++ (⟨#[45]⟩ : ByteArray)) ++ D).size = x.size + 1 + D.size := by rw [size_append, x2]
    by_cases cd : d > 0
    · rw [if_pos cd]
      by_cases cc : c = true
      · rw [if_pos cc]
        refine Ev.step (f := fun k => if x.size + 1 ≤ 9223372036854775807 then ((spec_l3Pad.f k d 2).bind fun t120 => (if (x ++ (⟨#[45]⟩ : ByteArray)).size + t120.size ≤ 9223372036854775807 then (if 1 + ((x ++ (⟨#[45]⟩ : ByteArray)) ++ t120).size ≤ 9223372036854775807 then (some ((⟨#[99]⟩ : ByteArray) ++ ((x ++ (⟨#[45]⟩ : ByteArray)) ++ t120))) else (none)) else (none))) else (none)) (fun k => by simp only [spec_l3Text.j0, if_pos cd, if_pos cc]) ?_
        exact ev_pos (by omega) (Ev.bind sD (ev_pos (by omega) (ev_pos (by omega) (Ev.now _))))
      · rw [if_neg cc]
        refine Ev.step (f := fun k => if x.size + 1 ≤ 9223372036854775807 then ((spec_l3Pad.f k d 2).bind fun t120 => (if (x ++ (⟨#[45]⟩ : ByteArray)).size + t120.size ≤ 9223372036854775807 then (some ((x ++ (⟨#[45]⟩ : ByteArray)) ++ t120)) else (none))) else (none)) (fun k => by simp only [spec_l3Text.j0, if_pos cd, if_neg cc]) ?_
        exact ev_pos (by omega) (Ev.bind sD (ev_pos (by omega) (Ev.now _)))
    · rw [if_neg cd]
      by_cases cc : c = true
      · rw [if_pos cc]
        refine Ev.step (f := fun k => if 1 + x.size ≤ 9223372036854775807 then (some ((⟨#[99]⟩ : ByteArray) ++ x)) else (none)) (fun k => by simp only [spec_l3Text.j0, if_neg cd, if_pos cc]) ?_
        exact ev_pos (by omega) (Ev.now _)
      · rw [if_neg cc]
        exact Ev.step (f := fun _ => some x) (fun k => by simp only [spec_l3Text.j0, if_neg cd, if_neg cc]) (Ev.now _)
  have ym : ((Y ++ (⟨#[45]⟩ : ByteArray)) ++ M).size = Y.size + 1 + M.size := by rw [size_append, e2]
  have hspec : Ev (fun k => spec_l3Text.f k y m d c) (if m > 0 then (if d > 0 then (if c = true then (⟨#[99]⟩ : ByteArray) ++ ((((Y ++ (⟨#[45]⟩ : ByteArray)) ++ M) ++ (⟨#[45]⟩ : ByteArray)) ++ D) else (((Y ++ (⟨#[45]⟩ : ByteArray)) ++ M) ++ (⟨#[45]⟩ : ByteArray)) ++ D) else (if c = true then (⟨#[99]⟩ : ByteArray) ++ ((Y ++ (⟨#[45]⟩ : ByteArray)) ++ M) else (Y ++ (⟨#[45]⟩ : ByteArray)) ++ M))
      else (if d > 0 then (if c = true then (⟨#[99]⟩ : ByteArray) ++ ((Y ++ (⟨#[45]⟩ : ByteArray)) ++ D) else (Y ++ (⟨#[45]⟩ : ByteArray)) ++ D) else (if c = true then (⟨#[99]⟩ : ByteArray) ++ Y else Y))) := by
    unfold spec_l3Text.f
    refine ev_neg ny (Ev.bind sY ?_)
    by_cases cm : m > 0
    · rw [if_pos cm]
      exact ev_pos cm (ev_pos (by omega) (Ev.bind sM (ev_pos (by omega) (spec_rest _ (by omega)))))
    · rw [if_neg cm]
      exact ev_neg cm (spec_rest _ (by omega))
  have himpl : Ev (fun k => impl_formatDate.f k y m d c) (if c = true then (if m > 0 then (if d > 0 then (((⟨#[99]⟩ : ByteArray) ++ Y) ++ ((⟨#[45]⟩ : ByteArray) ++ M)) ++ ((⟨#[45]⟩ : ByteArray) ++ D) else ((⟨#[99]⟩ : ByteArray) ++ Y) ++ ((⟨#[45]⟩ : ByteArray) ++ M)) else (if d > 0 then ((⟨#[99]⟩ : ByteArray) ++ Y) ++ ((⟨#[45]⟩ : ByteArray) ++ D) else (⟨#[99]⟩ : ByteArray) ++ Y))
      else (if m > 0 then (if d > 0 then (Y ++ ((⟨#[45]⟩ : ByteArray) ++ M)) ++ ((⟨#[45]⟩ : ByteArray) ++ D) else Y ++ ((⟨#[45]⟩ : ByteArray) ++ M)) else (if d > 0 then Y ++ ((⟨#[45]⟩ : ByteArray) ++ D) else Y))) := by
    unfold impl_formatDate.f
    refine ev_neg ny (Ev.bind iY ?_)
    by_cases cc : c = true
    · rw [if_pos cc]
      have := sz1 99 Y
      exact ev_pos cc (ev_pos (by omega) (impl_rest _ (by omega)))
    · rw [if_neg cc]
      exact ev_neg cc (impl_rest _ (by omega))
  refine ⟨_, hspec, ev_eq himpl ?_⟩
  · by_cases cm : m > 0 <;> by_cases cd : d > 0 <;> cases c <;> simp [cm, cd] <;> simp only [assoc3]
end Go.Proofs.YtcnhdhfhofaocaaGreatDoor.G

namespace Go.Proofs.YtcnhdhfhofaocaaGreatDoor.Pure
open Go.RowKit Go.Proofs.YtcnhdhfhofaocaaGreatDoor.G Go.Proofs.YtcnhdhfhofaocaaGreatDoor.Gl Go.Proofs.YtcnhdhfhofaocaaGreatDoorW.PrintWords Go.Proofs.YtcnhdhfhofaocaaGreatDoorW.PrintLast Go.Proofs.YtcnhdhfhofaocaaGreatDoor.B Go.Proofs.YtcnhdhfhofaocaaGreatDoor.Opn
set_option linter.unusedVariables false
set_option linter.unusedSimpArgs false
theorem ev_shift {α : Type} {f : Nat → Option α} {v : α} (h : Ev (fun k => f (k + 1)) v) : Ev f v := Ev.step (f := fun k => f (k + 1)) (fun _ => rfl) h
def inF (l : List ByteArray) (a : ByteArray) : Bool := l.any fun x => a.toList == x.toList
theorem index_loop (l : List ByteArray) (a : ByteArray) (hl : l.length ≤ 1000) (d : Nat) : ∀ i : Nat, i ≤ l.length → l.length - i = d → ∃ v, Ev (fun k => slices_Index_string_string.l0 k l a (l.length : Int) (i : Int)) v ∧ decide (v ≥ 0) = inF (l.drop i) a := by
  induction d with
  | zero =>
    intro i h1 hd
    refine ⟨-1, Ev.step (f := fun _ => some (-1)) (fun k => ?_) (Ev.now _), ?_⟩
    · simp only [slices_Index_string_string.l0]; rw [if_neg (by omega)]
    · rw [List.drop_of_length_le (by omega)]; rfl
  | succ d ih =>
    intro i h1 hd
    have hi : i < l.length := by omega
    have hw : wrap64 ((i : Int) + 1) = ((i + 1 : Nat) : Int) := by rw [w64 (by omega) (by omega)]; rfl
    have hr := rd_get l i hi
    rw [List.drop_eq_getElem_cons hi]
    by_cases e : a.toList = (l[i]).toList
    · refine ⟨(i : Int), Ev.step (f := fun _ => some (i : Int)) (fun k => ?_) (Ev.now _), ?_⟩
      · simp only [slices_Index_string_string.l0]
        rw [hr, if_pos (by omega), if_pos (by omega), if_pos (by omega), if_pos e]
      · unfold inF; rw [List.any_cons, beq_iff_eq.2 e, decide_eq_true (by omega)]; rfl
    · obtain ⟨v, hv, hd'⟩ := ih (i + 1) (by omega) (by omega)
      refine ⟨v, Ev.step (f := fun k => slices_Index_string_string.l0 k l a (l.length : Int) ((i + 1 : Nat) : Int)) (fun k => ?_) hv, ?_⟩
      · simp only [slices_Index_string_string.l0]
        rw [hr, if_pos (by omega), if_pos (by omega), if_pos (by omega), if_neg e, hw]
      · rw [hd']; unfold inF; rw [List.any_cons, beq_eq_false_iff_ne.2 e]; rfl
theorem isField_ev (a : ByteArray) : Ev (fun k => impl_isField.f k a) (inF fieldsL a) := by
  obtain ⟨v, hv, e⟩ := index_loop fieldsL a (by decide) fieldsL.length 0 (by omega) rfl
  unfold impl_isField.f slices_Contains_string_string.f slices_Index_string_string.f
  rw [List.drop_zero] at e
  exact Ev.bind (a := inF fieldsL a) (Ev.bind hv (ev_eq (Ev.now _) e)) (Ev.now _)
theorem field_ev (K : ByteArray) (kd : Int) (A E : List S80) (T C Pb : ByteArray) (y m d : Int) (c : Bool) (v : Int) (Pg X : ByteArray) (a : ByteArray) (hA : NOk A) (hE : NOk E) (hg : goodD y m d c = true) (hv : 0 ≤ v ∧ v ≤ 9999) :
    ∃ t, Ev (fun k => spec_l4Field.f k K kd A E T C Pb y m d c v Pg X a) (t, inF fieldsL a) ∧ (inF fieldsL a = true → Ev (fun k => impl_fieldText.f k K kd A E T C Pb y m d c v Pg X a) t) ∧ (inF fieldsL a = false → t = (⟨#[]⟩ : ByteArray)) := by
  have ft : (fieldsL.map fun x => x.toList) = [[97, 117, 116, 104, 111, 114, 115], [101, 100, 105, 116, 111, 114, 115], [116, 105, 116, 108, 101], [99, 111, 110, 116, 97, 105, 110, 101, 114], [112, 117, 98, 108, 105, 115, 104, 101, 114], [100, 97, 116, 101], [118, 111, 108, 117, 109, 101], [112, 97, 103, 101, 115]] := by
    unfold fieldsL
    simp only [List.map_cons, List.map_nil, toList_L]
  have iff : inF fieldsL a = (fieldsL.map fun x => x.toList).any fun x => a.toList == x := by unfold inF; rw [List.any_map]; first | done | rfl
  rw [ft] at iff
  simp only [List.any_cons, List.any_nil, Bool.or_false] at iff
  unfold spec_l4Field.f impl_fieldText.f
  by_cases c1 : a.toList = ([97, 117, 116, 104, 111, 114, 115] : List UInt8)
  · have e : inF fieldsL a = true := by rw [iff, c1]; rfl
    rw [e]
    exact ⟨_, ev_pos c1 (Ev.bind (spec_nt A hA) (Ev.now _)), fun _ => ev_pos c1 (Ev.bind (impl_nt A hA) (Ev.now _)), fun h => by cases h⟩
  by_cases c2 : a.toList = ([101, 100, 105, 116, 111, 114, 115] : List UInt8)
  · have e : inF fieldsL a = true := by rw [iff, c2]; rfl
    rw [e]
    exact ⟨_, ev_neg c1 (ev_pos c2 (Ev.bind (spec_nt E hE) (Ev.now _))), fun _ => ev_neg c1 (ev_pos c2 (Ev.bind (impl_nt E hE) (Ev.now _))), fun h => by cases h⟩
  by_cases c3 : a.toList = ([116, 105, 116, 108, 101] : List UInt8)
  · have e : inF fieldsL a = true := by rw [iff, c3]; rfl
    rw [e]
    exact ⟨_, ev_neg c1 (ev_neg c2 (ev_pos c3 (Ev.now _))), fun _ => ev_neg c1 (ev_neg c2 (ev_pos c3 (Ev.now _))), fun h => by cases h⟩
  by_cases c4 : a.toList = ([99, 111, 110, 116, 97, 105, 110, 101, 114] : List UInt8)
  · have e : inF fieldsL a = true := by rw [iff, c4]; rfl
    rw [e]
    exact ⟨_, ev_neg c1 (ev_neg c2 (ev_neg c3 (ev_pos c4 (Ev.now _)))), fun _ => ev_neg c1 (ev_neg c2 (ev_neg c3 (ev_pos c4 (Ev.now _)))), fun h => by cases h⟩
  by_cases c5 : a.toList = ([112, 117, 98, 108, 105, 115, 104, 101, 114] : List UInt8)
  · have e : inF fieldsL a = true := by rw [iff, c5]; rfl
    rw [e]
    exact ⟨_, ev_neg c1 (ev_neg c2 (ev_neg c3 (ev_neg c4 (ev_pos c5 (Ev.now _))))), fun _ => ev_neg c1 (ev_neg c2 (ev_neg c3 (ev_neg c4 (ev_pos c5 (Ev.now _))))), fun h => by cases h⟩
  by_cases c6 : a.toList = ([100, 97, 116, 101] : List UInt8)
  · have e : inF fieldsL a = true := by rw [iff, c6]; rfl
    have n8 : ¬ a.toList = ([112, 97, 103, 101, 115] : List UInt8) := by rw [c6]; decide
    rw [e]
    by_cases y0 : y = 0
    · exact ⟨_, ev_neg c1 (ev_neg c2 (ev_neg c3 (ev_neg c4 (ev_neg c5 (ev_neg n8 (ev_pos c6 (ev_pos y0 (Ev.now _)))))))), fun _ => ev_neg c1 (ev_neg c2 (ev_neg c3 (ev_neg c4 (ev_neg c5 (ev_pos c6 (ev_neg (by omega) (Ev.now _))))))), fun h => by cases h⟩
    · have hb := good_bds hg y0
      obtain ⟨t, sv, iv⟩ := date_text y m d c ⟨hb.1, hb.2.1⟩ ⟨hb.2.2.1, hb.2.2.2.1⟩ hb.2.2.2.2
      exact ⟨_, ev_neg c1 (ev_neg c2 (ev_neg c3 (ev_neg c4 (ev_neg c5 (ev_neg n8 (ev_pos c6 (ev_neg y0 (Ev.bind sv (Ev.now _))))))))), fun _ => ev_neg c1 (ev_neg c2 (ev_neg c3 (ev_neg c4 (ev_neg c5 (ev_pos c6 (ev_pos (by omega) (Ev.bind iv (Ev.now _)))))))), fun h => by cases h⟩
  by_cases c7 : a.toList = ([118, 111, 108, 117, 109, 101] : List UInt8)
  · have e : inF fieldsL a = true := by rw [iff, c7]; rfl
    have n8 : ¬ a.toList = ([112, 97, 103, 101, 115] : List UInt8) := by rw [c7]; decide
    rw [e]
    by_cases v0 : v = 0
    · exact ⟨_, ev_neg c1 (ev_neg c2 (ev_neg c3 (ev_neg c4 (ev_neg c5 (ev_neg n8 (ev_neg c6 (ev_pos c7 (ev_pos v0 (Ev.now _))))))))), fun _ => ev_neg c1 (ev_neg c2 (ev_neg c3 (ev_neg c4 (ev_neg c5 (ev_neg c6 (ev_pos c7 (ev_neg (by omega) (Ev.now _)))))))), fun h => by cases h⟩
    · have hi : strconv_Itoa.f v = some (mkB (Lib.itoa v)) := by
        unfold strconv_Itoa.f
        rw [if_pos ⟨by omega, by omega⟩]; rfl
      exact ⟨_, ev_neg c1 (ev_neg c2 (ev_neg c3 (ev_neg c4 (ev_neg c5 (ev_neg n8 (ev_neg c6 (ev_pos c7 (ev_neg v0 (Ev.bind (num_ev v (by omega) (by omega)) (Ev.now _)))))))))), fun _ => ev_neg c1 (ev_neg c2 (ev_neg c3 (ev_neg c4 (ev_neg c5 (ev_neg c6 (ev_pos c7 (ev_pos (by omega) (ev_bind0 hi (Ev.now _))))))))), fun h => by cases h⟩
  by_cases c8 : a.toList = ([112, 97, 103, 101, 115] : List UInt8)
  · have e : inF fieldsL a = true := by rw [iff, c8]; rfl
    rw [e]
    exact ⟨_, ev_neg c1 (ev_neg c2 (ev_neg c3 (ev_neg c4 (ev_neg c5 (ev_pos c8 (Ev.now _)))))), fun _ => ev_neg c1 (ev_neg c2 (ev_neg c3 (ev_neg c4 (ev_neg c5 (ev_neg c6 (ev_neg c7 (ev_pos c8 (Ev.now _)))))))), fun h => by cases h⟩
  · have e : inF fieldsL a = false := by
      rw [iff, beq_eq_false_iff_ne.2 c1, beq_eq_false_iff_ne.2 c2, beq_eq_false_iff_ne.2 c3, beq_eq_false_iff_ne.2 c4, beq_eq_false_iff_ne.2 c5, beq_eq_false_iff_ne.2 c6, beq_eq_false_iff_ne.2 c7, beq_eq_false_iff_ne.2 c8]; rfl
    rw [e]
    exact ⟨_, ev_neg c1 (ev_neg c2 (ev_neg c3 (ev_neg c4 (ev_neg c5 (ev_neg c8 (ev_neg c6 (ev_neg c7 (Ev.now _)))))))), (fun h => by cases h), fun _ => rfl⟩
theorem n_ok {l : List S80} (h : listD l = true) (hb : ∀ x ∈ l, bulkN x.f0 x.f1 x.f2 x.f3 ≤ 1048576) : NOk l := ⟨(list_good h).1, (list_good h).2, hb⟩
theorem FnExactFieldText : laws_FnExactFieldText.Pur := by
  intro K kd A E T C Pb y m d c v Pg X a hK _ hA hE hT hC hP _ _ _ _ hG hX _
  apply Ev.rounds
  unfold laws_FnExactFieldText.f
  by_cases q0 : (a.size : Int) > 1048576
  · exact ev_pos q0 (Ev.now _)
  refine ev_neg q0 (Ev.bind (szE_ev K kd A E T C Pb y m d c v Pg X hA.2 hA.1 hE.2 hE.1 hK hT hC hP hG hX 1048576 (by omega) (by omega)) ?_)
  by_cases q : (bulkE K A E T C Pb Pg X : Int) ≤ 1048576
  · have hl : lftOf 1048576 (bulkE K A E T C Pb Pg X) = 1048576 - bulkE K A E T C Pb Pg X := by unfold lftOf; rw [if_pos q]
    rw [hl]
    have qA : A.length + bulkL A ≤ 1048576 := by unfold bulkE at q; omega
    have qE : E.length + bulkL E ≤ 1048576 := by unfold bulkE at q; omega
    have oA := conv_ok (l := A) (by omega)
    have oE := conv_ok (l := E) (by omega)
    have lA : (A.map conv).length ≤ 1048576 := by rw [List.length_map]; omega
    have lE : (E.map conv).length ≤ 1048576 := by rw [List.length_map]; omega
    have sA : ∀ x ∈ A, x.f0.length ≤ 1048576 := fun x hx => by have := bulkL_mem hx; unfold bulkN bulkS at this; omega
    have sE : ∀ x ∈ E, x.f0.length ≤ 1048576 := fun x hx => by have := bulkL_mem hx; unfold bulkN bulkS at this; omega
    have bA : ∀ x ∈ A.map conv, bulkN x.f0 x.f1 x.f2 x.f3 ≤ 1048576 := fun x hx => by
      obtain ⟨z, hz, rfl⟩ := List.mem_map.1 hx
      have := bulkL_mem hz
      show bulkN z.f0 z.f1 z.f2 z.f3 ≤ _
      omega
    have bE : ∀ x ∈ E.map conv, bulkN x.f0 x.f1 x.f2 x.f3 ≤ 1048576 := fun x hx => by
      obtain ⟨z, hz, rfl⟩ := List.mem_map.1 hx
      have := bulkL_mem hz
      show bulkN z.f0 z.f1 z.f2 z.f3 ≤ _
      omega
    have ht := toE_ev K kd A E T C Pb y m d c v Pg X (by omega) sA (by omega) sE
    have hs := spec_ent K kd _ _ T C Pb y m d c v Pg X oA lA oE lE
    have hi := impl_ent K kd _ _ T C Pb y m d c v Pg X oA lA oE lE
    have he := eqE_same K kd _ _ T C Pb y m d c v Pg X oA lA oE lE
    have key : ∃ r, Ev (fun k => spec_FieldText.f k K kd (A.map conv) (E.map conv) T C Pb y m d c v Pg X a) r ∧ Ev (fun k => impl_FieldText.f k K kd (A.map conv) (E.map conv) T C Pb y m d c v Pg X a) r := by
      unfold spec_FieldText.f impl_FieldText.f
      cases g : entD K kd (A.map conv) (E.map conv) T C Pb y m d c v Pg X with
      | false =>
        rw [g] at hs hi
        exact ⟨_, Ev.bind hs (ev_neg (by simp) (Ev.now _)), Ev.bind hi (ev_neg (by simp) (Ev.now _))⟩
      | true =>
        rw [g] at hs hi
        have g' := g
        unfold entD headE tailE at g'
        simp only [Bool.and_eq_true] at g'
        have hv : 0 ≤ v ∧ v ≤ 9999 := by
          have := g'.2.2.1.2
          unfold volD at this
          simpa using this
        obtain ⟨t, st, it, nt⟩ := field_ev K kd (A.map conv) (E.map conv) T C Pb y m d c v Pg X a (n_ok g'.1.2.2.1 bA) (n_ok g'.1.2.2.2 bE) g'.2.2.1.1 hv
        cases f : inF fieldsL a with
        | true =>
          have hf := isField_ev a
          rw [f] at st hf
          exact ⟨(t, true), Ev.bind hs (ev_pos rfl (Ev.bind st (Ev.now _))), Ev.bind hi (ev_pos rfl (Ev.bind hf (ev_pos rfl (Ev.bind (it f) (Ev.now _)))))⟩
        | false =>
          have hf := isField_ev a
          have e := nt f
          rw [f] at st hf
          rw [e] at st
          exact ⟨((⟨#[]⟩ : ByteArray), false), Ev.bind hs (ev_pos rfl (Ev.bind st (Ev.now _))), Ev.bind hi (ev_pos rfl (Ev.bind hf (ev_neg (by simp) (Ev.now _))))⟩
    obtain ⟨r, hsf, hif⟩ := key
    have hj : Ev (fun k => laws_FnExactFieldText.j0 k false K kd A E T C Pb y m d c v Pg X K kd (A.map conv) (E.map conv) T C Pb y m d c v Pg X) true := by
      apply ev_shift
      simp only [laws_FnExactFieldText.j0]
      exact ev_neg (by decide) (Ev.bind ht (Ev.bind he (ev_pos rfl (Ev.now _))))
    refine ev_neg (by omega) (Ev.bind ht (Ev.bind hsf (Ev.bind ht (Ev.bind hif (ev_pos rfl ?_)))))
    have e : (r.2 != r.2) = false := by simp
    rw [e]
    exact hj
  · have hl : lftOf 1048576 (bulkE K A E T C Pb Pg X) = -1 := by unfold lftOf; rw [if_neg q]
    rw [hl]
    exact ev_pos (by omega) (Ev.now _)
end Go.Proofs.YtcnhdhfhofaocaaGreatDoor.Pure
