/- Texts of this session for the law FnExactPlainTitle, put together by a program (merge.py): each ends with its namespace; conditions stand with each theorem. -/
import Derived.Test.YtcbmccjbhfggjaaDoorKFnExactPlainTitle1
import Derived.Lib.Replace
import Derived.Laws.BytesArg
namespace Go.Proofs.YtcbmccjbhfggjaaDoor.B
open Go.RowKit Go.Proofs.YtcbmccjbhfggjaaDoorW.PrintWords Go.Proofs.YtcbmccjbhfggjaaDoorW.PrintLast
set_option linter.unusedVariables false
set_option linter.unusedSimpArgs false
theorem filter_all (c : UInt8) (l : List UInt8) (h : c ∉ l) : l.filter (fun x => x != c) = l := by
  rw [List.filter_eq_self]
  intro x hx
  have : x ≠ c := fun e => h (e ▸ hx)
  simpa using this
theorem repK_out (c : UInt8) (n : Nat) : ∀ l : List UInt8, l.length ≤ n → Lib.replaceK [c] [] (Lib.count l [c]) l = l.filter (fun x => x != c) := by
  induction n with
  | zero =>
    intro l hl
    have : l = [] := List.length_eq_zero_iff.1 (by omega)
    subst this
    rw [Lib.count_miss (by rw [Lib.index_one]; rfl)]; rfl
  | succ n ih =>
    intro l hl
    by_cases h : c ∈ l
    · have hn := (ix_nn l c).2 h
      obtain ⟨o, ho⟩ : ∃ o : Nat, Lib.indexByte l c = o := ⟨(Lib.indexByte l c).toNat, by omega⟩
      obtain ⟨i, hi, hcut, _, hno, hl2⟩ := cut_hit l c h
      have e : o = i := by
        have h2 : Lib.cut l [c] = (l.take o, l.drop (o + 1), true) := by
          unfold Lib.cut
          rw [Lib.index_one, ho, if_pos (by omega)]; simp
        have h3 := congrArg (fun z => z.1.length) (h2.symm.trans hcut)
        simp only [List.length_take] at h3
        have h4 : o < l.length := by
          obtain ⟨a, _⟩ := Lib.indexByte_some ho
          by_cases z : o < l.length
          · exact z
          · rw [List.getElem?_eq_none (by omega)] at a; cases a
        omega
      subst e
      have hix : Lib.index l [c] = o := by rw [Lib.index_one]; exact ho
      have hr : Lib.replaceK [c] [] (Lib.count (l.drop (o + 1)) [c]) (l.drop (o + 1)) = (l.drop (o + 1)).filter (fun x => x != c) := ih (l.drop (o + 1)) (by rw [List.length_drop]; omega)
      rw [Lib.count_hit (by simp) hix, Nat.add_comm 1, Lib.replaceK_hit _ _ _ _ _ hix]
      show l.take o ++ [] ++ Lib.replaceK [c] [] (Lib.count (l.drop (o + 1)) [c]) (l.drop (o + 1)) = _
      rw [hr, List.append_nil]
      conv => rhs; rw [hl2]
      rw [List.filter_append, filter_all c _ hno, List.filter_cons_of_neg (by simp)]
    · have hm : Lib.indexByte l c = -1 := by
        have a := Lib.indexByte_ge l c
        have b := mt (ix_nn l c).1 h
        omega
      rw [Lib.count_miss (by rw [Lib.index_one]; exact hm), filter_all c l h]; rfl
theorem repAll_out (c : UInt8) (l : List UInt8) : Lib.replaceAll l [c] [] = l.filter (fun x => x != c) := by
  unfold Lib.replaceAll Lib.replace Lib.replaceNum
  rw [if_neg (by simp), if_pos (Or.inl (by omega))]
  exact repK_out c l.length l (Nat.le_refl _)
end Go.Proofs.YtcbmccjbhfggjaaDoor.B

namespace Go.Proofs.YtcbmccjbhfggjaaDoor.Pure
open Go.RowKit Go.Proofs.YtcbmccjbhfggjaaDoor.G Go.Proofs.YtcbmccjbhfggjaaDoorW.PrintWords Go.Proofs.YtcbmccjbhfggjaaDoorW.PrintLast Go.Proofs.YtcbmccjbhfggjaaDoor.B Go.Proofs.YtcbmccjbhfggjaaDoor.Opn
set_option linter.unusedVariables false
set_option linter.unusedSimpArgs false
def keepB (x : UInt8) : Bool := x != 123 && x != 125
def numsOf (l : List UInt8) : List Int := l.map fun b => (b.toNat : Int)
theorem strOf_nums (l : List UInt8) : strOfNums (numsOf l) = mkB l := by
  apply L_inj
  rw [L_mk]
  show (numsOf l).map (fun n => UInt8.ofNat n.toNat) = l
  unfold numsOf
  rw [List.map_map]
  conv => rhs; rw [← List.map_id l]
  apply List.map_congr_left
  intro b _
  simp
theorem plain_loop (s : ByteArray) (hs : s.size ≤ 100) (d : Nat) : ∀ (i : Nat) (out : List Int), out.length ≤ i → i ≤ s.size → s.size - i = d →
    Ev (fun k => spec_l6Plain.l0 k s out (i : Int)) (strOfNums (out ++ numsOf (((L s).drop i).filter keepB))) := by
  have hL : (L s).length = s.size := L_len s
  induction d with
  | zero =>
    intro i out h0 h1 hd
    refine Ev.step (f := fun _ => some (strOfNums out)) (fun k => ?_) (ev_eq (Ev.now _) ?_)
    · simp only [spec_l6Plain.l0]; rw [if_neg (by omega)]
    · rw [List.drop_of_length_le (by omega)]; simp [numsOf]
  | succ d ih =>
    intro i out h0 h1 hd
    have hi : i < s.size := by omega
    have hi' : i < (L s).length := by omega
    have hw : wrap64 ((i : Int) + 1) = ((i + 1 : Nat) : Int) := by rw [w64 (by omega) (by omega)]; rfl
    have hb := bt_get s i hi
    rw [List.drop_eq_getElem_cons hi', List.filter_cons]
    generalize (L s)[i]'hi' = b at hb ⊢
    have a1 : (i : Int) < (s.size : Int) := by omega
    have a2 : (0 : Int) ≤ (i : Int) := by omega
    by_cases c1 : b = 123
    · have e : bt s (i : Int) = 123 := by rw [hb, c1]; rfl
      refine Ev.step (f := fun k => spec_l6Plain.l0 k s out ((i + 1 : Nat) : Int)) (fun k => ?_) (ev_eq (ih (i + 1) out (by omega) (by omega) (by omega)) ?_)
      · simp only [spec_l6Plain.l0, if_pos a1, if_pos a2, if_pos e, hw]
      · rw [if_neg (by simp [keepB, c1])]
    · have e1 : ¬ bt s (i : Int) = 123 := fun h => c1 (u8_inj (by rw [← hb, h]; rfl))
      by_cases c2 : b = 125
      · have e : bt s (i : Int) = 125 := by rw [hb, c2]; rfl
        refine Ev.step (f := fun k => spec_l6Plain.l0 k s out ((i + 1 : Nat) : Int)) (fun k => ?_) (ev_eq (ih (i + 1) out (by omega) (by omega) (by omega)) ?_)
        · simp only [spec_l6Plain.l0, if_pos a1, if_pos a2, if_neg e1, if_pos e, hw]
        · rw [if_neg (by simp [keepB, c2])]
      · have e2 : ¬ bt s (i : Int) = 125 := fun h => c2 (u8_inj (by rw [← hb, h]; rfl))
        have a3 : out.length < 140737488355328 := by omega
        refine Ev.step (f := fun k => spec_l6Plain.l0 k s (out ++ [bt s (i : Int)]) ((i + 1 : Nat) : Int)) (fun k => ?_) (ev_eq (ih (i + 1) (out ++ [bt s (i : Int)]) (by simp; omega) (by omega) (by omega)) ?_)
        · simp only [spec_l6Plain.l0, if_pos a1, if_pos a2, if_neg e1, if_neg e2, if_pos a3, hw]
        · rw [if_pos (by simp [keepB, c1, c2]), hb]
          simp [numsOf]
theorem rep_f (s : ByteArray) (c : UInt8) (hs : s.size ≤ 4294967280) : strings_ReplaceAll.f s (⟨#[c]⟩ : ByteArray) (⟨#[]⟩ : ByteArray) = some (mkB ((L s).filter fun x => x != c)) := by
  have e1 : (⟨#[c]⟩ : ByteArray).size = 1 := rfl
  have e0 : (⟨#[]⟩ : ByteArray).size = 0 := rfl
  unfold strings_ReplaceAll.f
  rw [if_pos ⟨by omega, by omega, by rw [e0, Nat.mul_zero]; omega⟩]
  refine congrArg some ?_
  show mkB (Lib.replaceAll (L s) [c] []) = _
  rw [repAll_out]
theorem impl_plain (s : ByteArray) (hs : s.size ≤ 4294967280) : impl_plainTitle.f s = some (mkB ((L s).filter keepB)) := by
  have h2 : (mkB ((L s).filter fun x => x != 123)).size ≤ s.size := by
    rw [size_mk, ← L_len]; exact List.length_filter_le _ _
  unfold impl_plainTitle.f
  rw [rep_f s 123 hs]
  show ((strings_ReplaceAll.f (mkB ((L s).filter fun x => x != 123)) _ _).bind fun t => some t) = _
  rw [rep_f _ 125 (by omega), L_mk, List.filter_filter]
  refine congrArg some (congrArg mkB (List.filter_congr fun x _ => ?_))
  unfold keepB
  rw [Bool.and_comm]
theorem FnExactPlainTitle : laws_FnExactPlainTitle.Pur := by
  intro s _
  apply Ev.rounds
  unfold laws_FnExactPlainTitle.f
  by_cases g : (s.size : Int) > 1048576
  · exact ev_pos g (Ev.now _)
  refine ev_neg g ?_
  have key : ∃ r, Ev (fun k => spec_PlainTitle.f k s) r ∧ Ev (fun k => impl_PlainTitle.f k s) r := by
    unfold spec_PlainTitle.f impl_PlainTitle.f
    cases h : titleD s with
    | false =>
      have a := spec_title s
      have b := impl_title s
      rw [h] at a b
      exact ⟨_, Ev.bind a (ev_neg (by simp) (Ev.now _)), Ev.bind b (ev_neg (by simp) (Ev.now _))⟩
    | true =>
      have a := spec_title s
      have b := impl_title s
      rw [h] at a b
      have hsz := (title_size h).2
      have p := plain_loop s hsz _ 0 [] (by simp) (by omega) rfl
      rw [List.nil_append, List.drop_zero, strOf_nums] at p
      exact ⟨(mkB ((L s).filter keepB), true), Ev.bind a (ev_pos rfl (Ev.bind (g := fun k => spec_l6Plain.f k s) p (Ev.now _))), Ev.bind b (ev_pos rfl (ev_bind0 (impl_plain s (by omega)) (Ev.now _)))⟩
  obtain ⟨r, hs, hi⟩ := key
  exact Ev.bind hs (Ev.bind hi (ev_pos rfl (ev_neg (by simp) (Ev.now _))))
end Go.Proofs.YtcbmccjbhfggjaaDoor.Pure
