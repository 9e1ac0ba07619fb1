/- Texts of this session for the law FnNameLists, put together by a program (merge.py): each ends with its namespace; conditions stand with each theorem. -/
import Derived.Test.YtieieapacepabaaDoorKFnNameLists5
import Derived.Test.YtieieapacepabaaDoorKFnNameLists3
import Derived.Test.YtieieapacepabaaDoorKFnNameLists4
import Derived.Test.YtieieapacepabaaDoorKFnNameLists2
namespace Go.Proofs.YtieieapacepabaaDoor.G
open Go.RowKit Go.Proofs.YtieieapacepabaaDoorW.PrintWords Go.Proofs.YtieieapacepabaaDoorW.PrintLast Go.Proofs.YtieieapacepabaaDoor.B
set_option linter.unusedVariables false
set_option linter.unusedSimpArgs false
def sufD (S : ByteArray) : Bool := decide (S.size = 0) || wordD S
def restD (P F S : ByteArray) : Bool := partD P && (greatD F && sufD S)
def goodN (G : List ByteArray) (P F S : ByteArray) : Bool := G.all greatD && (decide (G.length ≤ 3) && restD P F S)
theorem spec_tail (P F S : ByteArray) (hP : P.size ≤ 4294967280) : Ev (fun k => (spec_l2Particle.f k P).bind fun t134 => (if t134 = true then ((spec_l2Word.f k F).bind fun t135 => (if t135 = true then (if 0 < (F.size : Int) then ((spec_l2Upper.f (bt F 0)).bind fun t136 => (if t136 = true then (if S.toList = ([] : List UInt8) then (some true) else ((spec_l2Word.f k S).bind fun t137 => (some t137))) else (some false))) else (none)) else (some false))) else (some false))) (restD P F S) := by
  unfold restD
  refine Ev.bind (spec_part P hP) ?_
  cases partD P with
  | false => exact ev_neg (by simp) (Ev.now _)
  | true =>
    refine ev_pos rfl (Ev.bind (spec_word F) ?_)
    unfold greatD
    cases h : wordD F with
    | false => exact ev_neg (by simp) (Ev.now _)
    | true =>
      have := word_in h
      refine ev_pos rfl (ev_pos (by omega) (ev_bind0 (spec_up _) ?_))
      cases upD (bt F 0) with
      | false => exact ev_neg (by simp) (Ev.now _)
      | true =>
        refine ev_pos rfl ?_
        unfold sufD
        by_cases h : S.size = 0
        · exact ev_pos ((nil_iff S).2 h) (ev_eq (Ev.now _) (by simp [h]))
        · exact ev_neg (fun e => h ((nil_iff S).1 e)) (Ev.bind (spec_word S) (ev_eq (Ev.now _) (by simp [h])))
theorem spec_good_loop (G : List ByteArray) (P F S : ByteArray) (hG : G.length ≤ 4611686018427387904) (hP : P.size ≤ 4294967280) (d : Nat) : ∀ i : Nat, i ≤ G.length → G.length - i = d →
    Ev (fun k => spec_l2Good.l0 k (i : Int) G P F S) ((G.drop i).all greatD && (decide (G.length ≤ 3) && restD P F S)) := by
  induction d with
  | zero =>
    intro i h1 hd
    refine Ev.step (f := fun k => if (G.length : Int) ≤ 3 then ((spec_l2Particle.f k P).bind fun t134 => (if t134 = true then ((spec_l2Word.f k F).bind fun t135 => (if t135 = true then (if 0 < (F.size : Int) then ((spec_l2Upper.f (bt F 0)).bind fun t136 => (if t136 = true then (if S.toList = ([] : List UInt8) then (some true) else ((spec_l2Word.f k S).bind fun t137 => (some t137))) else (some false))) else (none)) else (some false))) else (some false))) else some false) (fun k => ?_) ?_
    · simp only [spec_l2Good.l0]; rw [if_neg (by omega)]
    · rw [List.drop_of_length_le (by omega)]
      by_cases h : G.length ≤ 3
      · exact ev_pos (by omega) (ev_eq (spec_tail P F S hP) (by simp [h]))
      · exact ev_neg (by omega) (ev_eq (Ev.now _) (by simp [h]))
  | succ d ih =>
    intro i h1 hd
    have hi : i < G.length := by omega
    have hw : wrap64 ((i : Int) + 1) = ((i + 1 : Nat) : Int) := by rw [w64 (by omega) (by omega)]; rfl
    rw [List.drop_eq_getElem_cons hi, List.all_cons, Bool.and_assoc]
    refine Ev.step (f := fun k => (spec_l2Word.f k G[i]).bind fun t131 => (if t131 = true then (if 0 < ((G[i]).size : Int) then ((spec_l2Upper.f (bt G[i] 0)).bind fun t133 => (if t133 = true then (spec_l2Good.l0 k ((i + 1 : Nat) : Int) G P F S) else (some false))) else (none)) else (some false))) (fun k => ?_) ?_
    · simp only [spec_l2Good.l0, rd_get G i hi]
      rw [if_pos (by omega), if_pos (by omega), hw]
    · refine Ev.bind (spec_word _) ?_
      rw [show greatD G[i] = (wordD G[i] && upD (bt G[i] 0)) from rfl]
      cases h : wordD G[i] with
      | false => exact ev_neg (by simp) (ev_eq (Ev.now _) (by simp))
      | true =>
        have := word_in h
        refine ev_pos rfl (ev_pos (by omega) (ev_bind0 (spec_up _) ?_))
        cases upD (bt G[i] 0) with
        | false => exact ev_neg (by simp) (ev_eq (Ev.now _) (by simp))
        | true => exact ev_pos rfl (ev_eq (ih (i + 1) (by omega) (by omega)) (by simp))
theorem spec_name (G : List ByteArray) (P F S : ByteArray) (hG : G.length ≤ 4611686018427387904) (hP : P.size ≤ 4294967280) : Ev (fun k => spec_l2Good.f k G P F S) (goodN G P F S) := by
  have := spec_good_loop G P F S hG hP _ 0 (by omega) rfl
  unfold spec_l2Good.f goodN
  rw [List.drop_zero] at this
  exact this
theorem idx_loop (G : List ByteArray) (hG : G.length ≤ 4611686018427387904) (d : Nat) : ∀ i : Nat, i ≤ G.length → G.length - i = d →
    ∃ v, Ev (fun k => slices_IndexFunc_string_string_at_42.l0 k G (G.length : Int) (i : Int)) v ∧ decide (v ≥ 0) = !((G.drop i).all greatD) := by
  induction d with
  | zero =>
    intro i h1 hd
    refine ⟨-1, Ev.step (f := fun _ => some (-1)) (fun k => ?_) (Ev.now _), ?_⟩
    · simp only [slices_IndexFunc_string_string_at_42.l0]; rw [if_neg (by omega)]
    · rw [List.drop_of_length_le (by omega)]; simp
  | succ d ih =>
    intro i h1 hd
    have hi : i < G.length := by omega
    have hw : wrap64 ((i : Int) + 1) = ((i + 1 : Nat) : Int) := by rw [w64 (by omega) (by omega)]; rfl
    rw [List.drop_eq_getElem_cons hi, List.all_cons]
    have hst : ∀ v, Ev (fun k => (impl_IsValidName_1.f k G[i]).bind fun t => if t = true then some (i : Int) else slices_IndexFunc_string_string_at_42.l0 k G (G.length : Int) ((i + 1 : Nat) : Int)) v → Ev (fun k => slices_IndexFunc_string_string_at_42.l0 k G (G.length : Int) (i : Int)) v := by
      intro v hv
      refine Ev.step (fun k => ?_) hv
      simp only [slices_IndexFunc_string_string_at_42.l0, rd_get G i hi]
      rw [if_pos (by omega), if_pos (by omega), if_pos (by omega), hw]
    have hf : Ev (fun k => impl_IsValidName_1.f k G[i]) (!greatD G[i]) := by
      unfold impl_IsValidName_1.f
      exact Ev.bind (impl_great _) (Ev.now _)
    cases h : greatD G[i] with
    | true =>
      obtain ⟨v, hv, e⟩ := ih (i + 1) (by omega) (by omega)
      refine ⟨v, hst v (Ev.bind hf (ev_neg (by simp [h]) hv)), ?_⟩
      rw [e]; simp
    | false =>
      refine ⟨(i : Int), hst _ (Ev.bind hf (ev_pos (by simp [h]) (Ev.now _))), ?_⟩
      simp
theorem contains_ev (G : List ByteArray) (hG : G.length ≤ 4611686018427387904) : Ev (fun k => slices_ContainsFunc_string_string_at_42.f k G) (!(G.all greatD)) := by
  obtain ⟨v, hv, e⟩ := idx_loop G hG _ 0 (by omega) rfl
  unfold slices_ContainsFunc_string_string_at_42.f slices_IndexFunc_string_string_at_42.f
  rw [List.drop_zero] at e
  exact Ev.bind hv (ev_eq (Ev.now _) e)
theorem impl_valid (G : List ByteArray) (P F S : ByteArray) (hG : G.length ≤ 4611686018427387904) (hP : P.size ≤ 4294967280) : Ev (fun k => impl_IsValidName.f k G P F S) (goodN G P F S) := by
  have hj1 : Ev (fun k => impl_IsValidName.j0 k true G P F S) false := Ev.step (f := fun _ => some false) (fun k => by simp [impl_IsValidName.j0]) (Ev.now _)
  have hj0 : Ev (fun k => impl_IsValidName.j0 k false G P F S) (restD P F S) := by
    refine Ev.step (f := fun k => (impl_isParticle.f k P).bind fun t172 => (if t172 = true then ((impl_isGreatWord.f k F).bind fun t173 => (if t173 = true then (if S.toList = ([] : List UInt8) then (some true) else ((impl_isNameWord.f k S).bind fun t174 => (some t174))) else (some false))) else (some false))) (fun k => by simp [impl_IsValidName.j0]) ?_
    unfold restD
    refine Ev.bind (impl_part P hP) ?_
    cases partD P with
    | false => exact ev_neg (by simp) (Ev.now _)
    | true =>
      refine ev_pos rfl (Ev.bind (impl_great F) ?_)
      cases greatD F with
      | false => exact ev_neg (by simp) (Ev.now _)
      | true =>
        refine ev_pos rfl ?_
        unfold sufD
        by_cases h : S.size = 0
        · exact ev_pos ((nil_iff S).2 h) (ev_eq (Ev.now _) (by simp [h]))
        · exact ev_neg (fun e => h ((nil_iff S).1 e)) (Ev.bind (impl_word S) (ev_eq (Ev.now _) (by simp [h])))
  unfold impl_IsValidName.f goodN
  by_cases h : G.length ≤ 3
  · refine ev_neg (by omega) (Ev.bind (contains_ev G hG) ?_)
    cases G.all greatD with
    | true => exact ev_eq hj0 (by simp [h])
    | false => exact ev_eq hj1 (by simp)
  · exact ev_pos (by omega) (ev_eq hj1 (by simp [h]))
def bulkN (G : List ByteArray) (P F S : ByteArray) : Nat := bulkS G + P.size + F.size + S.size

end Go.Proofs.YtieieapacepabaaDoor.G

namespace Go.Proofs.YtieieapacepabaaDoor.G
open Go.RowKit Go.Proofs.YtieieapacepabaaDoorW.PrintWords Go.Proofs.YtieieapacepabaaDoorW.PrintLast Go.Proofs.YtieieapacepabaaDoor.B Go.Proofs.YtieieapacepabaaDoor.Opn
set_option linter.unusedVariables false
set_option linter.unusedSimpArgs false
theorem of_sz {l : List Int} (h : BtL l) (a s : Int) (ts : List ByteArray) (n : Nat) (h0 : 0 ≤ a) (h1 : a ≤ 2305843009213693000) (hn : 1 ≤ ts.length) (hs : ts.all (fun t => decide (t.size ≤ n)) = true) : ∃ x a' s', spec_l1Cur_of.f l a s ts = some (x, a', s') ∧ x.size ≤ n ∧ a ≤ a' ∧ a' ≤ a + 2 := by
  obtain ⟨x, a', s', e, hx, b, b'⟩ := of_ex h a s ts h0 h1 hn
  exact ⟨x, a', s', e, of_decide_eq_true (List.all_eq_true.1 hs x hx), b, b'⟩
theorem one_ex {l : List Int} (h : BtL l) (a s n : Int) (h0 : 0 ≤ a) (h1 : a ≤ 2305843009213693000) (hn : 1 ≤ n) : ∃ x a' s', spec_l1Cur_one.f l a s n = some (x, a', s') ∧ a ≤ a' ∧ a' ≤ a + 2 := by
  unfold spec_l1Cur_one.f
  obtain ⟨x, a', s', e, b0, b1, b2, b3⟩ := pick_ex h a s n h0 h1 hn
  rw [e]
  exact ⟨_, _, _, rfl, b2, b3⟩
theorem bulk_app (l : List ByteArray) (x : ByteArray) : bulkS (l ++ [x]) = bulkS l + x.size + 1 := by
  unfold bulkS bytesS
  simp
  omega
theorem name_j1 {c : List Int} (h : BtL c) (a s : Int) (G : List ByteArray) (P F S : ByteArray) (h0 : 0 ≤ a) (h1 : a ≤ 2305843009213692000) :
    ∃ S' a' s', Ev (fun k => spec_l1Cur_name.j1 k c a s G P F S) (G, P, F, S', a', s') ∧ S'.size ≤ S.size + 3 ∧ a ≤ a' ∧ a' ≤ a + 4 := by
  obtain ⟨b, a1, s1, e1, b1, c1⟩ := one_ex h a s 5 h0 (by omega) (by omega)
  cases b with
  | true =>
    obtain ⟨x, a2, s2, e2, hx, b2, c2⟩ := of_sz h a1 s1 [(⟨#[74, 114]⟩ : ByteArray), (⟨#[73, 73, 73]⟩ : ByteArray), (⟨#[106, 114]⟩ : ByteArray)] 3 (by omega) (by omega) (by decide) (by decide)
    refine ⟨x, a2, s2, Ev.step (f := fun _ => some (G, P, F, x, a2, s2)) (fun k => ?_) (Ev.now _), by omega, by omega, by omega⟩
    simp only [spec_l1Cur_name.j1]
    rw [e1]
    simp only [Option.bind_some]
    rw [if_pos trivial, e2]
    rfl
  | false =>
    refine ⟨S, a1, s1, Ev.step (f := fun _ => some (G, P, F, S, a1, s1)) (fun k => ?_) (Ev.now _), by omega, by omega, by omega⟩
    simp only [spec_l1Cur_name.j1]
    rw [e1]
    simp only [Option.bind_some]
    rw [if_neg (by simp)]
theorem name_l0 {c : List Int} (h : BtL c) (P F S : ByteArray) (d : Nat) : ∀ (a s : Int) (G : List ByteArray), 0 ≤ a → a + 2 * d ≤ 2305843009213690000 → bulkS G + 10 * d ≤ 1000 →
    ∃ G' P' S' a' s', Ev (fun k => spec_l1Cur_name.l0 k (d : Int) c a s G P F S) (G', P', F, S', a', s') ∧ bulkS G' ≤ bulkS G + 10 * d ∧ P'.size ≤ P.size + 7 ∧ S'.size ≤ S.size + 3 ∧ a ≤ a' ∧ a' ≤ a + 2 * d + 8 := by
  induction d with
  | zero =>
    intro a s G h0 h1 hb
    obtain ⟨b, a1, s1, e1, b1, c1⟩ := one_ex h a s 3 h0 (by omega) (by omega)
    cases b with
    | true =>
      obtain ⟨x, a2, s2, e2, hx, b2, c2⟩ := of_sz h a1 s1 [(⟨#[118, 97, 110]⟩ : ByteArray), (⟨#[100, 101]⟩ : ByteArray), (⟨#[118, 97, 110, 32, 100, 101, 114]⟩ : ByteArray)] 7 (by omega) (by omega) (by decide) (by decide)
      obtain ⟨S', a3, s3, hE, hS, b3, c3⟩ := name_j1 h a2 s2 G x F S (by omega) (by omega)
      refine ⟨G, x, S', a3, s3, Ev.step (f := fun k => spec_l1Cur_name.j1 k c a2 s2 G x F S) (fun k => ?_) hE, by omega, by omega, hS, by omega, by omega⟩
      simp only [spec_l1Cur_name.l0]
      rw [if_neg (by omega), e1]
      simp only [Option.bind_some]
      rw [if_pos trivial, e2]
      rfl
    | false =>
      obtain ⟨S', a3, s3, hE, hS, b3, c3⟩ := name_j1 h a1 s1 G P F S (by omega) (by omega)
      refine ⟨G, P, S', a3, s3, Ev.step (f := fun k => spec_l1Cur_name.j1 k c a1 s1 G P F S) (fun k => ?_) hE, by omega, by omega, hS, by omega, by omega⟩
      simp only [spec_l1Cur_name.l0]
      rw [if_neg (by omega), e1]
      simp only [Option.bind_some]
      rw [if_neg (by simp)]
  | succ d ih =>
    intro a s G h0 h1 hb
    obtain ⟨x, a1, s1, e1, hx, b1, c1⟩ := of_sz h a s [(⟨#[65, 110, 110, 97]⟩ : ByteArray), (⟨#[65]⟩ : ByteArray), (⟨#[74, 101, 97, 110, 45, 80, 97, 117, 108]⟩ : ByteArray), (⟨#[77, 97, 114, 105, 97]⟩ : ByteArray), (⟨#[66]⟩ : ByteArray), (⟨#[66, 101, 110]⟩ : ByteArray), (⟨#[74, 101, 97, 110, 45, 112, 97, 117, 108]⟩ : ByteArray)] 9 h0 (by omega) (by decide) (by decide)
    have hl : G.length ≤ bulkS G := by unfold bulkS; omega
    have hA := bulk_app G x
    obtain ⟨G', P', S', a', s', hE, hG, hP, hS, b2, c2⟩ := ih a1 s1 (G ++ [x]) (by omega) (by omega) (by omega)
    refine ⟨G', P', S', a', s', Ev.step (f := fun k => spec_l1Cur_name.l0 k (d : Int) c a1 s1 (G ++ [x]) P F S) (fun k => ?_) hE, by omega, hP, hS, by omega, by omega⟩
    simp only [spec_l1Cur_name.l0]
    rw [if_pos (by omega), e1]
    simp only [Option.bind_some]
    rw [if_pos (by omega), show wrap64 (((d + 1 : Nat) : Int) - 1) = (d : Int) from by rw [w64 (by omega) (by omega)]; omega]
theorem name_ex {c : List Int} (h : BtL c) (a s : Int) (h0 : 0 ≤ a) (h1 : a ≤ 2305843009213680000) :
    ∃ G P F S a' s', Ev (fun k => spec_l1Cur_name.f k c a s) (G, P, F, S, a', s') ∧ bulkN G P F S ≤ 100 ∧ a ≤ a' ∧ a' ≤ a + 20 := by
  unfold spec_l1Cur_name.f
  obtain ⟨x, a1, s1, e1, hx, b1, c1⟩ := of_sz h a s ([(⟨#[66, 101, 114, 103]⟩ : ByteArray), (⟨#[83, 109, 105, 116, 104]⟩ : ByteArray), (⟨#[79, 39, 78, 101, 105, 108, 108]⟩ : ByteArray), (⟨#[76, 101, 101]⟩ : ByteArray), (⟨#[66, 101, 114, 103, 45, 72, 97, 108, 108]⟩ : ByteArray), (⟨#[115, 109, 105, 116, 104, 115, 111, 110]⟩ : ByteArray)].take 5) 9 h0 (by omega) (by decide) (by decide)
  obtain ⟨n, a2, s2, e2, n0, n1, b2, c2⟩ := pick_ex h a1 s1 3 (by omega) (by omega) (by omega)
  have hd : ((n.toNat : Nat) : Int) = n := by omega
  obtain ⟨G', P', S', a', s', hE, hG, hP, hS, b3, c3⟩ := name_l0 h (⟨#[]⟩ : ByteArray) x (⟨#[]⟩ : ByteArray) n.toNat a2 s2 [] (by omega) (by omega) (by simp [bulkS, bytesS]; omega)
  rw [hd] at hE
  refine ⟨G', P', x, S', a', s', ev_bind0 rfl (ev_pos (by decide) (ev_bind0 e1 (ev_bind0 e2 hE))), ?_, by omega, by omega⟩
  have hz : bulkS ([] : List ByteArray) = 0 := by simp [bulkS, bytesS]
  have he : (⟨#[]⟩ : ByteArray).size = 0 := rfl
  unfold bulkN
  omega
theorem any_ex {c : List Int} (h : BtL c) (a s : Int) (h0 : 0 ≤ a) (h1 : a ≤ 2305843009213670000) :
    ∃ G P F S a' s', Ev (fun k => spec_l1Cur_anyName.f k c a s) (G, P, F, S, a', s') ∧ bulkN G P F S ≤ 200 ∧ a ≤ a' ∧ a' ≤ a + 30 := by
  unfold spec_l1Cur_anyName.f
  obtain ⟨G, P, F, S, a1, s1, hE, hB, b1, c1⟩ := name_ex h a s h0 (by omega)
  obtain ⟨n, a2, s2, e2, n0, n1, b2, c2⟩ := pick_ex h a1 s1 16 (by omega) (by omega) (by omega)
  by_cases z0 : n = 0
  · obtain ⟨x, a3, s3, e3, hx, b3, c3⟩ := of_sz h a2 s2 [(⟨#[]⟩ : ByteArray), (⟨#[98, 101, 114, 103]⟩ : ByteArray), (⟨#[66, 45]⟩ : ByteArray), (⟨#[66, 45, 45, 99]⟩ : ByteArray), (⟨#[65, 98, 99, 100, 101, 102, 103, 104, 105, 106, 107, 108]⟩ : ByteArray), (⟨#[65, 98, 99, 100, 101, 102, 103, 104, 105, 106, 107, 108, 109]⟩ : ByteArray), (⟨#[66, 57]⟩ : ByteArray)] 13 (by omega) (by omega) (by decide) (by decide)
    exact ⟨G, P, x, S, a3, s3, Ev.bind hE (ev_bind0 e2 (ev_pos z0 (ev_bind0 e3 (Ev.now _)))), by unfold bulkN at hB ⊢; omega, by omega, by omega⟩
  by_cases z1 : n = 1
  · obtain ⟨x, a3, s3, e3, hx, b3, c3⟩ := of_sz h a2 s2 [(⟨#[86, 97, 110]⟩ : ByteArray), (⟨#[118, 97, 110, 32, 100, 101, 114, 32, 100, 101]⟩ : ByteArray), (⟨#[118, 97, 110, 32]⟩ : ByteArray), (⟨#[100, 39]⟩ : ByteArray), (⟨#[100, 39, 97]⟩ : ByteArray), (⟨#[118, 97, 110, 32, 32, 100, 101, 114]⟩ : ByteArray)] 10 (by omega) (by omega) (by decide) (by decide)
    exact ⟨G, x, F, S, a3, s3, Ev.bind hE (ev_bind0 e2 (ev_neg z0 (ev_pos z1 (ev_bind0 e3 (Ev.now _))))), by unfold bulkN at hB ⊢; omega, by omega, by omega⟩
  by_cases z2 : n = 2
  · obtain ⟨x, a3, s3, e3, hx, b3, c3⟩ := of_sz h a2 s2 [(⟨#[45]⟩ : ByteArray), (⟨#[74, 32, 114]⟩ : ByteArray), (⟨#[120]⟩ : ByteArray)] 3 (by omega) (by omega) (by decide) (by decide)
    exact ⟨G, P, F, x, a3, s3, Ev.bind hE (ev_bind0 e2 (ev_neg z0 (ev_neg z1 (ev_pos z2 (ev_bind0 e3 (Ev.now _)))))), by unfold bulkN at hB ⊢; omega, by omega, by omega⟩
  by_cases z3 : n = 3
  · obtain ⟨x, a3, s3, e3, hx, b3, c3⟩ := of_sz h a2 s2 [(⟨#[97, 110, 110, 97]⟩ : ByteArray), (⟨#[]⟩ : ByteArray), (⟨#[67]⟩ : ByteArray), (⟨#[68, 32, 101]⟩ : ByteArray)] 4 (by omega) (by omega) (by decide) (by decide)
    have hl : G.length ≤ 100 := by unfold bulkN bulkS at hB; omega
    have he : bulkS (G ++ [x, (⟨#[69, 118, 101]⟩ : ByteArray)]) = bulkS G + x.size + 1 + 3 + 1 := by
      rw [show G ++ [x, (⟨#[69, 118, 101]⟩ : ByteArray)] = (G ++ [x]) ++ [(⟨#[69, 118, 101]⟩ : ByteArray)] by simp, bulk_app, bulk_app]
      rfl
    exact ⟨G ++ [x, (⟨#[69, 118, 101]⟩ : ByteArray)], P, F, S, a3, s3, Ev.bind hE (ev_bind0 e2 (ev_neg z0 (ev_neg z1 (ev_neg z2 (ev_pos z3 (ev_bind0 e3 (ev_bind0 rfl (ev_pos (by show G.length + 2 < _; omega) (Ev.now _))))))))), by unfold bulkN at hB ⊢; omega, by omega, by omega⟩
  exact ⟨G, P, F, S, a2, s2, Ev.bind hE (ev_bind0 e2 (ev_neg z0 (ev_neg z1 (ev_neg z2 (ev_neg z3 (Ev.now _)))))), by omega, by omega, by omega⟩
end Go.Proofs.YtieieapacepabaaDoor.G

namespace Go.Proofs.YtieieapacepabaaDoor.G
open Go.RowKit Go.Proofs.YtieieapacepabaaDoorW.PrintWords Go.Proofs.YtieieapacepabaaDoorW.PrintLast Go.Proofs.YtieieapacepabaaDoor.B
set_option linter.unusedVariables false
set_option linter.unusedSimpArgs false
def headD (x y : ByteArray) : Bool := decide (bt x 0 = bt y 0)
def fitD (x y : ByteArray) : Bool := decide (x.toList = y.toList) || ((decide (x.size = 1) && headD x y) || (decide (y.size = 1) && headD x y))
theorem spec_fit (x y : ByteArray) (hx : 1 ≤ x.size) (hy : 1 ≤ y.size) : spec_l2Fits.f x y = some (fitD x y) := by
  have a1 : (0 : Int) < (x.size : Int) := by omega
  have a2 : (0 : Int) < (y.size : Int) := by omega
  unfold spec_l2Fits.f fitD headD
  by_cases e : x.toList = y.toList
  · simp [e]
  · rw [if_neg e]
    by_cases c1 : x.size = 1
    · rw [if_pos (show (x.size : Int) = 1 by omega), if_pos a1, if_pos a2]
      by_cases c3 : bt x 0 = bt y 0
      · rw [if_pos c3]; simp [c1, c3]
      · rw [if_neg c3]
        by_cases c2 : y.size = 1
        · rw [if_pos (show (y.size : Int) = 1 by omega)]; simp [e, c1, c2, c3]
        · rw [if_neg (show ¬ (y.size : Int) = 1 by omega)]; simp [e, c1, c2, c3]
    · rw [if_neg (show ¬ (x.size : Int) = 1 by omega)]
      by_cases c2 : y.size = 1
      · rw [if_pos (show (y.size : Int) = 1 by omega), if_pos a1, if_pos a2]
        by_cases c3 : bt x 0 = bt y 0 <;> simp [e, c1, c2, c3]
      · rw [if_neg (show ¬ (y.size : Int) = 1 by omega)]; simp [e, c1, c2]
theorem pre_one (s p : ByteArray) (hp : p.size = 1) (hs : 1 ≤ s.size) : strings_HasPrefix.f s p = some (headD p s) := by
  have a1 : (s.size : Int) ≥ (p.size : Int) := by omega
  have a2 : (0 : Int) ≤ (p.size : Int) := by omega
  have a3 : (p.size : Int) ≤ (s.size : Int) := by omega
  unfold strings_HasPrefix.f stringslite_HasPrefix.f headD
  rw [if_pos a1, if_pos a2, if_pos a3]
  show some _ = some _
  congr 1
  have b1 := bt_getD p 0 (by omega)
  have b2 := bt_getD s 0 (by omega)
  rw [show ((0 : Nat) : Int) = 0 from rfl] at b1 b2
  rw [b1, b2, toList_L, toList_L, L_extract, hp]
  have l1 : (L p).length = 1 := by rw [L_len, hp]
  have l2 : 1 ≤ (L s).length := by rw [L_len]; exact hs
  revert l1 l2
  generalize L p = u
  generalize L s = v
  intro l1 l2
  match u, v, l1, l2 with
  | [a], b :: v, _, _ =>
    by_cases e : a = b
    · subst e; simp
    · have e' : ¬ b = a := fun h => e h.symm
      have e2 : ¬ a.toNat = b.toNat := fun h => e (UInt8.toNat_inj.1 h)
      simp
      rw [beq_false_of_ne e', eq_comm, decide_eq_false_iff_not]; omega
theorem head_comm (x y : ByteArray) : headD x y = headD y x := by unfold headD; rw [decide_eq_decide]; exact eq_comm
def fitL (a b : List ByteArray) : Nat → Nat → Bool
  | 0, _ => true
  | d + 1, i => fitD (rdOf ByteArray.empty a (i : Int)) (rdOf ByteArray.empty b (i : Int)) && fitL a b d (i + 1)
def tailD (P F S P' F' S' : ByteArray) : Bool := decide (P.toList = P'.toList) && (decide (F.toList = F'.toList) && (S.toList == S'.toList))
def mayD (G : List ByteArray) (P F S : ByteArray) (G' : List ByteArray) (P' F' S' : ByteArray) : Bool := fitL G G' (min G.length G'.length) 0 && tailD P F S P' F' S'
theorem rd_pos (l : List ByteArray) (i : Nat) (h : i < l.length) (hp : ∀ x ∈ l, 1 ≤ x.size) : 1 ≤ (rdOf ByteArray.empty l (i : Int)).size := by
  rw [rd_get l i h]; exact hp _ (List.getElem_mem h)
theorem spec_may_loop (G : List ByteArray) (P F S : ByteArray) (G' : List ByteArray) (P' F' S' : ByteArray) (hG : G.length ≤ 3) (hG' : G'.length ≤ 3) (hp : ∀ x ∈ G, 1 ≤ x.size) (hp' : ∀ x ∈ G', 1 ≤ x.size) (d : Nat) : ∀ i : Nat, i ≤ G.length → i ≤ G'.length → min G.length G'.length - i = d →
    Ev (fun k => spec_l2May.l0 k (i : Int) G P F S G' P' F' S') (fitL G G' d i && tailD P F S P' F' S') := by
  have hstop : ∀ i : Nat, Ev (fun k => spec_l2May.j1 k (i : Int) false G P F S G' P' F' S') (tailD P F S P' F' S') := by
    intro i
    refine Ev.step (f := fun _ => some (tailD P F S P' F' S')) (fun k => ?_) (Ev.now _)
    simp only [spec_l2May.j1]
    rw [if_neg (by simp)]
    unfold tailD
    by_cases c1 : P.toList = P'.toList <;> by_cases c2 : F.toList = F'.toList <;> simp [c1, c2]
  induction d with
  | zero =>
    intro i h1 h2 hd
    show Ev _ (true && _)
    rw [Bool.true_and]
    by_cases c : i < G.length
    · refine Ev.step (f := fun k => spec_l2May.j1 k (i : Int) false G P F S G' P' F' S') (fun k => ?_) (hstop i)
      simp only [spec_l2May.l0]
      have e : decide ((i : Int) < (G'.length : Int)) = false := decide_eq_false (by omega)
      rw [if_pos (by omega), e]
    · refine Ev.step (f := fun k => spec_l2May.j1 k (i : Int) false G P F S G' P' F' S') (fun k => ?_) (hstop i)
      simp only [spec_l2May.l0]
      rw [if_neg (by omega)]
  | succ d ih =>
    intro i h1 h2 hd
    have c1 : i < G.length := by omega
    have c2 : i < G'.length := by omega
    have hw : wrap64 ((i : Int) + 1) = ((i + 1 : Nat) : Int) := by rw [w64 (by omega) (by omega)]; rfl
    have hf := spec_fit _ _ (rd_pos G i c1 hp) (rd_pos G' i c2 hp')
    refine Ev.step (f := fun k => spec_l2May.j1 k (i : Int) true G P F S G' P' F' S') (fun k => ?_) ?_
    · simp only [spec_l2May.l0]
      have e : decide ((i : Int) < (G'.length : Int)) = true := decide_eq_true (by omega)
      rw [if_pos (by omega), e]
    · refine Ev.step (f := fun k => if fitD (rdOf ByteArray.empty G (i : Int)) (rdOf ByteArray.empty G' (i : Int)) = true then spec_l2May.l0 k ((i + 1 : Nat) : Int) G P F S G' P' F' S' else some false) (fun k => ?_) ?_
      · simp only [spec_l2May.j1]
        rw [if_pos trivial, if_pos (by omega), if_pos (by omega), if_pos (by omega), hf, hw]; rfl
      · show Ev _ ((fitD _ _ && fitL G G' d (i + 1)) && _)
        cases h : fitD (rdOf ByteArray.empty G (i : Int)) (rdOf ByteArray.empty G' (i : Int)) with
        | true => exact ev_pos rfl (ev_eq (ih (i + 1) (by omega) (by omega) (by omega)) (by simp))
        | false => exact ev_neg (by simp) (ev_eq (Ev.now _) (by simp))
theorem spec_may (G : List ByteArray) (P F S : ByteArray) (G' : List ByteArray) (P' F' S' : ByteArray) (hG : G.length ≤ 3) (hG' : G'.length ≤ 3) (hp : ∀ x ∈ G, 1 ≤ x.size) (hp' : ∀ x ∈ G', 1 ≤ x.size) :
    Ev (fun k => spec_l2May.f k G P F S G' P' F' S') (mayD G P F S G' P' F' S') :=
  spec_may_loop G P F S G' P' F' S' hG hG' hp hp' _ 0 (by omega) (by omega) rfl
theorem impl_step (G : List ByteArray) (P F S : ByteArray) (G' : List ByteArray) (P' F' S' : ByteArray) (i k : Nat) (c1 : i < G.length) (c2 : i < G'.length) (hG : G.length ≤ 3) (hp : ∀ x ∈ G, 1 ≤ x.size) (hp' : ∀ x ∈ G', 1 ≤ x.size) :
    impl_mayBeSame.l0 (k + 1) (i : Int) G P F S G' P' F' S' = if fitD (rdOf ByteArray.empty G (i : Int)) (rdOf ByteArray.empty G' (i : Int)) = true then impl_mayBeSame.l0 k ((i + 1 : Nat) : Int) G P F S G' P' F' S' else some false := by
  have hw : wrap64 ((i : Int) + 1) = ((i + 1 : Nat) : Int) := by rw [w64 (by omega) (by omega)]; rfl
  have hm : (i : Int) < mn (G.length : Int) (G'.length : Int) := by unfold mn; split <;> omega
  have hx := rd_pos G i c1 hp
  have hy := rd_pos G' i c2 hp'
  simp only [impl_mayBeSame.l0]
  rw [if_pos hm, if_pos (by omega), if_pos (by omega), if_pos (by omega), hw]
  revert hx hy
  generalize rdOf ByteArray.empty G (i : Int) = x
  generalize rdOf ByteArray.empty G' (i : Int) = y
  intro hx hy
  generalize impl_mayBeSame.l0 k ((i + 1 : Nat) : Int) G P F S G' P' F' S' = R
  unfold fitD
  by_cases e : x.toList = y.toList
  · simp [e]
  · rw [if_neg e]
    by_cases a : x.size = 1
    · rw [if_pos (by omega), pre_one y x a hy]
      by_cases b : y.size = 1
      · rw [if_pos (by omega), pre_one x y b hx, head_comm y x]
        cases headD x y <;> simp [e, a, b]
      · rw [if_neg (by omega)]
        cases headD x y <;> simp [e, a, b]
    · rw [if_neg (by omega)]
      by_cases b : y.size = 1
      · rw [if_pos (by omega), pre_one x y b hx, head_comm y x]
        cases headD x y <;> simp [e, a, b]
      · rw [if_neg (by omega)]
        simp [e, a, b]
theorem impl_may_loop (G : List ByteArray) (P F S : ByteArray) (G' : List ByteArray) (P' F' S' : ByteArray) (hG : G.length ≤ 3) (hG' : G'.length ≤ 3) (hp : ∀ x ∈ G, 1 ≤ x.size) (hp' : ∀ x ∈ G', 1 ≤ x.size) (d : Nat) : ∀ i : Nat, i ≤ G.length → i ≤ G'.length → min G.length G'.length - i = d →
    Ev (fun k => impl_mayBeSame.l0 k (i : Int) G P F S G' P' F' S') (fitL G G' d i) := by
  induction d with
  | zero =>
    intro i h1 h2 hd
    refine Ev.step (f := fun _ => some true) (fun k => ?_) (Ev.now _)
    have hm : ¬ (i : Int) < mn (G.length : Int) (G'.length : Int) := by unfold mn; split <;> omega
    simp only [impl_mayBeSame.l0]
    rw [if_neg hm]
  | succ d ih =>
    intro i h1 h2 hd
    refine Ev.step (f := fun k => if fitD (rdOf ByteArray.empty G (i : Int)) (rdOf ByteArray.empty G' (i : Int)) = true then impl_mayBeSame.l0 k ((i + 1 : Nat) : Int) G P F S G' P' F' S' else some false) (fun k => impl_step G P F S G' P' F' S' i k (by omega) (by omega) hG hp hp') ?_
    show Ev _ (fitD _ _ && fitL G G' d (i + 1))
    cases h : fitD (rdOf ByteArray.empty G (i : Int)) (rdOf ByteArray.empty G' (i : Int)) with
    | true => exact ev_pos rfl (ev_eq (ih (i + 1) (by omega) (by omega) (by omega)) (by simp))
    | false => exact ev_neg (by simp) (ev_eq (Ev.now _) (by simp))
theorem impl_may (G : List ByteArray) (P F S : ByteArray) (G' : List ByteArray) (P' F' S' : ByteArray) (hG : G.length ≤ 3) (hG' : G'.length ≤ 3) (hp : ∀ x ∈ G, 1 ≤ x.size) (hp' : ∀ x ∈ G', 1 ≤ x.size) :
    Ev (fun k => impl_mayBeSame.f k G P F S G' P' F' S') (mayD G P F S G' P' F' S') := by
  have hj1 : Ev (fun k => impl_mayBeSame.j0 k true G P F S G' P' F' S') false := Ev.step (f := fun _ => some false) (fun k => by simp [impl_mayBeSame.j0]) (Ev.now _)
  have hj0 : Ev (fun k => impl_mayBeSame.j0 k false G P F S G' P' F' S') (fitL G G' (min G.length G'.length) 0) :=
    Ev.step (f := fun k => impl_mayBeSame.l0 k ((0 : Nat) : Int) G P F S G' P' F' S') (fun k => by simp [impl_mayBeSame.j0]) (impl_may_loop G P F S G' P' F' S' hG hG' hp hp' _ 0 (by omega) (by omega) rfl)
  unfold impl_mayBeSame.f mayD tailD
  by_cases c1 : P.toList = P'.toList
  · refine ev_pos c1 ?_
    by_cases c2 : F.toList = F'.toList
    · refine ev_pos c2 ?_
      by_cases c3 : S.toList = S'.toList
      · have e : (S.toList != S'.toList) = false := by simp [c3]
        rw [e]; exact ev_eq hj0 (by simp [c1, c2, c3])
      · have e : (S.toList != S'.toList) = true := by simp [c3]
        rw [e]; exact ev_eq hj1 (by simp [c3])
    · exact ev_neg c2 (ev_eq hj1 (by simp [c2]))
  · exact ev_neg c1 (ev_eq hj1 (by simp [c1]))
theorem good_pos {G : List ByteArray} {P F S : ByteArray} (h : goodN G P F S = true) : G.length ≤ 3 ∧ ∀ x ∈ G, 1 ≤ x.size := by
  unfold goodN at h
  simp only [Bool.and_eq_true, decide_eq_true_eq] at h
  refine ⟨h.2.1, fun x hx => ?_⟩
  have := List.all_eq_true.1 h.1 x hx
  unfold greatD at this
  rw [Bool.and_eq_true] at this
  exact (word_in this.1).1
end Go.Proofs.YtieieapacepabaaDoor.G

namespace Go.Proofs.YtieieapacepabaaDoor.G
open Go.RowKit Go.Proofs.YtieieapacepabaaDoorW.PrintWords Go.Proofs.YtieieapacepabaaDoorW.PrintLast Go.Proofs.YtieieapacepabaaDoorW.PrintMore
open Go.Proofs.YtieieapacepabaaDoor.Gl Go.Proofs.YtieieapacepabaaDoor.Ext
attribute [local go_sem] max2_int min2_int max_two min_two max_three min_three max_four min_four   -- for this text's walks alone
set_option linter.unusedVariables false
set_option linter.unusedSimpArgs false

/-! ### spec_l2Given: function 80 -/
def spec_l2Given.f (k : Nat) (l0_0 : List ByteArray) (a0_1 : ByteArray) (a0_2 : ByteArray) (a0_3 : ByteArray) : Option (ByteArray) := (spec_l2Join.f k l0_0).bind fun t341 => (some t341)
theorem spec_l2Given.mono : ∀ a0 a1 a2 a3 k, LeO (spec_l2Given.f k a0 a1 a2 a3) (spec_l2Given.f (k + 1) a0 a1 a2 a3) := by
 intro a0 a1 a2 a3 k
 unfold spec_l2Given.f
 repeat' first
   | (with_reducible exact spec_l2Join.mono _ _)
   | (with_reducible exact LeO.refl _)
   | (with_reducible exact LeO.none _)
   | (with_reducible refine LeO.ite ?_ ?_)
   | (with_reducible refine LeO.bind ?_ (fun _ => ?_))
   | exact spec_l2Join.mono _ _
   | exact LeO.none _
   | refine LeO.ite ?_ ?_
   | refine LeO.bind ?_ (fun _ => ?_)
set_option maxHeartbeats 8000000 in
set_option maxRecDepth 100000 in
theorem spec_l2Given.calls (k : Nat) (A0_0 : Option Addr) (c0_0 : Nat) (l0_0 : List ByteArray) (a0_1 : ByteArray) (a0_2 : ByteArray) (a0_3 : ByteArray) (r : ByteArray) (w : World) (hr0_0 : Kd.C Kd.string w A0_0 l0_0.length l0_0) (hc0_0 : l0_0.length ≤ c0_0) (h : spec_l2Given.f k l0_0 a0_1 a0_2 a0_3 = some r) :
  Calls Tryd.prog 80 #[.agg #[.slice A0_0 l0_0.length c0_0, .string a0_1, .string a0_2, .string a0_3]] w fun e w' => e = .returned (.string r) ∧ Below w.heap.size w w' := by
 have hu26 := Tryd.underlying26
 have HR0_0 := Aside0.mk hr0_0
 have HC0_0 := Aside0.mk hc0_0
 clear hr0_0 hc0_0
 have HB := Aside0.mk (Below.refl w.heap.size w)
 have H : ((spec_l2Join.f k l0_0).bind fun t341 => (some t341)) = some r := h
 clear h
 replace H := Option.bind_eq_some_iff.mp H
 obtain ⟨t341, A20, H⟩ := H
 try dsimp only at H
 have A2 := Aside0.mk A20
 clear A20
 obtain rfl := Option.some.inj H
 go_enter Tryd.func80, Tryd.ntmps80
 go_wp2_with (first | ((with_reducible refine gate_dst (N := 1) rfl ?_); refine box_event ?hg (N := 1) ?hd (cs := #[.slice A0_0 l0_0.length c0_0, .string a0_1, .string a0_2, .string a0_3]) (t := 26) ?hr ?_; (case hd => rfl); (case hg => rfl); (case hr => first | (go_simp; done) | (go_simp; rfl)); intro gb340 hg w3 hbox hb; have n0_ := Aside0.mk (below_step au38 hb); have n1_ := Aside0.mk (hbox); have n2_ := Aside0.mk ((by rw [hg]; exact (below_size au38) : w.heap.size ≤ gb340)); have n3_ := Aside0.mk ((by rw [hg]; exact (below_size au38) : w.heap.size ≤ gb340)); clear HB; have HB := n0_; have BK340 := n1_; have GW340 := n2_; have GE340 := n3_; clear n0_ n1_ n2_ n3_; clear hb hbox hg; have hcz4_0 : w3.cell? ⟨gb340, 0, none⟩ = some (.slice A0_0 l0_0.length c0_0) := (blk_cell BK340.out 0).trans rfl; have hcz4_1 : w3.cell? ⟨gb340, 1, none⟩ = some (.string a0_1) := (blk_cell BK340.out 1).trans rfl; have hcz4_2 : w3.cell? ⟨gb340, 2, none⟩ = some (.string a0_2) := (blk_cell BK340.out 2).trans rfl; have hcz4_3 : w3.cell? ⟨gb340, 3, none⟩ = some (.string a0_3) := (blk_cell BK340.out 3).trans rfl; have hfz4_0 := blk_frozen BK340.out 0; have hfz4_1 := blk_frozen BK340.out 1; have hfz4_2 := blk_frozen BK340.out 2; have hfz4_3 := blk_frozen BK340.out 3) | ((with_reducible refine gate_callee (f := 79) rfl ?_); refine goesL_ (some 5) rfl rfl Tryd.func79 (by kernel_rfl) rfl #[.slice A0_0 l0_0.length c0_0] rfl au37 ?_; (with_reducible refine (spec_l2Join.calls k _ _ l0_0 t341 _ ?side1 ?side2 A2.out).mono ?_); (case side1 => repeat (first | exact (Kd.C_below HR0_0.out HB.out) | (with_reducible refine Kd.C_alloc ?_ _) | (with_reducible refine Kd.C_drewN ?_ _) | (with_reducible refine Kd.C_drew ?_))); (case side2 => exact HC0_0.out); rintro e w' ⟨rfl, ⟨nd, rfl⟩⟩; refine ⟨_, rfl, ?_⟩))
 go_ret
 exact ⟨by first | rfl | (simp [errW_none, errW_some] <;> rfl) | (simp [*, errW_none, errW_some] <;> rfl), by repeat (first | (with_reducible first | exact HB.out | apply below_alloc | apply pw_below_drewN | apply below_drew1 | refine below_set ?_ GE340.out) | exact HB.out)⟩


/-! ### spec_l2Full: function 56 -/
def spec_l2Full.f (k : Nat) (l0_0 : List ByteArray) (a0_1 : ByteArray) (a0_2 : ByteArray) (a0_3 : ByteArray) : Option (ByteArray) := (spec_l2Given.f k l0_0 a0_1 a0_2 a0_3).bind fun t343 => ((spec_l2Join.f k (([t343, a0_1, a0_2, a0_3] : List ByteArray))).bind fun t347 => (some t347))
theorem spec_l2Full.mono : ∀ a0 a1 a2 a3 k, LeO (spec_l2Full.f k a0 a1 a2 a3) (spec_l2Full.f (k + 1) a0 a1 a2 a3) := by
 intro a0 a1 a2 a3 k
 unfold spec_l2Full.f
 repeat' first
   | (with_reducible exact spec_l2Given.mono _ _ _ _ _)
   | (with_reducible exact spec_l2Join.mono _ _)
   | (with_reducible exact LeO.refl _)
   | (with_reducible exact LeO.none _)
   | (with_reducible refine LeO.ite ?_ ?_)
   | (with_reducible refine LeO.bind ?_ (fun _ => ?_))
   | exact spec_l2Given.mono _ _ _ _ _
   | exact spec_l2Join.mono _ _
   | exact LeO.none _
   | refine LeO.ite ?_ ?_
   | refine LeO.bind ?_ (fun _ => ?_)
def spec_l2Full.T1 : Bool × List (List Nat × List Nat) := (true, [([], []), ([0], [0]), ([], []), ([2], [2]), ([], []), ([4], [4]), ([], []), ([6], [6]), ([1, 3, 5, 7], [1, 3, 5, 7]), ([8, 1], [8]), ([9, 9, 0, 1, 2, 3, 4, 5, 6, 7, 8, 9], [9])])
def spec_l2Full.B1 : List Nat := [0, 1, 0, 4, 0, 16, 0, 64, 255, 511, 1023]
theorem spec_l2Full.tab1 : rtab .any (opsOf Tryd.f56 1) = spec_l2Full.T1 := by kernel_rfl
theorem spec_l2Full.bits1 : waitsOk spec_l2Full.T1.2 spec_l2Full.B1 = true := by kernel_rfl
set_option maxHeartbeats 8000000 in
set_option maxRecDepth 100000 in
theorem spec_l2Full.calls (k : Nat) (A0_0 : Option Addr) (c0_0 : Nat) (l0_0 : List ByteArray) (a0_1 : ByteArray) (a0_2 : ByteArray) (a0_3 : ByteArray) (r : ByteArray) (w : World) (hr0_0 : Kd.C Kd.string w A0_0 l0_0.length l0_0) (hc0_0 : l0_0.length ≤ c0_0) (h : spec_l2Full.f k l0_0 a0_1 a0_2 a0_3 = some r) :
  Calls Tryd.prog 56 #[.agg #[.slice A0_0 l0_0.length c0_0, .string a0_1, .string a0_2, .string a0_3]] w fun e w' => e = .returned (.string r) ∧ Below w.heap.size w w' := by
 have hu26 := Tryd.underlying26
 have HR0_0 := Aside0.mk hr0_0
 have HC0_0 := Aside0.mk hc0_0
 clear hr0_0 hc0_0
 have HB := Aside0.mk (Below.refl w.heap.size w)
 have H : ((spec_l2Given.f k l0_0 a0_1 a0_2 a0_3).bind fun t343 => ((spec_l2Join.f k (([t343, a0_1, a0_2, a0_3] : List ByteArray))).bind fun t347 => (some t347))) = some r := h
 clear h
 replace H := Option.bind_eq_some_iff.mp H
 obtain ⟨t343, A20, H⟩ := H
 try dsimp only at H
 have A2 := Aside0.mk A20
 clear A20
 obtain ⟨y344, hy344⟩ : ∃ y_ : List ByteArray, y_ = (([t343, a0_1, a0_2, a0_3] : List ByteArray)) := ⟨_, rfl⟩
 replace H : ((spec_l2Join.f k y344).bind fun t347 => (some t347)) = some r := by first | (rw [hy344]; with_reducible exact H) | (have H2_ := (Option.bind_some _ _).symm.trans H; rw [hy344]; with_reducible exact H2_) | (have H2_ := (Option.bind_some _ _).symm.trans H; with_reducible exact H2_) | with_reducible exact H | (rw [hy344]; exact H) | exact H
 have Ny344 := Aside0.mk hy344
 clear hy344
 replace H := Option.bind_eq_some_iff.mp H
 obtain ⟨t347, A30, H⟩ := H
 try dsimp only at H
 have A3 := Aside0.mk A30
 clear A30
 obtain rfl := Option.some.inj H
 go_enter Tryd.func56, Tryd.ntmps56
 try go_wp2_with (first | ((with_reducible refine gate_dst (N := 1) rfl ?_); refine box_event ?hg (N := 1) ?hd (cs := #[.slice A0_0 l0_0.length c0_0, .string a0_1, .string a0_2, .string a0_3]) (t := 26) ?hr ?_; (case hd => rfl); (case hg => rfl); (case hr => first | (go_simp; done) | (go_simp; rfl)); intro gb342 hg w4 hbox hb; have n0_ := Aside0.mk (below_step au38 hb); have n1_ := Aside0.mk (hbox); have n2_ := Aside0.mk ((by rw [hg]; exact (below_size au38) : w.heap.size ≤ gb342)); have n3_ := Aside0.mk ((by rw [hg]; exact (below_size au38) : w.heap.size ≤ gb342)); clear HB; have HB := n0_; have BK342 := n1_; have GW342 := n2_; have GE342 := n3_; clear n0_ n1_ n2_ n3_; clear hb hbox hg))
 have n0_ := Aside0.mk (blk_drew BK342.out)
 have n1_ := Aside0.mk (below_drew1 HB.out)
 clear BK342
 clear HB
 have BK342 := n0_
 have HB := n1_
 clear n0_ n1_
 refine start_ (n := 11) (S := fun w' => w'.cell? ⟨gb342, 0, none⟩ = some (.slice A0_0 l0_0.length c0_0) ∧ w'.cell? ⟨gb342, 1, none⟩ = some (.string a0_1) ∧ w'.cell? ⟨gb342, 2, none⟩ = some (.string a0_2) ∧ w'.cell? ⟨gb342, 3, none⟩ = some (.string a0_3)) (ds := []) #[false, false, false, false, false, false, false, false, false, false, false] (by kernel_rfl) rfl rfl ⟨(blk_cell BK342.out 0).trans rfl, (blk_cell BK342.out 1).trans rfl, (blk_cell BK342.out 2).trans rfl, (blk_cell BK342.out 3).trans rfl⟩ (fun hHeld => ?_); refine with_tabW spec_l2Full.tab1 spec_l2Full.bits1 (fun HT_ HW_ => ?_)
 generalize w4.drew = w5 at BK342 HB hHeld ⊢
 refine pure_ (i := 2) (N := some 5) (v := ?_) (a' := ?_) #[false, false, true, false, false, false, false, false, false, false, false] rfl rfl (any_of HT_.out (by kernel_rfl)) (fun _ _ _ h => h) (Or.inl ⟨by rfl, ?_⟩) ?_ ?_
 rotate_left
 ·
  intro w'
  go_simp
  with_reducible rfl
 rotate_left
 ·
  simp only [Act.put, List.setIfInBounds_toArray, List.set_cons_zero, List.set_cons_succ, i64_w, i32_w]
  rfl
 refine pure_ (i := 4) (N := some 7) (v := ?_) (a' := ?_) #[false, false, true, false, true, false, false, false, false, false, false] rfl rfl (any_of HT_.out (by kernel_rfl)) (fun _ _ _ h => h) (Or.inl ⟨by rfl, ?_⟩) ?_ ?_
 rotate_left
 ·
  intro w'
  go_simp
  with_reducible rfl
 rotate_left
 ·
  simp only [Act.put, List.setIfInBounds_toArray, List.set_cons_zero, List.set_cons_succ, i64_w, i32_w]
  rfl
 refine pure_ (i := 6) (N := some 9) (v := ?_) (a' := ?_) #[false, false, true, false, true, false, true, false, false, false, false] rfl rfl (any_of HT_.out (by kernel_rfl)) (fun _ _ _ h => h) (Or.inl ⟨by rfl, ?_⟩) ?_ ?_
 rotate_left
 ·
  intro w'
  go_simp
  with_reducible rfl
 rotate_left
 ·
  simp only [Act.put, List.setIfInBounds_toArray, List.set_cons_zero, List.set_cons_succ, i64_w, i32_w]
  rfl
 refine take_ (i := 0) (N := some 3) (v := ?_) (a' := ?_) #[true, false, true, false, true, false, true, false, false, false, false] rfl rfl (take_ofW HT_.out HW_.out (by kernel_rfl)) (fun _ _ _ h => h) (Or.inl ⟨by rfl, ?_⟩) hHeld ?_ ?_
 rotate_left
 ·
  rintro w' ⟨s0, s1, s2, s3⟩
  go_simp
  with_reducible rfl
 rotate_left
 ·
  simp only [Act.put, List.setIfInBounds_toArray, List.set_cons_zero, List.set_cons_succ, i64_w, i32_w]
  rfl
 refine take_ (i := 3) (N := some 6) (v := ?_) (a' := ?_) #[true, false, true, true, true, false, true, false, false, false, false] rfl rfl (take_ofW HT_.out HW_.out (by kernel_rfl)) (fun _ _ _ h => h) (Or.inl ⟨by rfl, ?_⟩) hHeld ?_ ?_
 rotate_left
 ·
  rintro w' ⟨s0, s1, s2, s3⟩
  go_simp
  with_reducible rfl
 rotate_left
 ·
  simp only [Act.put, List.setIfInBounds_toArray, List.set_cons_zero, List.set_cons_succ, i64_w, i32_w]
  rfl
 refine take_ (i := 5) (N := some 8) (v := ?_) (a' := ?_) #[true, false, true, true, true, true, true, false, false, false, false] rfl rfl (take_ofW HT_.out HW_.out (by kernel_rfl)) (fun _ _ _ h => h) (Or.inl ⟨by rfl, ?_⟩) hHeld ?_ ?_
 rotate_left
 ·
  rintro w' ⟨s0, s1, s2, s3⟩
  go_simp
  with_reducible rfl
 rotate_left
 ·
  simp only [Act.put, List.setIfInBounds_toArray, List.set_cons_zero, List.set_cons_succ, i64_w, i32_w]
  rfl
 refine take_ (i := 7) (N := some 10) (v := ?_) (a' := ?_) #[true, false, true, true, true, true, true, true, false, false, false] rfl rfl (take_ofW HT_.out HW_.out (by kernel_rfl)) (fun _ _ _ h => h) (Or.inl ⟨by rfl, ?_⟩) hHeld ?_ ?_
 rotate_left
 ·
  rintro w' ⟨s0, s1, s2, s3⟩
  go_simp
  with_reducible rfl
 rotate_left
 ·
  simp only [Act.put, List.setIfInBounds_toArray, List.set_cons_zero, List.set_cons_succ, i64_w, i32_w]
  rfl
 refine one_ (i := 1) (N := some 4) #[true, true, true, true, true, true, true, true, false, false, false] rfl rfl (one_of HT_.out (by kernel_rfl)) (by decide) (fun K hK => ?_)
 refine goes_ Tryd.func80 (by kernel_rfl) rfl #[.agg #[.slice A0_0 l0_0.length c0_0, .string a0_1, .string a0_2, .string a0_3]] (by rfl) rfl rfl au37 ?_
 with_reducible refine (spec_l2Given.calls k _ _ l0_0 a0_1 a0_2 a0_3 t343 _ ?side1 ?side2 A2.out).mono ?_
 (case side1 => repeat (first | exact (Kd.C_below HR0_0.out HB.out) | (with_reducible refine Kd.C_alloc ?_ _) | (with_reducible refine Kd.C_drewN ?_ _) | (with_reducible refine Kd.C_drew ?_)))
 (case side2 => exact HC0_0.out)
 rintro e w6 ⟨rfl, hb⟩
 refine ⟨_, rfl, ?_⟩
 have n0_ := Aside0.mk (blk_below (g := gb342) (o := .cells #[.slice A0_0 l0_0.length c0_0, .string a0_1, .string a0_2, .string a0_3] 26 (0, 0)) au53 hb)
 have n1_ := Aside0.mk (below_step au33 hb)
 clear BK342
 clear HB
 have BK342 := n0_
 have HB := n1_
 clear n0_ n1_
 (try clear hb)
 (try clear hb2)
 (try clear hk)
 (try clear hi)
 refine hK.out _ _ ⟨(blk_cell BK342.out 0).trans rfl, (blk_cell BK342.out 1).trans rfl, (blk_cell BK342.out 2).trans rfl, (blk_cell BK342.out 3).trans rfl⟩ (fun hHeld => ?_)
 clear hK K
 refine norm_ (a' := ?_) ?_ ?_
 rotate_left
 ·
  show Act.put _ (some 4) _ = _
  simp only [Act.put, List.setIfInBounds_toArray, List.set_cons_zero, List.set_cons_succ, i64_w, i32_w]
  rfl
 refine one_ (i := 8) (N := some 11) #[true, true, true, true, true, true, true, true, true, false, false] rfl rfl (one_of HT_.out (by kernel_rfl)) (by decide) (fun K hK => ?_)
 refine Kd.R_lit_step Kd.string _ 9 ?hg (N := 11) ?hd (xs := ([t343, a0_1, a0_2, a0_3] : List ByteArray)) (inner := [.string t343, .string a0_1, .string a0_2, .string a0_3]) (ok := fun _ => True) (okp := fun _ => True) ?hr ?hp (fun _ hk => hk) trivial (Below.refl _ _) (Nat.le_refl _) (by simp) ?_; (case hd => rfl); (case hg => rfl); (case hr => first | (go_simp; done) | (go_simp; rfl)); (case hp => exact (Reps.one (show Kd.M Kd.string _ _ _ t343 [.string t343] from rfl) (Reps.one (show Kd.M Kd.string _ _ _ a0_1 [.string a0_1] from rfl) (Reps.one (show Kd.M Kd.string _ _ _ a0_2 [.string a0_2] from rfl) (Reps.one (show Kd.M Kd.string _ _ _ a0_3 [.string a0_3] from rfl) (Reps.none _ _))))))
 intro v345 w7 ho8 hb hg_ hnew_
 clear hg_ hnew_
 (first | rw [← Ny344.out] at ho8 | (simp only [Int.reduceToNat] at ho8; rw [← Ny344.out] at ho8))
 have n0_ := Aside0.mk (Kd.R_lower ho8 (below_size au33))
 have n1_ := Aside0.mk (blk_below (g := gb342) (o := .cells #[.slice A0_0 l0_0.length c0_0, .string a0_1, .string a0_2, .string a0_3] 26 (0, 0)) au53 hb)
 have n2_ := Aside0.mk (below_step au33 hb)
 clear BK342
 clear HB
 have HO346 := n0_
 have BK342 := n1_
 have HB := n2_
 clear n0_ n1_ n2_
 clear hb ho8
 obtain ⟨Ao9, co9, eo9⟩ := Kd.R_slice HO346.out
 (first | subst eo9 | (injection eo9 with f1_ f2_ f3_; have f4_ := f1_.symm; have f5_ := f3_.symm; clear f1_ f2_ f3_; subst f4_; subst f5_))
 refine hK.out _ _ ⟨(blk_cell BK342.out 0).trans rfl, (blk_cell BK342.out 1).trans rfl, (blk_cell BK342.out 2).trans rfl, (blk_cell BK342.out 3).trans rfl⟩ (fun hHeld => ?_)
 clear hK K
 refine norm_ (a' := ?_) ?_ ?_
 rotate_left
 ·
  show Act.put _ (some 11) _ = _
  simp only [Act.put, List.setIfInBounds_toArray, List.set_cons_zero, List.set_cons_succ, i64_w, i32_w]
  rfl
 refine one_ (i := 9) (N := some 12) #[true, true, true, true, true, true, true, true, true, true, false] rfl rfl (one_of HT_.out (by kernel_rfl)) (by decide) (fun K hK => ?_)
 refine goes_ Tryd.func79 (by kernel_rfl) rfl #[.slice Ao9 y344.length co9] (by rfl) rfl rfl au37 ?_
 with_reducible refine (spec_l2Join.calls k _ _ y344 t347 _ ?side1 ?side2 A3.out).mono ?_
 (case side1 => repeat (first | exact (Kd.R_reads' HO346.out).2.2 | (with_reducible refine Kd.C_alloc ?_ _) | (with_reducible refine Kd.C_drewN ?_ _) | (with_reducible refine Kd.C_drew ?_)))
 (case side2 => exact (Kd.R_reads' HO346.out).2.1)
 rintro e w' ⟨rfl, ⟨nd, rfl⟩⟩
 refine ⟨_, rfl, ?_⟩
 refine hK.out _ _ ⟨(blk_cell BK342.out 0).trans rfl, (blk_cell BK342.out 1).trans rfl, (blk_cell BK342.out 2).trans rfl, (blk_cell BK342.out 3).trans rfl⟩ (fun hHeld => ?_)
 clear hK K
 refine norm_ (a' := ?_) ?_ ?_
 rotate_left
 ·
  show Act.put _ (some 12) _ = _
  simp only [Act.put, List.setIfInBounds_toArray, List.set_cons_zero, List.set_cons_succ, i64_w, i32_w]
  rfl
 refine pure_ (i := 10) (N := some 2) (v := ?_) (a' := ?_) #[true, true, true, true, true, true, true, true, true, true, true] rfl rfl (any_of HT_.out (by kernel_rfl)) (fun _ _ _ h => h) (Or.inl ⟨by rfl, ?_⟩) ?_ ?_
 rotate_left
 ·
  intro w'
  go_simp
  with_reducible rfl
 rotate_left
 ·
  simp only [Act.put, List.setIfInBounds_toArray, List.set_cons_zero, List.set_cons_succ, i64_w, i32_w]
  rfl
 refine done_ (done_of HT_.out (by kernel_rfl)) ?_
 try go_wp2
 go_ret
 exact ⟨by first | rfl | (simp [errW_none, errW_some] <;> rfl) | (simp [*, errW_none, errW_some] <;> rfl), by repeat (first | (with_reducible first | exact HB.out | apply below_alloc | apply pw_below_drewN | apply below_drew1 | refine below_set ?_ GE342.out) | exact HB.out)⟩


/-! ### impl_fullForm: function 49 -/
def impl_fullForm.f (l0_0 : List ByteArray) (a0_1 : ByteArray) (a0_2 : ByteArray) (a0_3 : ByteArray) : Option (ByteArray) := (strings_Join.f l0_0 (⟨#[32]⟩ : ByteArray)).bind fun t266 => ((impl_spaced.f (([t266, a0_1, a0_2, a0_3] : List ByteArray))).bind fun t270 => (some t270))
def impl_fullForm.T1 : Bool × List (List Nat × List Nat) := (true, [([], []), ([0], [0]), ([1], [1]), ([], []), ([3], [3]), ([], []), ([5], [5]), ([], []), ([7], [7]), ([2, 4, 6, 8], [2, 4, 6, 8]), ([9, 2], [9]), ([10, 10, 0, 1, 2, 3, 4, 5, 6, 7, 8, 9, 10], [10])])
def impl_fullForm.B1 : List Nat := [0, 1, 3, 0, 8, 0, 32, 0, 128, 511, 1023, 2047]
theorem impl_fullForm.tab1 : rtab .any (opsOf Tryd.f49 1) = impl_fullForm.T1 := by kernel_rfl
theorem impl_fullForm.bits1 : waitsOk impl_fullForm.T1.2 impl_fullForm.B1 = true := by kernel_rfl
set_option maxHeartbeats 8000000 in
set_option maxRecDepth 100000 in
theorem impl_fullForm.calls (A0_0 : Option Addr) (c0_0 : Nat) (l0_0 : List ByteArray) (a0_1 : ByteArray) (a0_2 : ByteArray) (a0_3 : ByteArray) (r : ByteArray) (w : World) (hr0_0 : Kd.C Kd.string w A0_0 l0_0.length l0_0) (hc0_0 : l0_0.length ≤ c0_0) (h : impl_fullForm.f l0_0 a0_1 a0_2 a0_3 = some r) :
  Calls Tryd.prog 49 #[.agg #[.slice A0_0 l0_0.length c0_0, .string a0_1, .string a0_2, .string a0_3]] w fun e w' => e = .returned (.string r) ∧ Below w.heap.size w w' := by
 have hu26 := Tryd.underlying26
 have HR0_0 := Aside0.mk hr0_0
 have HC0_0 := Aside0.mk hc0_0
 clear hr0_0 hc0_0
 have HB := Aside0.mk (Below.refl w.heap.size w)
 have H : ((strings_Join.f l0_0 (⟨#[32]⟩ : ByteArray)).bind fun t266 => ((impl_spaced.f (([t266, a0_1, a0_2, a0_3] : List ByteArray))).bind fun t270 => (some t270))) = some r := h
 clear h
 replace H := Option.bind_eq_some_iff.mp H
 obtain ⟨t266, A20, H⟩ := H
 try dsimp only at H
 have A2 := Aside0.mk A20
 clear A20
 obtain ⟨y267, hy267⟩ : ∃ y_ : List ByteArray, y_ = (([t266, a0_1, a0_2, a0_3] : List ByteArray)) := ⟨_, rfl⟩
 replace H : ((impl_spaced.f y267).bind fun t270 => (some t270)) = some r := by first | (rw [hy267]; with_reducible exact H) | (have H2_ := (Option.bind_some _ _).symm.trans H; rw [hy267]; with_reducible exact H2_) | (have H2_ := (Option.bind_some _ _).symm.trans H; with_reducible exact H2_) | with_reducible exact H | (rw [hy267]; exact H) | exact H
 have Ny267 := Aside0.mk hy267
 clear hy267
 replace H := Option.bind_eq_some_iff.mp H
 obtain ⟨t270, A30, H⟩ := H
 try dsimp only at H
 have A3 := Aside0.mk A30
 clear A30
 obtain rfl := Option.some.inj H
 go_enter Tryd.func49, Tryd.ntmps49
 try go_wp2_with (first | ((with_reducible refine gate_dst (N := 1) rfl ?_); refine box_event ?hg (N := 1) ?hd (cs := #[.slice A0_0 l0_0.length c0_0, .string a0_1, .string a0_2, .string a0_3]) (t := 26) ?hr ?_; (case hd => rfl); (case hg => rfl); (case hr => first | (go_simp; done) | (go_simp; rfl)); intro gb265 hg w4 hbox hb; have n0_ := Aside0.mk (below_step au38 hb); have n1_ := Aside0.mk (hbox); have n2_ := Aside0.mk ((by rw [hg]; exact (below_size au38) : w.heap.size ≤ gb265)); have n3_ := Aside0.mk ((by rw [hg]; exact (below_size au38) : w.heap.size ≤ gb265)); clear HB; have HB := n0_; have BK265 := n1_; have GW265 := n2_; have GE265 := n3_; clear n0_ n1_ n2_ n3_; clear hb hbox hg))
 have n0_ := Aside0.mk (blk_drew BK265.out)
 have n1_ := Aside0.mk (below_drew1 HB.out)
 clear BK265
 clear HB
 have BK265 := n0_
 have HB := n1_
 clear n0_ n1_
 refine start_ (n := 12) (S := fun w' => w'.cell? ⟨gb265, 0, none⟩ = some (.slice A0_0 l0_0.length c0_0) ∧ w'.cell? ⟨gb265, 1, none⟩ = some (.string a0_1) ∧ w'.cell? ⟨gb265, 2, none⟩ = some (.string a0_2) ∧ w'.cell? ⟨gb265, 3, none⟩ = some (.string a0_3)) (ds := []) #[false, false, false, false, false, false, false, false, false, false, false, false] (by kernel_rfl) rfl rfl ⟨(blk_cell BK265.out 0).trans rfl, (blk_cell BK265.out 1).trans rfl, (blk_cell BK265.out 2).trans rfl, (blk_cell BK265.out 3).trans rfl⟩ (fun hHeld => ?_); refine with_tabW impl_fullForm.tab1 impl_fullForm.bits1 (fun HT_ HW_ => ?_)
 generalize w4.drew = w5 at BK265 HB hHeld ⊢
 refine pure_ (i := 0) (N := some 3) (v := ?_) (a' := ?_) #[true, false, false, false, false, false, false, false, false, false, false, false] rfl rfl (any_of HT_.out (by kernel_rfl)) (fun _ _ _ h => h) (Or.inl ⟨by rfl, ?_⟩) ?_ ?_
 rotate_left
 ·
  intro w'
  go_simp
  with_reducible rfl
 rotate_left
 ·
  simp only [Act.put, List.setIfInBounds_toArray, List.set_cons_zero, List.set_cons_succ, i64_w, i32_w]
  rfl
 refine pure_ (i := 3) (N := some 6) (v := ?_) (a' := ?_) #[true, false, false, true, false, false, false, false, false, false, false, false] rfl rfl (any_of HT_.out (by kernel_rfl)) (fun _ _ _ h => h) (Or.inl ⟨by rfl, ?_⟩) ?_ ?_
 rotate_left
 ·
  intro w'
  go_simp
  with_reducible rfl
 rotate_left
 ·
  simp only [Act.put, List.setIfInBounds_toArray, List.set_cons_zero, List.set_cons_succ, i64_w, i32_w]
  rfl
 refine pure_ (i := 5) (N := some 8) (v := ?_) (a' := ?_) #[true, false, false, true, false, true, false, false, false, false, false, false] rfl rfl (any_of HT_.out (by kernel_rfl)) (fun _ _ _ h => h) (Or.inl ⟨by rfl, ?_⟩) ?_ ?_
 rotate_left
 ·
  intro w'
  go_simp
  with_reducible rfl
 rotate_left
 ·
  simp only [Act.put, List.setIfInBounds_toArray, List.set_cons_zero, List.set_cons_succ, i64_w, i32_w]
  rfl
 refine pure_ (i := 7) (N := some 10) (v := ?_) (a' := ?_) #[true, false, false, true, false, true, false, true, false, false, false, false] rfl rfl (any_of HT_.out (by kernel_rfl)) (fun _ _ _ h => h) (Or.inl ⟨by rfl, ?_⟩) ?_ ?_
 rotate_left
 ·
  intro w'
  go_simp
  with_reducible rfl
 rotate_left
 ·
  simp only [Act.put, List.setIfInBounds_toArray, List.set_cons_zero, List.set_cons_succ, i64_w, i32_w]
  rfl
 refine take_ (i := 1) (N := some 4) (v := ?_) (a' := ?_) #[true, true, false, true, false, true, false, true, false, false, false, false] rfl rfl (take_ofW HT_.out HW_.out (by kernel_rfl)) (fun _ _ _ h => h) (Or.inl ⟨by rfl, ?_⟩) hHeld ?_ ?_
 rotate_left
 ·
  rintro w' ⟨s0, s1, s2, s3⟩
  go_simp
  with_reducible rfl
 rotate_left
 ·
  simp only [Act.put, List.setIfInBounds_toArray, List.set_cons_zero, List.set_cons_succ, i64_w, i32_w]
  rfl
 refine take_ (i := 4) (N := some 7) (v := ?_) (a' := ?_) #[true, true, false, true, true, true, false, true, false, false, false, false] rfl rfl (take_ofW HT_.out HW_.out (by kernel_rfl)) (fun _ _ _ h => h) (Or.inl ⟨by rfl, ?_⟩) hHeld ?_ ?_
 rotate_left
 ·
  rintro w' ⟨s0, s1, s2, s3⟩
  go_simp
  with_reducible rfl
 rotate_left
 ·
  simp only [Act.put, List.setIfInBounds_toArray, List.set_cons_zero, List.set_cons_succ, i64_w, i32_w]
  rfl
 refine take_ (i := 6) (N := some 9) (v := ?_) (a' := ?_) #[true, true, false, true, true, true, true, true, false, false, false, false] rfl rfl (take_ofW HT_.out HW_.out (by kernel_rfl)) (fun _ _ _ h => h) (Or.inl ⟨by rfl, ?_⟩) hHeld ?_ ?_
 rotate_left
 ·
  rintro w' ⟨s0, s1, s2, s3⟩
  go_simp
  with_reducible rfl
 rotate_left
 ·
  simp only [Act.put, List.setIfInBounds_toArray, List.set_cons_zero, List.set_cons_succ, i64_w, i32_w]
  rfl
 refine take_ (i := 8) (N := some 11) (v := ?_) (a' := ?_) #[true, true, false, true, true, true, true, true, true, false, false, false] rfl rfl (take_ofW HT_.out HW_.out (by kernel_rfl)) (fun _ _ _ h => h) (Or.inl ⟨by rfl, ?_⟩) hHeld ?_ ?_
 rotate_left
 ·
  rintro w' ⟨s0, s1, s2, s3⟩
  go_simp
  with_reducible rfl
 rotate_left
 ·
  simp only [Act.put, List.setIfInBounds_toArray, List.set_cons_zero, List.set_cons_succ, i64_w, i32_w]
  rfl
 refine one_ (i := 2) (N := some 5) #[true, true, true, true, true, true, true, true, true, false, false, false] rfl rfl (one_of HT_.out (by kernel_rfl)) (by decide) (fun K hK => ?_)
 refine goes_ Tryd.func66 (by kernel_rfl) rfl #[.slice A0_0 l0_0.length c0_0, .string (⟨#[32]⟩ : ByteArray)] (by rfl) rfl rfl au37 ?_
 with_reducible refine (strings_Join.calls _ _ l0_0 (⟨#[32]⟩ : ByteArray) t266 _ ?side1 ?side2 A2.out).mono ?_
 (case side1 => repeat (first | exact (Kd.C_below HR0_0.out HB.out) | (with_reducible refine Kd.C_alloc ?_ _) | (with_reducible refine Kd.C_drewN ?_ _) | (with_reducible refine Kd.C_drew ?_)))
 (case side2 => exact HC0_0.out)
 rintro e w6 ⟨rfl, hb⟩
 refine ⟨_, rfl, ?_⟩
 have n0_ := Aside0.mk (blk_below (g := gb265) (o := .cells #[.slice A0_0 l0_0.length c0_0, .string a0_1, .string a0_2, .string a0_3] 26 (0, 0)) au54 hb)
 have n1_ := Aside0.mk (below_step au34 hb)
 clear BK265
 clear HB
 have BK265 := n0_
 have HB := n1_
 clear n0_ n1_
 (try clear hb)
 (try clear hb2)
 (try clear hk)
 (try clear hi)
 refine hK.out _ _ ⟨(blk_cell BK265.out 0).trans rfl, (blk_cell BK265.out 1).trans rfl, (blk_cell BK265.out 2).trans rfl, (blk_cell BK265.out 3).trans rfl⟩ (fun hHeld => ?_)
 clear hK K
 refine norm_ (a' := ?_) ?_ ?_
 rotate_left
 ·
  show Act.put _ (some 5) _ = _
  simp only [Act.put, List.setIfInBounds_toArray, List.set_cons_zero, List.set_cons_succ, i64_w, i32_w]
  rfl
 refine one_ (i := 9) (N := some 12) #[true, true, true, true, true, true, true, true, true, true, false, false] rfl rfl (one_of HT_.out (by kernel_rfl)) (by decide) (fun K hK => ?_)
 refine Kd.R_lit_step Kd.string _ 9 ?hg (N := 12) ?hd (xs := ([t266, a0_1, a0_2, a0_3] : List ByteArray)) (inner := [.string t266, .string a0_1, .string a0_2, .string a0_3]) (ok := fun _ => True) (okp := fun _ => True) ?hr ?hp (fun _ hk => hk) trivial (Below.refl _ _) (Nat.le_refl _) (by simp) ?_; (case hd => rfl); (case hg => rfl); (case hr => first | (go_simp; done) | (go_simp; rfl)); (case hp => exact (Reps.one (show Kd.M Kd.string _ _ _ t266 [.string t266] from rfl) (Reps.one (show Kd.M Kd.string _ _ _ a0_1 [.string a0_1] from rfl) (Reps.one (show Kd.M Kd.string _ _ _ a0_2 [.string a0_2] from rfl) (Reps.one (show Kd.M Kd.string _ _ _ a0_3 [.string a0_3] from rfl) (Reps.none _ _))))))
 intro v268 w7 ho8 hb hg_ hnew_
 clear hg_ hnew_
 (first | rw [← Ny267.out] at ho8 | (simp only [Int.reduceToNat] at ho8; rw [← Ny267.out] at ho8))
 have n0_ := Aside0.mk (Kd.R_lower ho8 (below_size au34))
 have n1_ := Aside0.mk (blk_below (g := gb265) (o := .cells #[.slice A0_0 l0_0.length c0_0, .string a0_1, .string a0_2, .string a0_3] 26 (0, 0)) au54 hb)
 have n2_ := Aside0.mk (below_step au34 hb)
 clear BK265
 clear HB
 have HO269 := n0_
 have BK265 := n1_
 have HB := n2_
 clear n0_ n1_ n2_
 clear hb ho8
 obtain ⟨Ao9, co9, eo9⟩ := Kd.R_slice HO269.out
 (first | subst eo9 | (injection eo9 with f1_ f2_ f3_; have f4_ := f1_.symm; have f5_ := f3_.symm; clear f1_ f2_ f3_; subst f4_; subst f5_))
 refine hK.out _ _ ⟨(blk_cell BK265.out 0).trans rfl, (blk_cell BK265.out 1).trans rfl, (blk_cell BK265.out 2).trans rfl, (blk_cell BK265.out 3).trans rfl⟩ (fun hHeld => ?_)
 clear hK K
 refine norm_ (a' := ?_) ?_ ?_
 rotate_left
 ·
  show Act.put _ (some 12) _ = _
  simp only [Act.put, List.setIfInBounds_toArray, List.set_cons_zero, List.set_cons_succ, i64_w, i32_w]
  rfl
 refine one_ (i := 10) (N := some 13) #[true, true, true, true, true, true, true, true, true, true, true, false] rfl rfl (one_of HT_.out (by kernel_rfl)) (by decide) (fun K hK => ?_)
 refine goes_ Tryd.func75 (by kernel_rfl) rfl #[.slice Ao9 y267.length co9] (by rfl) rfl rfl au37 ?_
 with_reducible refine (impl_spaced.calls (fun k_ => some k_ = (.slice Ao9 y267.length co9 : Value).ownBlock) (.slice Ao9 y267.length co9) y267 t270 w _ ?side1 ?side2 A3.out).mono ?_
 (case side1 => repeat (first | (with_reducible first | exact HB.out | apply below_alloc | apply pw_below_drewN | apply below_drew1 | refine below_set ?_ GE265.out) | exact HB.out))
 (case side2 => exact Kd.R_tight rfl HO269.out)
 rintro e w10 ⟨rfl, hb, hkp⟩
 refine ⟨_, rfl, ?_⟩
 have n0_ := Aside0.mk (blk_kept au54 hkp (fun hs_ => (fun e_ => (Kd.R_ne HO269.out BK265.out (by decide)) e_) hs_))
 have n1_ := Aside0.mk (hb)
 clear BK265
 clear HB
 clear HO269
 have BK265 := n0_
 have HB := n1_
 clear n0_ n1_
 (try clear hb)
 (try clear hkp)
 refine hK.out _ _ ⟨(blk_cell BK265.out 0).trans rfl, (blk_cell BK265.out 1).trans rfl, (blk_cell BK265.out 2).trans rfl, (blk_cell BK265.out 3).trans rfl⟩ (fun hHeld => ?_)
 clear hK K
 refine norm_ (a' := ?_) ?_ ?_
 rotate_left
 ·
  show Act.put _ (some 13) _ = _
  simp only [Act.put, List.setIfInBounds_toArray, List.set_cons_zero, List.set_cons_succ, i64_w, i32_w]
  rfl
 refine pure_ (i := 11) (N := some 2) (v := ?_) (a' := ?_) #[true, true, true, true, true, true, true, true, true, true, true, true] rfl rfl (any_of HT_.out (by kernel_rfl)) (fun _ _ _ h => h) (Or.inl ⟨by rfl, ?_⟩) ?_ ?_
 rotate_left
 ·
  intro w'
  go_simp
  with_reducible rfl
 rotate_left
 ·
  simp only [Act.put, List.setIfInBounds_toArray, List.set_cons_zero, List.set_cons_succ, i64_w, i32_w]
  rfl
 refine done_ (done_of HT_.out (by kernel_rfl)) ?_
 try go_wp2
 go_ret
 exact ⟨by first | rfl | (simp [errW_none, errW_some] <;> rfl) | (simp [*, errW_none, errW_some] <;> rfl), by repeat (first | (with_reducible first | exact HB.out | apply below_alloc | apply pw_below_drewN | apply below_drew1 | refine below_set ?_ GE265.out) | exact HB.out)⟩

end Go.Proofs.YtieieapacepabaaDoor.G

namespace Go.Proofs.YtieieapacepabaaDoor.G
open Go.RowKit Go.Proofs.YtieieapacepabaaDoorW.PrintWords Go.Proofs.YtieieapacepabaaDoorW.PrintLast Go.Proofs.YtieieapacepabaaDoor.B
set_option linter.unusedVariables false
set_option linter.unusedSimpArgs false
def spB : ByteArray := ⟨#[32]⟩
def glu (s p : ByteArray) : ByteArray := (if s.size ≠ 0 ∧ p.size ≠ 0 then s ++ spB else s) ++ p
def joinD (l : List ByteArray) : ByteArray := l.foldl glu ByteArray.empty
def sumB (l : List ByteArray) : Nat := (l.map fun x => x.size + 1).sum
theorem sumB_cons (a : ByteArray) (l : List ByteArray) : sumB (a :: l) = a.size + 1 + sumB l := by simp [sumB]
theorem glu_size (s p : ByteArray) : (glu s p).size ≤ s.size + (p.size + 1) := by
  unfold glu
  rw [size_append]
  split
  · rw [size_append]; show s.size + 1 + p.size ≤ _; omega
  · omega
theorem fold_size (l : List ByteArray) : ∀ s : ByteArray, (l.foldl glu s).size ≤ s.size + sumB l := by
  induction l with
  | nil => intro s; simp [sumB]
  | cons p l ih =>
    intro s
    have := ih (glu s p)
    have h2 := glu_size s p
    rw [List.foldl_cons, sumB_cons]; omega
theorem joinD_size (l : List ByteArray) : (joinD l).size ≤ sumB l := by
  have := fold_size l ByteArray.empty
  have e : ByteArray.empty.size = 0 := rfl
  unfold joinD; omega
theorem L_nil {s : ByteArray} (h : s.size = 0) : L s = [] := (size_pos_iff s).1 h
theorem L_glu (s p : ByteArray) : L (glu s p) = if s.size ≠ 0 ∧ p.size ≠ 0 then L s ++ 32 :: L p else L s ++ L p := by
  unfold glu
  rw [L_append]
  split
  · rw [L_append, List.append_assoc]; rfl
  · rfl
theorem fold_join (l : List ByteArray) : ∀ s : ByteArray, L (l.foldl glu s) = if s.size = 0 then Lib.join ((l.filter fun x => !decide (x.size = 0)).map (·.data.toList)) [32] else L s ++ Lib.joinTail [32] ((l.filter fun x => !decide (x.size = 0)).map (·.data.toList)) := by
  induction l with
  | nil =>
    intro s
    by_cases h : s.size = 0
    · rw [if_pos h]; simp [Lib.join_nil, L_nil h]
    · rw [if_neg h]; simp [Lib.joinTail]
  | cons p l ih =>
    intro s
    rw [List.foldl_cons, ih]
    by_cases hp : p.size = 0
    · have e : glu s p = s := L_inj (by rw [L_glu, if_neg (fun h => h.2 hp), L_nil hp, List.append_nil])
      rw [e, List.filter_cons_of_neg (by simp [hp])]
    · have hg : ¬ (glu s p).size = 0 := by rw [← L_len, L_glu]; split <;> simp [L_len, hp]
      rw [if_neg hg, List.filter_cons_of_pos (by simp [hp]), List.map_cons, L_glu]
      by_cases h : s.size = 0
      · rw [if_neg (fun x => x.1 h), if_pos h, L_nil h, List.nil_append, Lib.join_cons]
      · rw [if_pos (And.intro h hp), if_neg h]
        simp [Lib.joinTail]
theorem join_filter (l : List ByteArray) : Lib.join ((l.filter fun x => !decide (x.size = 0)).map (·.data.toList)) (⟨#[32]⟩ : ByteArray).data.toList = L (joinD l) := by
  have := fold_join l ByteArray.empty
  rw [if_pos (show ByteArray.empty.size = 0 from rfl)] at this
  exact this.symm
theorem filter_all {l : List ByteArray} (h : ∀ x ∈ l, 1 ≤ x.size) : (l.filter fun x => !decide (x.size = 0)) = l := by
  rw [List.filter_eq_self]
  intro x hx
  have := h x hx
  show (!decide (x.size = 0)) = true
  rw [decide_eq_false (by omega)]; rfl
theorem libJoin_filter (l : List ByteArray) (hl : l.length ≤ 1000) (hs : sumB l ≤ 140737488355328) : strings_Join.f (l.filter fun x => !decide (x.size = 0)) (⟨#[32]⟩ : ByteArray) = some (joinD l) := by
  have h1 : (l.filter fun x => !decide (x.size = 0)).length ≤ l.length := List.length_filter_le _ _
  have h2 := joinD_size l
  unfold strings_Join.f
  rw [join_filter, if_pos ⟨by omega, by rw [L_len]; omega⟩]
theorem libJoin_all (l : List ByteArray) (hp : ∀ x ∈ l, 1 ≤ x.size) (hl : l.length ≤ 1000) (hs : sumB l ≤ 140737488355328) : strings_Join.f l (⟨#[32]⟩ : ByteArray) = some (joinD l) := by
  have := libJoin_filter l hl hs
  rwa [filter_all hp] at this
theorem spaced_eq (l : List ByteArray) (h1 : 1 ≤ l.length) (hl : l.length ≤ 1000) (hs : sumB l ≤ 140737488355328) : impl_spaced.f l = some (joinD l) := by
  unfold impl_spaced.f
  rw [if_pos ⟨h1, hl⟩]
  exact libJoin_filter l hl hs
theorem spec_join_loop (l : List ByteArray) (hl : l.length ≤ 4611686018427387904) (hs : sumB l ≤ 140737488355328) (d : Nat) : ∀ (s : ByteArray) (i : Nat), i ≤ l.length → l.length - i = d → s.size + sumB (l.drop i) ≤ 140737488355328 →
    Ev (fun k => spec_l2Join.l0 k l s (i : Int)) ((l.drop i).foldl glu s) := by
  induction d with
  | zero =>
    intro s i h1 hd hb
    refine Ev.step (f := fun _ => some s) (fun k => ?_) (ev_eq (Ev.now _) ?_)
    · simp only [spec_l2Join.l0]; rw [if_neg (by omega)]
    · rw [List.drop_of_length_le (by omega)]; rfl
  | succ d ih =>
    intro s i h1 hd hb
    have hi : i < l.length := by omega
    have hw : wrap64 ((i : Int) + 1) = ((i + 1 : Nat) : Int) := by rw [w64 (by omega) (by omega)]; rfl
    rw [List.drop_eq_getElem_cons hi] at hb ⊢
    rw [sumB_cons] at hb
    have hg := glu_size s l[i]
    rw [List.foldl_cons]
    refine Ev.step (f := fun k => spec_l2Join.l0 k l (glu s l[i]) ((i + 1 : Nat) : Int)) (fun k => ?_) (ih (glu s l[i]) (i + 1) (by omega) (by omega) (by omega))
    simp only [spec_l2Join.l0, rd_get l i hi]
    have a1 : (i : Int) < (l.length : Int) := by omega
    have a2 : (0 : Int) ≤ (i : Int) := by omega
    have a3 : s.size + l[i].size ≤ 9223372036854775807 := by omega
    have a4 : s.size + 1 ≤ 9223372036854775807 := by omega
    have a5 : (s ++ (⟨#[32]⟩ : ByteArray)).size + l[i].size ≤ 9223372036854775807 := by
      rw [size_append]; show s.size + 1 + l[i].size ≤ _; omega
    simp only [if_pos a1, if_pos a2, if_pos a3, if_pos a4, if_pos a5, hw]
    unfold glu
    by_cases hs0 : s.size = 0
    · have b : s.toList = ([] : List UInt8) := (nil_iff s).2 hs0
      simp only [b, hs0, ne_eq, not_true_eq_false, false_and, if_true, if_false]
    · have b : ¬ s.toList = ([] : List UInt8) := fun e => hs0 ((nil_iff s).1 e)
      rw [if_neg b]
      by_cases hp : l[i].size = 0
      · have b2 : (l[i]).toList = ([] : List UInt8) := (nil_iff _).2 hp
        rw [if_pos b2, if_neg (fun x : s.size ≠ 0 ∧ l[i].size ≠ 0 => x.2 hp)]
      · have b2 : ¬ (l[i]).toList = ([] : List UInt8) := fun e => hp ((nil_iff _).1 e)
        rw [if_neg b2, if_pos (show s.size ≠ 0 ∧ l[i].size ≠ 0 from ⟨hs0, hp⟩)]
        rfl
theorem spec_join (l : List ByteArray) (hl : l.length ≤ 4611686018427387904) (hs : sumB l ≤ 140737488355328) : Ev (fun k => spec_l2Join.f k l) (joinD l) := by
  have := spec_join_loop l hl hs _ ByteArray.empty 0 (by omega) rfl (by rw [List.drop_zero]; show 0 + _ ≤ _; omega)
  unfold spec_l2Join.f
  rw [List.drop_zero] at this
  exact this
def hyp (c : Int) : ByteArray := mkB [45, UInt8.ofNat c.toNat, 46]
def upC (c : Int) : Int := if loD c = true then c - 32 else c
def hyD (w : ByteArray) : Nat → Nat → ByteArray → ByteArray
  | 0, _, a => a
  | d + 1, i, a => hyD w d (i + 1) (if bt w (i : Int) = 45 then a ++ hyp (upC (bt w ((i + 1 : Nat) : Int))) else a)
theorem hyD_back (w : ByteArray) (d : Nat) : ∀ (i : Nat) (a : ByteArray), bt w ((i + d : Nat) : Int) ≠ 45 → hyD w (d + 1) i a = hyD w d i a := by
  induction d with
  | zero => intro i a h; simp only [hyD]; rw [if_neg (show ¬ bt w (i : Int) = 45 from h)]
  | succ d ih =>
    intro i a h
    have e : i + (d + 1) = (i + 1) + d := by omega
    rw [e] at h
    show hyD w (d + 1) (i + 1) _ = hyD w d (i + 1) _
    exact ih (i + 1) _ h
theorem hyD_front (w : ByteArray) (d i : Nat) (a : ByteArray) (h : bt w (i : Int) ≠ 45) : hyD w (d + 1) i a = hyD w d (i + 1) a := by
  show hyD w d (i + 1) _ = _
  rw [if_neg h]
theorem hyp_size (c : Int) : (hyp c).size = 3 := by unfold hyp; rw [size_mk]; rfl
theorem hyD_size (w : ByteArray) (d : Nat) : ∀ (i : Nat) (a : ByteArray), a.size ≤ (hyD w d i a).size ∧ (hyD w d i a).size ≤ a.size + 3 * d := by
  induction d with
  | zero => intro i a; exact ⟨Nat.le_refl _, Nat.le_refl _⟩
  | succ d ih =>
    intro i a
    show a.size ≤ (hyD w d (i + 1) _).size ∧ (hyD w d (i + 1) _).size ≤ _
    have := ih (i + 1) (if bt w (i : Int) = 45 then a ++ hyp (upC (bt w ((i + 1 : Nat) : Int))) else a)
    have e : (if bt w (i : Int) = 45 then a ++ hyp (upC (bt w ((i + 1 : Nat) : Int))) else a).size ≤ a.size + 3 ∧ a.size ≤ (if bt w (i : Int) = 45 then a ++ hyp (upC (bt w ((i + 1 : Nat) : Int))) else a).size := by
      split
      · rw [size_append, hyp_size]; omega
      · omega
    omega
theorem le_rng {c : Int} (h : leD c = true) : 65 ≤ c ∧ c ≤ 122 := by
  unfold leD upD loD at h
  simp only [Bool.or_eq_true, Bool.and_eq_true, decide_eq_true_eq] at h
  omega
theorem wl_at (s : ByteArray) (d : Nat) : ∀ i j : Nat, wlD s d i = true → i ≤ j → j < i + d → okD s j = true := by
  induction d with
  | zero => intro i j h h1 h2; omega
  | succ d ih =>
    intro i j h h1 h2
    unfold wlD at h
    rw [Bool.and_eq_true] at h
    by_cases e : j = i
    · rw [e]; exact h.1
    · exact ih (i + 1) j h.2 (by omega) (by omega)
structure Wrd (w : ByteArray) : Prop where
  s1 : 1 ≤ w.size
  s2 : w.size ≤ 12
  h0 : bt w ((0 : Nat) : Int) ≠ 45
  hn : bt w ((w.size - 1 : Nat) : Int) ≠ 45
  asc : ∀ j : Nat, j < w.size → 0 ≤ bt w (j : Int) ∧ bt w (j : Int) < 128
theorem wrd_of {w : ByteArray} (h : wordD w = true) : Wrd w := by
  obtain ⟨s1, s2⟩ := word_in h
  unfold wordD at h
  simp only [Bool.and_eq_true] at h
  obtain ⟨_, ⟨h1, h2⟩, h3⟩ := h
  have r1 := le_rng h1
  have e : ((w.size : Int) - 1) = ((w.size - 1 : Nat) : Int) := by omega
  rw [e] at h2
  have r2 := le_rng h2
  refine ⟨s1, s2, fun e => by rw [show ((0 : Nat) : Int) = 0 from rfl] at e; omega, fun e => by omega, fun j hj => ?_⟩
  by_cases h0 : j = 0
  · subst h0; rw [show ((0 : Nat) : Int) = 0 from rfl]; omega
  · have := wl_at w _ 1 j h3 (by omega) (by omega)
    unfold okD at this
    simp only [Bool.or_eq_true, Bool.and_eq_true, decide_eq_true_eq] at this
    rcases this with h | ⟨h, _⟩
    · have := le_rng h; omega
    · omega
theorem great_wrd {w : ByteArray} (h : greatD w = true) : Wrd w := by
  unfold greatD at h; rw [Bool.and_eq_true] at h; exact wrd_of h.1
theorem up_rng {c : Int} (h : 0 ≤ c ∧ c < 128) : 0 ≤ upC c ∧ upC c < 128 := by
  unfold upC
  split
  · rename_i e
    unfold loD at e
    simp only [Bool.and_eq_true, decide_eq_true_eq] at e
    omega
  · exact h
theorem impl_upB (c : Int) (h : 0 ≤ c ∧ c < 128) : impl_upperByte.f c = some (upC c) := by
  unfold impl_upperByte.f upC
  rw [impl_lo]
  show (if loD c = true then _ else _) = _
  cases e : loD c with
  | false => rw [if_neg (by simp), if_neg (by simp)]
  | true =>
    unfold loD at e
    simp only [Bool.and_eq_true, decide_eq_true_eq] at e
    rw [if_pos rfl, if_pos rfl]
    congr 1; omega
theorem enc_one (c : Int) (h : 0 ≤ c ∧ c < 128) : Utf8.encode (wrap32 c) = mkB [UInt8.ofNat c.toNat] := by
  have e : wrap32 c = c := by unfold wrap32; omega
  have v : Utf8.valid c = true := by unfold Utf8.valid; simp; omega
  rw [e]
  unfold Utf8.encode
  simp only [v, if_true]
  rw [if_pos (by omega)]
  rfl
theorem hyp_impl (a : ByteArray) (u : Int) : a ++ (((⟨#[45]⟩ : ByteArray) ++ mkB [UInt8.ofNat u.toNat]) ++ (⟨#[46]⟩ : ByteArray)) = a ++ hyp u := by
  apply L_inj; simp only [L_append, L_mk, hyp]; rfl
theorem hyp_spec (a : ByteArray) (u : Int) : ((a ++ (⟨#[45]⟩ : ByteArray)) ++ strOfNums [u]) ++ (⟨#[46]⟩ : ByteArray) = a ++ hyp u := by
  apply L_inj
  have e : L (strOfNums [u]) = [UInt8.ofNat u.toNat] := rfl
  simp only [L_append, L_mk, hyp, e, List.append_assoc]; rfl
theorem str_one (u : Int) : (strOfNums [u]).size = 1 := rfl
theorem one_size (n : UInt8) : (⟨#[n]⟩ : ByteArray).size = 1 := rfl
theorem spec_ini_l1 (parts : List ByteArray) (x4 : Int) (w : ByteArray) (hW : Wrd w) (G : List ByteArray) (P F S v : ByteArray) (hp : parts.length < 8796093022208) (d : Nat) : ∀ (i : Nat) (a : ByteArray), i + 1 ≤ w.size → w.size - (i + 1) = d → a.size + 3 * d ≤ 1000 →
    Ev (fun k => spec_l2Initials.l0 k (parts ++ [hyD w d i a]) (wrap64 (x4 + 1)) G P F S) v → Ev (fun k => spec_l2Initials.l1 k parts x4 w a ((i + 1 : Nat) : Int) G P F S) v := by
  induction d with
  | zero =>
    intro i a h1 h2 h3 hv
    refine Ev.step (fun k => ?_) hv
    simp only [spec_l2Initials.l1]
    rw [if_neg (by omega), if_pos hp]
    rfl
  | succ d ih =>
    intro i a h1 h2 h3 hv
    have hs := hW.s2
    have hw1 : wrap64 (((i + 1 : Nat) : Int) - 1) = (i : Int) := by rw [w64 (by omega) (by omega)]; omega
    have hw2 : wrap64 (((i + 1 : Nat) : Int) + 1) = ((i + 1 + 1 : Nat) : Int) := by rw [w64 (by omega) (by omega)]; rfl
    have b := hW.asc (i + 1) (by omega)
    have a1 : ((i + 1 : Nat) : Int) < (w.size : Int) := by omega
    have a2 : (0 : Int) ≤ (i : Int) := by omega
    have a3 : (i : Int) < (w.size : Int) := by omega
    have a4 : (0 : Int) ≤ ((i + 1 : Nat) : Int) := by omega
    have a5 : a.size + 1 ≤ 9223372036854775807 := by omega
    have hv' : Ev (fun k => spec_l2Initials.l0 k (parts ++ [hyD w d (i + 1) (if bt w (i : Int) = 45 then a ++ hyp (upC (bt w ((i + 1 : Nat) : Int))) else a)]) (wrap64 (x4 + 1)) G P F S) v := hv
    by_cases c : bt w (i : Int) = 45
    · rw [if_pos c] at hv'
      have := ih (i + 1) (a ++ hyp (upC (bt w ((i + 1 : Nat) : Int)))) (by omega) (by omega) (by rw [size_append, hyp_size]; omega) hv'
      refine Ev.step (fun k => ?_) this
      simp only [spec_l2Initials.l1]
      rw [if_pos a1, hw1, if_pos a2, if_pos a3, if_pos c, if_pos a4, spec_lo, hw2]
      simp only [Option.bind_some]
      have a6 : ∀ u : Int, (a ++ (⟨#[45]⟩ : ByteArray)).size + (strOfNums [u]).size ≤ 9223372036854775807 := fun u => by rw [size_append, str_one, one_size]; omega
      have a7 : ∀ u : Int, ((a ++ (⟨#[45]⟩ : ByteArray)) ++ strOfNums [u]).size + 1 ≤ 9223372036854775807 := fun u => by rw [size_append, size_append, str_one, one_size]; omega
      cases e : loD (bt w ((i + 1 : Nat) : Int)) with
      | false =>
        have eu : upC (bt w ((i + 1 : Nat) : Int)) = bt w ((i + 1 : Nat) : Int) := by unfold upC; rw [if_neg (by rw [e]; exact Bool.false_ne_true)]
        rw [if_neg (by simp), if_pos a5, if_pos (a6 _), if_pos (a7 _), hyp_spec, eu]
      | true =>
        have eu : upC (bt w ((i + 1 : Nat) : Int)) = bt w ((i + 1 : Nat) : Int) - 32 := by unfold upC; rw [if_pos e]
        have r := up_rng b
        rw [eu] at r
        have em : (bt w ((i + 1 : Nat) : Int) - 32) % 256 = bt w ((i + 1 : Nat) : Int) - 32 := by omega
        rw [if_pos rfl, if_pos a5, em, if_pos (a6 _), if_pos (a7 _), hyp_spec, eu]
    · rw [if_neg c] at hv'
      have := ih (i + 1) a (by omega) (by omega) (by omega) hv'
      refine Ev.step (fun k => ?_) this
      simp only [spec_l2Initials.l1]
      rw [if_pos a1, hw1, if_pos a2, if_pos a3, if_neg c, hw2]
theorem impl_ini_l1 (parts : List ByteArray) (w : ByteArray) (hW : Wrd w) (G : List ByteArray) (x11 x12 : Int) (v : ByteArray) (hp : parts.length < 8796093022208) (d : Nat) : ∀ (i : Nat) (a : ByteArray), i ≤ w.size → w.size - i = d → a.size + 3 * d ≤ 1000 →
    Ev (fun k => impl_initialsOf.l0 k (parts ++ [hyD w d i a]) G x11 (wrap64 (x12 + 1))) v → Ev (fun k => impl_initialsOf.l1 k parts w a (i : Int) G x11 x12) v := by
  induction d with
  | zero =>
    intro i a h1 h2 h3 hv
    refine Ev.step (fun k => ?_) hv
    simp only [impl_initialsOf.l1]
    rw [if_neg (by omega), if_pos hp]
    rfl
  | succ d ih =>
    intro i a h1 h2 h3 hv
    have hs := hW.s2
    have hw2 : wrap64 ((i : Int) + 1) = ((i + 1 : Nat) : Int) := by rw [w64 (by omega) (by omega)]; rfl
    have a1 : (i : Int) < (w.size : Int) := by omega
    have a2 : (0 : Int) ≤ (i : Int) := by omega
    have a4 : (0 : Int) ≤ ((i + 1 : Nat) : Int) := by omega
    have hv' : Ev (fun k => impl_initialsOf.l0 k (parts ++ [hyD w d (i + 1) (if bt w (i : Int) = 45 then a ++ hyp (upC (bt w ((i + 1 : Nat) : Int))) else a)]) G x11 (wrap64 (x12 + 1))) v := hv
    by_cases c : bt w (i : Int) = 45
    · rw [if_pos c] at hv'
      have hne : i ≠ w.size - 1 := fun e => hW.hn (by rw [← e]; exact c)
      have b := hW.asc (i + 1) (by omega)
      have a3 : ((i + 1 : Nat) : Int) < (w.size : Int) := by omega
      have := ih (i + 1) (a ++ hyp (upC (bt w ((i + 1 : Nat) : Int)))) (by omega) (by omega) (by rw [size_append, hyp_size]; omega) hv'
      refine Ev.step (fun k => ?_) this
      simp only [impl_initialsOf.l1]
      rw [if_pos a1, if_pos a2, if_pos c, hw2, if_pos a4, if_pos a3, impl_upB _ b]
      simp only [Option.bind_some]
      have s1 : (mkB [UInt8.ofNat (upC (bt w ((i + 1 : Nat) : Int))).toNat]).size = 1 := by rw [size_mk]; rfl
      rw [enc_one _ (up_rng b), s1, if_pos (by omega), if_pos (by rw [size_append, s1, one_size]; omega), if_pos (by rw [size_append, size_append, s1, one_size, one_size]; omega), hyp_impl]
    · rw [if_neg c] at hv'
      have := ih (i + 1) a (by omega) (by omega) (by omega) hv'
      refine Ev.step (fun k => ?_) this
      simp only [impl_initialsOf.l1]
      rw [if_pos a1, if_pos a2, if_neg c, hw2]
def iniD (w : ByteArray) : ByteArray := hyD w (w.size - 1) 1 (w.extract 0 1 ++ (⟨#[46]⟩ : ByteArray))
theorem head_size (w : ByteArray) (h : 1 ≤ w.size) : (w.extract 0 1 ++ (⟨#[46]⟩ : ByteArray)).size = 2 := by
  rw [size_append, ByteArray.size_extract, one_size]; omega
theorem ini_alt {w : ByteArray} (hW : Wrd w) : hyD w (w.size - 1) 0 (w.extract 0 1 ++ (⟨#[46]⟩ : ByteArray)) = iniD w := by
  unfold iniD
  rw [← hyD_front w (w.size - 1) 0 _ hW.h0]
  exact (hyD_back w (w.size - 1) 0 _ (by rw [Nat.zero_add]; exact hW.hn)).symm
theorem ini_size {w : ByteArray} (hW : Wrd w) : 1 ≤ (iniD w).size ∧ (iniD w).size ≤ 40 := by
  have h1 := hyD_size w (w.size - 1) 1 (w.extract 0 1 ++ (⟨#[46]⟩ : ByteArray))
  have h2 := head_size w hW.s1
  have h3 := hW.s2
  unfold iniD
  omega
theorem parts_sum (l : List ByteArray) (h : ∀ x ∈ l, 1 ≤ x.size ∧ x.size ≤ 40) : sumB l ≤ 41 * l.length := by
  induction l with
  | nil => exact Nat.le_refl _
  | cons a l ih =>
    have := ih (fun x hx => h x (List.mem_cons_of_mem _ hx))
    have := (h a (List.mem_cons_self)).2
    rw [sumB_cons, List.length_cons]; omega
theorem spec_ini_l0 (G : List ByteArray) (P F S : ByteArray) (hG : G.length ≤ 3) (hW : ∀ w ∈ G, Wrd w) (d : Nat) : ∀ (i : Nat) (parts : List ByteArray), i ≤ G.length → G.length - i = d → parts.length = i → (∀ x ∈ parts, 1 ≤ x.size ∧ x.size ≤ 40) →
    Ev (fun k => spec_l2Initials.l0 k parts (i : Int) G P F S) (joinD (parts ++ (G.drop i).map iniD)) := by
  induction d with
  | zero =>
    intro i parts h1 h2 h3 h4
    have hb := parts_sum parts h4
    refine Ev.step (f := fun k => (spec_l2Join.f k parts).bind fun t => some t) (fun k => ?_) (Ev.bind (spec_join parts (by omega) (by omega)) (ev_eq (Ev.now _) ?_))
    · simp only [spec_l2Initials.l0]; rw [if_neg (by omega)]
    · rw [List.drop_of_length_le (by omega), List.map_nil, List.append_nil]
  | succ d ih =>
    intro i parts h1 h2 h3 h4
    have hi : i < G.length := by omega
    have w1 := hW G[i] (List.getElem_mem hi)
    have hs := head_size G[i] w1.s1
    have hw : wrap64 ((i : Int) + 1) = ((i + 1 : Nat) : Int) := by rw [w64 (by omega) (by omega)]; rfl
    have hn := ih (i + 1) (parts ++ [iniD G[i]]) (by omega) (by omega) (by simp [h3]) (fun x hx => by
      rcases List.mem_append.1 hx with h | h
      · exact h4 x h
      · rw [List.mem_singleton.1 h]; exact ini_size w1)
    rw [← ini_alt w1, ← hw] at hn
    have h5 := w1.s1
    have h6 := w1.s2
    have h7 := spec_ini_l1 parts (i : Int) G[i] w1 G P F S _ (by omega) (G[i].size - 1) 0 _ (by omega) (by omega) (by omega) hn
    rw [List.drop_eq_getElem_cons hi, List.map_cons]
    refine Ev.step (fun k => ?_) (ev_eq h7 (by rw [ini_alt w1, List.append_assoc]; rfl))
    simp only [spec_l2Initials.l0, rd_get G i hi]
    have a0 : (0 : Nat) ≤ 1 := by omega
    rw [if_pos (by omega), if_pos (by omega), if_pos a0, if_pos (by omega), if_pos (by rw [ByteArray.size_extract]; omega)]
    rfl
theorem impl_ini_l0 (G : List ByteArray) (hG : G.length ≤ 3) (hW : ∀ w ∈ G, Wrd w) (d : Nat) : ∀ (i : Nat) (parts : List ByteArray), i ≤ G.length → G.length - i = d → parts.length = i → (∀ x ∈ parts, 1 ≤ x.size ∧ x.size ≤ 40) →
    Ev (fun k => impl_initialsOf.l0 k parts G (G.length : Int) (i : Int)) (joinD (parts ++ (G.drop i).map iniD)) := by
  induction d with
  | zero =>
    intro i parts h1 h2 h3 h4
    have hb := parts_sum parts h4
    refine Ev.step (f := fun k => (strings_Join.f parts (⟨#[32]⟩ : ByteArray)).bind fun t => some t) (fun k => ?_) (ev_bind0 (libJoin_all parts (fun x hx => (h4 x hx).1) (by omega) (by omega)) (ev_eq (Ev.now _) ?_))
    · simp only [impl_initialsOf.l0]; rw [if_neg (by omega)]
    · rw [List.drop_of_length_le (by omega), List.map_nil, List.append_nil]
  | succ d ih =>
    intro i parts h1 h2 h3 h4
    have hi : i < G.length := by omega
    have w1 := hW G[i] (List.getElem_mem hi)
    have hs := head_size G[i] w1.s1
    have hw : wrap64 ((i : Int) + 1) = ((i + 1 : Nat) : Int) := by rw [w64 (by omega) (by omega)]; rfl
    have hn := ih (i + 1) (parts ++ [iniD G[i]]) (by omega) (by omega) (by simp [h3]) (fun x hx => by
      rcases List.mem_append.1 hx with h | h
      · exact h4 x h
      · rw [List.mem_singleton.1 h]; exact ini_size w1)
    rw [← hw] at hn
    have h5 := w1.s1
    have h6 := w1.s2
    have h7 := impl_ini_l1 parts G[i] w1 G (G.length : Int) (i : Int) _ (by omega) (G[i].size - 1) 1 _ (by omega) (by omega) (by omega) hn
    rw [List.drop_eq_getElem_cons hi, List.map_cons]
    refine Ev.step (fun k => ?_) (ev_eq h7 (by rw [List.append_assoc]; rfl))
    simp only [impl_initialsOf.l0, rd_get G i hi]
    have a0 : (0 : Nat) ≤ 1 := by omega
    rw [if_pos (by omega), if_pos (by omega), if_pos (by omega), if_pos a0, if_pos (by omega), if_pos (by rw [ByteArray.size_extract]; omega)]
    rfl
def initD (G : List ByteArray) : ByteArray := joinD (G.map iniD)
theorem good_wrd {G : List ByteArray} {P F S : ByteArray} (h : goodN G P F S = true) : G.length ≤ 3 ∧ ∀ w ∈ G, Wrd w := by
  unfold goodN at h
  simp only [Bool.and_eq_true, decide_eq_true_eq] at h
  exact ⟨h.2.1, fun x hx => great_wrd (List.all_eq_true.1 h.1 x hx)⟩
theorem spec_ini (G : List ByteArray) (P F S : ByteArray) (hg : goodN G P F S = true) : Ev (fun k => spec_l2Initials.f k G P F S) (initD G) := by
  obtain ⟨h1, h2⟩ := good_wrd hg
  have := spec_ini_l0 G P F S h1 h2 _ 0 [] (by omega) rfl rfl (fun x hx => by cases hx)
  unfold spec_l2Initials.f
  exact this
theorem impl_ini (G : List ByteArray) (P F S : ByteArray) (hg : goodN G P F S = true) : Ev (fun k => impl_initialsOf.f k G P F S) (initD G) := by
  obtain ⟨h1, h2⟩ := good_wrd hg
  have := impl_ini_l0 G h1 h2 _ 0 [] (by omega) rfl rfl (fun x hx => by cases hx)
  unfold impl_initialsOf.f
  exact this
theorem init_size {G : List ByteArray} {P F S : ByteArray} (hg : goodN G P F S = true) : (initD G).size ≤ 123 := by
  obtain ⟨h1, h2⟩ := good_wrd hg
  have h3 := parts_sum (G.map iniD) (fun x hx => by obtain ⟨y, hy, rfl⟩ := List.mem_map.1 hx; exact ini_size (h2 y hy))
  have h4 := joinD_size (G.map iniD)
  rw [List.length_map] at h3
  unfold initD; omega
def shortD (G : List ByteArray) (P F : ByteArray) : ByteArray := joinD [initD G, P, F]
theorem short_sum {G : List ByteArray} {P F S : ByteArray} (hg : goodN G P F S = true) (h : bulkN G P F S ≤ 1048576) : sumB [initD G, P, F] ≤ 1048760 := by
  have h1 := init_size hg
  unfold bulkN at h
  have h4 : sumB [initD G, P, F] = (initD G).size + 1 + (P.size + 1 + (F.size + 1 + 0)) := rfl
  omega
theorem spec_short (G : List ByteArray) (P F S : ByteArray) (hg : goodN G P F S = true) (h : bulkN G P F S ≤ 1048576) : Ev (fun k => spec_l2Short.f k G P F S) (shortD G P F) := by
  have h1 := short_sum hg h
  unfold spec_l2Short.f
  exact Ev.bind (spec_ini G P F S hg) (Ev.bind (spec_join _ (by simp) (by omega)) (Ev.now _))
theorem impl_short (G : List ByteArray) (P F S : ByteArray) (hg : goodN G P F S = true) (h : bulkN G P F S ≤ 1048576) : Ev (fun k => impl_shortForm.f k G P F S) (shortD G P F) := by
  have h1 := short_sum hg h
  unfold impl_shortForm.f
  exact Ev.bind (impl_ini G P F S hg) (ev_bind0 (spaced_eq _ (by simp) (by simp) (by omega)) (Ev.now _))
theorem short_size {G : List ByteArray} {P F S : ByteArray} (hg : goodN G P F S = true) (h : bulkN G P F S ≤ 1048576) : (shortD G P F).size ≤ 1048760 := Nat.le_trans (joinD_size _) (short_sum hg h)
end Go.Proofs.YtieieapacepabaaDoor.G

namespace Go.Proofs.YtieieapacepabaaDoor.G
open Go.RowKit Go.Proofs.YtieieapacepabaaDoorW.PrintWords Go.Proofs.YtieieapacepabaaDoorW.PrintLast Go.Proofs.YtieieapacepabaaDoor.B Go.Proofs.YtieieapacepabaaDoor.Opn
set_option linter.unusedVariables false
set_option linter.unusedSimpArgs false
theorem rd27 (l : List S26) (i : Nat) (h : i < l.length) : rd_T26 l (i : Int) = l[i] := by simp [rd_T26, h]
def goodS (x : S26) : Bool := goodN x.f0 x.f1 x.f2 x.f3
def okS (x : S26) : Prop := x.f0.length ≤ 4611686018427387904 ∧ x.f1.size ≤ 4294967280
def listD (l : List S26) : Bool := l.all goodS && decide (l.length ≤ 4)
theorem spec_list_loop (l : List S26) (ho : ∀ x ∈ l, okS x) (hl : l.length ≤ 1048576) (d : Nat) : ∀ i : Nat, i ≤ l.length → min l.length 5 - i = d → i ≤ 5 →
    Ev (fun k => spec_l2List.l0 k l (i : Int)) (((l.take 5).drop i).all goodS && decide (l.length ≤ 4)) := by
  have stop : ∀ i : Nat, Ev (fun k => spec_l2List.j1 k l (i : Int) false) (decide (l.length ≤ 4)) := fun i => by
    refine Ev.step (f := fun _ => some (decide ((l.length : Int) ≤ 4))) (fun k => by simp [spec_l2List.j1]) (ev_eq (Ev.now _) ?_)
    rw [decide_eq_decide]; omega
  induction d with
  | zero =>
    intro i h1 hd h5
    rw [List.drop_of_length_le (by rw [List.length_take]; omega)]
    refine Ev.step (f := fun k => spec_l2List.j1 k l (i : Int) false) (fun k => ?_) (ev_eq (stop i) (by simp))
    simp only [spec_l2List.l0]
    by_cases c : i < l.length
    · rw [if_pos (by omega), decide_eq_false (by omega)]
    · rw [if_neg (by omega)]
  | succ d ih =>
    intro i h1 hd h5
    have hi : i < l.length := by omega
    have hw : wrap64 ((i : Int) + 1) = ((i + 1 : Nat) : Int) := by rw [w64 (by omega) (by omega)]; rfl
    have hi' : i < (l.take 5).length := by rw [List.length_take]; omega
    have hx := ho _ (List.getElem_mem hi)
    rw [List.drop_eq_getElem_cons hi', List.all_cons, List.getElem_take, Bool.and_assoc]
    refine Ev.step (f := fun k => spec_l2List.j1 k l (i : Int) true) (fun k => ?_) (Ev.step (f := fun k => (spec_l2Good.f k (l[i]).f0 (l[i]).f1 (l[i]).f2 (l[i]).f3).bind fun t278 => (if t278 = true then (spec_l2List.l0 k l ((i + 1 : Nat) : Int)) else (some false))) (fun k => ?_) (Ev.bind (spec_name _ _ _ _ hx.1 hx.2) ?_))
    · simp only [spec_l2List.l0]
      rw [if_pos (by omega), decide_eq_true (by omega)]
    · simp only [spec_l2List.j1, rd27 l i hi, hw]
      rw [if_pos trivial, if_pos (by omega), if_pos (by omega)]
    · show Ev _ (goodN (l[i]).f0 (l[i]).f1 (l[i]).f2 (l[i]).f3 && _)
      cases goodN (l[i]).f0 (l[i]).f1 (l[i]).f2 (l[i]).f3 with
      | true => exact ev_pos rfl (ev_eq (ih (i + 1) (by omega) (by omega) (by omega)) (by simp))
      | false => exact ev_neg (by simp) (ev_eq (Ev.now _) (by simp))
theorem spec_list (l : List S26) (ho : ∀ x ∈ l, okS x) (hl : l.length ≤ 1048576) : Ev (fun k => spec_l2List.f k l) (listD l) := by
  have h := spec_list_loop l ho hl _ 0 (by omega) rfl (by omega)
  unfold spec_l2List.f listD
  refine ev_eq h ?_
  rw [List.drop_zero]
  by_cases c : l.length ≤ 4
  · rw [List.take_of_length_le (by omega)]
  · rw [decide_eq_false c]; simp
theorem idxN_loop (l : List S26) (ho : ∀ x ∈ l, okS x) (hl : l.length ≤ 1048576) (d : Nat) : ∀ i : Nat, i ≤ l.length → l.length - i = d →
    ∃ v, Ev (fun k => impl_Name_82_at_63.l0 k l (l.length : Int) (i : Int)) v ∧ decide (v ≥ 0) = !((l.drop i).all goodS) := by
  induction d with
  | zero =>
    intro i h1 hd
    refine ⟨-1, Ev.step (f := fun _ => some (-1)) (fun k => ?_) (Ev.now _), ?_⟩
    · simp only [impl_Name_82_at_63.l0]; rw [if_neg (by omega)]
    · rw [List.drop_of_length_le (by omega)]; simp
  | succ d ih =>
    intro i h1 hd
    have hi : i < l.length := by omega
    have hw : wrap64 ((i : Int) + 1) = ((i + 1 : Nat) : Int) := by rw [w64 (by omega) (by omega)]; rfl
    have hx := ho _ (List.getElem_mem hi)
    rw [List.drop_eq_getElem_cons hi, List.all_cons]
    have hst : ∀ v, Ev (fun k => (impl_areNames_1.f k (l[i]).f0 (l[i]).f1 (l[i]).f2 (l[i]).f3).bind fun t => if t = true then some (i : Int) else impl_Name_82_at_63.l0 k l (l.length : Int) ((i + 1 : Nat) : Int)) v → Ev (fun k => impl_Name_82_at_63.l0 k l (l.length : Int) (i : Int)) v := by
      intro v hv
      refine Ev.step (fun k => ?_) hv
      simp only [impl_Name_82_at_63.l0, rd27 l i hi, hw]
      rw [if_pos (by omega), if_pos (by omega), if_pos (by omega)]
    have hf : Ev (fun k => impl_areNames_1.f k (l[i]).f0 (l[i]).f1 (l[i]).f2 (l[i]).f3) (!goodS l[i]) := by
      unfold impl_areNames_1.f
      exact Ev.bind (impl_valid _ _ _ _ hx.1 hx.2) (Ev.now _)
    cases h : goodS l[i] with
    | true =>
      obtain ⟨v, hv, e⟩ := ih (i + 1) (by omega) (by omega)
      refine ⟨v, hst v (Ev.bind hf (ev_neg (by simp [h]) hv)), ?_⟩
      rw [e]; simp
    | false =>
      refine ⟨(i : Int), hst _ (Ev.bind hf (ev_pos (by simp [h]) (Ev.now _))), ?_⟩
      simp
theorem impl_list (l : List S26) (ho : ∀ x ∈ l, okS x) (hl : l.length ≤ 1048576) : Ev (fun k => impl_areNames.f k l) (listD l) := by
  unfold impl_areNames.f listD
  by_cases c : l.length ≤ 4
  · obtain ⟨v, hv, e⟩ := idxN_loop l ho hl _ 0 (by omega) rfl
    rw [List.drop_zero] at e
    refine ev_pos (by omega) (Ev.bind (g := fun k => impl_Name_62_at_63.f k l) (a := decide (v ≥ 0)) ?_ (ev_eq (Ev.now _) ?_))
    · unfold impl_Name_62_at_63.f impl_Name_82_at_63.f
      exact Ev.bind hv (Ev.now _)
    · rw [e]; simp [c]
  · exact ev_neg (by omega) (ev_eq (Ev.now _) (by simp [c]))
theorem list_good {l : List S26} (h : listD l = true) : l.length ≤ 4 ∧ ∀ x ∈ l, goodS x = true := by
  unfold listD at h
  simp only [Bool.and_eq_true, decide_eq_true_eq] at h
  exact ⟨h.2, fun x hx => List.all_eq_true.1 h.1 x hx⟩

end Go.Proofs.YtieieapacepabaaDoor.G

namespace Go.Proofs.YtieieapacepabaaDoor.G
open Go.RowKit Go.Proofs.YtieieapacepabaaDoorW.PrintWords Go.Proofs.YtieieapacepabaaDoorW.PrintLast Go.Proofs.YtieieapacepabaaDoor.B
set_option linter.unusedVariables false
set_option linter.unusedSimpArgs false
def etB : ByteArray := ⟨#[32, 101, 116, 32, 97, 108, 46]⟩
def andB : ByteArray := ⟨#[32, 97, 110, 100, 32]⟩
def cmC : ByteArray := ⟨#[44, 32]⟩
def shS (x : S26) : ByteArray := shortD x.f0 x.f1 x.f2
def bulkS1 (x : S26) : Nat := bulkN x.f0 x.f1 x.f2 x.f3
def glueN (n i : Nat) (s t : ByteArray) : ByteArray := if i = 0 then s ++ t else if i + 1 = n then (s ++ andB) ++ t else (s ++ cmC) ++ t
theorem glueN_size (n i : Nat) (s t : ByteArray) : (glueN n i s t).size ≤ s.size + 5 + t.size := by
  unfold glueN
  split
  · rw [size_append]; omega
  · split
    · rw [size_append, size_append]; show s.size + 5 + t.size ≤ _; omega
    · rw [size_append, size_append]; show s.size + 2 + t.size ≤ _; omega
structure LOk (l : List S26) : Prop where
  four : l.length ≤ 4
  good : ∀ x ∈ l, goodS x = true
  bulk : ∀ x ∈ l, bulkS1 x ≤ 1048576
theorem LOk.size {l : List S26} (h : LOk l) {x : S26} (hx : x ∈ l) : (shS x).size ≤ 1048760 := short_size (S := x.f3) (h.good x hx) (h.bulk x hx)
theorem LOk.spec {l : List S26} (h : LOk l) {x : S26} (hx : x ∈ l) : Ev (fun k => spec_l2Short.f k x.f0 x.f1 x.f2 x.f3) (shS x) := spec_short _ _ _ _ (h.good x hx) (h.bulk x hx)
theorem LOk.impl {l : List S26} (h : LOk l) {x : S26} (hx : x ∈ l) : Ev (fun k => impl_shortForm.f k x.f0 x.f1 x.f2 x.f3) (shS x) := impl_short _ _ _ _ (h.good x hx) (h.bulk x hx)
theorem step3 {α : Type} {f g : Nat → Option α} {v : α} (h : ∀ k, f (k + 3) = g k) (hv : Ev g v) : Ev f v := by
  obtain ⟨K, hK⟩ := hv
  refine ⟨K + 3, fun k hk => ?_⟩
  obtain ⟨k', rfl⟩ : ∃ k', k = k' + 3 := ⟨k - 3, by omega⟩
  exact (h k').trans (hK k' (by omega))
theorem spec_et (l : List S26) (lim : Int) (s : ByteArray) (h1 : 1 < l.length) (h2 : (l.length : Int) > lim) (hs : s.size ≤ 100000000) : Ev (fun k => spec_l2Names.l0 k l lim s 1) (s ++ etB) := by
  refine step3 (g := fun _ => some (s ++ etB)) (fun k => ?_) (Ev.now _)
  have a1 : (1 : Int) < (l.length : Int) := by omega
  have a2 : s.size + 7 ≤ 9223372036854775807 := by omega
  simp only [spec_l2Names.l0, spec_l2Names.j1]
  rw [if_pos a1, if_pos trivial, if_pos (decide_eq_true h2), if_pos a2]
  rfl
theorem spec_next (l : List S26) (ho : LOk l) (lim : Int) (s v : ByteArray) (i : Nat) (hi : i < l.length) (hne : ¬ (i = 1 ∧ (l.length : Int) > lim)) (hs : s.size ≤ 100000000)
    (hv : Ev (fun k => spec_l2Names.l0 k l lim (glueN l.length i s (shS l[i])) ((i + 1 : Nat) : Int)) v) : Ev (fun k => spec_l2Names.l0 k l lim s (i : Int)) v := by
  have hm := List.getElem_mem hi
  have h4 := ho.four
  have hz := ho.size hm
  have hw : wrap64 ((i : Int) + 1) = ((i + 1 : Nat) : Int) := by rw [w64 (by omega) (by omega)]; rfl
  have hw1 : wrap64 ((l.length : Int) - 1) = (l.length : Int) - 1 := w64 (by omega) (by omega)
  have hr := rd27 l i hi
  have a1 : (i : Int) < (l.length : Int) := by omega
  have a2 : (0 : Int) ≤ (i : Int) := by omega
  have key : Ev (fun k => (spec_l2Short.f k (l[i]).f0 (l[i]).f1 (l[i]).f2 (l[i]).f3).bind fun t => spec_l2Names.l0 k l lim (glueN l.length i s t) ((i + 1 : Nat) : Int)) v := Ev.bind (ho.spec hm) hv
  obtain ⟨K, hK⟩ := ho.spec hm
  obtain ⟨K', hK'⟩ := hv
  refine ⟨K + K' + 3, fun k hk => ?_⟩
  obtain ⟨k', rfl⟩ : ∃ k', k = k' + 3 := ⟨k - 3, by omega⟩
  have e1 : spec_l2Short.f k' (l[i]).f0 (l[i]).f1 (l[i]).f2 (l[i]).f3 = some (shS l[i]) := hK k' (by omega)
  have e2 : spec_l2Names.l0 k' l lim (glueN l.length i s (shS l[i])) ((i + 1 : Nat) : Int) = some v := hK' k' (by omega)
  have j2 : spec_l2Names.j2 (k' + 1) l lim s (i : Int) (decide (0 < i) && decide (i + 1 = l.length)) = some v := by
    simp only [spec_l2Names.j2, hr, hw, if_pos a1, if_pos a2]
    rw [e1]
    simp only [Option.bind_some]
    unfold glueN at e2
    by_cases c : i = 0
    · subst c
      have b3 : s.size + (shS l[0]).size ≤ 9223372036854775807 := by omega
      rw [if_neg (by simp), if_neg (by omega), if_pos b3]
      rw [if_pos rfl] at e2
      exact e2
    · rw [if_neg c] at e2
      by_cases d : i + 1 = l.length
      · have b1 : s.size + 5 ≤ 9223372036854775807 := by omega
        have b2 : (s ++ (⟨#[32, 97, 110, 100, 32]⟩ : ByteArray)).size + (shS l[i]).size ≤ 9223372036854775807 := by rw [size_append]; show s.size + 5 + _ ≤ _; omega
        rw [if_pos (by rw [decide_eq_true (show 0 < i by omega), decide_eq_true d]; rfl), if_pos b1, if_pos b2]
        rw [if_pos d] at e2
        exact e2
      · have b1 : s.size + 2 ≤ 9223372036854775807 := by omega
        have b2 : (s ++ (⟨#[44, 32]⟩ : ByteArray)).size + (shS l[i]).size ≤ 9223372036854775807 := by rw [size_append]; show s.size + 2 + _ ≤ _; omega
        rw [if_neg (by rw [decide_eq_false d]; simp), if_pos (by omega), if_pos b1, if_pos b2]
        rw [if_neg d] at e2
        exact e2
  have j1 : spec_l2Names.j1 (k' + 2) l lim s (i : Int) false = some v := by
    simp only [spec_l2Names.j1]
    rw [if_neg (by simp)]
    by_cases c : i = 0
    · subst c
      rw [if_neg (by omega)]
      exact j2
    · rw [if_pos (by omega), hw1]
      rw [decide_eq_true (show 0 < i by omega), Bool.true_and] at j2
      by_cases d : i + 1 = l.length
      · rw [decide_eq_true d] at j2
        rw [show ((i : Int) == (l.length : Int) - 1) = true from beq_iff_eq.2 (by omega)]; exact j2
      · rw [decide_eq_false d] at j2
        rw [show ((i : Int) == (l.length : Int) - 1) = false from beq_eq_false_iff_ne.2 (by omega)]; exact j2
  show spec_l2Names.l0 (k' + 3) l lim s (i : Int) = some v
  simp only [spec_l2Names.l0]
  rw [if_pos a1]
  by_cases c : i = 1
  · have hd : decide ((l.length : Int) > lim) = false := decide_eq_false (fun h => hne ⟨c, h⟩)
    rw [if_pos (by omega), hd]; exact j1
  · rw [if_neg (by omega)]; exact j1
def runW (n : Nat) : List ByteArray → Nat → ByteArray → ByteArray
  | [], _, s => s
  | t :: ts, i, s => runW n ts (i + 1) (glueN n i s t)
theorem spec_run (l : List S26) (ho : LOk l) (lim : Int) (h : ¬ ((l.length : Int) > lim)) (d : Nat) : ∀ (i : Nat) (s : ByteArray), i ≤ l.length → l.length - i = d → s.size ≤ 2000000 * i →
    Ev (fun k => spec_l2Names.l0 k l lim s (i : Int)) (runW l.length ((l.drop i).map shS) i s) := by
  have h4 := ho.four
  induction d with
  | zero =>
    intro i s h1 h2 h3
    refine Ev.step (f := fun _ => some s) (fun k => ?_) (ev_eq (Ev.now _) ?_)
    · simp only [spec_l2Names.l0]; rw [if_neg (by omega)]
    · rw [List.drop_of_length_le (by omega)]; rfl
  | succ d ih =>
    intro i s h1 h2 h3
    have hi : i < l.length := by omega
    have hz := ho.size (List.getElem_mem hi)
    have hg := glueN_size l.length i s (shS l[i])
    rw [List.drop_eq_getElem_cons hi, List.map_cons]
    exact spec_next l ho lim s _ i hi (fun x => h x.2) (by omega) (ih (i + 1) _ (by omega) (by omega) (by omega))
def namD (ws : List ByteArray) (lim : Int) : ByteArray := if 1 < ws.length ∧ (ws.length : Int) > lim then ws.headD ByteArray.empty ++ etB else runW ws.length ws 0 ByteArray.empty
theorem spec_names (l : List S26) (ho : LOk l) (lim : Int) (hl : 1 ≤ lim) : Ev (fun k => spec_l2Names.f k l lim) (namD (l.map shS) lim) := by
  unfold spec_l2Names.f namD
  rw [List.length_map]
  by_cases c : (l.length : Int) > lim
  · have h1 : 1 < l.length := by omega
    have h0 : 0 < l.length := by omega
    have hz := ho.size (List.getElem_mem h0)
    have he := spec_et l lim (glueN l.length 0 ByteArray.empty (shS l[0])) h1 c (by have := glueN_size l.length 0 ByteArray.empty (shS l[0]); have e : ByteArray.empty.size = 0 := rfl; omega)
    have hn := spec_next l ho lim ByteArray.empty _ 0 h0 (by omega) (by show 0 ≤ _; omega) he
    refine ev_eq hn ?_
    rw [if_pos ⟨h1, c⟩]
    congr 1
    match l, h0 with
    | x :: xs, _ => unfold glueN; rw [if_pos rfl]; apply L_inj; rw [L_append]; rfl
  · have := spec_run l ho lim c _ 0 ByteArray.empty (by omega) rfl (by show 0 ≤ _; omega)
    rw [List.drop_zero] at this
    exact ev_eq this (if_neg (fun x => c x.2)).symm
def finD (ws : List ByteArray) (lim : Int) : ByteArray :=
  if ws.length = 0 then (⟨#[]⟩ : ByteArray) else if (ws.length : Int) > lim then ws.headD ByteArray.empty ++ etB else if ws.length = 1 then ws.headD ByteArray.empty
  else (mkB (Lib.join ((ws.take (ws.length - 1)).map L) [44, 32]) ++ andB) ++ ws.getLastD ByteArray.empty
theorem fin_nam (ws : List ByteArray) (lim : Int) (h4 : ws.length ≤ 4) (hl : 1 ≤ lim) : finD ws lim = namD ws lim := by
  unfold finD namD
  by_cases c : (ws.length : Int) > lim
  · rw [if_neg (by omega), if_pos c, if_pos ⟨by omega, c⟩]
  · have hR : (if 1 < ws.length ∧ (ws.length : Int) > lim then ws.headD ByteArray.empty ++ etB else runW ws.length ws 0 ByteArray.empty) = runW ws.length ws 0 ByteArray.empty := if_neg (fun x => c x.2)
    rw [hR]
    simp only [if_neg c]
    clear hR c
    match ws, h4 with
    | [], _ => rfl
    | [a], _ => rw [if_neg (by simp), if_pos (show [a].length = 1 from rfl)]; apply L_inj; simp [runW, glueN, L_append]
    | [a, b], _ =>
      rw [if_neg (by simp), if_neg (by simp)]; apply L_inj
      simp [runW, glueN, Lib.join_cons, Lib.joinTail, L_append, L_mk, andB, cmC]
    | [a, b, e], _ =>
      rw [if_neg (by simp), if_neg (by simp)]; apply L_inj
      simp [runW, glueN, Lib.join_cons, Lib.joinTail, L_append, L_mk, andB, cmC]
    | [a, b, e, f], _ =>
      rw [if_neg (by simp), if_neg (by simp)]; apply L_inj
      simp [runW, glueN, Lib.join_cons, Lib.joinTail, L_append, L_mk, andB, cmC]
    | a :: b :: e :: f :: g :: r, h => simp at h
theorem lens_le (B : Nat) (l : List (List UInt8)) (h : ∀ x ∈ l, x.length ≤ B) : Lib.lens l ≤ B * l.length := by
  induction l with
  | nil => exact Nat.le_refl _
  | cons a l ih =>
    have h1 := ih (fun x hx => h x (List.mem_cons_of_mem _ hx))
    have h2 := h a (List.mem_cons_self)
    simp only [Lib.lens, List.map_cons, List.sum_cons, List.length_cons] at h1 ⊢
    rw [Nat.mul_succ]; omega
theorem join_le (B : Nat) (sep : List UInt8) (l : List (List UInt8)) (h : ∀ x ∈ l, x.length ≤ B) : (Lib.join l sep).length ≤ (B + sep.length) * l.length := by
  cases l with
  | nil => simp [Lib.join_nil]
  | cons a l =>
    have h1 := lens_le B l (fun x hx => h x (List.mem_cons_of_mem _ hx))
    have h2 := h a (List.mem_cons_self)
    rw [Lib.join_cons, List.length_append, Lib.joinTail_length, List.length_cons, Nat.mul_succ, Nat.add_mul]
    omega
theorem impl_fin (l : List S26) (n : Nat) (lim : Int) (ws : List ByteArray) (h4 : ws.length ≤ 4) (hl : 1 ≤ lim) (hz : ∀ x ∈ ws, x.size ≤ 1048760) : Ev (fun k => impl_joinNames.l0 k lim ws l (n : Int) (n : Int)) (finD ws lim) := by
  refine Ev.step (f := fun _ => some (finD ws lim)) (fun k => ?_) (Ev.now _)
  simp only [impl_joinNames.l0]
  rw [if_neg (by omega)]
  unfold finD
  by_cases c0 : ws.length = 0
  · rw [if_pos (by omega), if_pos c0]
  · have h0 : 0 < ws.length := by omega
    have e0 : rdOf ByteArray.empty ws 0 = ws.headD ByteArray.empty := by
      have := rd_get ws 0 h0
      rw [show ((0 : Nat) : Int) = 0 from rfl] at this
      rw [this]
      match ws, h0 with
      | a :: r, _ => rfl
    have hz0 : (ws.headD ByteArray.empty).size ≤ 1048760 := by
      match ws, h0 with
      | a :: r, _ => exact hz a (List.mem_cons_self)
    rw [if_neg (by omega), if_neg c0]
    by_cases c1 : (ws.length : Int) > lim
    · rw [if_pos c1, if_pos c1, if_pos (by omega), e0, if_pos (by omega)]; rfl
    · rw [if_neg c1, if_neg c1]
      by_cases c2 : ws.length = 1
      · rw [if_pos (by omega), if_pos c2, if_pos (by omega), e0]
      · have hw : wrap64 ((ws.length : Int) - 1) = ((ws.length - 1 : Nat) : Int) := by rw [w64 (by omega) (by omega)]; omega
        have hlt : ws.length - 1 < ws.length := by omega
        have el : rdOf ByteArray.empty ws ((ws.length - 1 : Nat) : Int) = ws.getLastD ByteArray.empty := by
          rw [rd_get ws _ hlt]
          have hne : ws ≠ [] := fun e => by rw [e] at h0; cases h0
          rw [List.getLastD_eq_getLast?, List.getLast?_eq_some_getLast hne, Option.getD_some, List.getLast_eq_getElem hne]
        have hzl : (ws.getLastD ByteArray.empty).size ≤ 1048760 := by
          rw [← el, rd_get ws _ hlt]; exact hz _ (List.getElem_mem hlt)
        have hj := join_le 1048760 [44, 32] ((ws.take (ws.length - 1)).map (·.data.toList)) (fun x hx => by
          obtain ⟨y, hy, rfl⟩ := List.mem_map.1 hx
          have := hz y (List.mem_of_mem_take hy)
          have e := L_len y
          show (L y).length ≤ _
          omega)
        have hjl : ((ws.take (ws.length - 1)).map (·.data.toList)).length ≤ 4 := by rw [List.length_map, List.length_take]; omega
        have hjs : (Lib.join ((ws.take (ws.length - 1)).map (·.data.toList)) [44, 32]).length ≤ 5000000 := Nat.le_trans hj (Nat.le_trans (Nat.mul_le_mul_left _ hjl) (by decide))
        have hjj : strings_Join.f (ws.take (ws.length - 1)) (⟨#[44, 32]⟩ : ByteArray) = some (mkB (Lib.join ((ws.take (ws.length - 1)).map L) [44, 32])) := by
          unfold strings_Join.f
          rw [if_pos ⟨by rw [List.length_take]; omega, Nat.le_trans hjs (by omega)⟩]
          rfl
        have hms : (mkB (Lib.join ((ws.take (ws.length - 1)).map L) [44, 32])).size ≤ 5000000 := by rw [size_mk]; exact hjs
        rw [if_neg (by omega), if_neg c2, hw, if_pos (by omega), if_pos (by omega), Int.toNat_natCast, hjj]
        simp only [Option.bind_some]
        rw [if_pos (by omega), if_pos (by omega), el, if_pos (by rw [size_append]; show _ + 5 + _ ≤ _; omega)]
        rfl
theorem impl_loopN (l : List S26) (ho : LOk l) (lim : Int) (v : ByteArray) (hv : Ev (fun k => impl_joinNames.l0 k lim (l.map shS) l (l.length : Int) (l.length : Int)) v) (d : Nat) : ∀ i : Nat, i ≤ l.length → l.length - i = d →
    Ev (fun k => impl_joinNames.l0 k lim ((l.take i).map shS) l (l.length : Int) (i : Int)) v := by
  have h4 := ho.four
  induction d with
  | zero =>
    intro i h1 h2
    obtain rfl : i = l.length := by omega
    rw [List.take_length]; exact hv
  | succ d ih =>
    intro i h1 h2
    have hi : i < l.length := by omega
    have hm := List.getElem_mem hi
    have hw : wrap64 ((i : Int) + 1) = ((i + 1 : Nat) : Int) := by rw [w64 (by omega) (by omega)]; rfl
    have hr := rd27 l i hi
    have hn := ih (i + 1) (by omega) (by omega)
    rw [List.take_add_one, List.getElem?_eq_getElem hi] at hn
    simp only [Option.toList_some, List.map_append, List.map_cons, List.map_nil] at hn
    refine Ev.step (f := fun k => (impl_shortForm.f k (l[i]).f0 (l[i]).f1 (l[i]).f2 (l[i]).f3).bind fun t => impl_joinNames.l0 k lim ((l.take i).map shS ++ [t]) l (l.length : Int) ((i + 1 : Nat) : Int)) (fun k => ?_) (Ev.bind (ho.impl hm) hn)
    simp only [impl_joinNames.l0, hr, hw]
    have a1 : (i : Int) < (l.length : Int) := by omega
    have a2 : (0 : Int) ≤ (i : Int) := by omega
    have a3 : ((l.take i).map shS).length < 8796093022208 := by rw [List.length_map, List.length_take]; omega
    rw [if_pos a1, if_pos a2, if_pos a1]
    simp only [if_pos a3]
theorem impl_names (l : List S26) (ho : LOk l) (lim : Int) (hl : 1 ≤ lim) : Ev (fun k => impl_joinNames.f k l lim) (namD (l.map shS) lim) := by
  have h4 := ho.four
  have hf := impl_fin l l.length lim (l.map shS) (by rw [List.length_map]; exact h4) hl (fun x hx => by obtain ⟨y, hy, rfl⟩ := List.mem_map.1 hx; exact ho.size hy)
  rw [fin_nam _ lim (by rw [List.length_map]; exact h4) hl] at hf
  have := impl_loopN l ho lim _ hf _ 0 (by omega) rfl
  unfold impl_joinNames.f
  exact this
end Go.Proofs.YtieieapacepabaaDoor.G

namespace Go.Proofs.YtieieapacepabaaDoor.G
open Go.RowKit Go.Proofs.YtieieapacepabaaDoorW.PrintWords Go.Proofs.YtieieapacepabaaDoorW.PrintLast Go.Proofs.YtieieapacepabaaDoor.B Go.Proofs.YtieieapacepabaaDoor.Opn
set_option linter.unusedVariables false
set_option linter.unusedSimpArgs false
def FewN (n b : Nat) (l : List S26) : Prop := l.length ≤ n ∧ ∀ x ∈ l, bulkS1 x ≤ b
theorem few_mem {b : Nat} {l : List S26} (h : ∀ x ∈ l, bulkS1 x ≤ b) (x : S26) (hx : bulkS1 x ≤ b) : ∀ y ∈ l ++ [x], bulkS1 y ≤ b := fun y hy => by
  rcases List.mem_append.1 hy with h' | h'
  · exact h y h'
  · rw [List.mem_singleton.1 h']; exact hx
theorem few_len {l : List S26} (x : S26) : (l ++ [x]).length = l.length + 1 := by rw [List.length_append]; rfl
theorem names_l0 {c : List Int} (h : BtL c) (d : Nat) : ∀ (n : Nat) (l : List S26) (a s : Int), FewN n 200 l → n + d ≤ 100 → 0 ≤ a → a + 20 * d ≤ 2305843009213670000 →
    ∃ l' a' s', Ev (fun k => spec_l1Cur_names.l0 k l (d : Int) c a s) (l', a', s') ∧ FewN (n + d) 200 l' ∧ a ≤ a' ∧ a' ≤ a + 20 * d := by
  induction d with
  | zero =>
    intro n l a s hl hn h0 h1
    refine ⟨l, a, s, Ev.step (f := fun _ => some (l, a, s)) (fun k => ?_) (Ev.now _), hl, by omega, by omega⟩
    simp only [spec_l1Cur_names.l0]; rw [if_neg (by omega)]
  | succ d ih =>
    intro n l a s hl hn h0 h1
    have hll := hl.1
    obtain ⟨G, P, F, S, a1, s1, hE, hB, b1, c1⟩ := name_ex h a s h0 (by omega)
    obtain ⟨l', a', s', hE', hF, b2, c2⟩ := ih (n + 1) (l ++ [(⟨G, P, F, S⟩ : S26)]) a1 s1 ⟨by rw [few_len]; omega, few_mem hl.2 _ (by show bulkN G P F S ≤ _; omega)⟩ (by omega) (by omega) (by omega)
    refine ⟨l', a', s', Ev.step (f := fun k => (spec_l1Cur_name.f k c a s).bind fun bt => spec_l1Cur_names.l0 k (l ++ [(⟨bt.1, bt.2.1, bt.2.2.1, bt.2.2.2.1⟩ : S26)]) (d : Int) c bt.2.2.2.2.1 bt.2.2.2.2.2) (fun k => ?_) (Ev.bind hE hE'), by rw [show n + (d + 1) = n + 1 + d by omega]; exact hF, by omega, by omega⟩
    simp only [spec_l1Cur_names.l0]
    rw [if_pos (by omega), show wrap64 (((d + 1 : Nat) : Int) - 1) = (d : Int) from by rw [w64 (by omega) (by omega)]; omega]
    simp only [if_pos (show l.length < 1954687338268 by omega)]
theorem names_ex {c : List Int} (h : BtL c) (a s : Int) (h0 : 0 ≤ a) (h1 : a ≤ 2305843009213660000) : ∃ l a' s', Ev (fun k => spec_l1Cur_names.f k c a s) (l, a', s') ∧ FewN 3 200 l ∧ a ≤ a' ∧ a' ≤ a + 70 := by
  unfold spec_l1Cur_names.f
  obtain ⟨n, a1, s1, e1, n0, n1, b1, c1⟩ := pick_ex h a s 4 h0 (by omega) (by omega)
  have hd : ((n.toNat : Nat) : Int) = n := by omega
  obtain ⟨l', a', s', hE, hF, b2, c2⟩ := names_l0 h n.toNat 0 [] a1 s1 ⟨Nat.le_refl _, fun x hx => by cases hx⟩ (by omega) (by omega) (by omega)
  rw [hd] at hE
  have := hF.1
  exact ⟨l', a', s', ev_bind0 e1 hE, ⟨by omega, hF.2⟩, by omega, by omega⟩
theorem any_l0 {c : List Int} (h : BtL c) (d : Nat) : ∀ (l : List S26) (a s : Int), l.length + d = 6 → (∀ x ∈ l, bulkS1 x ≤ 200) → 0 ≤ a → a + 30 * d ≤ 2305843009213660000 →
    ∃ l' a' s', Ev (fun k => spec_l1Cur_anyNames.l0 k l c a s) (l', a', s') ∧ FewN 6 200 l' ∧ a ≤ a' ∧ a' ≤ a + 30 * d + 2 := by
  induction d with
  | zero =>
    intro l a s hl hb h0 h1
    obtain ⟨x, a1, s1, e1, x0, x1, b1, c1⟩ := pick_ex h a s 2 h0 (by omega) (by omega)
    refine ⟨l, a1, s1, Ev.step (f := fun _ => some (l, a1, s1)) (fun k => ?_) (Ev.now _), ⟨by omega, hb⟩, by omega, by omega⟩
    simp only [spec_l1Cur_anyNames.l0]
    rw [e1]
    simp only [Option.bind_some]
    rw [w64 (by omega) (by omega), if_neg (by omega)]
  | succ d ih =>
    intro l a s hl hb h0 h1
    obtain ⟨x, a1, s1, e1, x0, x1, b1, c1⟩ := pick_ex h a s 2 h0 (by omega) (by omega)
    by_cases q : (l.length : Int) < 4 + x
    · obtain ⟨G, P, F, S, a2, s2, hE, hB, b2, c2⟩ := name_ex h a1 s1 (by omega) (by omega)
      obtain ⟨l', a', s', hE', hF, b3, c3⟩ := ih (l ++ [(⟨G, P, F, S⟩ : S26)]) a2 s2 (by rw [few_len]; omega) (few_mem hb _ (by show bulkN G P F S ≤ _; omega)) (by omega) (by omega)
      refine ⟨l', a', s', Ev.step (f := fun k => (spec_l1Cur_name.f k c a1 s1).bind fun bt => spec_l1Cur_anyNames.l0 k (l ++ [(⟨bt.1, bt.2.1, bt.2.2.1, bt.2.2.2.1⟩ : S26)]) c bt.2.2.2.2.1 bt.2.2.2.2.2) (fun k => ?_) (Ev.bind hE hE'), hF, by omega, by omega⟩
      simp only [spec_l1Cur_anyNames.l0]
      rw [e1]
      simp only [Option.bind_some]
      rw [w64 (by omega) (by omega), if_pos q]
      simp only [if_pos (show l.length < 1954687338268 by omega)]
    · refine ⟨l, a1, s1, Ev.step (f := fun _ => some (l, a1, s1)) (fun k => ?_) (Ev.now _), ⟨by omega, hb⟩, by omega, by omega⟩
      simp only [spec_l1Cur_anyNames.l0]
      rw [e1]
      simp only [Option.bind_some]
      rw [w64 (by omega) (by omega), if_neg q]
theorem anyN_ex {c : List Int} (h : BtL c) (a s : Int) (h0 : 0 ≤ a) (h1 : a ≤ 2305843009213650000) : ∃ l a' s', Ev (fun k => spec_l1Cur_anyNames.f k c a s) (l, a', s') ∧ FewN 6 200 l ∧ a ≤ a' ∧ a' ≤ a + 400 := by
  unfold spec_l1Cur_anyNames.f
  obtain ⟨l, a1, s1, hE, hF, b1, c1⟩ := names_ex h a s h0 (by omega)
  obtain ⟨n, a2, s2, e2, n0, n1, b2, c2⟩ := pick_ex h a1 s1 12 (by omega) (by omega) (by omega)
  have hl := hF.1
  by_cases z0 : n = 0
  · obtain ⟨G, P, F, S, a3, s3, hE3, hB, b3, c3⟩ := any_ex h a2 s2 (by omega) (by omega)
    exact ⟨l ++ [(⟨G, P, F, S⟩ : S26)], a3, s3, Ev.bind hE (ev_bind0 e2 (ev_pos z0 (Ev.bind hE3 (ev_pos (by show l.length < _; omega) (Ev.now _))))), ⟨by rw [few_len]; omega, few_mem hF.2 _ (by show bulkN G P F S ≤ _; omega)⟩, by omega, by omega⟩
  by_cases z1 : n = 1
  · obtain ⟨l', a', s', hE', hF', b3, c3⟩ := any_l0 h (6 - l.length) l a2 s2 (by omega) hF.2 (by omega) (by omega)
    exact ⟨l', a', s', Ev.bind hE (ev_bind0 e2 (ev_neg z0 (ev_pos z1 hE'))), hF', by omega, by omega⟩
  exact ⟨l, a2, s2, Ev.bind hE (ev_bind0 e2 (ev_neg z0 (ev_neg z1 (Ev.now _)))), ⟨by omega, hF.2⟩, by omega, by omega⟩
def limD (m : Int) : Bool := decide (1 ≤ m) && decide (m ≤ 4)
theorem spec_lim (m : Int) : spec_l1In.f m 1 4 = some (limD m) := by
  unfold spec_l1In.f limD
  by_cases h : m ≥ 1
  · rw [if_pos h, decide_eq_true (show 1 ≤ m from h)]; rfl
  · rw [if_neg h, decide_eq_false (show ¬ 1 ≤ m from h)]; rfl
theorem impl_lim (m : Int) : impl_isLimit.f m = some (limD m) := by
  unfold impl_isLimit.f impl_inside.f limD
  by_cases h : m ≥ 1
  · rw [if_pos h, decide_eq_true (show 1 ≤ m from h)]; rfl
  · rw [if_neg h, decide_eq_false (show ¬ 1 ≤ m from h)]; rfl
def jnR (l : List S26) (m : Int) : ByteArray × Bool := if listD l = true then (if limD m = true then (namD (l.map shS) m, true) else ((⟨#[]⟩ : ByteArray), false)) else ((⟨#[]⟩ : ByteArray), false)
theorem l_ok {l : List S26} (h : listD l = true) (hb : ∀ x ∈ l, bulkS1 x ≤ 1048576) : LOk l := ⟨(list_good h).1, (list_good h).2, hb⟩
theorem lim_one {m : Int} (h : limD m = true) : 1 ≤ m := by
  unfold limD at h
  simp only [Bool.and_eq_true, decide_eq_true_eq] at h
  exact h.1
theorem spec_jn (l : List S26) (m : Int) (ho : ∀ x ∈ l, okS x) (hl : l.length ≤ 1048576) (hb : ∀ x ∈ l, bulkS1 x ≤ 1048576) : Ev (fun k => spec_JoinNames.f k l m) (jnR l m) := by
  unfold spec_JoinNames.f jnR
  exact Ev.bind (spec_list l ho hl) (ev_ite (fun h => ev_bind0 (spec_lim m) (ev_ite (fun h2 => Ev.bind (spec_names l (l_ok h hb) m (lim_one h2)) (Ev.now _)) (fun _ => Ev.now _))) (fun _ => Ev.now _))
theorem impl_jn (l : List S26) (m : Int) (ho : ∀ x ∈ l, okS x) (hl : l.length ≤ 1048576) (hb : ∀ x ∈ l, bulkS1 x ≤ 1048576) : Ev (fun k => impl_JoinNames.f k l m) (jnR l m) := by
  unfold impl_JoinNames.f jnR
  exact Ev.bind (impl_list l ho hl) (ev_ite (fun h => ev_bind0 (impl_lim m) (ev_ite (fun h2 => Ev.bind (impl_names l (l_ok h hb) m (lim_one h2)) (Ev.now _)) (fun _ => Ev.now _))) (fun _ => Ev.now _))
def mayS (x y : S26) : Bool := mayD x.f0 x.f1 x.f2 x.f3 y.f0 y.f1 y.f2 y.f3
def mayF (a b : List S26) : Nat → Nat → Bool
  | 0, _ => true
  | d + 1, i => mayS (rd_T26 a (i : Int)) (rd_T26 b (i : Int)) && mayF a b d (i + 1)
def peopleD (a b : List S26) : Bool := if a.length = b.length then mayF a b a.length 0 else false
theorem may_s (x y : S26) (hx : goodS x = true) (hy : goodS y = true) : Ev (fun k => spec_l2May.f k x.f0 x.f1 x.f2 x.f3 y.f0 y.f1 y.f2 y.f3) (mayS x y) := by
  obtain ⟨a, b⟩ := good_pos hx
  obtain ⟨a', b'⟩ := good_pos hy
  exact spec_may _ _ _ _ _ _ _ _ a a' b b'
theorem may_i (x y : S26) (hx : goodS x = true) (hy : goodS y = true) : Ev (fun k => impl_mayBeSame.f k x.f0 x.f1 x.f2 x.f3 y.f0 y.f1 y.f2 y.f3) (mayS x y) := by
  obtain ⟨a, b⟩ := good_pos hx
  obtain ⟨a', b'⟩ := good_pos hy
  exact impl_may _ _ _ _ _ _ _ _ a a' b b'
theorem spec_people_loop (a b : List S26) (ha : a.length ≤ 4 ∧ ∀ x ∈ a, goodS x = true) (hb : b.length ≤ 4 ∧ ∀ x ∈ b, goodS x = true) (d : Nat) : ∀ i : Nat, i ≤ a.length → i ≤ b.length → min a.length b.length - i = d →
    Ev (fun k => spec_l2People.l0 k a b (i : Int)) (mayF a b d i && decide (a.length = b.length)) := by
  have stop : ∀ i : Nat, Ev (fun k => spec_l2People.j1 k a b (i : Int) false) (decide (a.length = b.length)) := fun i => by
    refine Ev.step (f := fun _ => some ((a.length : Int) == (b.length : Int))) (fun k => by simp [spec_l2People.j1]) (ev_eq (Ev.now _) ?_)
    by_cases c : a.length = b.length
    · simp [c]
    · have : ¬ (a.length : Int) = (b.length : Int) := by omega
      rw [decide_eq_false c]; exact beq_false_of_ne this
  induction d with
  | zero =>
    intro i h1 h2 hd
    refine Ev.step (f := fun k => spec_l2People.j1 k a b (i : Int) false) (fun k => ?_) (ev_eq (stop i) (by simp [mayF]))
    simp only [spec_l2People.l0]
    by_cases c : i < a.length
    · rw [if_pos (by omega), decide_eq_false (by omega)]
    · rw [if_neg (by omega)]
  | succ d ih =>
    intro i h1 h2 hd
    have c1 : i < a.length := by omega
    have c2 : i < b.length := by omega
    have hw : wrap64 ((i : Int) + 1) = ((i + 1 : Nat) : Int) := by rw [w64 (by omega) (by omega)]; rfl
    refine Ev.step (f := fun k => spec_l2People.j1 k a b (i : Int) true) (fun k => ?_) (Ev.step (f := fun k => (spec_l2May.f k (a[i]).f0 (a[i]).f1 (a[i]).f2 (a[i]).f3 (b[i]).f0 (b[i]).f1 (b[i]).f2 (b[i]).f3).bind fun t281 => (if t281 = true then (spec_l2People.l0 k a b ((i + 1 : Nat) : Int)) else (some false))) (fun k => ?_) (Ev.bind (may_s a[i] b[i] (ha.2 _ (List.getElem_mem c1)) (hb.2 _ (List.getElem_mem c2))) ?_))
    · simp only [spec_l2People.l0]
      rw [if_pos (by omega), decide_eq_true (by omega)]
    · simp only [spec_l2People.j1, rd27 a i c1, rd27 b i c2, hw]
      rw [if_pos trivial, if_pos (by omega), if_pos (by omega), if_pos (by omega)]
    · show Ev _ ((mayS (rd_T26 a (i : Int)) (rd_T26 b (i : Int)) && mayF a b d (i + 1)) && _)
      rw [rd27 a i c1, rd27 b i c2]
      cases mayS a[i] b[i] with
      | true => exact ev_pos rfl (ev_eq (ih (i + 1) (by omega) (by omega) (by omega)) (by simp))
      | false => exact ev_neg (by simp) (ev_eq (Ev.now _) (by simp))
theorem spec_people (a b : List S26) (ha : listD a = true) (hb : listD b = true) : Ev (fun k => spec_l2People.f k a b) (peopleD a b) := by
  have h := spec_people_loop a b (list_good ha) (list_good hb) _ 0 (by omega) (by omega) rfl
  unfold spec_l2People.f peopleD
  refine ev_eq h ?_
  by_cases c : a.length = b.length
  · rw [if_pos c, decide_eq_true c, show min a.length b.length - 0 = a.length by omega]; simp
  · rw [if_neg c, decide_eq_false c]; simp
theorem impl_people_loop (a b : List S26) (hab : a.length = b.length) (ha : a.length ≤ 4 ∧ ∀ x ∈ a, goodS x = true) (hb : b.length ≤ 4 ∧ ∀ x ∈ b, goodS x = true) (d : Nat) : ∀ i : Nat, i ≤ a.length → a.length - i = d →
    Ev (fun k => impl_samePeople.l0 k a b (a.length : Int) (i : Int)) (mayF a b d i) := by
  induction d with
  | zero =>
    intro i h1 hd
    refine Ev.step (f := fun _ => some ((a.length : Int) == (b.length : Int))) (fun k => ?_) (ev_eq (Ev.now _) (by rw [hab]; simp [mayF]))
    simp only [impl_samePeople.l0]; rw [if_neg (by omega)]
  | succ d ih =>
    intro i h1 hd
    have c1 : i < a.length := by omega
    have c2 : i < b.length := by omega
    have hw : wrap64 ((i : Int) + 1) = ((i + 1 : Nat) : Int) := by rw [w64 (by omega) (by omega)]; rfl
    refine Ev.step (f := fun k => (impl_mayBeSame.f k (a[i]).f0 (a[i]).f1 (a[i]).f2 (a[i]).f3 (b[i]).f0 (b[i]).f1 (b[i]).f2 (b[i]).f3).bind fun t302 => (if t302 = true then (impl_samePeople.l0 k a b (a.length : Int) ((i + 1 : Nat) : Int)) else (some false))) (fun k => ?_) (Ev.bind (may_i a[i] b[i] (ha.2 _ (List.getElem_mem c1)) (hb.2 _ (List.getElem_mem c2))) ?_)
    · simp only [impl_samePeople.l0, rd27 a i c1, rd27 b i c2, hw]
      rw [if_pos (by omega), if_pos (by omega), if_pos (by omega), if_pos (by omega), if_pos (by omega)]
    · show Ev _ (mayS (rd_T26 a (i : Int)) (rd_T26 b (i : Int)) && mayF a b d (i + 1))
      rw [rd27 a i c1, rd27 b i c2]
      cases mayS a[i] b[i] with
      | true => exact ev_pos rfl (ev_eq (ih (i + 1) (by omega) (by omega)) (by simp))
      | false => exact ev_neg (by simp) (ev_eq (Ev.now _) (by simp))
theorem impl_people (a b : List S26) (ha : listD a = true) (hb : listD b = true) : Ev (fun k => impl_samePeople.f k a b) (peopleD a b) := by
  unfold impl_samePeople.f peopleD
  by_cases c : a.length = b.length
  · rw [if_pos c]
    exact impl_people_loop a b c (list_good ha) (list_good hb) _ 0 (by omega) rfl
  · rw [if_neg c]
    by_cases z : a.length = 0
    · refine Ev.step (f := fun _ => some ((a.length : Int) == (b.length : Int))) (fun k => ?_) (ev_eq (Ev.now _) (beq_false_of_ne (by omega)))
      simp only [impl_samePeople.l0]; rw [if_neg (by omega)]
    · refine Ev.step (f := fun _ => some false) (fun k => ?_) (Ev.now _)
      simp only [impl_samePeople.l0]; rw [if_pos (by omega), if_neg (by omega)]
def sp2 (a b : List S26) : Bool × Bool := if listD a = true then (if listD b = true then (peopleD a b, true) else (false, false)) else (false, false)
theorem spec_sp (a b : List S26) (ha : ∀ x ∈ a, okS x) (hb : ∀ x ∈ b, okS x) (la : a.length ≤ 1048576) (lb : b.length ≤ 1048576) : Ev (fun k => spec_SamePeople.f k a b) (sp2 a b) := by
  unfold spec_SamePeople.f sp2
  refine Ev.bind (spec_list a ha la) ?_
  by_cases h : listD a = true
  · rw [if_pos h]
    refine ev_pos h (Ev.bind (spec_list b hb lb) ?_)
    by_cases h' : listD b = true
    · rw [if_pos h']; exact ev_pos h' (Ev.bind (spec_people a b h h') (Ev.now _))
    · rw [if_neg h']; exact ev_neg h' (Ev.now _)
  · rw [if_neg h]; exact ev_neg h (Ev.now _)
theorem impl_sp (a b : List S26) (ha : ∀ x ∈ a, okS x) (hb : ∀ x ∈ b, okS x) (la : a.length ≤ 1048576) (lb : b.length ≤ 1048576) : Ev (fun k => impl_SamePeople.f k a b) (sp2 a b) := by
  unfold impl_SamePeople.f sp2
  refine Ev.bind (impl_list a ha la) ?_
  by_cases h : listD a = true
  · rw [if_pos h]
    refine ev_pos h (Ev.bind (impl_list b hb lb) ?_)
    by_cases h' : listD b = true
    · rw [if_pos h']; exact ev_pos h' (Ev.bind (impl_people a b h h') (Ev.now _))
    · rw [if_neg h']; exact ev_neg h' (Ev.now _)
  · rw [if_neg h]; exact ev_neg h (Ev.now _)
end Go.Proofs.YtieieapacepabaaDoor.G

namespace Go.Proofs.YtieieapacepabaaDoor.Pure
open Go.RowKit Go.Proofs.YtieieapacepabaaDoor.G Go.Proofs.YtieieapacepabaaDoorW.PrintWords Go.Proofs.YtieieapacepabaaDoorW.PrintLast Go.Proofs.YtieieapacepabaaDoor.B Go.Proofs.YtieieapacepabaaDoor.Opn
set_option linter.unusedVariables false
set_option linter.unusedSimpArgs false
theorem among_ex {l : List Int} (h : BtL l) (a s : Int) (ts : List Int) (h0 : 0 ≤ a) (h1 : a ≤ 2305843009213693000) (hn : 1 ≤ ts.length) : ∃ x a' s', spec_l1Cur_among.f l a s ts = some (x, a', s') ∧ a ≤ a' ∧ a' ≤ a + 2 := by
  unfold spec_l1Cur_among.f
  obtain ⟨x, a', s', e, b0, b1, b2, b3⟩ := pick_ex h a s (ts.length : Int) h0 h1 (by omega)
  rw [e]
  simp only [Option.bind_some]
  rw [if_pos b0, if_pos b1]
  exact ⟨_, _, _, rfl, b2, b3⟩
theorem own_loop (l : List S26) (hl : l.length ≤ 1000) (hb : ∀ x ∈ l, bulkS1 x ≤ 200) (d : Nat) : ∀ i : Nat, i ≤ l.length → l.length - i = d → Ev (fun k => spec_l2Own.l0 k l (l.take i) (i : Int)) l := by
  induction d with
  | zero =>
    intro i h1 hd
    refine Ev.step (f := fun _ => some l) (fun k => ?_) (Ev.now _)
    simp only [spec_l2Own.l0]; rw [if_neg (by omega), List.take_of_length_le (by omega)]
  | succ d ih =>
    intro i h1 hd
    have hi : i < l.length := by omega
    have hw : wrap64 ((i : Int) + 1) = ((i + 1 : Nat) : Int) := by rw [w64 (by omega) (by omega)]; rfl
    have hz : (l[i]).f0.length ≤ 1048576 := by have := hb _ (List.getElem_mem hi); unfold bulkS1 bulkN bulkS at this; omega
    have ht : (l.take i).length < 1954687338268 := by rw [List.length_take]; omega
    have e : l.take i ++ [(⟨([] : List ByteArray) ++ (l[i]).f0, (l[i]).f1, (l[i]).f2, (l[i]).f3⟩ : S26)] = l.take (i + 1) := by
      rw [List.take_succ_eq_append_getElem hi]; rfl
    refine Ev.step (f := fun k => spec_l2Own.l0 k l (l.take (i + 1)) ((i + 1 : Nat) : Int)) (fun k => ?_) (ih (i + 1) (by omega) (by omega))
    simp only [spec_l2Own.l0, rd27 l i hi, hw]
    rw [if_pos (by omega), if_pos (by omega)]
    simp only [Option.bind_some]
    rw [if_pos (by show 0 + _ < _; omega), if_pos ht, e]
theorem own_ev (l : List S26) (hl : l.length ≤ 1000) (hb : ∀ x ∈ l, bulkS1 x ≤ 200) : Ev (fun k => spec_l2Own.f k l) l := by
  unfold spec_l2Own.f
  exact own_loop l hl hb _ 0 (by omega) rfl
theorem drawJ {c : List Int} (h : BtL c) : ∃ l m, Ev (fun k => spec_DrawJoinNames.f k c) (l, m) ∧ FewN 6 200 l := by
  unfold spec_DrawJoinNames.f
  obtain ⟨l, a, s, hE, hF, b, c'⟩ := anyN_ex h 0 0 (by omega) (by omega)
  obtain ⟨m, a2, s2, e2, b2, c2⟩ := among_ex h a s [1, 2, 3, 4, 2, 3, 0, 5] (by omega) (by omega) (by decide)
  exact ⟨l, m, Ev.bind hE (ev_bind0 e2 (Ev.now _)), hF⟩
theorem drawS {c : List Int} (h : BtL c) : ∃ l l', Ev (fun k => spec_DrawSamePeople.f k c) (l, l') ∧ FewN 6 300 l ∧ FewN 6 300 l' := by
  unfold spec_DrawSamePeople.f
  obtain ⟨l, a, s, hE, hF, b, c'⟩ := anyN_ex h 0 0 (by omega) (by omega)
  have hF3 : FewN 6 300 l := ⟨hF.1, fun x hx => Nat.le_trans (hF.2 x hx) (by omega)⟩
  have hl := hF.1
  obtain ⟨q, a2, s2, e2, b2, c2⟩ := one_ex h a s 2 (by omega) (by omega) (by omega)
  cases q with
  | true =>
    have ho := own_ev l (by omega) hF.2
    by_cases z : (l.length : Int) > 0
    · obtain ⟨i, a3, s3, e3, i0, i1, b3, c3⟩ := pick_ex h a2 s2 (l.length : Int) (by omega) (by omega) (by omega)
      obtain ⟨w, a4, s4, e4, hw, b4, c4⟩ := of_sz h a3 s3 [(⟨#[65]⟩ : ByteArray), (⟨#[65, 110, 110, 97]⟩ : ByteArray), (⟨#[66]⟩ : ByteArray), (⟨#[74]⟩ : ByteArray)] 4 (by omega) (by omega) (by decide) (by decide)
      refine ⟨l, _, Ev.bind hE (ev_bind0 e2 (ev_pos rfl (Ev.bind ho (ev_pos z (ev_bind0 e3 (ev_pos i0 (ev_pos i1 (ev_bind0 e4 (Ev.now _))))))))), hF3, ?_, ?_⟩
      · show (List.set l _ _).length ≤ 6; rw [List.length_set]; exact hl
      · intro y hy
        rcases List.mem_or_eq_of_mem_set hy with h' | h'
        · exact hF3.2 y h'
        · obtain ⟨n, rfl⟩ : ∃ n : Nat, (n : Int) = i := ⟨i.toNat, by omega⟩
          have hn : n < l.length := by omega
          have hx := hF.2 _ (List.getElem_mem hn)
          have hr := rd27 l n hn
          rw [h']
          show bulkN [w] (rd_T26 l (n : Int)).f1 (rd_T26 l (n : Int)).f2 (rd_T26 l (n : Int)).f3 ≤ 300
          rw [hr]
          have hz : bulkS [w] = w.size + 1 := by simp [bulkS, bytesS]; omega
          unfold bulkS1 bulkN at hx
          unfold bulkN
          omega
    · exact ⟨l, l, Ev.bind hE (ev_bind0 e2 (ev_pos rfl (Ev.bind ho (ev_neg z (Ev.now _))))), hF3, hF3⟩
  | false =>
    obtain ⟨l', a3, s3, hE3, hF', b3, c3⟩ := anyN_ex h a2 s2 (by omega) (by omega)
    exact ⟨l, l', Ev.bind hE (ev_bind0 e2 (ev_neg (by simp) (Ev.bind hE3 (Ev.now _)))), hF3, hF'.1, fun x hx => Nat.le_trans (hF'.2 x hx) (by omega)⟩
theorem glueN_ge (n i : Nat) (s t : ByteArray) : s.size + t.size ≤ (glueN n i s t).size := by
  unfold glueN
  split
  · rw [size_append]; omega
  · split
    · rw [size_append, size_append]; omega
    · rw [size_append, size_append]; omega
theorem runW_ge (n : Nat) (ws : List ByteArray) : ∀ (i : Nat) (s : ByteArray), s.size ≤ (runW n ws i s).size := by
  induction ws with
  | nil => intro i s; exact Nat.le_refl _
  | cons t ts ih =>
    intro i s
    have h1 := ih (i + 1) (glueN n i s t)
    have h2 := glueN_ge n i s t
    show _ ≤ (runW n ts (i + 1) (glueN n i s t)).size
    omega
theorem nam_pos (ws : List ByteArray) (m : Int) (h : ∀ x ∈ ws, 1 ≤ x.size) (h1 : 1 ≤ ws.length) : 1 ≤ (namD ws m).size := by
  unfold namD
  split
  · rw [size_append]; show 1 ≤ _ + 7; omega
  · match ws, h1 with
    | t :: ts, _ =>
      have a := runW_ge (t :: ts).length ts 1 (glueN (t :: ts).length 0 ByteArray.empty t)
      have b := glueN_ge (t :: ts).length 0 ByteArray.empty t
      have c := h t (List.mem_cons_self)
      show 1 ≤ (runW _ ts 1 (glueN _ 0 ByteArray.empty t)).size
      omega
theorem glu_ge (s p : ByteArray) : s.size + p.size ≤ (glu s p).size := by
  unfold glu
  rw [size_append]
  split
  · rw [size_append]; omega
  · omega
theorem sh_pos {x : S26} (h : goodS x = true) : 1 ≤ (shS x).size := by
  unfold goodS goodN restD greatD at h
  simp only [Bool.and_eq_true] at h
  have hf := (word_in h.2.2.2.1.1).1
  show 1 ≤ (glu (glu (glu ByteArray.empty (initD x.f0)) x.f1) x.f2).size
  have := glu_ge (glu (glu ByteArray.empty (initD x.f0)) x.f1) x.f2
  omega
theorem nam_tells (l : List S26) (m : Int) (hg : listD l = true) : (decide ((l.length : Int) > 0) == ((namD (l.map shS) m).toList != ([] : List UInt8))) = true := by
  cases l with
  | nil =>
    have : namD (([] : List S26).map shS) m = ByteArray.empty := rfl
    rw [this, (nil_iff ByteArray.empty).2 rfl]; rfl
  | cons x xs =>
    have h1 : 1 ≤ (namD ((x :: xs).map shS) m).size := nam_pos _ m (fun y hy => by
      obtain ⟨z, hz, rfl⟩ := List.mem_map.1 hy
      exact sh_pos ((list_good hg).2 z hz)) (by simp)
    have h2 : ((namD ((x :: xs).map shS) m).toList != ([] : List UInt8)) = true := by
      rw [bne_iff_ne]; intro e; have := (nil_iff _).1 e; omega
    rw [h2, decide_eq_true (by rw [List.length_cons]; omega)]; rfl
theorem nam_same (l : List S26) (m : Int) (h : ¬ (l.length : Int) > m) (h4 : l.length ≤ 4) : namD (l.map shS) 4 = namD (l.map shS) m := by
  unfold namD
  rw [if_neg (fun x => by have := x.2; rw [List.length_map] at this; omega), if_neg (fun x => by have := x.2; rw [List.length_map] at this; omega)]
theorem sp_len (a b : List S26) (h : (sp2 a b).1 = true) : a.length = b.length := by
  unfold sp2 at h
  by_cases c1 : listD a = true
  · rw [if_pos c1] at h
    by_cases c2 : listD b = true
    · rw [if_pos c2] at h
      unfold peopleD at h
      by_cases c3 : a.length = b.length
      · exact c3
      · simp only [if_neg c3] at h; cases h
    · rw [if_neg c2] at h; cases h
  · rw [if_neg c1] at h; cases h
theorem few_ok {n : Nat} {l : List S26} (h : FewN n 300 l) : ∀ x ∈ l, okS x := by
  intro x hx
  have := h.2 x hx
  unfold bulkS1 bulkN bulkS at this
  exact ⟨by omega, by omega⟩
theorem FnNameLists : laws_FnNameLists.Pur := by
  intro l0 hl
  apply Ev.rounds
  unfold laws_FnNameLists.f laws_vBig.f
  refine ev_bind0 (a := decide ((l0.length : Int) > 65536)) rfl ?_
  by_cases c : (l0.length : Int) > 65536
  · exact ev_pos (by simpa using c) (Ev.now _)
  refine ev_neg (by simpa using c) ?_
  have hb := bt_of hl (by omega)
  obtain ⟨l, m, hd, hF0⟩ := drawJ hb
  have hF : FewN 6 300 l := ⟨hF0.1, fun x hx => Nat.le_trans (hF0.2 x hx) (by omega)⟩
  obtain ⟨a, b, hd2, hFa, hFb⟩ := drawS hb
  have n1 := hF.1
  have n2 := hFa.1
  have n3 := hFb.1
  have hbk : ∀ x ∈ l, bulkS1 x ≤ 1048576 := fun x hx => Nat.le_trans (hF.2 x hx) (by omega)
  have hj := impl_jn l m (few_ok hF) (by omega) hbk
  have hj' := spec_jn l m (few_ok hF) (by omega) hbk
  have hj4 := impl_jn l 4 (few_ok hF) (by omega) hbk
  have hs := impl_sp a b (few_ok hFa) (few_ok hFb) (by omega) (by omega)
  have hs' := spec_sp a b (few_ok hFa) (few_ok hFb) (by omega) (by omega)
  refine Ev.bind hd (Ev.bind hj (Ev.bind hj' (ev_pos rfl ?_)))
  have e : ((jnR l m).2 != (jnR l m).2) = false := by simp
  rw [e]
  have R : Ev (fun k => (impl_JoinNames.f k l 4).bind fun bt647 => (if (jnR l m).2 = true then (if bt647.2 = true then (if (l.length : Int) > m then (some ((decide ((l.length : Int) > 0)) == ((jnR l m).1.toList != ([] : List UInt8)))) else (if bt647.1.toList = (jnR l m).1.toList then (some ((decide ((l.length : Int) > 0)) == ((jnR l m).1.toList != ([] : List UInt8)))) else (some false))) else (some false)) else (some true))) true := by
    refine Ev.bind hj4 ?_
    by_cases g : listD l = true ∧ limD m = true
    · have e1 : jnR l m = (namD (l.map shS) m, true) := by unfold jnR; rw [if_pos g.1, if_pos g.2]
      have e4 : jnR l 4 = (namD (l.map shS) 4, true) := by unfold jnR; rw [if_pos g.1, if_pos (by decide)]
      rw [e1, e4]
      refine ev_pos rfl (ev_pos rfl ?_)
      by_cases q : (l.length : Int) > m
      · exact ev_pos q (ev_eq (Ev.now _) (nam_tells l m g.1))
      · exact ev_neg q (ev_pos (by show (namD (l.map shS) 4).toList = (namD (l.map shS) m).toList; rw [nam_same l m q (list_good g.1).1]) (ev_eq (Ev.now _) (nam_tells l m g.1)))
    · have e1 : (jnR l m).2 = false := by
        unfold jnR
        by_cases g1 : listD l = true
        · have g2 : ¬ limD m = true := fun g2 => g ⟨g1, g2⟩
          rw [if_pos g1, if_neg g2]
        · rw [if_neg g1]
      exact ev_neg (by rw [e1]; decide) (Ev.now _)
  refine Ev.step (f := fun k => (spec_DrawSamePeople.f k l0).bind fun bt637 => ((impl_SamePeople.f k bt637.1 bt637.2).bind fun bt643 => ((spec_SamePeople.f k bt637.1 bt637.2).bind fun bt645 => (if (bt643.1 != bt645.1) = true then (some false) else (if (bt643.2 != bt645.2) = true then (some false) else (if bt643.1 = true then (if (bt637.1.length : Int) = (bt637.2.length : Int) then ((impl_JoinNames.f k l 4).bind fun bt647 => (if (jnR l m).2 = true then (if bt647.2 = true then (if (l.length : Int) > m then (some ((decide ((l.length : Int) > 0)) == ((jnR l m).1.toList != ([] : List UInt8)))) else (if bt647.1.toList = (jnR l m).1.toList then (some ((decide ((l.length : Int) > 0)) == ((jnR l m).1.toList != ([] : List UInt8)))) else (some false))) else (some false)) else (some true))) else (some false)) else ((impl_JoinNames.f k l 4).bind fun bt647 => (if (jnR l m).2 = true then (if bt647.2 = true then (if (l.length : Int) > m then (some ((decide ((l.length : Int) > 0)) == ((jnR l m).1.toList != ([] : List UInt8)))) else (if bt647.1.toList = (jnR l m).1.toList then (some ((decide ((l.length : Int) > 0)) == ((jnR l m).1.toList != ([] : List UInt8)))) else (some false))) else (some false)) else (some true)))))))) ) (fun k => by simp only [laws_FnNameLists.j0]; rw [if_neg (by decide)]) ?_
  refine Ev.bind hd2 (Ev.bind hs (Ev.bind hs' (ev_neg (by simp) (ev_neg (by simp) ?_))))
  by_cases z : (sp2 a b).1 = true
  · exact ev_pos z (ev_pos (by have := sp_len a b z; show (a.length : Int) = (b.length : Int); omega) R)
  · exact ev_neg z R
end Go.Proofs.YtieieapacepabaaDoor.Pure
