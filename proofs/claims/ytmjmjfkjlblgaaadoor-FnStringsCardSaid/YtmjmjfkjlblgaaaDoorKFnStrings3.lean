/- Texts of this session for the law FnStrings, put together by a program (merge.py): each ends with its namespace; conditions stand with each theorem. -/
import Derived.Test.YtmjmjfkjlblgaaaDoorKFnStrings2
import Derived.Lib.Atoi
import Derived.Laws.Bits64b
namespace Go.Proofs.YtmjmjfkjlblgaaaDoor.G
open Go.RowKit Go.Proofs.YtmjmjfkjlblgaaaDoorW.PrintWords Go.Proofs.YtmjmjfkjlblgaaaDoorW.PrintLast Go.Proofs.YtmjmjfkjlblgaaaDoor.B
set_option linter.unusedVariables false
set_option linter.unusedSimpArgs false
theorem dec_app (l r : List UInt8) : ∀ acc, Lib.decFrom acc (l ++ r) = (Lib.decFrom acc l).bind fun a => Lib.decFrom a r := by
  induction l with
  | nil => intro acc; rfl
  | cons b l ih =>
    intro acc
    simp only [List.cons_append, Lib.decFrom]
    cases Lib.digitVal b with
    | none => rfl
    | some d => exact ih _
theorem dig_val (d : Nat) (h : d < 10) : Lib.digitVal (UInt8.ofNat (48 + d)) = some d := by
  have e : (UInt8.ofNat (48 + d)).toNat = 48 + d := by simp; omega
  unfold Lib.digitVal
  rw [e, if_pos ⟨by omega, by omega⟩]
  congr 1; omega
theorem dec_digits (n : Nat) : ∀ u, u ≤ n → Lib.decFrom 0 (Lib.decDigits u) = some u := by
  induction n with
  | zero =>
    intro u hu
    rw [Lib.decDigits_one (by omega)]
    simp only [Lib.decFrom]
    rw [dig_val u (by omega)]
    simp
  | succ n ih =>
    intro u hu
    by_cases h : u < 10
    · rw [Lib.decDigits_one h]
      simp only [Lib.decFrom]
      rw [dig_val u h]
      simp
    · rw [show Lib.decDigits u = Lib.decDigits (u / 10) ++ [UInt8.ofNat (48 + u % 10)] by rw [Lib.decDigits, dif_neg h], dec_app, ih (u / 10) (by omega)]
      simp only [Option.bind_some, Lib.decFrom]
      rw [dig_val (u % 10) (by omega)]
      show some (u / 10 * 10 + u % 10) = some u
      congr 1; omega
theorem nd_le (k : Nat) : ∀ u, u < 10 ^ (k + 1) → (Lib.decDigits u).length ≤ k + 1 := by
  induction k with
  | zero => intro u h; rw [Lib.decDigits_one (by simpa using h)]; simp
  | succ k ih =>
    intro u h
    by_cases h1 : u < 10
    · rw [Lib.decDigits_one h1]; simp
    · rw [show Lib.decDigits u = Lib.decDigits (u / 10) ++ [UInt8.ofNat (48 + u % 10)] by rw [Lib.decDigits, dif_neg h1], List.length_append, List.length_singleton]
      have := ih (u / 10) (by rw [Nat.pow_succ] at h; omega)
      omega
theorem dec_pos (u : Nat) : 1 ≤ (Lib.decDigits u).length := by
  by_cases h1 : u < 10
  · rw [Lib.decDigits_one h1]; simp
  · rw [show Lib.decDigits u = Lib.decDigits (u / 10) ++ [UInt8.ofNat (48 + u % 10)] by rw [Lib.decDigits, dif_neg h1], List.length_append, List.length_singleton]
    omega
theorem dec_head (u : Nat) (b : UInt8) (r : List UInt8) (h : Lib.decDigits u = b :: r) : 48 ≤ b.toNat ∧ b.toNat ≤ 57 := by
  obtain ⟨d, hd⟩ := Lib.digit_of_decFrom (Lib.decDigits u) 0 u (dec_digits u u (Nat.le_refl _)) 0 b (by rw [h]; rfl)
  unfold Lib.digitVal at hd
  by_cases c : 48 ≤ b.toNat ∧ b.toNat ≤ 57
  · exact c
  · rw [if_neg c] at hd; cases hd
theorem dec_lt (l : List UInt8) : ∀ acc m, Lib.decFrom acc l = some m → m < (acc + 1) * 10 ^ l.length := by
  induction l with
  | nil => intro acc m h; simp only [Lib.decFrom, Option.some.injEq] at h; subst h; simp
  | cons b l ih =>
    intro acc m h
    simp only [Lib.decFrom] at h
    cases hd : Lib.digitVal b with
    | none => rw [hd] at h; cases h
    | some d =>
      rw [hd] at h
      have hlt : d < 10 := by
        unfold Lib.digitVal at hd
        by_cases c : 48 ≤ b.toNat ∧ b.toNat ≤ 57
        · rw [if_pos c] at hd; have := Option.some.inj hd; omega
        · rw [if_neg c] at hd; cases hd
      have h1 := ih (acc * 10 + d) m h
      have h2 : (acc * 10 + d + 1) * 10 ^ l.length ≤ ((acc + 1) * 10) * 10 ^ l.length := Nat.mul_le_mul_right _ (by omega)
      rw [List.length_cons, Nat.pow_succ, Nat.mul_comm (10 ^ l.length) 10, ← Nat.mul_assoc]
      omega
theorem atoi_itoa (n : Int) : Lib.atoi (Lib.itoa n) = some n := by
  unfold Lib.itoa
  by_cases h : n < 0
  · rw [if_pos h]
    have hd := dec_digits n.natAbs n.natAbs (Nat.le_refl _)
    have hp := dec_pos n.natAbs
    simp only [Lib.atoi]
    rw [if_pos (by rfl)]
    unfold Lib.decNat
    rw [if_neg (by cases hq : Lib.decDigits n.natAbs with | nil => rw [hq] at hp; simp at hp | cons a b => simp), hd]
    simp only [Option.map_some]
    congr 1; omega
  · rw [if_neg h]
    have hd := dec_digits n.toNat n.toNat (Nat.le_refl _)
    cases hq : Lib.decDigits n.toNat with
    | nil => have hp := dec_pos n.toNat; rw [hq] at hp; simp at hp
    | cons b r =>
      have hb := dec_head n.toNat b r hq
      rw [hq] at hd
      have n1 : ¬ (b == 45) = true := fun e => by have := beq_iff_eq.1 e; subst this; revert hb; decide
      have n2 : ¬ (b == 43) = true := fun e => by have := beq_iff_eq.1 e; subst this; revert hb; decide
      simp only [Lib.atoi]
      rw [if_neg n1, if_neg n2]
      unfold Lib.decNat
      rw [if_neg (by simp), hd]
      simp only [Option.map_some]
      congr 1; omega
def Spells (s : ByteArray) (n : Int) : Prop := (-999999 ≤ n ∧ n ≤ 999999) ∧ mkB (Lib.itoa n) = s
theorem itoa_len (n : Int) (h : -999999 ≤ n ∧ n ≤ 999999) : (Lib.itoa n).length ≤ 7 := by
  unfold Lib.itoa
  by_cases c : n < 0
  · rw [if_pos c, List.length_cons]; have := nd_le 5 n.natAbs (by have : (10:Nat) ^ 6 = 1000000 := by decide
                                                                  omega); omega
  · rw [if_neg c]; have := nd_le 5 n.toNat (by have : (10:Nat) ^ 6 = 1000000 := by decide
                                               omega); omega
theorem tl_eq {a b : ByteArray} (h : a = b) : a.toList = b.toList := by rw [h]
theorem impl_yes {s : ByteArray} {n : Int} (h : Spells s n) : impl_ParseInt.f s = some (n, true) := by
  obtain ⟨hr, he⟩ := h
  have hl := itoa_len n hr
  subst he
  unfold impl_ParseInt.f
  rw [if_pos (by rw [size_mk]; exact hl)]
  have ha : Lib.atoi (mkB (Lib.itoa n)).data.toList = some n := by
    show Lib.atoi (L (mkB (Lib.itoa n))) = _
    rw [L_mk]; exact atoi_itoa n
  rw [ha]
  exact if_pos ⟨hr, rfl⟩
theorem impl_no {s : ByteArray} (h : ∀ n, ¬ Spells s n) : impl_ParseInt.f s = some (0, false) := by
  unfold impl_ParseInt.f
  by_cases hs : s.size ≤ 7
  · rw [if_pos hs]
    cases Lib.atoi s.data.toList with
    | none => rfl
    | some n => exact if_neg (fun x => h n ⟨x.1, toList_eq_iff.1 x.2⟩)
  · rw [if_neg hs]
def finR (s t : ByteArray) : Option Nat → Int × Bool
  | none => (0, false)
  | some m => if (mkB (Lib.itoa (if t.size < s.size then -(m : Int) else (m : Int)))).toList = s.toList then (if t.size < s.size then -(m : Int) else (m : Int), true) else (0, false)
theorem read_loop (s t : ByteArray) (ht : t.size ≤ 6) (d : Nat) : ∀ (i n : Nat), i ≤ t.size → t.size - i = d → n < 10 ^ i →
    Ev (fun k => spec_l1Read.l0 k s t (n : Int) (i : Int)) (finR s t (Lib.decFrom n ((L t).drop i))) := by
  have hL := L_len t
  have pw : ∀ i, i ≤ 6 → 10 ^ i ≤ 1000000 := fun i hi => by
    have := Nat.pow_le_pow_right (show 0 < 10 by omega) hi
    have e : (10:Nat) ^ 6 = 1000000 := by decide
    omega
  induction d with
  | zero =>
    intro i n h1 h2 h3
    have hp := pw i (by omega)
    rw [List.drop_of_length_le (by omega)]
    have hw : wrap64 (-(n : Int)) = -(n : Int) := w64 (by omega) (by omega)
    show Ev _ (finR s t (some n))
    unfold finR
    by_cases c : t.size < s.size
    · simp only [if_pos c]
      refine Ev.step (f := fun k => (spec_l1Num.f k (-(n : Int))).bind fun t145 => (if t145.toList = s.toList then (some (-(n : Int), true)) else (some (0, false)))) (fun k => ?_) (Ev.bind (num_ev _ (by omega) (by omega)) (ev_ite (fun _ => Ev.now _) (fun _ => Ev.now _)))
      simp only [spec_l1Read.l0]
      rw [if_neg (by omega), if_pos (by omega), hw]
    · simp only [if_neg c]
      refine Ev.step (f := fun k => (spec_l1Num.f k (n : Int)).bind fun t145 => (if t145.toList = s.toList then (some ((n : Int), true)) else (some (0, false)))) (fun k => ?_) (Ev.bind (num_ev _ (by omega) (by omega)) (ev_ite (fun _ => Ev.now _) (fun _ => Ev.now _)))
      simp only [spec_l1Read.l0]
      rw [if_neg (by omega), if_neg (by omega)]
  | succ d ih =>
    intro i n h1 h2 h3
    have hi : i < t.size := by omega
    have hi' : i < (L t).length := by omega
    have hp := pw i (by omega)
    have hb := bt_get t i hi
    have hr := ((L t)[i]).toNat_lt
    have hw : wrap64 ((i : Int) + 1) = ((i + 1 : Nat) : Int) := by rw [w64 (by omega) (by omega)]; rfl
    rw [List.drop_eq_getElem_cons hi']
    simp only [Lib.decFrom]
    unfold Lib.digitVal
    by_cases c : 48 ≤ ((L t)[i]).toNat ∧ ((L t)[i]).toNat ≤ 57
    · rw [if_pos c]
      have hw1 : wrap64 (10 * (n : Int)) = 10 * (n : Int) := w64 (by omega) (by omega)
      have hw2 : wrap64 (10 * (n : Int) + (bt t (i : Int) - 48) % 256) = ((n * 10 + (((L t)[i]).toNat - 48) : Nat) : Int) := by
        rw [hb, w64 (by omega) (by omega)]; omega
      refine Ev.step (f := fun k => spec_l1Read.l0 k s t ((n * 10 + (((L t)[i]).toNat - 48) : Nat) : Int) ((i + 1 : Nat) : Int)) (fun k => ?_) (ih (i + 1) (n * 10 + (((L t)[i]).toNat - 48)) (by omega) (by omega) (by rw [Nat.pow_succ]; omega))
      simp only [spec_l1Read.l0]
      rw [if_pos (by omega), if_pos (by omega), if_neg (by omega), if_neg (by omega), hw1, hw2, hw]
    · rw [if_neg c]
      refine Ev.step (f := fun _ => some (0, false)) (fun k => ?_) (Ev.now _)
      simp only [spec_l1Read.l0]
      rw [if_pos (by omega), if_pos (by omega)]
      by_cases c1 : bt t (i : Int) < 48
      · rw [if_pos c1]
      · rw [if_neg c1, if_pos (by omega)]
def tailR (s t : ByteArray) : Int × Bool := if 1 ≤ t.size ∧ t.size ≤ 6 then finR s t (Lib.decFrom 0 (L t)) else (0, false)
theorem read_j1 (s t : ByteArray) : Ev (fun k => spec_l1Read.j1 k s t) (tailR s t) := by
  unfold tailR
  by_cases c : 1 ≤ t.size ∧ t.size ≤ 6
  · rw [if_pos c]
    refine Ev.step (f := fun k => spec_l1Read.l0 k s t ((0 : Nat) : Int) ((0 : Nat) : Int)) (fun k => ?_) (ev_eq (read_loop s t c.2 _ 0 0 (by omega) rfl (by decide)) (by rw [List.drop_zero]))
    simp only [spec_l1Read.j1, spec_l1In.f]
    rw [if_pos (by omega), decide_eq_true (by omega)]
    rfl
  · rw [if_neg c]
    refine Ev.step (f := fun _ => some (0, false)) (fun k => ?_) (Ev.now _)
    simp only [spec_l1Read.j1, spec_l1In.f]
    by_cases c1 : 1 ≤ t.size
    · rw [if_pos (by omega), decide_eq_false (by omega)]; rfl
    · rw [if_neg (by omega)]; rfl
def cutR (s : ByteArray) : ByteArray := if 1 < s.size ∧ bt s 0 = 45 then s.extract 1 s.size else s
theorem spec_read (s : ByteArray) : Ev (fun k => spec_l1Read.f k s) (tailR s (cutR s)) := by
  unfold spec_l1Read.f cutR
  by_cases c : 1 < s.size
  · refine ev_pos (by omega) (ev_pos (by omega) ?_)
    by_cases e : bt s 0 = 45
    · rw [if_pos ⟨c, e⟩, e]
      refine Ev.step (f := fun k => spec_l1Read.j1 k s (s.extract 1 s.size)) (fun k => ?_) (read_j1 s _)
      simp only [spec_l1Read.j0]
      rw [if_pos (by rfl), if_pos (by omega)]
    · rw [if_neg (fun x => e x.2), show (bt s 0 == 45) = false from beq_eq_false_iff_ne.2 e]
      refine Ev.step (f := fun k => spec_l1Read.j1 k s s) (fun k => ?_) (read_j1 s _)
      simp only [spec_l1Read.j0]
      rw [if_neg (by simp)]
  · rw [if_neg (fun x => c x.1)]
    refine ev_neg (by omega) ?_
    refine Ev.step (f := fun k => spec_l1Read.j1 k s s) (fun k => ?_) (read_j1 s _)
    simp only [spec_l1Read.j0]
    rw [if_neg (by simp)]
theorem read_no {s : ByteArray} (h : ∀ n, ¬ Spells s n) : tailR s (cutR s) = (0, false) := by
  unfold tailR
  by_cases c : 1 ≤ (cutR s).size ∧ (cutR s).size ≤ 6
  · rw [if_pos c]
    cases hd : Lib.decFrom 0 (L (cutR s)) with
    | none => rfl
    | some m =>
      have hm := dec_lt _ 0 m hd
      have hp : 10 ^ (L (cutR s)).length ≤ 1000000 := by
        have := Nat.pow_le_pow_right (show 0 < 10 by omega) (show (L (cutR s)).length ≤ 6 by rw [L_len]; exact c.2)
        have e : (10:Nat) ^ 6 = 1000000 := by decide
        omega
      unfold finR
      refine if_neg (fun x => h _ ⟨?_, toList_eq_iff.1 x⟩)
      split <;> omega
  · exact if_neg c
theorem read_yes {s : ByteArray} {n : Int} (h : Spells s n) : tailR s (cutR s) = (n, true) := by
  obtain ⟨hr, he⟩ := h
  have p6 : (10:Nat) ^ 6 = 1000000 := by decide
  by_cases c : n < 0
  · have hi : Lib.itoa n = 45 :: Lib.decDigits n.natAbs := by unfold Lib.itoa; rw [if_pos c]
    have hp := dec_pos n.natAbs
    have h6 := nd_le 5 n.natAbs (by omega)
    have hsz : s.size = 1 + (Lib.decDigits n.natAbs).length := by rw [← he, size_mk, hi, List.length_cons]; omega
    have hLs : L s = 45 :: Lib.decDigits n.natAbs := by rw [← he, L_mk, hi]
    have hb : bt s 0 = 45 := by
      have := bt_getD s 0 (by omega)
      rw [show ((0 : Nat) : Int) = 0 from rfl] at this
      rw [this, hLs]; rfl
    have hc : cutR s = s.extract 1 s.size := if_pos ⟨by omega, hb⟩
    have hLc : L (cutR s) = Lib.decDigits n.natAbs := by
      rw [hc, L_extract, hLs]
      simp only [List.drop_succ_cons, List.drop_zero]
      exact List.take_of_length_le (by omega)
    have hcs : (cutR s).size = (Lib.decDigits n.natAbs).length := by rw [← L_len, hLc]
    unfold tailR
    rw [if_pos (by omega), hLc, dec_digits _ _ (Nat.le_refl _)]
    unfold finR
    have hlt : (cutR s).size < s.size := by omega
    simp only [if_pos hlt]
    rw [show -((n.natAbs : Nat) : Int) = n by omega]
    exact if_pos (tl_eq he)
  · have hi : Lib.itoa n = Lib.decDigits n.toNat := by unfold Lib.itoa; rw [if_neg c]
    have hp := dec_pos n.toNat
    have h6 := nd_le 5 n.toNat (by omega)
    have hsz : s.size = (Lib.decDigits n.toNat).length := by rw [← he, size_mk, hi]
    have hLs : L s = Lib.decDigits n.toNat := by rw [← he, L_mk, hi]
    have hb : bt s 0 ≠ 45 := by
      have := bt_getD s 0 (by omega)
      rw [show ((0 : Nat) : Int) = 0 from rfl] at this
      rw [this, hLs]
      cases hq : Lib.decDigits n.toNat with
      | nil => rw [hq] at hp; simp at hp
      | cons b r =>
        have := dec_head n.toNat b r hq
        show ((b.toNat : Nat) : Int) ≠ 45
        omega
    have hc : cutR s = s := if_neg (fun x => hb x.2)
    unfold tailR
    rw [hc, if_pos (by omega), hLs, dec_digits _ _ (Nat.le_refl _)]
    unfold finR
    simp only [if_neg (Nat.lt_irrefl s.size)]
    rw [show ((n.toNat : Nat) : Int) = n by omega]
    exact if_pos (tl_eq he)
theorem read_same (s : ByteArray) : impl_ParseInt.f s = some (tailR s (cutR s)) := by
  by_cases h : ∃ n, Spells s n
  · obtain ⟨n, h⟩ := h
    rw [impl_yes h, read_yes h]
  · have h' : ∀ n, ¬ Spells s n := fun n hn => h ⟨n, hn⟩
    rw [impl_no h', read_no h']
end Go.Proofs.YtmjmjfkjlblgaaaDoor.G

namespace Go.Proofs.YtmjmjfkjlblgaaaDoor.G
open Go.RowKit Go.Proofs.YtmjmjfkjlblgaaaDoorW.PrintWords Go.Proofs.YtmjmjfkjlblgaaaDoorW.PrintLast Go.Proofs.YtmjmjfkjlblgaaaDoor.B Go.Proofs.YtmjmjfkjlblgaaaDoor.Opn
set_option linter.unusedVariables false
set_option linter.unusedSimpArgs false
def BtL (l : List Int) : Prop := l.length ≤ 65536 ∧ ∀ x ∈ l, 0 ≤ x ∧ x ≤ 255
theorem bt_of {l : List Int} (h : okList (okInt .u8) l) (hl : l.length ≤ 65536) : BtL l := by
  refine ⟨hl, fun x hx => ?_⟩
  have := h.2 x hx
  simp only [okInt, Lit.wf, Bool.and_eq_true, decide_eq_true_eq] at this
  have h1 : IntKind.u8.min = 0 := rfl
  have h2 : IntKind.u8.max = 255 := rfl
  omega
theorem rd_bd {l : List Int} (h : BtL l) (i : Int) : 0 ≤ rd l i ∧ rd l i ≤ 255 := by
  unfold rd
  by_cases c : i.toNat < l.length
  · rw [List.getD_eq_getElem?_getD, List.getElem?_eq_getElem c]
    exact h.2 _ (List.getElem_mem c)
  · rw [List.getD_eq_getElem?_getD, List.getElem?_eq_none (by omega)]
    exact ⟨by decide, by decide⟩
theorem and_bd (x : Int) : 0 ≤ wrap64 (Go.bits .and .u64 ((IntKind.u64.wrap x) / 1099511627776) 255) ∧ wrap64 (Go.bits .and .u64 ((IntKind.u64.wrap x) / 1099511627776) 255) ≤ 255 := by
  rw [IntKind.wrap_u64]
  obtain ⟨n, hn, hl⟩ : ∃ n : Nat, (x % 18446744073709551616) / 1099511627776 = (n : Int) ∧ n < 18446744073709551616 := ⟨((x % 18446744073709551616) / 1099511627776).toNat, by omega, by omega⟩
  rw [hn, show (255 : Int) = ((255 : Nat) : Int) from rfl, bits_and_u64_nat n 255 hl (by omega)]
  have := Nat.and_le_right (n := n) (m := 255)
  rw [w64 (by omega) (by omega)]
  omega
theorem next_ex {l : List Int} (h : BtL l) (a s : Int) (h0 : 0 ≤ a) (h1 : a ≤ 2305843009213693952) : ∃ x s', spec_l1Cur_next.f l a s = some (x, a + 1, s') ∧ 0 ≤ x ∧ x ≤ 255 := by
  unfold spec_l1Cur_next.f
  have hw : wrap64 (a + 1) = a + 1 := w64 (by omega) (by omega)
  rw [hw]
  have hr := rd_bd h a
  by_cases c : a < (l.length : Int)
  · rw [if_pos c, if_pos h0]
    by_cases c2 : a + 1 ≤ (l.length : Int)
    · rw [if_pos c2]; exact ⟨_, _, rfl, by rw [w64 (by omega) (by omega)]; exact hr⟩
    · rw [if_neg c2]; exact ⟨_, _, rfl, and_bd _⟩
  · rw [if_neg c]
    by_cases c2 : a + 1 ≤ (l.length : Int)
    · rw [if_pos c2]; exact ⟨_, _, rfl, by omega, by omega⟩
    · rw [if_neg c2]; exact ⟨_, _, rfl, and_bd _⟩
theorem tmod_bd {x n : Int} (h : 0 ≤ x) (hn : 1 ≤ n) : 0 ≤ Int.tmod x n ∧ Int.tmod x n < n := ⟨Int.tmod_nonneg n h, Int.tmod_lt_of_pos x (by omega)⟩
theorem pick_ex {l : List Int} (h : BtL l) (a s n : Int) (h0 : 0 ≤ a) (h1 : a ≤ 2305843009213693000) (hn : 1 ≤ n) : ∃ x a' s', spec_l1Cur_pick.f l a s n = some (x, a', s') ∧ 0 ≤ x ∧ x < n ∧ a ≤ a' ∧ a' ≤ a + 2 := by
  unfold spec_l1Cur_pick.f
  by_cases c : n ≤ 1
  · rw [if_pos c]; exact ⟨_, _, _, rfl, by omega, by omega, by omega, by omega⟩
  · rw [if_neg c]
    obtain ⟨x, s', e, b0, b1⟩ := next_ex h a s h0 (by omega)
    rw [e]
    by_cases c2 : n > 200
    · obtain ⟨x2, s2, e2, b2, b3⟩ := next_ex h (a + 1) s' (by omega) (by omega)
      refine ⟨Int.tmod (x * 256 + x2) n, a + 1 + 1, s2, ?_, (tmod_bd (x := x * 256 + x2) (n := n) (by omega) hn).1, (tmod_bd (x := x * 256 + x2) (n := n) (by omega) hn).2, ?_, ?_⟩
      · simp only [Option.bind_some]
        rw [if_pos c2, e2]
        simp only [Option.bind_some]
        rw [if_neg (by omega), w64 (x := x * 256) (by omega) (by omega), w64 (x := x * 256 + x2) (by omega) (by omega)]
      · omega
      · omega
    · refine ⟨Int.tmod x n, a + 1, s', ?_, (tmod_bd (x := x) (n := n) b0 hn).1, (tmod_bd (x := x) (n := n) b0 hn).2, ?_, ?_⟩
      · simp only [Option.bind_some]
        rw [if_neg c2, if_neg (by omega)]
      · omega
      · omega
theorem of_ex {l : List Int} (h : BtL l) (a s : Int) (ts : List ByteArray) (h0 : 0 ≤ a) (h1 : a ≤ 2305843009213693000) (hn : 1 ≤ ts.length) : ∃ x a' s', spec_l1Cur_of.f l a s ts = some (x, a', s') ∧ x ∈ ts ∧ a ≤ a' ∧ a' ≤ a + 2 := by
  unfold spec_l1Cur_of.f
  obtain ⟨x, a', s', e, b0, b1, b2, b3⟩ := pick_ex h a s (ts.length : Int) h0 h1 (by omega)
  rw [e]
  simp only [Option.bind_some]
  rw [if_pos b0, if_pos b1]
  refine ⟨_, _, _, rfl, ?_, b2, b3⟩
  unfold rdOf
  rw [List.getD_eq_getElem?_getD, List.getElem?_eq_getElem (by omega)]
  exact List.getElem_mem (by omega)
end Go.Proofs.YtmjmjfkjlblgaaaDoor.G

namespace Go.Proofs.YtmjmjfkjlblgaaaDoor.Pure
open Go.RowKit Go.Proofs.YtmjmjfkjlblgaaaDoor.G Go.Proofs.YtmjmjfkjlblgaaaDoorW.PrintWords Go.Proofs.YtmjmjfkjlblgaaaDoorW.PrintLast Go.Proofs.YtmjmjfkjlblgaaaDoor.B Go.Proofs.YtmjmjfkjlblgaaaDoor.Opn
set_option linter.unusedVariables false
set_option linter.unusedSimpArgs false
def sumN : List UInt8 → Nat → Nat
  | [], h => h
  | b :: l, h => sumN l ((41 * h + b.toNat + 1) % 999979)
theorem sumN_lt (l : List UInt8) : ∀ h, h < 999979 → sumN l h < 999979 := by
  induction l with
  | nil => intro h hh; exact hh
  | cons b l ih => intro h hh; exact ih _ (Nat.mod_lt _ (by omega))
theorem sumN_inj (l : List UInt8) : ∀ h1 h2, h1 < 999979 → h2 < 999979 → sumN l h1 = sumN l h2 → h1 = h2 := by
  induction l with
  | nil => intro h1 h2 _ _ e; exact e
  | cons b l ih =>
    intro h1 h2 a1 a2 e
    have := ih _ _ (Nat.mod_lt _ (by omega)) (Nat.mod_lt _ (by omega)) e
    omega
theorem sumN_set (X : List UInt8) : ∀ (h j : Nat) (nb c : UInt8), h < 999979 → X[j]? = some c → sumN (X.set j nb) h = sumN X h → nb = c := by
  induction X with
  | nil => intro h j nb c _ hc; simp at hc
  | cons b X ih =>
    intro h j nb c hh hc e
    cases j with
    | zero =>
      have hb : b = c := by simpa using hc
      subst hb
      have := sumN_inj X _ _ (Nat.mod_lt _ (by omega)) (Nat.mod_lt _ (by omega)) (show sumN X ((41 * h + nb.toNat + 1) % 999979) = sumN X ((41 * h + b.toNat + 1) % 999979) from e)
      have l1 := nb.toNat_lt
      have l2 := b.toNat_lt
      exact UInt8.toNat_inj.1 (by omega)
    | succ j => exact ih _ j nb c (Nat.mod_lt _ (by omega)) (by simpa using hc) e
theorem ev_same {α : Type} {g : Nat → Option α} {a b : α} (h1 : Ev g a) (h2 : Ev g b) : a = b := by
  obtain ⟨k1, e1⟩ := h1
  obtain ⟨k2, e2⟩ := h2
  exact Option.some.inj ((e1 (max k1 k2) (Nat.le_max_left _ _)).symm.trans (e2 (max k1 k2) (Nat.le_max_right _ _)))
theorem step_num (h b : Nat) (h1 : h < 999979) (b1 : b < 256) : wrap64 (41 * (h : Int)) = 41 * (h : Int) ∧ wrap64 (b : Int) = (b : Int) ∧ wrap64 (41 * (h : Int) + (b : Int)) = 41 * (h : Int) + (b : Int) ∧
    wrap64 (41 * (h : Int) + (b : Int) + 1) = 41 * (h : Int) + (b : Int) + 1 :=
  ⟨w64 (by omega) (by omega), w64 (by omega) (by omega), w64 (by omega) (by omega), w64 (by omega) (by omega)⟩
theorem step_mod (h b : Nat) : Int.tmod (41 * (h : Int) + (b : Int) + 1) 999979 = (((41 * h + b + 1) % 999979 : Nat) : Int) := by
  rw [Int.tmod_eq_emod_of_nonneg (by omega)]; omega
theorem sum_val (s : ByteArray) (hs : s.size ≤ 4611686018427387904) (d : Nat) : ∀ (i h : Nat), h < 999979 → i ≤ s.size → s.size - i = d →
    Ev (fun k => impl_checksum.l0 k s (h : Int) (i : Int)) ((sumN ((L s).drop i) h : Nat) : Int) := by
  induction d with
  | zero =>
    intro i h h1 hi hd
    refine Ev.step (f := fun _ => some (h : Int)) (fun k => ?_) (ev_eq (Ev.now _) ?_)
    · simp only [impl_checksum.l0]; rw [if_neg (by omega)]
    · rw [List.drop_of_length_le (by rw [L_len]; omega)]; rfl
  | succ d ih =>
    intro i h h1 hi hd
    have hlt : i < s.size := by omega
    have hlt2 : i < (L s).length := by rw [L_len]; exact hlt
    obtain ⟨b, hb, hbL⟩ : ∃ b : UInt8, bt s (i : Int) = (b.toNat : Int) ∧ (L s)[i] = b := ⟨_, bt_getD s i hlt, by have h' : i < s.data.size := hlt; have h2 : s.data[i]? = some s.data[i] := Array.getElem?_eq_getElem h'; simp [L, h2]⟩
    have hb2 : b.toNat < 256 := b.toNat_lt
    have hA : (i : Int) < (s.size : Int) := by clear hb hbL hb2; omega
    have hB : 0 ≤ (i : Int) := by clear hb hbL hb2; omega
    have hC : i + 1 ≤ s.size := hlt
    have hD : s.size - (i + 1) = d := by clear hb hbL hb2; omega
    have hw : wrap64 ((i : Int) + 1) = ((i + 1 : Nat) : Int) := by clear hb hbL hb2; rw [w64 (by omega) (by omega)]; rfl
    obtain ⟨e1, e2, e3, e4⟩ := step_num h b.toNat h1 hb2
    have e5 := step_mod h b.toNat
    rw [← hb] at e2
    rw [List.drop_eq_getElem_cons hlt2, hbL]
    refine Ev.step (f := fun k => impl_checksum.l0 k s (((41 * h + b.toNat + 1) % 999979 : Nat) : Int) ((i + 1 : Nat) : Int)) (fun k => ?_) (ih (i + 1) _ (Nat.mod_lt _ (by decide)) hC hD)
    simp only [impl_checksum.l0]
    rw [if_pos hA, if_pos hB, e1, e2, hb, e3, e4, hw, e5]
theorem sum_f (s : ByteArray) (hs : s.size ≤ 4611686018427387904) : Ev (fun k => impl_checksum.f k s) ((sumN (L s) 7 : Nat) : Int) := sum_val s hs _ 0 7 (by omega) (by omega) rfl
theorem split_uniq (X : List UInt8) : ∀ (D A B : List UInt8), 35 ∉ X → 35 ∉ A → X ++ 35 :: D = A ++ 35 :: B → X = A ∧ D = B := by
  induction X with
  | nil =>
    intro D A B hX hA e
    cases A with
    | nil => exact ⟨rfl, by simpa using e⟩
    | cons a A => exact absurd (by have := (List.cons.inj e).1; rw [this]; exact List.mem_cons_self) hA
  | cons c X ih =>
    intro D A B hX hA e
    cases A with
    | nil => exact absurd (by have := (List.cons.inj e).1; rw [← this]; exact List.mem_cons_self) hX
    | cons a A =>
      have e1 := List.cons.inj e
      obtain ⟨r1, r2⟩ := ih D A B (fun h => hX (List.mem_cons_of_mem _ h)) (fun h => hA (List.mem_cons_of_mem _ h)) e1.2
      exact ⟨by rw [e1.1, r1], r2⟩
theorem flip_cases (X : List UInt8) : ∀ (D A B : List UInt8) (j : Nat) (nb : UInt8), 35 ∉ X → 35 ∉ D → 35 ∉ A → 35 ∉ B → (X ++ 35 :: D)[j]? ≠ some nb → (X ++ 35 :: D).set j nb = A ++ 35 :: B →
    (A = X.set j nb ∧ B = D) ∨ A = X := by
  induction X with
  | nil =>
    intro D A B j nb hX hD hA hB hne e
    cases j with
    | zero =>
      cases A with
      | nil => exact Or.inr rfl
      | cons a A =>
        have e1 := (List.cons.inj (show nb :: D = a :: (A ++ 35 :: B) from e)).2
        exact absurd (by rw [e1]; simp) hD
    | succ j =>
      cases A with
      | nil => exact Or.inr rfl
      | cons a A => exact absurd (by have := (List.cons.inj (show 35 :: D.set j nb = a :: (A ++ 35 :: B) from e)).1; rw [this]; exact List.mem_cons_self) hA
  | cons c X ih =>
    intro D A B j nb hX hD hA hB hne e
    have hX' : 35 ∉ X := fun h => hX (List.mem_cons_of_mem _ h)
    cases j with
    | zero =>
      cases A with
      | nil =>
        have e1 := (List.cons.inj (show nb :: (X ++ 35 :: D) = 35 :: B from e)).2
        exact absurd (by rw [← e1]; simp) hB
      | cons a A =>
        have e1 := List.cons.inj (show nb :: (X ++ 35 :: D) = a :: (A ++ 35 :: B) from e)
        obtain ⟨r1, r2⟩ := split_uniq X D A B hX' (fun h => hA (List.mem_cons_of_mem _ h)) e1.2
        exact Or.inl ⟨by rw [← e1.1, ← r1]; rfl, r2.symm⟩
    | succ j =>
      cases A with
      | nil => exact absurd (by have := (List.cons.inj (show c :: (X ++ 35 :: D).set j nb = 35 :: B from e)).1; rw [this]; exact List.mem_cons_self) hX
      | cons a A =>
        have e1 := List.cons.inj (show c :: (X ++ 35 :: D).set j nb = a :: (A ++ 35 :: B) from e)
        rcases ih D A B j nb hX' hD (fun h => hA (List.mem_cons_of_mem _ h)) hB (by simpa using hne) e1.2 with ⟨r1, r2⟩ | r1
        · exact Or.inl ⟨by rw [← e1.1, r1]; rfl, r2⟩
        · exact Or.inr (by rw [← e1.1, r1])
theorem dec_no (l : List UInt8) (h : 35 ∈ l) : ∀ acc, Lib.decFrom acc l = none := by
  induction l with
  | nil => simp at h
  | cons b l ih =>
    intro acc
    rcases List.mem_cons.1 h with rfl | h
    · rfl
    · unfold Lib.decFrom
      cases Lib.digitVal b with
      | none => rfl
      | some d => exact ih h _
theorem itoa_no (v : Nat) : 35 ∉ Lib.itoa (v : Int) := by
  intro h
  have e : Lib.itoa (v : Int) = Lib.decDigits v := by unfold Lib.itoa; rw [if_neg (by omega)]; rfl
  rw [e] at h
  have := dec_digits v v (Nat.le_refl v)
  rw [dec_no _ h] at this
  cases this
theorem itoa_inj {v u : Int} (h : Lib.itoa v = Lib.itoa u) : v = u := by
  have a := atoi_itoa v
  rw [h, atoi_itoa] at a
  exact (Option.some.inj a).symm
def sealN (s : ByteArray) : ByteArray := sealD s ((sumN (L s) 7 : Nat) : Int)
theorem sealN_L (s : ByteArray) : L (sealN s) = L s ++ 35 :: Lib.itoa ((sumN (L s) 7 : Nat) : Int) := by
  unfold sealN sealD
  rw [L_append, L_append, L_mk]
  simp [L]
theorem cut_f (s : ByteArray) (hs : s.size ≤ 4294967280) : strings_Cut.f s (⟨#[35]⟩ : ByteArray) = some (mkB (Lib.cut (L s) [35]).1, mkB (Lib.cut (L s) [35]).2.1, (Lib.cut (L s) [35]).2.2) := by
  unfold strings_Cut.f
  rw [if_pos (by omega)]; rfl
theorem ver_ev (s : ByteArray) (hs : s.size ≤ 4000) : ∃ r : ByteArray × Bool, Ev (fun k => impl_VerifyChecksum.f k s) r ∧
    ((∃ t : ByteArray, 35 ∉ L t ∧ sealN t = s ∧ r = (t, true)) ∨ ((∀ t : ByteArray, 35 ∉ L t → sealN t ≠ s) ∧ r = ((⟨#[]⟩ : ByteArray), false))) := by
  by_cases m : 35 ∈ L s
  · obtain ⟨i, hi, hcut, hspl, hno, hl⟩ := cut_hit (L s) 35 m
    have hLs : (L s).length = s.size := L_len s
    obtain ⟨t, ht⟩ : ∃ t, t = mkB ((L s).take i) := ⟨_, rfl⟩
    have htL : L t = (L s).take i := by rw [ht, L_mk]
    have hts : t.size = i := by rw [← L_len, htL, List.length_take]; omega
    have hv := sum_f t (by omega)
    have hlt := sumN_lt (L t) 7 (by omega)
    have happ := impl_app t (by omega) _ hv (by omega) (by omega)
    have hnt : 35 ∉ L t := by rw [htL]; exact hno
    have hc : strings_Cut.f s (⟨#[35]⟩ : ByteArray) = some (t, mkB ((L s).drop (i + 1)), true) := by rw [cut_f s (by omega), hcut, ht]
    by_cases e : sealN t = s
    · refine ⟨(t, true), ?_, Or.inl ⟨t, hnt, e, rfl⟩⟩
      unfold impl_VerifyChecksum.f
      refine ev_bind0 hc (ev_pos rfl (Ev.bind happ ?_))
      have hz : ¬ (t.size > 4000 ∨ 35 ∈ L t ∨ (sealD t ((sumN (L t) 7 : Nat) : Int)).size > 4000) := by
        rintro (z | z | z)
        · omega
        · exact hnt z
        · have : (sealD t ((sumN (L t) 7 : Nat) : Int)) = s := e
          rw [this] at z; omega
      unfold appD
      rw [if_neg hz]
      exact ev_pos rfl (ev_pos (show (sealD t ((sumN (L t) 7 : Nat) : Int)).toList = s.toList by rw [show sealD t ((sumN (L t) 7 : Nat) : Int) = s from e]) (Ev.now _))
    · refine ⟨((⟨#[]⟩ : ByteArray), false), ?_, Or.inr ⟨fun u hu he => ?_, rfl⟩⟩
      · unfold impl_VerifyChecksum.f
        refine ev_bind0 hc (ev_pos rfl (Ev.bind happ ?_))
        unfold appD
        by_cases z : t.size > 4000 ∨ 35 ∈ L t ∨ (sealD t ((sumN (L t) 7 : Nat) : Int)).size > 4000
        · rw [if_pos z]
          exact ev_neg (by simp) (Ev.now _)
        · rw [if_neg z]
          exact ev_pos rfl (ev_neg (fun h => e (toList_eq_iff.1 h)) (Ev.now _))
      · have h1 := sealN_L u
        rw [he, hl] at h1
        have h2 := (split_uniq _ _ _ _ hno hu h1).1
        have h3 : t = u := L_inj (by rw [htL, h2])
        exact e (by rw [h3]; exact he)
  · have hc : strings_Cut.f s (⟨#[35]⟩ : ByteArray) = some (mkB (L s), mkB [], false) := by rw [cut_f s (by omega), cut_miss (L s) 35 m]
    refine ⟨((⟨#[]⟩ : ByteArray), false), ?_, Or.inr ⟨fun u hu he => m ?_, rfl⟩⟩
    · unfold impl_VerifyChecksum.f
      exact ev_bind0 hc (ev_neg (by simp) (Ev.now _))
    · rw [← he, sealN_L]; simp
theorem ver_yes (t : ByteArray) (hs : (sealN t).size ≤ 4000) (hn : 35 ∉ L t) : Ev (fun k => impl_VerifyChecksum.f k (sealN t)) (t, true) := by
  obtain ⟨r, hr, ⟨u, hu, he, rfl⟩ | ⟨hno, _⟩⟩ := ver_ev (sealN t) hs
  · have h1 := sealN_L t
    rw [← he, sealN_L] at h1
    have h2 : u = t := L_inj (split_uniq _ _ _ _ hu hn h1).1
    subst h2; exact hr
  · exact absurd rfl (hno t hn)
theorem set_ne {l : List UInt8} {j : Nat} {nb : UInt8} (hj : j < l.length) (hne : l[j]? ≠ some nb) (h : l.set j nb = l) : False := by
  have h8 := List.getElem?_set_self (a := nb) hj
  rw [h] at h8
  exact hne h8
theorem ver_no (x : ByteArray) (j d : Nat) (hd : d < 255) (hj : j < (sealN x).size) (hs : (sealN x).size ≤ 4000) (hn : 35 ∉ L x) :
    Ev (fun k => impl_VerifyChecksum.f k (laws_FnStrings.flip (sealN x) j d)) ((⟨#[]⟩ : ByteArray), false) := by
  have hjL : j < (L (sealN x)).length := by rw [L_len]; exact hj
  have hLf : L (laws_FnStrings.flip (sealN x) j d) = (L (sealN x)).set j (laws_FnStrings.xb (sealN x) j d) := by unfold laws_FnStrings.flip; rw [L_mk]
  have hsz : (laws_FnStrings.flip (sealN x) j d).size ≤ 4000 := by rw [← L_len, hLf, List.length_set, L_len]; exact hs
  have hne : (L (sealN x))[j]? ≠ some (laws_FnStrings.xb (sealN x) j d) := by
    rw [List.getElem?_eq_getElem hjL]
    intro h
    have hb := (L (sealN x))[j].toNat_lt
    have hx : (L (sealN x))[j].toNat ^^^ (1 + d) < 2 ^ 8 := Nat.xor_lt_two_pow (by omega) (by omega)
    have h1 : (L (sealN x))[j] = laws_FnStrings.xb (sealN x) j d := Option.some.inj h
    have h2 : (L (sealN x))[j].toNat = (L (sealN x))[j].toNat ^^^ (1 + d) := by
      have h3 := congrArg UInt8.toNat h1
      unfold laws_FnStrings.xb at h3
      rw [List.getElem?_eq_getElem hjL, Option.getD_some, UInt8.toNat_ofNat', Nat.mod_eq_of_lt (by omega)] at h3
      exact h3
    have h4 : (1 + d) = 0 := by
      have h5 := congrArg (fun z => (L (sealN x))[j].toNat ^^^ z) h2
      simp only [Nat.xor_self, ← Nat.xor_assoc, Nat.zero_xor] at h5
      exact h5.symm
    omega
  obtain ⟨r, hr, ⟨t, ht, he, rfl⟩ | ⟨_, rfl⟩⟩ := ver_ev (laws_FnStrings.flip (sealN x) j d) hsz
  · exfalso
    have h1 := sealN_L t
    rw [he, hLf, sealN_L x] at h1
    rw [sealN_L x] at hne
    have hx : t = x := by
      rcases flip_cases (L x) _ (L t) _ j _ hn (itoa_no _) ht (itoa_no _) hne h1 with ⟨h2, h3⟩ | h2
      · by_cases hjx : j < (L x).length
        · exfalso
          have h4 := itoa_inj h3
          have h5 : sumN (L t) 7 = sumN (L x) 7 := by omega
          rw [h2] at h5
          have h6 := sumN_set (L x) 7 j _ _ (by omega) (List.getElem?_eq_getElem hjx) h5
          exact hne (by rw [List.getElem?_append_left hjx, List.getElem?_eq_getElem hjx, h6])
        · rw [List.set_eq_of_length_le (by omega)] at h2
          exact L_inj h2
      · exact L_inj h2
    rw [hx] at h1
    exact set_ne (by rw [← sealN_L]; exact hjL) hne h1
  · exact hr
theorem among_ex {l : List Int} (h : BtL l) (a s : Int) (ts : List Int) (h0 : 0 ≤ a) (h1 : a ≤ 2305843009213693000) (hn : 1 ≤ ts.length) : ∃ x a' s', spec_l1Cur_among.f l a s ts = some (x, a', s') ∧ a ≤ a' ∧ a' ≤ a + 2 := by
  unfold spec_l1Cur_among.f
  obtain ⟨x, a', s', e, b0, b1, b2, b3⟩ := pick_ex h a s (ts.length : Int) h0 h1 (by omega)
  rw [e]
  simp only [Option.bind_some]
  rw [if_pos b0, if_pos b1]
  exact ⟨_, _, _, rfl, b2, b3⟩
theorem one_ex {l : List Int} (h : BtL l) (a s n : Int) (h0 : 0 ≤ a) (h1 : a ≤ 2305843009213693000) (hn : 1 ≤ n) : ∃ x a' s', spec_l1Cur_one.f l a s n = some (x, a', s') ∧ a ≤ a' ∧ a' ≤ a + 2 := by
  unfold spec_l1Cur_one.f
  obtain ⟨x, a', s', e, b0, b1, b2, b3⟩ := pick_ex h a s n h0 h1 hn
  rw [e]
  exact ⟨_, _, _, rfl, b2, b3⟩
theorem any_ex {l : List Int} (h : BtL l) (a s : Int) (h0 : 0 ≤ a) (h1 : a ≤ 2305843009213693000) : ∃ x a' s', spec_l1Cur_any1.f l a s = some (x, a', s') ∧ x.size ≤ 10 ∧ a ≤ a' ∧ a' ≤ a + 2 := by
  unfold spec_l1Cur_any1.f
  obtain ⟨x, a', s', e, hx, b, b'⟩ := of_ex h a s [(⟨#[]⟩ : ByteArray), (⟨#[97]⟩ : ByteArray), (⟨#[97, 44, 98]⟩ : ByteArray), (⟨#[115, 111, 109, 101, 32, 119, 111, 114, 100, 115]⟩ : ByteArray), (⟨#[120, 35, 121]⟩ : ByteArray), (⟨#[45, 49, 50]⟩ : ByteArray), (⟨#[0, 255]⟩ : ByteArray), (⟨#[44, 44]⟩ : ByteArray), (⟨#[48]⟩ : ByteArray)] h0 h1 (by decide)
  rw [e]
  refine ⟨x, a', s', rfl, ?_, b, b'⟩
  simp only [List.mem_cons, List.not_mem_nil, or_false] at hx
  rcases hx with rfl | rfl | rfl | rfl | rfl | rfl | rfl | rfl | rfl <;> decide
theorem drawF {l : List Int} (h : BtL l) : ∃ n, spec_DrawFormatInt.f l = some n := by
  unfold spec_DrawFormatInt.f
  obtain ⟨x, a, s, e, _, _, b, c⟩ := pick_ex h 0 0 1000 (by omega) (by omega) (by omega)
  rw [e]
  simp only [Option.bind_some]
  obtain ⟨y, a2, s2, e2, _, _⟩ := among_ex h a s [0, 1, (-1), 10, 999999, (-999999), 1000000, (-1000000), wrap64 (x - 500)] (by omega) (by omega) (by simp)
  rw [e2]
  exact ⟨_, rfl⟩
theorem drawP {l : List Int} (h : BtL l) : ∃ t, Ev (fun k => spec_DrawParseInt.f k l) t := by
  unfold spec_DrawParseInt.f
  obtain ⟨x, a, s, e, b, c⟩ := one_ex h 0 0 2 (by omega) (by omega) (by omega)
  by_cases hx : x = true
  · subst hx
    obtain ⟨y, a2, s2, e2, _, _, _⟩ := of_ex h a s [(⟨#[]⟩ : ByteArray), (⟨#[45]⟩ : ByteArray), (⟨#[45, 48]⟩ : ByteArray), (⟨#[48, 48]⟩ : ByteArray), (⟨#[48, 49]⟩ : ByteArray), (⟨#[45, 45, 49]⟩ : ByteArray), (⟨#[49, 120]⟩ : ByteArray), (⟨#[57, 57, 57, 57, 57, 57]⟩ : ByteArray), (⟨#[49, 48, 48, 48, 48, 48, 48]⟩ : ByteArray), (⟨#[45, 57, 57, 57, 57, 57, 57]⟩ : ByteArray), (⟨#[49, 56, 52, 52, 54, 55, 52, 52, 48, 55, 51, 55, 48, 57, 53, 53, 49, 54, 49, 55]⟩ : ByteArray)] (by omega) (by omega) (by decide)
    exact ⟨y, ev_bind0 e (ev_pos rfl (ev_bind0 e2 (Ev.now _)))⟩
  · obtain ⟨y, a2, s2, e2, y0, y1, _, _⟩ := pick_ex h a s 2000 (by omega) (by omega) (by omega)
    have hw : wrap64 (y - 1000) = y - 1000 := w64 (by omega) (by omega)
    refine ⟨mkB (Lib.itoa (y - 1000)), ev_bind0 e (ev_neg hx (ev_bind0 e2 (Ev.bind ?_ (Ev.now _))))⟩
    show Ev (fun k => spec_l1Num.f k (wrap64 (y - 1000))) _
    rw [hw]
    exact num_ev _ (by omega) (by omega)
theorem drawA {l : List Int} (h : BtL l) : ∃ x, spec_DrawAppendChecksum.f l = some x ∧ x.size ≤ 4000 := by
  unfold spec_DrawAppendChecksum.f
  obtain ⟨x, a, s, e, b, c⟩ := one_ex h 0 0 20 (by omega) (by omega) (by omega)
  rw [e]
  simp only [Option.bind_some]
  by_cases hx : x = true
  · rw [if_pos hx]
    obtain ⟨y, a2, s2, e2, y0, y1, _, _⟩ := pick_ex h a s 10 (by omega) (by omega) (by omega)
    have hw : wrap64 (3990 + y) = 3990 + y := w64 (by omega) (by omega)
    rw [e2]
    simp only [Option.bind_some]
    rw [hw, if_pos (by omega), if_pos (by omega)]
    refine ⟨_, rfl, ?_⟩
    have : (strOfNums (List.replicate (3990 + y).toNat 0)).size = (3990 + y).toNat := by simp [strOfNums, ByteArray.size]
    omega
  · rw [if_neg hx]
    obtain ⟨y, a2, s2, e2, y0, _, _⟩ := any_ex h a s (by omega) (by omega)
    rw [e2]
    exact ⟨y, rfl, by omega⟩
theorem vat_ex {l : List Int} (h : BtL l) (i : Int) (h0 : 0 ≤ i) (h1 : i ≤ 100) : ∃ t, laws_vAt.f l i = some t ∧ 0 ≤ t := by
  unfold laws_vAt.f
  have hr := rd_bd h i
  by_cases c : i < (l.length : Int)
  · rw [if_pos c, if_pos h0]
    exact ⟨_, rfl, by rw [w64 (by omega) (by omega)]; omega⟩
  · rw [if_neg c]
    refine ⟨_, rfl, Int.tmod_nonneg _ ?_⟩
    rw [w64 (x := i * 7) (by omega) (by omega), w64 (by omega) (by omega)]
    omega
def fmtN (n : Int) : ByteArray × Bool := if -999999 ≤ n ∧ n ≤ 999999 then (mkB (Lib.itoa n), true) else ((⟨#[]⟩ : ByteArray), false)
theorem fmt_s (x : Int) : Ev (fun k => spec_FormatInt.f k x) (fmtN x) := by
  unfold spec_FormatInt.f spec_l1In.f fmtN
  by_cases h : -999999 ≤ x ∧ x ≤ 999999
  · rw [if_pos (show x ≥ -999999 from h.1), if_pos h]
    exact Ev.bind (a := true) (ev_eq (Ev.now _) (decide_eq_true h.2)) (ev_pos rfl (Ev.bind (num_ev x (by omega) (by omega)) (Ev.now _)))
  · have hin : (if x ≥ -999999 then some (decide (x ≤ 999999)) else some false) = some false := by
      by_cases c : x ≥ -999999
      · rw [if_pos c, decide_eq_false (by omega)]
      · rw [if_neg c]
    rw [hin, if_neg h]
    exact Ev.bind (a := false) (Ev.now _) (ev_neg (by simp) (Ev.now _))
theorem fmt_i (x : Int) : impl_FormatInt.f x = some (fmtN x) := by
  unfold impl_FormatInt.f impl_inside.f strconv_Itoa.f fmtN
  by_cases h : -999999 ≤ x ∧ x ≤ 999999
  · rw [if_pos (show x ≥ -999999 from h.1), decide_eq_true h.2, if_pos h, if_pos (show _ ∧ _ from ⟨by omega, by omega⟩)]; rfl
  · have hin : (if x ≥ -999999 then some (decide (x ≤ 999999)) else some false) = some false := by
      by_cases c : x ≥ -999999
      · rw [if_pos c, decide_eq_false (by omega)]
      · rw [if_neg c]
    rw [hin, if_neg h]; rfl
theorem tail_ok {l : List Int} (h : BtL l) (x : ByteArray) (hn : 35 ∉ L x) (hs : (sealN x).size ≤ 4000) : Ev (fun k => laws_FnStrings.tail l k x (sealN x)) true := by
  have hp : 0 < (sealN x).size := by rw [← L_len, sealN_L]; simp; omega
  obtain ⟨ta, e1, a0⟩ := vat_ex h 9 (by omega) (by omega)
  obtain ⟨tb, e2, b0⟩ := vat_ex h 10 (by omega) (by omega)
  unfold laws_FnStrings.tail
  refine Ev.bind (ver_yes x hs hn) (ev_bind0 e1 (ev_bind0 e2 (ev_pos ⟨a0, b0, hp, by omega⟩ (Ev.bind (ver_no x _ _ (Nat.mod_lt _ (by omega)) (Nat.mod_lt _ hp) hs hn) ?_))))
  exact ev_eq (Ev.now _) (by simp)
theorem j1_ok {l : List Int} (h : BtL l) (x : ByteArray) (hx : x.size ≤ 4000) : Ev (fun k => laws_FnStrings.j1 l k x (appD x ((sumN (L x) 7 : Nat) : Int)).1 (appD x ((sumN (L x) 7 : Nat) : Int)).2 false) true := by
  unfold appD
  by_cases c : x.size > 4000 ∨ 35 ∈ L x ∨ (sealD x ((sumN (L x) 7 : Nat) : Int)).size > 4000
  · rw [if_pos c]
    exact Ev.step (f := fun _ => some true) (fun k => by simp [laws_FnStrings.j1]) (Ev.now _)
  · rw [if_neg c]
    have hn : 35 ∉ L x := fun z => c (Or.inr (Or.inl z))
    have hz : (sealN x).size ≤ 4000 := by
      have : ¬ (sealD x ((sumN (L x) 7 : Nat) : Int)).size > 4000 := fun z => c (Or.inr (Or.inr z))
      unfold sealN; omega
    exact Ev.step (f := fun k => laws_FnStrings.tail l k x (sealN x)) (fun k => by simp only [laws_FnStrings.j1]; rw [if_neg (by simp)]; exact if_pos trivial) (tail_ok h x hn hz)
theorem j0_ok {l : List Int} (h : BtL l) (n : Int) (x : ByteArray) (hx : x.size ≤ 4000) : Ev (fun k => laws_FnStrings.j0 l k n (fmtN n).1 (fmtN n).2 x (appD x ((sumN (L x) 7 : Nat) : Int)).1 (appD x ((sumN (L x) 7 : Nat) : Int)).2 false) true := by
  have hj := j1_ok h x hx
  obtain ⟨y, hy⟩ : ∃ y, y = (appD x ((sumN (L x) 7 : Nat) : Int)) := ⟨_, rfl⟩
  rw [← hy] at hj ⊢
  unfold fmtN
  by_cases c : -999999 ≤ n ∧ n ≤ 999999
  · rw [if_pos c]
    have hi := impl_yes (s := mkB (Lib.itoa n)) (n := n) ⟨c, rfl⟩
    exact Ev.step (f := fun k => laws_FnStrings.j1 l k x y.1 y.2 false) (fun k => by simp only [laws_FnStrings.j0]; rw [if_neg (by simp), hi]; simp) hj
  · rw [if_neg c]
    have hi := read_same (⟨#[]⟩ : ByteArray)
    exact Ev.step (f := fun k => laws_FnStrings.j1 l k x y.1 y.2 false) (fun k => by simp only [laws_FnStrings.j0]; rw [if_neg (by simp), hi]; simp) hj
theorem FnStrings : laws_FnStrings.Pur := by
  intro l hok
  apply Ev.rounds
  unfold laws_FnStrings.f laws_vBig.f
  by_cases g : (l.length : Int) > 65536
  · exact ev_bind0 (a := true) (by rw [decide_eq_true g]) (ev_pos rfl (Ev.now _))
  refine ev_bind0 (a := false) (by rw [decide_eq_false g]) (ev_neg (by simp) ?_)
  have h : BtL l := bt_of hok (by omega)
  obtain ⟨n, hn⟩ := drawF h
  obtain ⟨t, ht⟩ := drawP h
  obtain ⟨x, hx, hxs⟩ := drawA h
  have hv := sum_f x (by omega)
  have hlt := sumN_lt (L x) 7 (by omega)
  have happ := impl_app x (by omega) _ hv (by omega) (by omega)
  obtain ⟨v, hs, hv2, h0, h1⟩ := seal_ev x (by omega)
  have hve : v = ((sumN (L x) 7 : Nat) : Int) := ev_same hv2 hv
  rw [hve] at hs
  have hsp : Ev (fun k => spec_AppendChecksum.f k x) (appD x ((sumN (L x) 7 : Nat) : Int)) := by
    unfold spec_AppendChecksum.f appD
    refine ev_neg (by omega) (Ev.bind (stands_ev x 35 (by omega)) ?_)
    by_cases m : 35 ∈ L x
    · rw [if_pos (Or.inr (Or.inl m))]; exact ev_pos (decide_eq_true m) (Ev.now _)
    · refine ev_neg (by simpa using m) (Ev.bind hs ?_)
      by_cases z : (sealD x ((sumN (L x) 7 : Nat) : Int)).size > 4000
      · rw [if_pos (Or.inr (Or.inr z))]; exact ev_pos (by omega) (Ev.now _)
      · rw [if_neg (show ¬ (x.size > 4000 ∨ 35 ∈ L x ∨ (sealD x ((sumN (L x) 7 : Nat) : Int)).size > 4000) from fun h => h.elim (fun h => by omega) (fun h => h.elim m z))]
        exact ev_neg (by omega) (Ev.bind hs (Ev.now _))
  have hrd : Ev (fun k => spec_ParseInt.f k t) (tailR t (cutR t)) := by
    unfold spec_ParseInt.f
    exact Ev.bind (spec_read t) (Ev.now _)
  have hj := j0_ok h n x hxs
  refine ev_bind0 hn (ev_bind0 (fmt_i n) (Ev.bind (fmt_s n) (Ev.bind ht (ev_bind0 (read_same t) (Ev.bind hrd (ev_bind0 hx (Ev.bind happ (Ev.bind hsp ?_))))))))
  refine ev_pos rfl (ev_neg (by simp) (ev_pos rfl (ev_neg (by simp) (ev_pos rfl ?_))))
  rw [bne_self_eq_false]
  exact hj
end Go.Proofs.YtmjmjfkjlblgaaaDoor.Pure
