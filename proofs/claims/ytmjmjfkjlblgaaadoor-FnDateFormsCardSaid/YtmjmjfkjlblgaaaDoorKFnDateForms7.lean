/- Texts of this session for the law FnDateForms, put together by a program (merge.py): each ends with its namespace; conditions stand with each theorem. -/
import Derived.Test.YtmjmjfkjlblgaaaDoorKFnDateForms6
import Derived.Test.YtmjmjfkjlblgaaaDoorKFnDateForms2
import Derived.Test.YtmjmjfkjlblgaaaDoorKFnDateForms3
import Derived.Test.YtmjmjfkjlblgaaaDoorKFnDateForms5
import Derived.Test.YtmjmjfkjlblgaaaDoorKFnDateForms4
import Derived.Laws.Bits64b
namespace Go.Proofs.YtmjmjfkjlblgaaaDoor.G
open Go.RowKit Go.Proofs.YtmjmjfkjlblgaaaDoorW.PrintWords Go.Proofs.YtmjmjfkjlblgaaaDoorW.PrintLast Go.Proofs.YtmjmjfkjlblgaaaDoor.B
set_option linter.unusedVariables false
set_option linter.unusedSimpArgs false
theorem spl_app2 (b : UInt8) (X Y : List UInt8) : spl b (X ++ b :: Y) = spl b X ++ spl b Y := by
  induction X with
  | nil => rw [List.nil_append, spl_cons, if_pos rfl]; rfl
  | cons c X ih =>
    rw [List.cons_append, spl_cons, spl_cons, ih]
    by_cases h : c = b
    · rw [if_pos h, if_pos h]; rfl
    · rw [if_neg h, if_neg h]
      cases hs : spl b X with
      | nil => exact absurd hs (spl_ne b X)
      | cons p q => rfl
theorem spl_free2 (b : UInt8) (l : List UInt8) (h : ∀ x ∈ l, x ≠ b) : spl b l = [l] := spl_none b l (fun k e => h b (List.mem_of_getElem? e) rfl)
theorem spl_len2 (b : UInt8) (l : List UInt8) : ∀ p ∈ spl b l, p.length ≤ l.length := by
  induction l with
  | nil => intro p hp; rw [spl_nil] at hp; have := List.mem_singleton.1 hp; subst this; simp
  | cons c l ih =>
    intro p hp
    rw [spl_cons] at hp
    by_cases e : c = b
    · rw [if_pos e] at hp
      rcases List.mem_cons.1 hp with rfl | hp
      · simp
      · have := ih p hp; simp; omega
    · rw [if_neg e] at hp
      cases hq : spl b l with
      | nil => exact absurd hq (spl_ne b l)
      | cons q r =>
        rw [hq] at hp ih
        rcases List.mem_cons.1 hp with rfl | hp
        · have := ih q List.mem_cons_self; simp; omega
        · have := ih p (List.mem_cons_of_mem _ hp); simp; omega
abbrev Dt := Int × Int × Int × Bool × Bool
def noD : Dt := (0, 0, 0, false, false)
def IsD (s : ByteArray) (y m d : Int) (c : Bool) : Prop := y ≠ 0 ∧ goodD y m d c = true ∧ txtD y m d c = s
def finD (s : ByteArray) (y m d : Int) (c : Bool) : Dt := if y ≠ 0 ∧ goodD y m d c = true ∧ (txtD y m d c).toList = s.toList then (y, m, d, c, true) else noD
theorem finD_no {s : ByteArray} (h : ∀ y m d c, ¬ IsD s y m d c) (y m d : Int) (c : Bool) : finD s y m d c = noD := if_neg (fun x => h y m d c ⟨x.1, x.2.1, toList_eq_iff.1 x.2.2⟩)
theorem finD_yes {s : ByteArray} {y m d : Int} {c : Bool} (h : IsD s y m d c) : finD s y m d c = (y, m, d, c, true) := if_pos ⟨h.1, h.2.1, toList_eq_iff.2 h.2.2⟩
def atoB (p : ByteArray) : Option Int := Lib.atoi (L p)
def parts (s : ByteArray) : List ByteArray := (spl 45 (L s)).map mkB
def cirD (s : ByteArray) : Bool := decide (1 ≤ s.size ∧ bt s 0 = 99)
def restD (s : ByteArray) : ByteArray := if cirD s = true then s.extract 1 s.size else s
theorem dec_dig {l : List UInt8} {m : Nat} (h : Lib.decFrom 0 l = some m) : ∀ x ∈ l, 48 ≤ x.toNat ∧ x.toNat ≤ 57 := by
  intro x hx
  obtain ⟨i, hi⟩ := List.mem_iff_getElem?.1 hx
  obtain ⟨d, hd⟩ := Lib.digit_of_decFrom l 0 m h i x hi
  unfold Lib.digitVal at hd
  by_cases c : 48 ≤ x.toNat ∧ x.toNat ≤ 57
  · exact c
  · rw [if_neg c] at hd; cases hd
theorem pad_dig (w n : Nat) : ∀ x ∈ L (padB w (n : Int)), 48 ≤ x.toNat ∧ x.toNat ≤ 57 := dec_dig (pad_dec w n)
theorem pad_free (w n : Nat) (b : UInt8) (hb : b.toNat < 48 ∨ 57 < b.toNat) : ∀ x ∈ L (padB w (n : Int)), x ≠ b := by
  intro x hx e
  have := pad_dig w n x hx
  rw [e] at this
  omega
theorem itoa_dec (n : Nat) : Lib.itoa (n : Int) = Lib.decDigits n := by unfold Lib.itoa; rw [if_neg (by omega)]; rfl
theorem pad_len (w n : Nat) : (L (padB w (n : Int))).length = max w (Lib.decDigits n).length := by
  unfold padB zer
  rw [L_mk, List.length_append, List.length_replicate, itoa_dec]
  omega
theorem pad_ato (w n : Nat) : atoB (padB w (n : Int)) = some (n : Int) := by
  have hd := pad_dec w n
  have hl := pad_len w n
  have hp := dec_pos n
  have hx := pad_dig w n
  unfold atoB
  cases hq : L (padB w (n : Int)) with
  | nil => rw [hq] at hl; simp at hl; omega
  | cons b r =>
    have hb := hx b (by rw [hq]; exact List.mem_cons_self)
    rw [hq] at hd
    have n1 : ¬ (b == 45) = true := fun e => by have := beq_iff_eq.1 e; subst this; revert hb; decide
    have n2 : ¬ (b == 43) = true := fun e => by have := beq_iff_eq.1 e; subst this; revert hb; decide
    simp only [Lib.atoi]
    rw [if_neg n1, if_neg n2]
    unfold Lib.decNat
    rw [if_neg (by simp), hd]
    rfl
theorem pad_size (w n : Nat) (hw : w ≤ 4) (hn : n < 10000) : (padB w (n : Int)).size ≤ 4 := by
  have h4 : (Lib.decDigits n).length ≤ 4 := nd_le 3 n (by have : (10:Nat) ^ 4 = 10000 := by decide
                                                          omega)
  rw [← L_len, pad_len]; omega
theorem pad_size2 (n : Nat) (hn : n < 100) : (padB 2 (n : Int)).size ≤ 2 := by
  have h4 : (Lib.decDigits n).length ≤ 2 := nd_le 1 n (by have : (10:Nat) ^ 2 = 100 := by decide
                                                          omega)
  rw [← L_len, pad_len]; omega
theorem pad_pos (w n : Nat) : 1 ≤ (L (padB w (n : Int))).length := by
  have := dec_pos n
  rw [pad_len]; omega
def ptsD (y m d : Int) : List ByteArray := if m > 0 then (if d > 0 then [padB 4 y, padB 2 m, padB 2 d] else [padB 4 y, padB 2 m]) else [padB 4 y]
theorem good_md {y m d : Int} {c : Bool} (h : goodD y m d c = true) (hy : y ≠ 0) (hm : ¬ m > 0) : d = 0 ∧ m = 0 := by
  have hb := good_bds h hy
  have e : m = 0 := by omega
  unfold goodD at h
  rw [if_neg (fun z => hy z.1), if_neg (fun z => z ⟨hb.1, hb.2.1, hb.2.2.1, hb.2.2.2.1⟩), if_pos e] at h
  exact ⟨of_decide_eq_true h, e⟩
theorem txt_core (y m d : Nat) : spl 45 (L (padB 4 (y : Int)) ++ 45 :: L (padB 2 (m : Int)) ++ 45 :: L (padB 2 (d : Int))) = [L (padB 4 (y : Int)), L (padB 2 (m : Int)), L (padB 2 (d : Int))] := by
  have h45 : (45 : UInt8).toNat < 48 ∨ 57 < (45 : UInt8).toNat := by decide
  rw [List.append_assoc, List.cons_append, spl_app2, spl_app2, spl_free2 45 _ (pad_free 4 y 45 h45), spl_free2 45 _ (pad_free 2 m 45 h45), spl_free2 45 _ (pad_free 2 d 45 h45)]
  rfl
theorem txt_core2 (y m : Nat) : spl 45 (L (padB 4 (y : Int)) ++ 45 :: L (padB 2 (m : Int))) = [L (padB 4 (y : Int)), L (padB 2 (m : Int))] := by
  have h45 : (45 : UInt8).toNat < 48 ∨ 57 < (45 : UInt8).toNat := by decide
  rw [spl_app2, spl_free2 45 _ (pad_free 4 y 45 h45), spl_free2 45 _ (pad_free 2 m 45 h45)]
  rfl
theorem txt_core1 (y : Nat) : spl 45 (L (padB 4 (y : Int))) = [L (padB 4 (y : Int))] := spl_free2 45 _ (pad_free 4 y 45 (by decide))
theorem txt_mid {y m d : Int} {c : Bool} (h : goodD y m d c = true) (hy : y ≠ 0) : spl 45 (L (padB 4 y) ++ (if m > 0 then 45 :: L (padB 2 m) else []) ++ (if d > 0 then 45 :: L (padB 2 d) else [])) = (ptsD y m d).map L := by
  have hb := good_bds h hy
  obtain ⟨y', rfl⟩ : ∃ y' : Nat, y = (y' : Int) := ⟨y.toNat, by omega⟩
  obtain ⟨m', rfl⟩ : ∃ y' : Nat, m = (y' : Int) := ⟨m.toNat, by omega⟩
  obtain ⟨d', rfl⟩ : ∃ y' : Nat, d = (y' : Int) := ⟨d.toNat, by omega⟩
  unfold ptsD
  by_cases cm : (m' : Int) > 0
  · by_cases cd : (d' : Int) > 0
    · rw [if_pos cm, if_pos cd, if_pos cm, if_pos cd]; exact txt_core y' m' d'
    · rw [if_pos cm, if_neg cd, if_pos cm, if_neg cd, List.append_nil]; exact txt_core2 y' m'
  · have := good_md h hy cm
    rw [if_neg cm, if_neg (by omega), if_neg cm, List.append_nil, List.append_nil]; exact txt_core1 y'
theorem txt_parts {s : ByteArray} {y m d : Int} {c : Bool} (h : IsD s y m d c) : cirD s = c ∧ parts (restD s) = ptsD y m d := by
  obtain ⟨hy, hg, rfl⟩ := h
  have hb := good_bds hg hy
  have hL : L (txtD y m d c) = (if c = true then [99] else []) ++ (L (padB 4 y) ++ (if m > 0 then 45 :: L (padB 2 m) else []) ++ (if d > 0 then 45 :: L (padB 2 d) else [])) := by
    unfold txtD; rw [L_mk]; simp
  have hmid := txt_mid hg hy
  have back : ∀ l : List ByteArray, (l.map L).map mkB = l := by
    intro l
    rw [List.map_map]
    have : (mkB ∘ L) = id := by funext x; exact mk_L x
    rw [this, List.map_id]
  cases c with
  | true =>
    rw [if_pos rfl, List.cons_append, List.nil_append] at hL
    have hz : 1 ≤ (txtD y m d true).size := by rw [← L_len, hL, List.length_cons]; omega
    have h0 : bt (txtD y m d true) 0 = 99 := by
      have := bt_getD (txtD y m d true) 0 (by omega)
      rw [show ((0 : Nat) : Int) = 0 from rfl] at this
      rw [this, hL]; rfl
    have hc : cirD (txtD y m d true) = true := decide_eq_true ⟨hz, h0⟩
    refine ⟨hc, ?_⟩
    unfold parts restD
    rw [if_pos hc, L_extract, hL]
    simp only [List.drop_succ_cons, List.drop_zero]
    rw [List.take_of_length_le (by rw [← L_len, hL, List.length_cons]; omega), hmid, back]
  | false =>
    rw [if_neg (by simp), List.nil_append] at hL
    obtain ⟨y', rfl⟩ : ∃ y' : Nat, y = (y' : Int) := ⟨y.toNat, by omega⟩
    have hp := pad_pos 4 y'
    have h0 : bt (txtD y' m d false) 0 ≠ 99 := by
      have hz : 0 < (txtD y' m d false).size := by rw [← L_len, hL, List.length_append, List.length_append]; omega
      have := bt_getD (txtD y' m d false) 0 hz
      rw [show ((0 : Nat) : Int) = 0 from rfl] at this
      rw [this, hL]
      cases hq : L (padB 4 (y' : Int)) with
      | nil => rw [hq] at hp; simp at hp
      | cons b r =>
        have := pad_dig 4 y' b (by rw [hq]; exact List.mem_cons_self)
        show ((b.toNat : Nat) : Int) ≠ 99
        omega
    have hc : cirD (txtD y' m d false) = false := decide_eq_false (fun x => h0 x.2)
    refine ⟨hc, ?_⟩
    unfold parts restD
    rw [hc, if_neg (by simp), hL, hmid, back]
theorem txt_size {s : ByteArray} {y m d : Int} {c : Bool} (h : IsD s y m d c) : s.size ≤ 12 := by
  obtain ⟨hy, hg, rfl⟩ := h
  have hb := good_bds hg hy
  obtain ⟨y', rfl⟩ : ∃ y' : Nat, y = (y' : Int) := ⟨y.toNat, by omega⟩
  obtain ⟨m', rfl⟩ : ∃ y' : Nat, m = (y' : Int) := ⟨m.toNat, by omega⟩
  obtain ⟨d', rfl⟩ : ∃ y' : Nat, d = (y' : Int) := ⟨d.toNat, by omega⟩
  have a := pad_size 4 y' (by omega) (by omega)
  have b := pad_size2 m' (by omega)
  have e := pad_size2 d' (by omega)
  rw [← L_len] at a b e
  unfold txtD
  rw [size_mk]
  simp only [List.length_append]
  have q1 : (if c = true then ([99] : List UInt8) else []).length ≤ 1 := by split <;> simp
  have q2 : (if (m' : Int) > 0 then 45 :: L (padB 2 (m' : Int)) else []).length ≤ 3 := by
    split
    · rw [List.length_cons]; omega
    · simp
  have q3 : (if (d' : Int) > 0 then 45 :: L (padB 2 (d' : Int)) else []).length ≤ 3 := by
    split
    · rw [List.length_cons]; omega
    · simp
  omega
theorem rd_at (ps : List ByteArray) (i : Nat) (p : ByteArray) (r : List ByteArray) (h : ps.drop i = p :: r) : i < ps.length ∧ rdOf ByteArray.empty ps (i : Int) = p ∧ ps.drop (i + 1) = r := by
  have hl : i < ps.length := by
    rcases Nat.lt_or_ge i ps.length with q | q
    · exact q
    · rw [List.drop_of_length_le q] at h; cases h
  rw [List.drop_eq_getElem_cons hl] at h
  injection h with h1 h2
  refine ⟨hl, ?_, h2⟩
  unfold rdOf
  rw [show ((i : Int)).toNat = i by omega, List.getD_eq_getElem?_getD, List.getElem?_eq_getElem hl, h1]; rfl
def unkB : List UInt8 := [117, 110, 107, 110, 111, 119, 110]
theorem good_ev1 (y m d : Int) (c : Bool) : Ev (fun k => spec_l3Good.f k y m d c) (goodD y m d c) := ⟨2, fun k hk => by obtain ⟨k', rfl⟩ : ∃ k', k = k' + 2 := ⟨k - 2, by omega⟩; exact spec_good k' y m d c⟩
theorem good_ev2 (y m d : Int) (c : Bool) : Ev (fun k => impl_IsValidDate.f k y m d c) (goodD y m d c) := ⟨2, fun k hk => by obtain ⟨k', rfl⟩ : ∃ k', k = k' + 2 := ⟨k - 2, by omega⟩; exact impl_good k' y m d c⟩
theorem fin_impl (s : ByteArray) (hs : ¬ s.toList = unkB) (y m d : Int) (c : Bool) : Ev (fun k => (impl_IsValidDate.f k y m d c).bind fun t275 => (if t275 = true then ((impl_formatDate.f k y m d c).bind fun t276 => (if t276.toList = s.toList then (some (y, m, d, c, true)) else (some (0, 0, 0, false, false)))) else (some (0, 0, 0, false, false)))) (finD s y m d c) := by
  have hg := good_ev2 y m d c
  cases h : goodD y m d c with
  | false =>
    rw [h] at hg
    exact Ev.bind hg (ev_neg (by simp) (ev_eq (Ev.now _) (if_neg (fun x => by rw [h] at x; exact absurd x.2.1 (by simp))).symm))
  | true =>
    rw [h] at hg
    by_cases hy : y = 0
    · refine Ev.bind hg (ev_pos rfl (Ev.bind (a := (⟨#[117, 110, 107, 110, 111, 119, 110]⟩ : ByteArray)) (by unfold impl_formatDate.f; exact ev_pos hy (Ev.now _)) (ev_neg (fun e => hs ?_) (ev_eq (Ev.now _) (if_neg (fun x => x.1 hy)).symm))))
      rw [← e, toList_L]; rfl
    · have hb := good_bds h hy
      refine Ev.bind hg (ev_pos rfl (Ev.bind (impl_txt y m d c ⟨hb.1, hb.2.1⟩ ⟨hb.2.2.1, hb.2.2.2.1⟩ hb.2.2.2.2) ?_))
      by_cases e : (txtD y m d c).toList = s.toList
      · exact ev_pos e (ev_eq (Ev.now _) (if_pos ⟨hy, h, e⟩).symm)
      · exact ev_neg e (ev_eq (Ev.now _) (if_neg (fun x => e x.2.2)).symm)
def implS (s : ByteArray) (c : Bool) : List ByteArray → Nat → Int → Int → Int → Dt
  | [], _, y, m, d => finD s y m d c
  | p :: r, i, y, m, d => match atoB p with
    | none => noD
    | some n => if 2 < i then noD else implS s c r (i + 1) (if i = 0 then n else y) (if i = 1 then n else m) (if i = 2 then n else d)
theorem impl_l0 (s : ByteArray) (hs : ¬ s.toList = unkB) (ps : List ByteArray) (c : Bool) (h3 : ps.length ≤ 1000) (hz : ∀ p ∈ ps, p.size ≤ 18) (r : List ByteArray) : ∀ (i : Nat) (y m d : Int), ps.drop i = r → i ≤ ps.length →
    Ev (fun k => impl_ParseDate.l0 k s ps (ps.length : Int) (i : Int) y m d c) (implS s c r i y m d) := by
  induction r with
  | nil =>
    intro i y m d h1 h2
    have hi : i = ps.length := by have := congrArg List.length h1; rw [List.length_drop] at this; simp at this; omega
    refine Ev.step (fun k => ?_) (fin_impl s hs y m d c)
    simp only [impl_ParseDate.l0]
    rw [if_neg (by omega)]
  | cons p r ih =>
    intro i y m d h1 h2
    obtain ⟨hl, hp, hd⟩ := rd_at ps i p r h1
    have hw : wrap64 ((i : Int) + 1) = ((i + 1 : Nat) : Int) := by rw [w64 (by omega) (by omega)]; rfl
    have hm : p ∈ ps := List.mem_of_mem_drop (by rw [h1]; exact List.mem_cons_self)
    have hq := hz p hm
    have ha : Lib.atoi p.data.toList = atoB p := rfl
    cases e : atoB p with
    | none =>
      refine ev_eq (Ev.step (f := fun k => impl_ParseDate.j1 k s (i : Int) 0 ps (ps.length : Int) (i : Int) true y m d c) (fun k => ?_) (Ev.step (f := fun _ => some noD) (fun k => ?_) (Ev.now _))) ?_
      · simp only [impl_ParseDate.l0]
        rw [if_pos (by omega), if_pos (by omega), if_pos (by omega), hp]
        unfold strconv_Atoi.f
        rw [if_pos hq, ha, e]; rfl
      · simp [impl_ParseDate.j1, noD]
      · simp only [implS, e]
    | some n =>
      have st : ∀ k, impl_ParseDate.l0 (k + 1) s ps (ps.length : Int) (i : Int) y m d c = impl_ParseDate.j1 k s (i : Int) n ps (ps.length : Int) (i : Int) (decide ((i : Int) > 2)) y m d c := by
        intro k
        simp only [impl_ParseDate.l0]
        rw [if_pos (by omega), if_pos (by omega), if_pos (by omega), hp]
        unfold strconv_Atoi.f
        rw [if_pos hq, ha, e]; rfl
      by_cases h2i : 2 < i
      · refine ev_eq (Ev.step st (Ev.step (f := fun _ => some noD) (fun k => ?_) (Ev.now _))) ?_
        · have g1 : decide ((i : Int) > 2) = true := decide_eq_true (by omega)
          rw [g1]; simp [impl_ParseDate.j1, noD]
        · simp only [implS, e, if_pos h2i]
      · have hn := fun a b f => ih (i + 1) a b f hd (by omega)
        have e2 : implS s c (p :: r) i y m d = implS s c r (i + 1) (if i = 0 then n else y) (if i = 1 then n else m) (if i = 2 then n else d) := by simp only [implS, e, if_neg h2i]
        rw [e2]
        refine Ev.step st (Ev.step (fun k => ?_) (hn _ _ _))
        simp only [impl_ParseDate.j1]
        rw [if_neg (by simp; omega), hw]
        have : i = 0 ∨ i = 1 ∨ i = 2 := by omega
        rcases this with rfl | rfl | rfl
        · rw [if_pos rfl]; rfl
        · rw [if_neg (by decide), if_pos rfl]; rfl
        · rw [if_neg (by decide), if_neg (by decide), if_pos rfl]; rfl
def implD (s : ByteArray) : Dt := if 12 < s.size then noD else implS s (cirD s) (parts (restD s)) 0 0 0 0
theorem implS_no {s : ByteArray} (h : ∀ y m d c, ¬ IsD s y m d c) (c : Bool) (r : List ByteArray) : ∀ i y m d, implS s c r i y m d = noD := by
  induction r with
  | nil => intro i y m d; exact finD_no h _ _ _ _
  | cons p r ih =>
    intro i y m d
    simp only [implS]
    cases atoB p with
    | none => rfl
    | some n =>
      show (if 2 < i then noD else _) = noD
      split
      · rfl
      · exact ih _ _ _ _
theorem implD_no {s : ByteArray} (h : ∀ y m d c, ¬ IsD s y m d c) : implD s = noD := by
  unfold implD
  split
  · rfl
  · exact implS_no h _ _ _ _ _ _
theorem implD_yes {s : ByteArray} {y m d : Int} {c : Bool} (h : IsD s y m d c) : implD s = (y, m, d, c, true) := by
  obtain ⟨hc, hp⟩ := txt_parts h
  have hz := txt_size h
  have hf := finD_yes h
  obtain ⟨hy, hg, hs⟩ := h
  have hb := good_bds hg hy
  unfold implD
  rw [if_neg (by omega), hc, hp]
  obtain ⟨y', rfl⟩ : ∃ y' : Nat, y = (y' : Int) := ⟨y.toNat, by omega⟩
  obtain ⟨m', rfl⟩ : ∃ y' : Nat, m = (y' : Int) := ⟨m.toNat, by omega⟩
  obtain ⟨d', rfl⟩ : ∃ y' : Nat, d = (y' : Int) := ⟨d.toNat, by omega⟩
  have ny := pad_ato 4 y'
  have nm := pad_ato 2 m'
  have nd := pad_ato 2 d'
  unfold ptsD
  by_cases cm : (m' : Int) > 0
  · by_cases cd : (d' : Int) > 0
    · rw [if_pos cm, if_pos cd]
      simp only [implS, ny, nm, nd]
      exact hf
    · have d0 : (d' : Int) = 0 := by omega
      rw [if_pos cm, if_neg cd]
      simp only [implS, ny, nm]
      rw [d0] at hf
      rw [d0]
      exact hf
  · have h0 := good_md hg hy cm
    rw [if_neg cm]
    simp only [implS, ny]
    rw [h0.1, h0.2] at hf
    rw [h0.1, h0.2]
    exact hf
theorem parts_size (t : ByteArray) : ∀ p ∈ parts t, p.size ≤ t.size := by
  intro p hp
  unfold parts at hp
  obtain ⟨q, hq, rfl⟩ := List.mem_map.1 hp
  rw [size_mk, ← L_len t]
  exact spl_len2 45 (L t) q hq
theorem parts_len (t : ByteArray) : (parts t).length ≤ t.size + 1 := by
  unfold parts
  rw [List.length_map, ← L_len t]
  exact spl_length 45 (L t)
theorem rest_size (s : ByteArray) : (restD s).size ≤ s.size := by
  unfold restD
  split
  · rw [ByteArray.size_extract]; omega
  · exact Nat.le_refl _
theorem cut_ev (s : ByteArray) : strings_CutPrefix.f s (⟨#[99]⟩ : ByteArray) = some (restD s, cirD s) := by
  have h1 : (⟨#[99]⟩ : ByteArray).size = 1 := rfl
  have h9 : (⟨#[99]⟩ : ByteArray).toList = [99] := toList_L _
  unfold strings_CutPrefix.f stringslite_CutPrefix.f stringslite_HasPrefix.f
  rw [h1, h9]
  by_cases hz : 1 ≤ s.size
  · rw [if_pos (by omega), if_pos (by omega), if_pos (by omega)]
    have hb := bt_getD s 0 (by omega)
    rw [show ((0 : Nat) : Int) = 0 from rfl] at hb
    have hx : (s.extract 0 (((1 : Nat) : Int)).toNat).toList = (L s).take 1 := by rw [toList_L, L_extract]; rfl
    rw [hx]
    cases hq : L s with
    | nil => have := L_len s; rw [hq] at this; simp at this; omega
    | cons b r =>
      rw [hq] at hb
      have hb' : bt s 0 = (b.toNat : Int) := hb
      by_cases e : b = 99
      · subst e
        have hc : cirD s = true := decide_eq_true ⟨hz, hb'⟩
        have hr : restD s = s.extract 1 s.size := if_pos hc
        rw [hr, hc]
        simp only [Option.bind_some, List.take_succ_cons, List.take_zero]
        rw [if_pos (show (([99] : List UInt8) == [99]) = true from rfl), if_pos (show (0 : Int) ≤ ((1 : Nat) : Int) by omega), if_pos (show ((1 : Nat) : Int) ≤ (s.size : Int) by omega)]
        rfl
      · have hc : cirD s = false := decide_eq_false (fun x => e (u8_inj (by rw [← hb', x.2]; rfl)))
        have hr : restD s = s := if_neg (by rw [hc]; simp)
        rw [hr, hc]
        simp only [Option.bind_some, List.take_succ_cons, List.take_zero]
        rw [if_neg (show ¬ (([b] : List UInt8) == [99]) = true by simpa using e)]
        rfl
  · have hc : cirD s = false := decide_eq_false (fun x => hz x.1)
    have hr : restD s = s := if_neg (by rw [hc]; simp)
    rw [if_neg (by omega), hr, hc]
    simp only [Option.bind_some]
    rw [if_neg (by simp)]
    rfl
theorem impl_parseD (s : ByteArray) (hu : ¬ s.toList = unkB) : Ev (fun k => impl_ParseDate.f k s) (implD s) := by
  unfold impl_ParseDate.f
  refine ev_neg hu ?_
  unfold implD
  by_cases h12 : 12 < s.size
  · rw [if_pos h12]; exact ev_pos (by omega) (Ev.now _)
  · rw [if_neg h12]
    have hr := rest_size s
    have hl := parts_len (restD s)
    have hsp : strings_Split.f (restD s) (⟨#[45]⟩ : ByteArray) = some (parts (restD s)) := by
      have e := splitB_eq 45 (restD s)
      have e' : Lib.splitB (⟨#[45]⟩ : ByteArray) 0 (Lib.countB (restD s) (⟨#[45]⟩ : ByteArray)) (restD s) = parts (restD s) := e
      unfold strings_Split.f
      have hn : (Lib.splitB (⟨#[45]⟩ : ByteArray) 0 (Lib.countB (restD s) (⟨#[45]⟩ : ByteArray)) (restD s)).length = Lib.countB (restD s) (⟨#[45]⟩ : ByteArray) + 1 := Lib.splitB_all (⟨#[45]⟩ : ByteArray) (by decide) 0 _ (restD s) rfl
      have hn2 := hn
      rw [e'] at hn2
      rw [if_pos ⟨by omega, by decide, hn, by omega⟩, e']
    refine ev_neg (by omega) (ev_bind0 (cut_ev s) (ev_bind0 hsp ?_))
    exact impl_l0 s hu (parts (restD s)) (cirD s) (by omega) (fun p hp => by have := parts_size (restD s) p hp; omega) (parts (restD s)) 0 0 0 0 (List.drop_zero) (by omega)
end Go.Proofs.YtmjmjfkjlblgaaaDoor.G

namespace Go.Proofs.YtmjmjfkjlblgaaaDoor.G
open Go.RowKit Go.Proofs.YtmjmjfkjlblgaaaDoorW.PrintWords Go.Proofs.YtmjmjfkjlblgaaaDoorW.PrintLast
set_option linter.unusedVariables false
set_option linter.unusedSimpArgs false
def refD (y m d : Int) (c : Bool) (y' m' d' : Int) (c' : Bool) : Bool :=
  if y' = 0 then true else decide (y = y') && (decide (m' = 0 ∨ m = m') && (decide (d' = 0 ∨ d = d') && (!c || c')))
theorem impl_ref (y m d : Int) (c : Bool) (y' m' d' : Int) (c' : Bool) : impl_refines.f y m d c y' m' d' c' = some (refD y m d c y' m' d' c') := by
  unfold impl_refines.f refD
  by_cases a : y' = 0 <;> by_cases b : y = y' <;> by_cases e : m' = 0 <;> by_cases f : m = m' <;> by_cases g : d' = 0 <;> by_cases h : d = d' <;> cases c <;> simp [a, b, e, f, g, h]
theorem w64c {x : Int} (h : -9223372036854775808 ≤ x) (h' : x ≤ 9223372036854775807) : wrap64 x = x := by unfold wrap64; omega
def cmpI (a b : Int) : Int := if a < b then -1 else if a > b then 1 else 0
theorem cmp_int (a b : Int) : cmp_Compare_int.f a b = some (cmpI a b) := by
  unfold cmp_Compare_int.f cmp_isNaN_int.f cmpI
  simp only [Option.bind_some, bne_self_eq_false, Bool.false_eq_true, if_false]
  by_cases h : a < b <;> by_cases h' : a > b <;> simp [h, h']
def or4 (a b c d : Int) : Int := if a ≠ 0 then a else if b ≠ 0 then b else if c ≠ 0 then c else d
theorem cmp_or4 (k : Nat) (a b c d : Int) : cmp_Or_int.f (k + 5) [a, b, c, d] = some (or4 a b c d) := by
  unfold cmp_Or_int.f or4
  have w1 : wrap64 1 = 1 := w64c (by omega) (by omega)
  have w2 : wrap64 2 = 2 := w64c (by omega) (by omega)
  have w3 : wrap64 3 = 3 := w64c (by omega) (by omega)
  have w4 : wrap64 4 = 4 := w64c (by omega) (by omega)
  by_cases ha : a = 0 <;> by_cases hb : b = 0 <;> by_cases hc : c = 0 <;> by_cases hd : d = 0 <;> simp [cmp_Or_int.l0, rd, w1, w2, w3, w4, ha, hb, hc, hd]
def cmpD (y m d : Int) (c : Bool) (y' m' d' : Int) (c' : Bool) : Int :=
  or4 (cmpI y y') (cmpI m m') (cmpI d d') (cmpI (if c then 1 else 0) (if c' then 1 else 0))
theorem impl_cmp (k : Nat) (y m d : Int) (c : Bool) (y' m' d' : Int) (c' : Bool) : impl_compareDates.f (k + 5) y m d c y' m' d' c' = some (cmpD y m d c y' m' d' c') := by
  unfold impl_compareDates.f impl_circaNumber.f cmpD
  cases c <;> cases c' <;> simp [cmp_int, cmp_or4]
theorem days_bd (y m : Int) : 28 ≤ daysD y m ∧ daysD y m ≤ 31 := by
  unfold daysD
  by_cases a : m = 2 ∧ True
  · simp only [if_pos a.1]; split <;> omega
  · rw [if_neg (by simpa using a)]; split <;> omega
theorem good_bd {y m d : Int} {c : Bool} (h : goodD y m d c = true) : 0 ≤ y ∧ y ≤ 2999 ∧ 0 ≤ m ∧ m ≤ 12 ∧ 0 ≤ d ∧ d ≤ 31 ∧ (c = true → m = 0 ∧ d = 0) := by
  unfold goodD at h
  by_cases z : y = 0 ∧ m = 0 ∧ d = 0 ∧ c = false
  · obtain ⟨rfl, rfl, rfl, rfl⟩ := z; simp
  · rw [if_neg z] at h
    by_cases a : 1 ≤ y ∧ y ≤ 2999 ∧ 0 ≤ m ∧ m ≤ 12
    · rw [if_neg (by simpa using a)] at h
      have := days_bd y m
      by_cases e : m = 0
      · rw [if_pos e] at h
        have hd : d = 0 := of_decide_eq_true h
        omega
      · rw [if_neg e] at h
        cases c with
        | true => simp at h
        | false => simp at h; simp; omega
    · rw [if_pos a] at h; simp at h
theorem spec_cmp (k : Nat) {y m d : Int} {c : Bool} {y' m' d' : Int} {c' : Bool} (h : goodD y m d c = true) (h' : goodD y' m' d' c' = true) : spec_l3Compare.f (k + 1) y m d c y' m' d' c' = some (cmpD y m d c y' m' d' c') := by
  obtain ⟨a0, a1, a2, a3, a4, a5, a6⟩ := good_bd h
  obtain ⟨b0, b1, b2, b3, b4, b5, b6⟩ := good_bd h'
  unfold spec_l3Compare.f
  rw [w64c (x := y * 13) (by omega) (by omega), w64c (x := y * 13 + m) (by omega) (by omega), w64c (x := (y * 13 + m) * 32) (by omega) (by omega), w64c (x := (y * 13 + m) * 32 + d) (by omega) (by omega),
    w64c (x := y' * 13) (by omega) (by omega), w64c (x := y' * 13 + m') (by omega) (by omega), w64c (x := (y' * 13 + m') * 32) (by omega) (by omega),
    w64c (x := (y * 13 + m) * 32 + d - (y' * 13 + m') * 32) (by omega) (by omega), w64c (x := (y * 13 + m) * 32 + d - (y' * 13 + m') * 32 - d') (by omega) (by omega)]
  have key : cmpD y m d c y' m' d' c' = if (y * 13 + m) * 32 + d - (y' * 13 + m') * 32 - d' < 0 then -1 else if (y * 13 + m) * 32 + d - (y' * 13 + m') * 32 - d' > 0 then 1 else (if c then (if c' then 0 else 1) else (if c' then -1 else 0)) := by
    unfold cmpD or4
    by_cases e1 : y < y'
    · rw [if_pos (by simp [cmpI, e1]), if_pos (by omega)]; simp [cmpI, e1]
    · by_cases e2 : y > y'
      · rw [if_pos (by simp [cmpI, e1, e2]), if_neg (by omega), if_pos (by omega)]; simp [cmpI, e1, e2]
      · have e : y = y' := by omega
        subst e
        rw [if_neg (by simp [cmpI])]
        by_cases f1 : m < m'
        · rw [if_pos (by simp [cmpI, f1]), if_pos (by omega)]; simp [cmpI, f1]
        · by_cases f2 : m > m'
          · rw [if_pos (by simp [cmpI, f1, f2]), if_neg (by omega), if_pos (by omega)]; simp [cmpI, f1, f2]
          · have f : m = m' := by omega
            subst f
            rw [if_neg (by simp [cmpI])]
            by_cases g1 : d < d'
            · rw [if_pos (by simp [cmpI, g1]), if_pos (by omega)]; simp [cmpI, g1]
            · by_cases g2 : d > d'
              · rw [if_pos (by simp [cmpI, g1, g2]), if_neg (by omega), if_pos (by omega)]; simp [cmpI, g1, g2]
              · have g : d = d' := by omega
                subst g
                have z : (y * 13 + m) * 32 + d - (y * 13 + m) * 32 - d = 0 := by omega
                rw [if_neg (by simp [cmpI]), z]
                cases c <;> cases c' <;> simp [cmpI]
  rw [key]
  generalize hx : (y * 13 + m) * 32 + d - (y' * 13 + m') * 32 - d' = x
  by_cases p : x < 0
  · simp [p, spec_l3Compare.j0]
  · by_cases q : x = 0
    · subst q
      cases c <;> cases c' <;> simp [spec_l3Compare.j0]
    · have r : x > 0 := by omega
      simp [p, q, r, spec_l3Compare.j0]
end Go.Proofs.YtmjmjfkjlblgaaaDoor.G

namespace Go.Proofs.YtmjmjfkjlblgaaaDoor.G
open Go.RowKit Go.Proofs.YtmjmjfkjlblgaaaDoorW.PrintWords Go.Proofs.YtmjmjfkjlblgaaaDoorW.PrintLast Go.Proofs.YtmjmjfkjlblgaaaDoorW.PrintMore
open Go.Proofs.YtmjmjfkjlblgaaaDoor.Gl Go.Proofs.YtmjmjfkjlblgaaaDoor.Ext
attribute [local go_sem] max2_int min2_int max_two min_two max_three min_three max_four min_four   -- for this text's walks alone
set_option linter.unusedVariables false
set_option linter.unusedSimpArgs false

/-! ### spec_l1Cur_of: function 37 -/
def spec_l1Cur_of.f (s0_0 : List Int) (s0_1 : Int) (s0_2 : Int) (l1 : List ByteArray) : Option (ByteArray × Int × Int) := (spec_l1Cur_pick.f s0_0 s0_1 s0_2 (l1.length : Int)).bind fun bt131 => (if 0 ≤ bt131.1 then (if bt131.1 < (l1.length : Int) then (some (rdOf ByteArray.empty l1 bt131.1, bt131.2.1, bt131.2.2)) else (none)) else (none))
set_option maxHeartbeats 8000000 in
set_option maxRecDepth 100000 in
theorem spec_l1Cur_of.calls (g : Nat) (s0_0 : List Int) (s0_1 : Int) (s0_2 : Int) (A1 : Option Addr) (c1 : Nat) (l1 : List ByteArray) (r1 : ByteArray) (r2 : Int) (r3 : Int) (w0 w : World) (hI : IsS51 w0 w g s0_0 s0_1 s0_2) (hB : Below w0.heap.size w0 w) (hr1 : Kd.C Kd.string w A1 l1.length l1) (hc1 : l1.length ≤ c1) (hf1 : ∀ ad, A1 = some ad → 0 < l1.length → ad.block ≠ g) (h : spec_l1Cur_of.f s0_0 s0_1 s0_2 l1 = some (r1, r2, r3)) :
  Calls Tryd.prog 37 #[.pointer (some ⟨g, 0, none⟩), .slice A1 l1.length c1] w fun e w' => e = .returned (.string r1) ∧ IsS51 w0 w' g s0_0 r2 r3 ∧ Below w0.heap.size w0 w' ∧ KeepBut w w' g none := by
 have HR1 := Aside0.mk hr1
 have HC1 := Aside0.mk hc1
 clear hr1 hc1
 have HI0 := Aside0.mk hI
 have HK := Aside0.mk (KeepBut.refl w g none)
 have HL := Aside0.mk hB.size
 clear hI
 have HW0 := Aside0.mk hB.size
 have HB := Aside0.mk hB
 clear hB
 have H : ((spec_l1Cur_pick.f s0_0 s0_1 s0_2 (l1.length : Int)).bind fun bt131 => (if 0 ≤ bt131.1 then (if bt131.1 < (l1.length : Int) then (some (rdOf ByteArray.empty l1 bt131.1, bt131.2.1, bt131.2.2)) else (none)) else (none))) = some (r1, r2, r3) := h
 clear h
 replace H := Option.bind_eq_some_iff.mp H
 obtain ⟨⟨t131, t132, t133⟩, A30, H⟩ := H
 replace H : (if 0 ≤ t131 then (if t131 < (l1.length : Int) then (some (rdOf ByteArray.empty l1 t131, t132, t133)) else (none)) else (none)) = some (r1, r2, r3) := H
 have A3 := Aside0.mk A30
 clear A30
 by_cases c4 : 0 ≤ t131
 ·
  rw [if_pos c4] at H
  have c4b0 : decide (0 ≤ t131) = true := decide_eq_true c4
  clear c4
  by_cases c5 : t131 < (l1.length : Int)
  ·
   rw [if_pos c5] at H
   have c5b0 : decide (t131 < (l1.length : Int)) = true := decide_eq_true c5
   clear c5
   simp only [Option.some.injEq, Prod.mk.injEq] at H
   obtain ⟨rfl, rfl, rfl⟩ := H
   go_enter Tryd.func37, Tryd.ntmps37
   go_wp2_with (first | ((with_reducible refine gate_callee (f := 31) rfl ?_); refine goesL_ (some 9) rfl rfl Tryd.func31 (by kernel_rfl) rfl #[.pointer (some ⟨g, 0, none⟩), .int .i64 (l1.length : Int)] rfl au100 ?_; (with_reducible refine (spec_l1Cur_pick.calls g s0_0 s0_1 s0_2 (l1.length : Int) t131 t132 t133 w0 _ ?side1 ?side2 A3.out).mono ?_); (case side1 => repeat (first | (with_reducible first | exact HI0.out | apply IsS51.alloc | apply IsS51.drewN | apply IsS51.drew | apply IsS51.set_1 | apply IsS51.set_2) | exact HI0.out)); (case side2 => repeat (first | (with_reducible first | exact HB.out | apply below_alloc | apply pw_below_drewN | apply below_drew1 | refine below_set ?_ (IsS51.ge HI0.out)) | exact HB.out)); rintro e w6 ⟨rfl, hi, hb, hk⟩; refine ⟨_, rfl, ?_⟩; replace HK := Aside0.mk (KeepBut.trans au99 hk (.inl rfl)); replace HB := Aside0.mk (hb); replace HI0 := Aside0.mk (hi); (try clear hb); (try clear hk); (try clear hi); have p134 : 0 ≤ (t131 : Int) := of_decide_eq_true au152; have q134 : t131 < (l1.length : Int) := of_decide_eq_true au152; obtain ⟨ad134, e134, hx134_0⟩ := Kd.at_string HR1.out t131 p134 q134; cases e134; replace hx134_0 := keep_cell HK.out hx134_0 (by first | (rw [add_block]; exact hf1 _ rfl (by omega)) | exact hf1 _ rfl (by omega) | exact hf1 ad134 rfl (by omega)); replace p134 := eq_true p134; replace q134 := eq_true q134))
   go_ret
   exact ax5
  ·
   rw [if_neg c5] at H
   exact absurd H (by simp)
 ·
  rw [if_neg c4] at H
  exact absurd H (by simp)

end Go.Proofs.YtmjmjfkjlblgaaaDoor.G

namespace Go.Proofs.YtmjmjfkjlblgaaaDoor.G
open Go.RowKit Go.Proofs.YtmjmjfkjlblgaaaDoorW.PrintWords Go.Proofs.YtmjmjfkjlblgaaaDoorW.PrintLast Go.Proofs.YtmjmjfkjlblgaaaDoor.B Go.Proofs.YtmjmjfkjlblgaaaDoor.Opn
set_option linter.unusedVariables false
set_option linter.unusedSimpArgs false
def BtL (l : List Int) : Prop := l.length ≤ 65536 ∧ ∀ x ∈ l, 0 ≤ x ∧ x ≤ 255
theorem bt_of {l : List Int} (h : okList (okInt .u8) l) (hl : l.length ≤ 65536) : BtL l := by
  refine ⟨hl, fun x hx => ?_⟩
  have := h.2 x hx
  simp only [okInt, Lit.wf, Bool.and_eq_true, decide_eq_true_eq] at this
  have h1 : IntKind.u8.min = 0 := rfl
  have h2 : IntKind.u8.max = 255 := rfl
  omega
theorem rd_bd {l : List Int} (h : BtL l) (i : Int) : 0 ≤ rd l i ∧ rd l i ≤ 255 := by
  unfold rd
  by_cases c : i.toNat < l.length
  · rw [List.getD_eq_getElem?_getD, List.getElem?_eq_getElem c]
    exact h.2 _ (List.getElem_mem c)
  · rw [List.getD_eq_getElem?_getD, List.getElem?_eq_none (by omega)]
    exact ⟨by decide, by decide⟩
theorem and_bd (x : Int) : 0 ≤ wrap64 (Go.bits .and .u64 ((IntKind.u64.wrap x) / 1099511627776) 255) ∧ wrap64 (Go.bits .and .u64 ((IntKind.u64.wrap x) / 1099511627776) 255) ≤ 255 := by
  rw [IntKind.wrap_u64]
  obtain ⟨n, hn, hl⟩ : ∃ n : Nat, (x % 18446744073709551616) / 1099511627776 = (n : Int) ∧ n < 18446744073709551616 := ⟨((x % 18446744073709551616) / 1099511627776).toNat, by omega, by omega⟩
  rw [hn, show (255 : Int) = ((255 : Nat) : Int) from rfl, bits_and_u64_nat n 255 hl (by omega)]
  have := Nat.and_le_right (n := n) (m := 255)
  rw [w64 (by omega) (by omega)]
  omega
theorem next_ex {l : List Int} (h : BtL l) (a s : Int) (h0 : 0 ≤ a) (h1 : a ≤ 2305843009213693952) : ∃ x s', spec_l1Cur_next.f l a s = some (x, a + 1, s') ∧ 0 ≤ x ∧ x ≤ 255 := by
  unfold spec_l1Cur_next.f
  have hw : wrap64 (a + 1) = a + 1 := w64 (by omega) (by omega)
  rw [hw]
  have hr := rd_bd h a
  by_cases c : a < (l.length : Int)
  · rw [if_pos c, if_pos h0]
    by_cases c2 : a + 1 ≤ (l.length : Int)
    · rw [if_pos c2]; exact ⟨_, _, rfl, by rw [w64 (by omega) (by omega)]; exact hr⟩
    · rw [if_neg c2]; exact ⟨_, _, rfl, and_bd _⟩
  · rw [if_neg c]
    by_cases c2 : a + 1 ≤ (l.length : Int)
    · rw [if_pos c2]; exact ⟨_, _, rfl, by omega, by omega⟩
    · rw [if_neg c2]; exact ⟨_, _, rfl, and_bd _⟩
theorem tmod_bd {x n : Int} (h : 0 ≤ x) (hn : 1 ≤ n) : 0 ≤ Int.tmod x n ∧ Int.tmod x n < n := ⟨Int.tmod_nonneg n h, Int.tmod_lt_of_pos x (by omega)⟩
theorem pick_ex {l : List Int} (h : BtL l) (a s n : Int) (h0 : 0 ≤ a) (h1 : a ≤ 2305843009213693000) (hn : 1 ≤ n) : ∃ x a' s', spec_l1Cur_pick.f l a s n = some (x, a', s') ∧ 0 ≤ x ∧ x < n ∧ a ≤ a' ∧ a' ≤ a + 2 := by
  unfold spec_l1Cur_pick.f
  by_cases c : n ≤ 1
  · rw [if_pos c]; exact ⟨_, _, _, rfl, by omega, by omega, by omega, by omega⟩
  · rw [if_neg c]
    obtain ⟨x, s', e, b0, b1⟩ := next_ex h a s h0 (by omega)
    rw [e]
    by_cases c2 : n > 200
    · obtain ⟨x2, s2, e2, b2, b3⟩ := next_ex h (a + 1) s' (by omega) (by omega)
      refine ⟨Int.tmod (x * 256 + x2) n, a + 1 + 1, s2, ?_, (tmod_bd (x := x * 256 + x2) (n := n) (by omega) hn).1, (tmod_bd (x := x * 256 + x2) (n := n) (by omega) hn).2, ?_, ?_⟩
      · simp only [Option.bind_some]
        rw [if_pos c2, e2]
        simp only [Option.bind_some]
        rw [if_neg (by omega), w64 (x := x * 256) (by omega) (by omega), w64 (x := x * 256 + x2) (by omega) (by omega)]
      · omega
      · omega
    · refine ⟨Int.tmod x n, a + 1, s', ?_, (tmod_bd (x := x) (n := n) b0 hn).1, (tmod_bd (x := x) (n := n) b0 hn).2, ?_, ?_⟩
      · simp only [Option.bind_some]
        rw [if_neg c2, if_neg (by omega)]
      · omega
      · omega
theorem spoilt_ex {l : List Int} (h : BtL l) (a s : Int) (t u : ByteArray) (h0 : 0 ≤ a) (h1 : a ≤ 2305843009213690000) (ht : t.size ≤ 1000000) (hu : 1 ≤ u.size) (hu1 : u.size ≤ 1000) :
    ∃ x a' s', spec_l1Cur_spoilt.f l a s t u = some (x, a', s') ∧ x.size ≤ t.size + 1 ∧ a ≤ a' ∧ a' ≤ a + 6 := by
  unfold spec_l1Cur_spoilt.f
  by_cases z : t.toList = ([] : List UInt8)
  · rw [if_pos z, if_pos (by omega), if_pos (by omega)]
    exact ⟨_, _, _, rfl, by rw [ByteArray.size_extract]; omega, by omega, by omega⟩
  · have hz : 1 ≤ t.size := by
      rcases Nat.eq_zero_or_pos t.size with e | e
      · exact absurd (by rw [toList_L]; exact (size_pos_iff t).1 e) z
      · exact e
    rw [if_neg z]
    obtain ⟨i, a1, s1, e1, i0, i1, b1, c1⟩ := pick_ex h a s (t.size : Int) h0 (by omega) (by omega)
    obtain ⟨j, a2, s2, e2, j0, j1, b2, c2⟩ := pick_ex h a1 s1 (u.size : Int) (by omega) (by omega) (by omega)
    obtain ⟨n, a3, s3, e3, n0, n1, b3, c3⟩ := pick_ex h a2 s2 3 (by omega) (by omega) (by omega)
    have hj : 1 ≤ (u.extract j.toNat u.size).size := by rw [ByteArray.size_extract]; omega
    have hw : ((u.extract j.toNat u.size).extract 0 1).size = 1 := by rw [ByteArray.size_extract]; omega
    have k0 : (t.extract 0 i.toNat).size = i.toNat := by rw [ByteArray.size_extract]; omega
    have k1 : (t.extract i.toNat t.size).size = t.size - i.toNat := by rw [ByteArray.size_extract]; omega
    have k2 : (t.extract (i + 1).toNat t.size).size = t.size - (i + 1).toNat := by rw [ByteArray.size_extract]; omega
    have w1 : wrap64 (i + 1) = i + 1 := w64 (by omega) (by omega)
    rw [e1]
    simp only [Option.bind_some]
    rw [e2]
    simp only [Option.bind_some]
    rw [if_pos j0, if_pos (by omega), if_pos (by omega), if_pos (by omega), e3]
    simp only [Option.bind_some]
    by_cases q0 : n = 0
    · rw [if_pos q0, if_pos i0, if_pos (by omega), if_pos (by omega), if_pos (by rw [size_append]; omega)]
      exact ⟨_, _, _, rfl, by rw [size_append, size_append]; omega, by omega, by omega⟩
    · rw [if_neg q0, w1]
      by_cases q1 : n = 1
      · rw [if_pos q1, if_pos i0, if_pos (by omega), if_pos (by omega), if_pos (by omega), if_pos (by omega), if_pos (by rw [size_append]; omega)]
        exact ⟨_, _, _, rfl, by rw [size_append, size_append]; omega, by omega, by omega⟩
      · rw [if_neg q1, if_pos i0, if_pos (by omega), if_pos (by omega), if_pos (by omega), if_pos (by omega)]
        exact ⟨_, _, _, rfl, by rw [size_append]; omega, by omega, by omega⟩
end Go.Proofs.YtmjmjfkjlblgaaaDoor.G

namespace Go.Proofs.YtmjmjfkjlblgaaaDoor.Pure
open Go.RowKit Go.Proofs.YtmjmjfkjlblgaaaDoor.G Go.Proofs.YtmjmjfkjlblgaaaDoorW.PrintWords Go.Proofs.YtmjmjfkjlblgaaaDoorW.PrintLast Go.Proofs.YtmjmjfkjlblgaaaDoor.B Go.Proofs.YtmjmjfkjlblgaaaDoor.Opn
set_option linter.unusedVariables false
set_option linter.unusedSimpArgs false
theorem among_ex {l : List Int} (h : BtL l) (a s : Int) (ts : List Int) (h0 : 0 ≤ a) (h1 : a ≤ 2305843009213693000) (hn : 1 ≤ ts.length) : ∃ x a' s', spec_l1Cur_among.f l a s ts = some (x, a', s') ∧ x ∈ ts ∧ a ≤ a' ∧ a' ≤ a + 2 := by
  unfold spec_l1Cur_among.f
  obtain ⟨x, a', s', e, b0, b1, b2, b3⟩ := pick_ex h a s (ts.length : Int) h0 h1 (by omega)
  rw [e]
  simp only [Option.bind_some]
  rw [if_pos b0, if_pos b1]
  refine ⟨_, _, _, rfl, ?_, b2, b3⟩
  unfold rd
  rw [List.getD_eq_getElem?_getD, List.getElem?_eq_getElem (show x.toNat < ts.length by omega)]
  exact List.getElem_mem _
theorem one_ex {l : List Int} (h : BtL l) (a s n : Int) (h0 : 0 ≤ a) (h1 : a ≤ 2305843009213693000) (hn : 1 ≤ n) : ∃ x a' s', spec_l1Cur_one.f l a s n = some (x, a', s') ∧ a ≤ a' ∧ a' ≤ a + 2 := by
  unfold spec_l1Cur_one.f
  obtain ⟨x, a', s', e, b0, b1, b2, b3⟩ := pick_ex h a s n h0 h1 hn
  rw [e]
  exact ⟨_, _, _, rfl, b2, b3⟩
theorem date_ex {l : List Int} (h : BtL l) (a s : Int) (h0 : 0 ≤ a) (h1 : a ≤ 2305843009213690000) : ∃ y m d c a' s', spec_l1Cur_date.f l a s = some (y, m, d, c, a', s') ∧ a ≤ a' ∧ a' ≤ a + 8 ∧ (y = 0 ∨ ((1 ≤ y ∧ y ≤ 2999) ∧ (0 ≤ m ∧ m ≤ 12) ∧ (0 ≤ d ∧ d ≤ 31))) := by
  unfold spec_l1Cur_date.f
  obtain ⟨x1, a1, s1, e1, q1, b1, c1⟩ := among_ex h a s [1999, 2000, 1850, 987, 1900, 2024] h0 (by omega) (by decide)
  obtain ⟨x2, a2, s2, e2, _, _, b2, c2⟩ := pick_ex h a1 s1 5 (by omega) (by omega) (by omega)
  obtain ⟨x3, a3, s3, e3, m0, m1, b3, c3⟩ := pick_ex h a2 s2 12 (by omega) (by omega) (by omega)
  obtain ⟨x4, a4, s4, e4, d0, d1, b4, c4⟩ := pick_ex h a3 s3 28 (by omega) (by omega) (by omega)
  have hx : 1 ≤ x1 ∧ x1 ≤ 2999 := by
    simp only [List.mem_cons, List.not_mem_nil, or_false] at q1
    omega
  have w1 : wrap64 (1 + x3) = 1 + x3 := w64 (by omega) (by omega)
  have w2 : wrap64 (1 + x4) = 1 + x4 := w64 (by omega) (by omega)
  rw [e1]; simp only [Option.bind_some]
  rw [e2]; simp only [Option.bind_some]
  rw [e3]; simp only [Option.bind_some]
  rw [e4]; simp only [Option.bind_some]
  rw [w1, w2]
  clear w1 w2
  repeat' split
  all_goals exact ⟨_, _, _, _, _, _, rfl, by omega, by omega, by omega⟩
theorem anyDate_ex {l : List Int} (h : BtL l) (a s : Int) (h0 : 0 ≤ a) (h1 : a ≤ 2305843009213680000) : ∃ y m d c a' s', spec_l1Cur_anyDate.f l a s = some (y, m, d, c, a', s') ∧ a ≤ a' ∧ a' ≤ a + 12 := by
  unfold spec_l1Cur_anyDate.f
  obtain ⟨y, m, d, c, a1, s1, e1, b1, c1, _⟩ := date_ex h a s h0 (by omega)
  obtain ⟨x2, a2, s2, e2, _, _, b2, c2⟩ := pick_ex h a1 s1 14 (by omega) (by omega) (by omega)
  obtain ⟨x3, a3, s3, e3, _, b3, c3⟩ := among_ex h a2 s2 [0, (-1), 2999, 3000, 1] (by omega) (by omega) (by decide)
  obtain ⟨x4, a4, s4, e4, _, b4, c4⟩ := among_ex h a2 s2 [13, (-1), 2] (by omega) (by omega) (by decide)
  obtain ⟨x5, a5, s5, e5, _, b5, c5⟩ := among_ex h a2 s2 [29, 30, 31, 32, (-1)] (by omega) (by omega) (by decide)
  rw [e1]; simp only [Option.bind_some]
  rw [e2]; simp only [Option.bind_some]
  rw [e3, e4, e5]; simp only [Option.bind_some]
  repeat' split
  all_goals exact ⟨_, _, _, _, _, _, rfl, by omega, by omega⟩
theorem two_ex {l : List Int} (h : BtL l) : ∃ y m d c y' m' d' c', spec_DrawCompareDates.f l = some (y, m, d, c, y', m', d', c') := by
  unfold spec_DrawCompareDates.f spec_l1Cur_twoDates.f
  obtain ⟨y, m, d, c, a1, s1, e1, b1, c1⟩ := anyDate_ex h 0 0 (by omega) (by omega)
  obtain ⟨y', m', d', c', a2, s2, e2, b2, c2⟩ := anyDate_ex h a1 s1 (by omega) (by omega)
  obtain ⟨x3, a3, s3, e3, _, _, b3, c3⟩ := pick_ex h a2 s2 4 (by omega) (by omega) (by omega)
  obtain ⟨x4, a4, s4, e4, b4, c4⟩ := one_ex h a3 s3 2 (by omega) (by omega) (by omega)
  rw [e1]; simp only [Option.bind_some]
  rw [e2]; simp only [Option.bind_some]
  rw [e3]; simp only [Option.bind_some]
  rw [e4]; simp only [Option.bind_some]
  repeat' split
  all_goals exact ⟨_, _, _, _, _, _, _, _, rfl⟩
def noB : Int × Int × Int × Bool × Int × Int × Int × Bool × Bool := (0, 0, 0, false, 0, 0, 0, false, false)
def bdD (y m d : Int) (c : Bool) : Int × Int × Int × Bool × Int × Int × Int × Bool × Bool :=
  if m = 0 then (if d = 0 then (y, 1, 1, c, y, 12, daysD y 12, c, true) else (y, 1, d, c, y, 12, d, c, true))
  else (if d = 0 then (y, m, 1, c, y, m, daysD y m, c, true) else (y, m, d, c, y, m, d, c, true))
def bndD (y m d : Int) (c : Bool) : Int × Int × Int × Bool × Int × Int × Int × Bool × Bool :=
  if goodD y m d c = true then (if y = 0 then noB else if c = true then noB else bdD y m d c) else noB
theorem impl_bj (k : Nat) (b : Bool) (y m d : Int) (c : Bool) : impl_DateBounds.j0 (k + 2) b y m d c = some (if b = true then noB else bdD y m d c) := by
  simp only [impl_DateBounds.j0, impl_days, Option.bind_some]
  unfold bdD noB
  cases b <;> by_cases h1 : m = 0 <;> by_cases h2 : d = 0 <;> simp [h1, h2]
theorem impl_bnd (k : Nat) (y m d : Int) (c : Bool) : impl_DateBounds.f (k + 2) y m d c = some (bndD y m d c) := by
  unfold impl_DateBounds.f bndD
  simp only [impl_good, impl_bj, Option.bind_some]
  cases goodD y m d c <;> by_cases h : y = 0 <;> simp [h]
theorem refD_self (y m d : Int) (c : Bool) : refD y m d c y m d c = true := by
  unfold refD
  cases c <;> simp
def unkS : ByteArray := (⟨#[117, 110, 107, 110, 111, 119, 110]⟩ : ByteArray)
theorem unk_L : L unkS = unkB := rfl
theorem unk_t : unkS.toList = unkB := (toList_L _).trans rfl
def fmtD (y m d : Int) (c : Bool) : ByteArray := if y = 0 then unkS else txtD y m d c
theorem fmt_ev (y m d : Int) (c : Bool) (h : y = 0 ∨ ((1 ≤ y ∧ y ≤ 2999) ∧ (0 ≤ m ∧ m ≤ 12) ∧ (0 ≤ d ∧ d ≤ 31))) : Ev (fun k => spec_l3Text.f k y m d c) (fmtD y m d c) ∧ Ev (fun k => impl_formatDate.f k y m d c) (fmtD y m d c) := by
  unfold fmtD
  by_cases e : y = 0
  · rw [if_pos e]
    exact ⟨by unfold spec_l3Text.f; exact ev_pos e (Ev.now _), by unfold impl_formatDate.f; exact ev_pos e (Ev.now _)⟩
  · rw [if_neg e]
    rcases h with h | ⟨h1, h2, h3⟩
    · exact absurd h e
    · exact ⟨spec_txt y m d c h1 h2 h3, impl_txt y m d c h1 h2 h3⟩
theorem good_fmt {y m d : Int} {c : Bool} (h : goodD y m d c = true) : y = 0 ∨ ((1 ≤ y ∧ y ≤ 2999) ∧ (0 ≤ m ∧ m ≤ 12) ∧ (0 ≤ d ∧ d ≤ 31)) := by
  by_cases e : y = 0
  · exact .inl e
  · have := good_bds h e
    exact .inr ⟨⟨this.1, this.2.1⟩, ⟨this.2.2.1, this.2.2.2.1⟩, this.2.2.2.2⟩
theorem good_zero {y m d : Int} {c : Bool} (h : goodD y m d c = true) (e : y = 0) : m = 0 ∧ d = 0 ∧ c = false := by
  unfold goodD at h
  by_cases z : y = 0 ∧ m = 0 ∧ d = 0 ∧ c = false
  · exact z.2
  · rw [if_neg z, if_pos (fun x => by omega)] at h; cases h
theorem Format_ev (y m d : Int) (c : Bool) : Ev (fun k => impl_FormatDate.f k y m d c) (if goodD y m d c = true then (fmtD y m d c, true) else ((⟨#[]⟩ : ByteArray), false)) := by
  have hg := good_ev2 y m d c
  unfold impl_FormatDate.f
  by_cases h : goodD y m d c = true
  · rw [if_pos h]
    rw [h] at hg
    exact Ev.bind hg (ev_pos rfl (Ev.bind (fmt_ev y m d c (good_fmt h)).2 (Ev.now _)))
  · rw [if_neg h]
    rw [Bool.eq_false_iff.2 h] at hg
    exact Ev.bind hg (ev_neg (by simp) (Ev.now _))
theorem unk_spl : spl 45 unkB = [unkB] := by decide
theorem isd_unk {s : ByteArray} {y m d : Int} {c : Bool} (h : IsD s y m d c) : ¬ s.toList = unkB := by
  intro e
  have hp := (txt_parts h).2
  have hb := good_bds h.2.1 h.1
  have es : s = unkS := L_inj (by rw [← toList_L, e]; rfl)
  subst es
  have hr : parts (restD unkS) = [mkB unkB] := by
    have hc : cirD unkS = false := by decide
    unfold parts restD
    rw [hc, if_neg (by simp), unk_L, unk_spl]; rfl
  rw [hr] at hp
  obtain ⟨y', rfl⟩ : ∃ y' : Nat, y = (y' : Int) := ⟨y.toNat, by omega⟩
  have hd := pad_dig 4 y' 117
  have hm : mkB unkB = padB 4 (y' : Int) := by
    unfold ptsD at hp
    split at hp
    · split at hp
      · injection hp
      · injection hp
    · injection hp
  rw [← hm, L_mk] at hd
  have := hd (by decide)
  revert this
  decide
def prsD (s : ByteArray) : Dt := if s.toList = unkB then (0, 0, 0, false, true) else implD s
theorem Parse_ev (s : ByteArray) : Ev (fun k => impl_ParseDate.f k s) (prsD s) := by
  unfold prsD
  by_cases e : s.toList = unkB
  · rw [if_pos e]
    unfold impl_ParseDate.f
    exact ev_pos e (Ev.now _)
  · rw [if_neg e]; exact impl_parseD s e
theorem prs_fmt {y m d : Int} {c : Bool} (h : goodD y m d c = true) : prsD (fmtD y m d c) = (y, m, d, c, true) := by
  unfold prsD fmtD
  by_cases e : y = 0
  · obtain ⟨h1, h2, h3⟩ := good_zero h e
    rw [if_pos e, if_pos unk_t, e, h1, h2, h3]
  · have hi : IsD (txtD y m d c) y m d c := ⟨e, h, rfl⟩
    rw [if_neg e, if_neg (isd_unk hi)]
    exact implD_yes hi
theorem prs_back (s : ByteArray) : prsD s = noD ∨ ∃ y m d c, prsD s = (y, m, d, c, true) ∧ goodD y m d c = true ∧ fmtD y m d c = s := by
  unfold prsD
  by_cases e : s.toList = unkB
  · rw [if_pos e]
    refine .inr ⟨0, 0, 0, false, rfl, by decide, ?_⟩
    exact L_inj (by rw [← toList_L s, e]; rfl)
  · rw [if_neg e]
    by_cases h : ∃ y m d c, IsD s y m d c
    · obtain ⟨y, m, d, c, h⟩ := h
      exact .inr ⟨y, m, d, c, implD_yes h, h.2.1, by unfold fmtD; rw [if_neg h.1]; exact h.2.2⟩
    · exact .inl (implD_no (fun y m d c hh => h ⟨y, m, d, c, hh⟩))
def cmpP (y m d : Int) (c : Bool) (y' m' d' : Int) (c' : Bool) : Int × Bool := if goodD y m d c = true ∧ goodD y' m' d' c' = true then (cmpD y m d c y' m' d' c', true) else (0, false)
theorem icmp_ev (y m d : Int) (c : Bool) (y' m' d' : Int) (c' : Bool) : Ev (fun k => impl_CompareDates.f k y m d c y' m' d' c') (cmpP y m d c y' m' d' c') := by
  have a := good_ev2 y m d c
  have b := good_ev2 y' m' d' c'
  unfold impl_CompareDates.f cmpP
  cases h : goodD y m d c
  · rw [h] at a; exact ev_eq (Ev.bind a (ev_neg (by simp) (Ev.now _))) (by simp)
  · rw [h] at a
    cases h' : goodD y' m' d' c'
    · rw [h'] at b; exact ev_eq (Ev.bind a (ev_pos rfl (Ev.bind b (ev_neg (by simp) (Ev.now _))))) (by simp)
    · rw [h'] at b
      exact ev_eq (Ev.bind a (ev_pos rfl (Ev.bind b (ev_pos rfl (Ev.bind (a := cmpD y m d c y' m' d' c') ⟨5, fun k hk => by obtain ⟨k', rfl⟩ : ∃ k', k = k' + 5 := ⟨k - 5, by omega⟩; exact impl_cmp k' y m d c y' m' d' c'⟩ (Ev.now _)))))) (by simp)
theorem scmp_ev (y m d : Int) (c : Bool) (y' m' d' : Int) (c' : Bool) : Ev (fun k => spec_CompareDates.f k y m d c y' m' d' c') (cmpP y m d c y' m' d' c') := by
  have a := good_ev1 y m d c
  have b := good_ev1 y' m' d' c'
  unfold spec_CompareDates.f cmpP
  cases h : goodD y m d c
  · rw [h] at a; exact ev_eq (Ev.bind a (ev_neg (by simp) (Ev.now _))) (by simp)
  · rw [h] at a
    cases h' : goodD y' m' d' c'
    · rw [h'] at b; exact ev_eq (Ev.bind a (ev_pos rfl (Ev.bind b (ev_neg (by simp) (Ev.now _))))) (by simp)
    · rw [h'] at b
      exact ev_eq (Ev.bind a (ev_pos rfl (Ev.bind b (ev_pos rfl (Ev.bind (a := cmpD y m d c y' m' d' c') ⟨1, fun k hk => by obtain ⟨k', rfl⟩ : ∃ k', k = k' + 1 := ⟨k - 1, by omega⟩; exact spec_cmp k' h h'⟩ (Ev.now _)))))) (by simp)
theorem cmpI_neg (a b : Int) : cmpI b a = - cmpI a b := by
  unfold cmpI
  by_cases h : a < b
  · rw [if_neg (show ¬ b < a by omega), if_pos (show b > a from h), if_pos h]; rfl
  · by_cases h' : a > b
    · rw [if_pos (show b < a from h'), if_neg h, if_pos h']; try rfl
    · rw [if_neg (show ¬ b < a from h'), if_neg (show ¬ b > a from h), if_neg h, if_neg h']; rfl
theorem cmpI_zero (a b : Int) : cmpI a b = 0 ↔ a = b := by
  unfold cmpI
  by_cases h : a < b
  · rw [if_pos h]; omega
  · by_cases h' : a > b
    · rw [if_neg h, if_pos h']; omega
    · rw [if_neg h, if_neg h']; omega
theorem cmpI_bd (a b : Int) : -1 ≤ cmpI a b ∧ cmpI a b ≤ 1 := by
  unfold cmpI
  split
  · omega
  · split <;> omega
theorem or4_neg (a b c d : Int) : or4 (-a) (-b) (-c) (-d) = - or4 a b c d := by
  unfold or4
  by_cases ha : a = 0 <;> by_cases hb : b = 0 <;> by_cases hc : c = 0 <;> by_cases hd : d = 0 <;> simp [ha, hb, hc, hd]
theorem or4_zero (a b c d : Int) : or4 a b c d = 0 ↔ a = 0 ∧ b = 0 ∧ c = 0 ∧ d = 0 := by
  unfold or4
  by_cases ha : a = 0 <;> by_cases hb : b = 0 <;> by_cases hc : c = 0 <;> simp [ha, hb, hc]
theorem or4_bd {a b c d : Int} (ha : -1 ≤ a ∧ a ≤ 1) (hb : -1 ≤ b ∧ b ≤ 1) (hc : -1 ≤ c ∧ c ≤ 1) (hd : -1 ≤ d ∧ d ≤ 1) : -1 ≤ or4 a b c d ∧ or4 a b c d ≤ 1 := by
  unfold or4
  split
  · exact ha
  · split
    · exact hb
    · split
      · exact hc
      · exact hd
theorem cmpD_neg (y m d : Int) (c : Bool) (y' m' d' : Int) (c' : Bool) : cmpD y' m' d' c' y m d c = - cmpD y m d c y' m' d' c' := by
  unfold cmpD
  rw [← or4_neg, cmpI_neg y y', cmpI_neg m m', cmpI_neg d d', cmpI_neg (if c = true then 1 else 0)]
theorem cmpD_bd (y m d : Int) (c : Bool) (y' m' d' : Int) (c' : Bool) : -1 ≤ cmpD y m d c y' m' d' c' ∧ cmpD y m d c y' m' d' c' ≤ 1 := or4_bd (cmpI_bd _ _) (cmpI_bd _ _) (cmpI_bd _ _) (cmpI_bd _ _)
theorem cmpD_zero (y m d : Int) (c : Bool) (y' m' d' : Int) (c' : Bool) : cmpD y m d c y' m' d' c' = 0 ↔ y = y' ∧ m = m' ∧ d = d' ∧ c = c' := by
  unfold cmpD
  rw [or4_zero, cmpI_zero, cmpI_zero, cmpI_zero, cmpI_zero]
  cases c <;> cases c' <;> simp
def rfnP (y m d : Int) (c : Bool) (y' m' d' : Int) (c' : Bool) : Bool × Bool := if goodD y m d c = true ∧ goodD y' m' d' c' = true then (refD y m d c y' m' d' c', true) else (false, false)
theorem rfn_ev (y m d : Int) (c : Bool) (y' m' d' : Int) (c' : Bool) : Ev (fun k => impl_Refines.f k y m d c y' m' d' c') (rfnP y m d c y' m' d' c') := by
  have a := good_ev2 y m d c
  have b := good_ev2 y' m' d' c'
  unfold impl_Refines.f rfnP
  cases h : goodD y m d c
  · rw [h] at a; exact ev_eq (Ev.bind a (ev_neg (by simp) (Ev.now _))) (by simp)
  · rw [h] at a
    cases h' : goodD y' m' d' c'
    · rw [h'] at b; exact ev_eq (Ev.bind a (ev_pos rfl (Ev.bind b (ev_neg (by simp) (Ev.now _))))) (by simp)
    · rw [h'] at b
      exact ev_eq (Ev.bind a (ev_pos rfl (Ev.bind b (ev_pos rfl (ev_bind0 (impl_ref _ _ _ _ _ _ _ _) (Ev.now _)))))) (by simp)
theorem bnd_ev (y m d : Int) (c : Bool) : Ev (fun k => impl_DateBounds.f k y m d c) (bndD y m d c) := ⟨2, fun k hk => by obtain ⟨k', rfl⟩ : ∃ k', k = k' + 2 := ⟨k - 2, by omega⟩; exact impl_bnd k' y m d c⟩
theorem good_mk {y m d : Int} (hy : 1 ≤ y ∧ y ≤ 2999) (hm : 1 ≤ m ∧ m ≤ 12) (hd : 0 ≤ d ∧ d ≤ daysD y m) : goodD y m d false = true := by
  unfold goodD
  rw [if_neg (fun z => by omega), if_neg (fun z => z ⟨hy.1, hy.2, by omega, hm.2⟩), if_neg (by omega), if_neg (by simp)]
  exact decide_eq_true hd
theorem cmp_le (y m d m' d' : Int) (h : m < m' ∨ (m = m' ∧ d ≤ d')) : cmpD y m d false y m' d' false ≤ 0 := by
  have e0 : cmpI y y = 0 := (cmpI_zero y y).2 rfl
  have e3 : cmpI (if false = true then 1 else 0) (if false = true then 1 else 0) = 0 := rfl
  unfold cmpD or4
  rw [e0, if_neg (by simp)]
  rcases h with h | ⟨rfl, h⟩
  · have e1 : cmpI m m' = -1 := if_pos h
    rw [e1, if_pos (by decide)]; decide
  · rw [(cmpI_zero m m).2 rfl, if_neg (by simp)]
    rcases Int.lt_or_eq_of_le h with h | rfl
    · have e1 : cmpI d d' = -1 := if_pos h
      rw [e1, if_pos (by decide)]; decide
    · rw [(cmpI_zero d d).2 rfl, if_neg (by simp)]; decide
theorem bnd_ok {y m d : Int} {c : Bool} {a0 a1 a2 : Int} {a3 : Bool} {b0 b1 b2 : Int} {b3 : Bool} (h : bndD y m d c = (a0, a1, a2, a3, b0, b1, b2, b3, true)) :
    rfnP a0 a1 a2 a3 y m d c = (true, true) ∧ ∃ o, cmpP a0 a1 a2 a3 b0 b1 b2 b3 = (o, true) ∧ o ≤ 0 := by
  unfold bndD at h
  by_cases g : goodD y m d c = true
  · rw [if_pos g] at h
    by_cases e : y = 0
    · rw [if_pos e] at h; simp [noB] at h
    · rw [if_neg e] at h
      have hb := good_bds g e
      cases c with
      | true => rw [if_pos rfl] at h; simp [noB] at h
      | false =>
        rw [if_neg (by simp)] at h
        have fin : ∀ (q0 q1 q2 q3 q4 : Int), goodD y q1 q2 false = true → goodD y q3 q4 false = true → refD y q1 q2 false y m d false = true → (q1 < q3 ∨ (q1 = q3 ∧ q2 ≤ q4)) →
            rfnP y q1 q2 false y m d false = (true, true) ∧ ∃ o, cmpP y q1 q2 false y q3 q4 false = (o, true) ∧ o ≤ 0 := by
          intro _ q1 q2 q3 q4 g1 g2 r o
          refine ⟨?_, _, if_pos ⟨g1, g2⟩, cmp_le y q1 q2 q3 q4 o⟩
          unfold rfnP
          rw [if_pos ⟨g1, g⟩, r]
        have dl := days_bd y m
        have dl12 := days_bd y 12
        have dl1 := days_bd y 1
        unfold bdD at h
        by_cases m0 : m = 0
        · rw [if_pos m0] at h
          have hd : d = 0 := (good_md g e (by omega)).1
          rw [if_pos hd] at h
          simp only [Prod.mk.injEq, and_true] at h
          obtain ⟨rfl, rfl, rfl, rfl, rfl, rfl, rfl, rfl⟩ := h
          refine fin 0 1 1 12 _ (good_mk ⟨hb.1, hb.2.1⟩ (by omega) (by omega)) (good_mk ⟨hb.1, hb.2.1⟩ (by omega) (by omega)) ?_ (by omega)
          unfold refD
          rw [if_neg e]
          simp [m0, hd]
        · rw [if_neg m0] at h
          by_cases hd : d = 0
          · rw [if_pos hd] at h
            simp only [Prod.mk.injEq, and_true] at h
            obtain ⟨rfl, rfl, rfl, rfl, rfl, rfl, rfl, rfl⟩ := h
            refine fin 0 _ 1 _ _ (good_mk ⟨hb.1, hb.2.1⟩ (by omega) (by omega)) (good_mk ⟨hb.1, hb.2.1⟩ (by omega) (by omega)) ?_ (by omega)
            unfold refD
            rw [if_neg e]
            simp [hd]
          · rw [if_neg hd] at h
            simp only [Prod.mk.injEq, and_true] at h
            obtain ⟨rfl, rfl, rfl, rfl, rfl, rfl, rfl, rfl⟩ := h
            exact fin 0 _ _ _ _ g g (refD_self _ _ _ _) (by omega)
  · rw [if_neg g] at h; simp [noB] at h
theorem j2_ev (y m d : Int) (c : Bool) : Ev (fun k => laws_FnDateForms.j2 k (goodD y m d c) false y m d c) true := by
  have r1 := rfn_ev y m d c y m d c
  have r2 := bnd_ev y m d c
  cases hb : bndD y m d c with
  | mk a0 t => obtain ⟨a1, a2, a3, b0, b1, b2, b3, fl⟩ := t
               rw [hb] at r2
               have r3 := rfn_ev a0 a1 a2 a3 y m d c
               have r4 := icmp_ev a0 a1 a2 a3 b0 b1 b2 b3
               refine Ev.step (fun k => by simp only [laws_FnDateForms.j2]; exact if_neg (by simp)) (Ev.bind r1 (Ev.bind r2 (Ev.bind r3 (Ev.bind r4 ?_))))
               have h1 : (rfnP y m d c y m d c).2 = goodD y m d c := by unfold rfnP; cases goodD y m d c <;> simp
               have h2 : goodD y m d c = true → (rfnP y m d c y m d c).1 = true := by intro g; unfold rfnP; rw [if_pos ⟨g, g⟩, refD_self]
               refine ev_pos (by rw [h1]; simp) ?_
               have tail : fl = true → rfnP a0 a1 a2 a3 y m d c = (true, true) ∧ ∃ o, cmpP a0 a1 a2 a3 b0 b1 b2 b3 = (o, true) ∧ o ≤ 0 := by
                 intro e; subst e; exact bnd_ok hb
               have last : Ev (fun k => (if fl = true then (if (rfnP a0 a1 a2 a3 y m d c).2 = true then (if (rfnP a0 a1 a2 a3 y m d c).1 = true then (if (cmpP a0 a1 a2 a3 b0 b1 b2 b3).2 = true then (some (decide ((cmpP a0 a1 a2 a3 b0 b1 b2 b3).1 ≤ 0))) else (some false)) else (some false)) else (some false)) else (some true) : Option Bool)) true := by
                 cases fl with
                 | false => exact ev_neg (by simp) (Ev.now _)
                 | true =>
                   obtain ⟨q1, o, q2, q3⟩ := tail rfl
                   rw [q1, q2]
                   exact ev_pos rfl (ev_pos rfl (ev_pos rfl (ev_pos rfl (ev_eq (Ev.now _) (decide_eq_true q3)))))
               by_cases g : goodD y m d c = true
               · exact ev_pos g (ev_pos (h2 g) last)
               · exact ev_neg g last
theorem j1_ev (l : List Int) (hl : BtL l) (y m d : Int) (c : Bool) : Ev (fun k => laws_FnDateForms.j1 k l (goodD y m d c) false y m d c) true := by
  obtain ⟨y1, m1, d1, c1, y2, m2, d2, c2, e⟩ := two_ex hl
  have i1 := icmp_ev y1 m1 d1 c1 y2 m2 d2 c2
  have i2 := icmp_ev y2 m2 d2 c2 y1 m1 d1 c1
  have s1 := scmp_ev y1 m1 d1 c1 y2 m2 d2 c2
  have hbd := cmpD_bd y1 m1 d1 c1 y2 m2 d2 c2
  have f2 : (cmpP y2 m2 d2 c2 y1 m1 d1 c1).2 = (cmpP y1 m1 d1 c1 y2 m2 d2 c2).2 := by
    unfold cmpP; cases goodD y1 m1 d1 c1 <;> cases goodD y2 m2 d2 c2 <;> simp
  have f1 : (cmpP y2 m2 d2 c2 y1 m1 d1 c1).1 = wrap64 (-(cmpP y1 m1 d1 c1 y2 m2 d2 c2).1) := by
    unfold cmpP
    by_cases g : goodD y1 m1 d1 c1 = true ∧ goodD y2 m2 d2 c2 = true
    · rw [if_pos g, if_pos ⟨g.2, g.1⟩]
      show cmpD y2 m2 d2 c2 y1 m1 d1 c1 = wrap64 (-cmpD y1 m1 d1 c1 y2 m2 d2 c2)
      rw [w64 (by omega) (by omega)]
      exact cmpD_neg _ _ _ _ _ _ _ _
    · rw [if_neg g, if_neg (fun x => g ⟨x.2, x.1⟩)]
      show (0 : Int) = wrap64 (-(0 : Int))
      rw [w64 (by omega) (by omega)]; rfl
  have j2 := j2_ev y m d c
  refine Ev.step (fun k => by simp only [laws_FnDateForms.j1]; exact if_neg (by simp)) ?_
  refine (ev_bind0 e (Ev.bind i1 (Ev.bind i2 (Ev.bind s1 (ev_pos rfl (ev_neg (by simp) (ev_neg (by rw [f2]; simp) (ev_pos f1 ?_))))))))
  by_cases g : (cmpP y1 m1 d1 c1 y2 m2 d2 c2).2 = true
  · refine ev_pos g ?_
    have z : (((cmpP y1 m1 d1 c1 y2 m2 d2 c2).1 == 0) != (y1 == y2 && (m1 == m2 && (d1 == d2 && (c1 == c2))))) = false := by
      have hz := cmpD_zero y1 m1 d1 c1 y2 m2 d2 c2
      have q : (cmpP y1 m1 d1 c1 y2 m2 d2 c2).1 = cmpD y1 m1 d1 c1 y2 m2 d2 c2 := by
        unfold cmpP at g ⊢
        by_cases gg : goodD y1 m1 d1 c1 = true ∧ goodD y2 m2 d2 c2 = true
        · rw [if_pos gg]
        · rw [if_neg gg] at g; cases g
      rw [q]
      by_cases w : y1 = y2 ∧ m1 = m2 ∧ d1 = d2 ∧ c1 = c2
      · rw [hz.2 w]
        obtain ⟨rfl, rfl, rfl, rfl⟩ := w
        simp
      · have w' : ¬ cmpD y1 m1 d1 c1 y2 m2 d2 c2 = 0 := fun x => w (hz.1 x)
        have a : (cmpD y1 m1 d1 c1 y2 m2 d2 c2 == 0) = false := beq_eq_false_iff_ne.2 w'
        have b : (y1 == y2 && (m1 == m2 && (d1 == d2 && (c1 == c2)))) = false := by
          rw [Bool.eq_false_iff]
          intro x
          simp only [Bool.and_eq_true, beq_iff_eq] at x
          exact w x
        rw [a, b]; rfl
    exact Ev.congr (fun k => by rw [z]) j2
  · exact ev_neg g j2
theorem draw_ev (l : List Int) (hl : BtL l) : ∃ t, Ev (fun k => spec_DrawParseDate.f k l) t := by
  obtain ⟨y, m, d, c, a1, s1, e1, b1, c1, hv⟩ := date_ex hl 0 0 (by omega) (by omega)
  obtain ⟨x2, a2, s2, e2, b2, c2⟩ := one_ex hl a1 s1 3 (by omega) (by omega) (by omega)
  have hs : (fmtD y m d c).size ≤ 1000 := by
    unfold fmtD
    split
    · show (7 : Nat) ≤ 1000; decide
    · rename_i e
      rcases hv with hv | ⟨h1, h2, h3⟩
      · exact absurd hv e
      · have z1 := padB_size 4 y (by omega) (by omega) (by omega)
        have z2 := padB_size 2 m (by omega) (by omega) (by omega)
        have z3 := padB_size 2 d (by omega) (by omega) (by omega)
        rw [← L_len] at z1 z2 z3
        unfold txtD
        rw [size_mk]
        simp only [List.length_append]
        have q1 : (if c = true then ([99] : List UInt8) else []).length ≤ 1 := by split <;> simp
        have q2 : (if m > 0 then 45 :: L (padB 2 m) else []).length ≤ 32 := by
          split
          · rw [List.length_cons]; omega
          · simp
        have q3 : (if d > 0 then 45 :: L (padB 2 d) else []).length ≤ 32 := by
          split
          · rw [List.length_cons]; omega
          · simp
        omega
  obtain ⟨x3, a3, s3, e3, _⟩ := spoilt_ex hl a2 s2 (fmtD y m d c) (⟨#[48, 49, 50, 51, 45, 99, 57]⟩ : ByteArray) (by omega) (by omega) (by omega) (by decide) (by decide)
  unfold spec_DrawParseDate.f
  cases x2 with
  | true => exact ⟨x3, ev_bind0 e1 (Ev.bind (fmt_ev y m d c hv).1 (ev_bind0 e2 (ev_pos rfl (ev_bind0 e3 (Ev.now _)))))⟩
  | false => exact ⟨fmtD y m d c, ev_bind0 e1 (Ev.bind (fmt_ev y m d c hv).1 (ev_bind0 e2 (ev_neg (by simp) (Ev.now _))))⟩
theorem j0_ev (l : List Int) (hl : BtL l) (y m d : Int) (c : Bool) : Ev (fun k => laws_FnDateForms.j0 k l (goodD y m d c) false y m d c) true := by
  obtain ⟨t, ht⟩ := draw_ev l hl
  have j1 := j1_ev l hl y m d c
  have hp := Parse_ev t
  rcases prs_back t with e | ⟨y1, m1, d1, c1, e, g, f⟩
  · rw [e] at hp
    refine Ev.step (fun k => by simp only [laws_FnDateForms.j0]; exact if_neg (by simp)) ?_
    refine (Ev.bind ht (Ev.bind hp (Ev.bind (Format_ev _ _ _ _) (ev_neg (by simp [noD]) j1))))
  · rw [e] at hp
    have hf := Format_ev y1 m1 d1 c1
    rw [if_pos g, f] at hf
    refine Ev.step (fun k => by simp only [laws_FnDateForms.j0]; exact if_neg (by simp)) ?_
    refine (Ev.bind ht (Ev.bind hp (Ev.bind hf (ev_pos rfl (ev_pos rfl (Ev.congr (fun k => by simp) j1))))))
theorem FnDateForms : laws_FnDateForms.Pur := by
  intro l0 hl
  apply Ev.rounds
  unfold laws_FnDateForms.f laws_vBig.f
  by_cases c : decide ((l0.length : Int) > 65536) = true
  · exact ev_bind0 (a := true) (by rw [c]) (ev_pos rfl (Ev.now _))
  · have hc : decide ((l0.length : Int) > 65536) = false := Bool.eq_false_iff.2 c
    have c' : ¬ ((l0.length : Int) > 65536) := by simpa using c
    refine ev_bind0 (a := false) (by rw [hc]) (ev_neg (by simp) ?_)
    have hb := bt_of hl (by omega)
    obtain ⟨y, m, d, ci, a', s', e, _, _⟩ := anyDate_ex hb 0 0 (by omega) (by omega)
    have e' : spec_DrawFormatDate.f l0 = some (y, m, d, ci) := by
      unfold spec_DrawFormatDate.f spec_DrawIsValidDate.f
      rw [e]; rfl
    have hf := Format_ev y m d ci
    have hv : Ev (fun k => spec_IsValidDate.f k y m d ci) (goodD y m d ci) := by
      unfold spec_IsValidDate.f
      exact Ev.bind (good_ev1 y m d ci) (Ev.now _)
    have j0 := j0_ev l0 hb y m d ci
    refine ev_bind0 e' ?_
    by_cases g : goodD y m d ci = true
    · rw [if_pos g] at hf
      have hp := Parse_ev (fmtD y m d ci)
      rw [prs_fmt g] at hp
      rw [g] at hv
      refine Ev.bind hf (Ev.bind hp (Ev.bind hv (ev_neg (by simp) (ev_pos rfl (ev_pos rfl (Ev.congr (fun k => ?_) j0))))))
      rw [g]; simp
    · rw [if_neg g] at hf
      have hp := Parse_ev (⟨#[]⟩ : ByteArray)
      have gf := Bool.eq_false_iff.2 g
      rw [gf] at hv
      refine Ev.bind hf (Ev.bind hp (Ev.bind hv (ev_neg (by simp) (ev_neg (by simp) (Ev.congr (fun k => ?_) j0)))))
      rw [gf]
end Go.Proofs.YtmjmjfkjlblgaaaDoor.Pure
