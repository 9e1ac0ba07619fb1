/- For every list of texts and separator the law FnExactJoinStrings answers true; no condition. -/
import Derived.Test.YtanlagnhlpnakaaGStands
import Derived.Test.YtanlagnhlpnakaaGMark
import Derived.Test.YtanlagnhlpnakaaGSz
import Derived.Lib.Join
import Derived.Test.YtanlagnhlpnakaaGP13
namespace Go.Proofs.Ytanlagnhlpnakaa.Pure
open Go.RowKit Go.Proofs.Ytanlagnhlpnakaa.G Go.Proofs.YtanlagnhlpnakaaW.PrintWords Go.Proofs.YtanlagnhlpnakaaW.PrintLast Go.Proofs.Ytanlagnhlpnakaa.B Go.Proofs.Ytanlagnhlpnakaa.Opn
set_option linter.unusedVariables false
set_option linter.unusedSimpArgs false
def bad (b : UInt8) (l : List ByteArray) : Prop := ∃ x ∈ l, b ∈ L x
instance (b : UInt8) (l : List ByteArray) : Decidable (bad b l) := inferInstanceAs (Decidable (∃ x ∈ l, b ∈ L x))
def no : ByteArray × Bool := (⟨#[]⟩, false)
def tl (b : UInt8) (l : List ByteArray) : List UInt8 := Lib.joinTail [b] (l.map (·.data.toList))
theorem tl_cons (b : UInt8) (x : ByteArray) (l : List ByteArray) : tl b (x :: l) = b :: (L x ++ tl b l) := by simp [tl, Lib.joinTail]
theorem tl_len (b : UInt8) (l : List ByteArray) : (tl b l).length = l.length + bytesS l := by
  induction l with
  | nil => simp [tl, Lib.joinTail, bytesS]
  | cons x l ih => rw [tl_cons, List.length_cons, List.length_append, ih, bytesS_cons, L_len, List.length_cons]; omega
theorem spec_loop (l : List ByteArray) (sep : ByteArray) (b : UInt8) (h1 : sep.size = 1) (hsep : L sep = [b]) (hl : bulkS l ≤ 1048576) (d : Nat) : ∀ (o : ByteArray) (i : Nat), 0 < i → i ≤ l.length → l.length - i = d → o.size ≤ 4000 →
    Ev (fun k => spec_JoinStrings.l0 k l sep o i) (if ¬ bad b (l.drop i) ∧ o.size + (tl b (l.drop i)).length ≤ 4000 then (o ++ mkB (tl b (l.drop i)), true) else no) := by
  have hl2 := bytesS_len hl
  have hb : bt sep 0 = (b.toNat : Int) := by have := bt_getD sep 0 (by omega); rw [hsep] at this; exact this
  induction d with
  | zero =>
    intro o i h0 hi hd ho
    refine Ev.step (f := fun _ => some (o, true)) (fun k => ?_) (ev_eq (Ev.now _) ?_)
    · simp only [spec_JoinStrings.l0]; rw [if_neg (by omega)]
    · rw [List.drop_of_length_le (by omega)]
      have : o ++ mkB [] = o := L_inj (by rw [L_append, L_mk]; simp)
      simp [bad, tl, Lib.joinTail, ho, this]
  | succ d ih =>
    intro o i h0 hi hd ho
    have hlt : i < l.length := by omega
    have hr : rdOf ByteArray.empty l (i : Int) = l[i] := by simp [rdOf, hlt]
    have hsz : l[i].size ≤ 1048576 := by have := bytesS_mem (List.getElem_mem hlt); unfold bulkS at hl; omega
    rw [List.drop_eq_getElem_cons hlt, tl_cons]
    have hst := stands_ev l[i] b (by omega)
    refine Ev.step (f := fun k => (spec_l1Stands.f k l[i] (b.toNat : Int)).bind fun t => if t = true then some no else if ((o ++ sep ++ l[i]).size : Int) > 4000 then some no else spec_JoinStrings.l0 k l sep (o ++ sep ++ l[i]) ((i + 1 : Nat) : Int)) (fun k => ?_) ?_
    · have s1 := size_append o sep
      have s2 := size_append (o ++ sep) l[i]
      simp only [spec_JoinStrings.l0]
      rw [if_pos (by omega), if_pos (by omega), if_pos (by omega), hr, hb]
      congr 1
      funext t
      by_cases ht : t = true
      · rw [if_pos ht, if_pos ht]; rfl
      · rw [if_neg ht, if_neg ht, if_pos (by omega), if_pos (by omega), if_pos (by omega), w64 (x := (i : Int) + 1) (by omega) (by omega)]
        rfl
    · refine Ev.bind hst ?_
      by_cases hm : b ∈ L l[i]
      · refine ev_pos (by simpa using hm) (ev_eq (Ev.now _) ?_)
        rw [if_neg]
        exact fun h => h.1 ⟨_, List.mem_cons_self, hm⟩
      · refine ev_neg (by simpa using hm) ?_
        have s1 := size_append o sep
        have s2 := size_append (o ++ sep) l[i]
        have hlen : (b :: (L l[i] ++ tl b (l.drop (i + 1)))).length = 1 + l[i].size + (tl b (l.drop (i + 1))).length := by rw [List.length_cons, List.length_append, L_len]; omega
        by_cases hg : ((o ++ sep ++ l[i]).size : Int) > 4000
        · refine ev_pos hg (ev_eq (Ev.now _) ?_)
          rw [if_neg (fun h => by have := h.2; omega)]
        · refine ev_neg hg (ev_eq (ih (o ++ sep ++ l[i]) (i + 1) (by omega) (by omega) (by omega) (by omega)) ?_)
          have hbad : bad b (l[i] :: l.drop (i + 1)) ↔ bad b (l.drop (i + 1)) := by
            unfold bad
            constructor
            · rintro ⟨x, hx, h⟩
              rcases List.mem_cons.1 hx with rfl | hx
              · exact absurd h hm
              · exact ⟨x, hx, h⟩
            · rintro ⟨x, hx, h⟩; exact ⟨x, List.mem_cons_of_mem _ hx, h⟩
          by_cases hc : ¬ bad b (l.drop (i + 1)) ∧ (o ++ sep ++ l[i]).size + (tl b (l.drop (i + 1))).length ≤ 4000
          · rw [if_pos hc, if_pos ⟨fun h => hc.1 (hbad.1 h), by omega⟩]
            refine Prod.ext (L_inj ?_) rfl
            simp only [L_append, L_mk, hsep]
            simp
          · rw [if_neg hc, if_neg (fun h => hc ⟨fun h' => h.1 (hbad.2 h'), by omega⟩)]
def joinM (l : List ByteArray) (sep : ByteArray) (b : UInt8) : ByteArray × Bool :=
  if l ≠ [] ∧ ¬ bad b l ∧ l.length - 1 + bytesS l ≤ 4000 then (mkB (Lib.join (l.map (·.data.toList)) [b]), true) else no
theorem spec_js (l : List ByteArray) (sep : ByteArray) (hl : bulkS l ≤ 1048576) : Ev (fun k => spec_JoinStrings.f k l sep) (if sep.size = 1 then joinM l sep ((L sep).getD 0 0) else no) := by
  unfold spec_JoinStrings.f
  by_cases h1 : sep.size = 1
  · rw [if_pos h1]
    obtain ⟨b, hsep⟩ : ∃ b, L sep = [b] := List.length_eq_one_iff.1 (by rw [L_len, h1])
    have hb : bt sep 0 = (b.toNat : Int) := by have := bt_getD sep 0 (by omega); rw [hsep] at this; exact this
    rw [hsep]
    refine ev_pos (by omega) ?_
    cases l with
    | nil =>
      refine Ev.step (f := fun _ => some no) (fun k => ?_) (Ev.now _)
      simp only [spec_JoinStrings.j0]; rfl
    | cons x l =>
      refine Ev.step (f := fun k => spec_JoinStrings.l0 k (x :: l) sep ⟨#[]⟩ 0) (fun k => ?_) ?_
      · simp only [spec_JoinStrings.j0]
        rw [if_neg (by simp; omega)]
      · have hx : x.size + bytesS l ≤ 1048576 := by have := hl; unfold bulkS at this; rw [bytesS_cons] at this; simp at this; omega
        have e0 : (⟨#[]⟩ : ByteArray) ++ x = x := L_inj (by rw [L_append]; rfl)
        have e1 : (⟨#[]⟩ : ByteArray).size = 0 := rfl
        have hlen := tl_len b l
        refine Ev.step (f := fun k => (spec_l1Stands.f k x (b.toNat : Int)).bind fun t => if t = true then some no else if (x.size : Int) > 4000 then some no else spec_JoinStrings.l0 k (x :: l) sep x ((1 : Nat) : Int)) (fun k => ?_) ?_
        · simp only [spec_JoinStrings.l0]
          rw [if_pos (by rw [List.length_cons]; omega), if_pos (by omega), if_pos (by omega), hb, show rdOf ByteArray.empty (x :: l) 0 = x from rfl]
          congr 1
          funext t
          by_cases ht : t = true
          · rw [if_pos ht, if_pos ht]; rfl
          · rw [if_neg ht, if_neg ht, if_neg (by omega), if_pos (by omega), e0, w64 (x := (0 : Int) + 1) (by omega) (by omega)]
            rfl
        · refine Ev.bind (stands_ev x b (by omega)) ?_
          by_cases hm : b ∈ L x
          · refine ev_pos (by simpa using hm) (ev_eq (Ev.now _) ?_)
            unfold joinM
            rw [if_neg]
            exact fun h => h.2.1 ⟨x, List.mem_cons_self, by simpa using hm⟩
          · refine ev_neg (by simpa using hm) ?_
            by_cases hg : (x.size : Int) > 4000
            · refine ev_pos hg (ev_eq (Ev.now _) ?_)
              unfold joinM
              rw [if_neg (fun h => by have := h.2.2; rw [bytesS_cons] at this; simp at this; omega)]
            · refine ev_neg hg (ev_eq (spec_loop (x :: l) sep b h1 hsep hl l.length x 1 (by omega) (by simp) (by simp) (by omega)) ?_)
              have hbad : bad b (x :: l) ↔ bad b l := by
                unfold bad
                constructor
                · rintro ⟨y, hy, h⟩
                  rcases List.mem_cons.1 hy with rfl | hy
                  · exact absurd h hm
                  · exact ⟨y, hy, h⟩
                · rintro ⟨y, hy, h⟩; exact ⟨y, List.mem_cons_of_mem _ hy, h⟩
              unfold joinM
              rw [show (x :: l).drop 1 = l from rfl, show ([b] : List UInt8).getD 0 0 = b from rfl]
              have hcount : (x :: l).length - 1 + bytesS (x :: l) = x.size + (tl b l).length := by rw [bytesS_cons, hlen]; simp; omega
              rw [hcount]
              by_cases hc : ¬ bad b l ∧ x.size + (tl b l).length ≤ 4000
              · rw [if_pos hc, if_pos ⟨by simp, fun h => hc.1 (hbad.1 h), hc.2⟩]
                refine Prod.ext (L_inj ?_) rfl
                simp only [L_append, L_mk, List.map_cons, Lib.join_cons]
                rfl
              · rw [if_neg hc, if_neg (fun h => hc ⟨fun h' => h.2.1 (hbad.2 h'), h.2.2⟩)]
  · rw [if_neg h1]
    refine ev_neg (by omega) (Ev.step (f := fun _ => some no) (fun k => ?_) (Ev.now _))
    simp only [spec_JoinStrings.j0]; rfl
theorem impl_loop (l : List ByteArray) (sep : ByteArray) (b : UInt8) (h1 : sep.size = 1) (hsep : L sep = [b]) (hl : bulkS l ≤ 1048576) (d : Nat) : ∀ (n i : Nat), i ≤ l.length → l.length - i = d → n ≤ 2097152 →
    Ev (fun k => impl_JoinStrings.l0 k l sep n l l.length i) (if ¬ bad b (l.drop i) ∧ (l.drop i = [] ∨ n + bytesS (l.drop i) ≤ 4000) then (mkB (Lib.join (l.map (·.data.toList)) [b]), true) else no) := by
  have hb : bt sep 0 = (b.toNat : Int) := by have := bt_getD sep 0 (by omega); rw [hsep] at this; exact this
  have hl2 := bytesS_len hl
  have hj : strings_Join.f l sep = some (mkB (Lib.join (l.map (·.data.toList)) [b])) := by
    unfold strings_Join.f
    have hlen : (Lib.join (l.map (·.data.toList)) sep.data.toList).length ≤ bulkS l := by
      rw [show sep.data.toList = [b] from hsep]
      cases l with
      | nil => simp [Lib.join, List.intercalate]
      | cons x l =>
        have := tl_len b l
        rw [List.map_cons, Lib.join_cons, List.length_append]
        unfold bulkS
        rw [bytesS_cons, show (Lib.joinTail [b] (List.map (fun x => x.data.toList) l)) = tl b l from rfl, this, show (x.data.toList).length = x.size from L_len x]
        simp; omega
    have hl2 := bytesS_len hl
    rw [if_pos ⟨by omega, by omega⟩, show sep.data.toList = [b] from hsep]
    rfl
  induction d with
  | zero =>
    intro n i hi hd hn
    refine Ev.step (f := fun _ => some (mkB (Lib.join (l.map (·.data.toList)) [b]), true)) (fun k => ?_) (ev_eq (Ev.now _) ?_)
    · simp only [impl_JoinStrings.l0]; rw [if_neg (by omega), hj]; rfl
    · rw [List.drop_of_length_le (by omega), if_pos ⟨fun h => by obtain ⟨x, hx, _⟩ := h; simp at hx, .inl rfl⟩]
  | succ d ih =>
    intro n i hi hd hn
    have hlt : i < l.length := by omega
    have hr : rdOf ByteArray.empty l (i : Int) = l[i] := by simp [rdOf, hlt]
    have hsz : l[i].size ≤ 1048576 := by have := bytesS_mem (List.getElem_mem hlt); unfold bulkS at hl; omega
    have hi2 := indexByte_bd (L l[i]) b
    rw [List.drop_eq_getElem_cons hlt, bytesS_cons]
    refine Ev.step (f := fun k => if ((n + l[i].size : Nat) : Int) > 4000 then some no else if Lib.indexByte (L l[i]) b ≥ 0 then some no else impl_JoinStrings.l0 k l sep ((n + l[i].size : Nat) : Int) l l.length ((i + 1 : Nat) : Int)) (fun k => ?_) ?_
    · simp only [impl_JoinStrings.l0, strings_IndexByte.f]
      rw [if_pos (by omega), if_pos (by omega), if_pos (by omega), hr, w64 (x := (n : Int) + (l[i].size : Int)) (by omega) (by omega), show (n : Int) + (l[i].size : Int) = ((n + l[i].size : Nat) : Int) from rfl]
      by_cases hg : ((n + l[i].size : Nat) : Int) > 4000
      · rw [if_pos hg, if_pos hg]; rfl
      · rw [if_neg hg, if_neg hg, if_pos (by omega), hb, byte_back, w64 (x := (i : Int) + 1) (by omega) (by omega)]
        rfl
    · by_cases hg : ((n + l[i].size : Nat) : Int) > 4000
      · refine ev_pos hg (ev_eq (Ev.now _) ?_)
        have hneg : ¬ (¬ bad b (l[i] :: l.drop (i + 1)) ∧ (l[i] :: l.drop (i + 1) = [] ∨ n + (l[i].size + bytesS (l.drop (i + 1))) ≤ 4000)) := by
          rintro ⟨_, h | h⟩
          · exact absurd h (List.cons_ne_nil _ _)
          · omega
        rw [if_neg hneg]
      · refine ev_neg hg ?_
        by_cases hm : b ∈ L l[i]
        · refine ev_pos (hi2.2.2.2 hm) (ev_eq (Ev.now _) ?_)
          rw [if_neg (fun h => h.1 ⟨_, List.mem_cons_self, hm⟩)]
        · refine ev_neg (fun h => hm (hi2.2.2.1 h)) (ev_eq (ih (n + l[i].size) (i + 1) (by omega) (by omega) (by omega)) ?_)
          have hbad : bad b (l[i] :: l.drop (i + 1)) ↔ bad b (l.drop (i + 1)) := by
            unfold bad
            constructor
            · rintro ⟨x, hx, h⟩
              rcases List.mem_cons.1 hx with rfl | hx
              · exact absurd h hm
              · exact ⟨x, hx, h⟩
            · rintro ⟨x, hx, h⟩; exact ⟨x, List.mem_cons_of_mem _ hx, h⟩
          by_cases hc : ¬ bad b (l.drop (i + 1)) ∧ (l.drop (i + 1) = [] ∨ n + l[i].size + bytesS (l.drop (i + 1)) ≤ 4000)
          · have hz : l.drop (i + 1) = [] → bytesS (l.drop (i + 1)) = 0 := fun h => by rw [h]; rfl
            have hn2 : n + (l[i].size + bytesS (l.drop (i + 1))) ≤ 4000 := hc.2.elim (fun h => by have := hz h; omega) (fun h => by omega)
            rw [if_pos hc, if_pos ⟨fun h => hc.1 (hbad.1 h), .inr hn2⟩]
          · rw [if_neg hc, if_neg (fun h => hc ⟨fun h' => h.1 (hbad.2 h'), .inr (h.2.elim (fun h => absurd h (List.cons_ne_nil _ _)) (fun h => by omega))⟩)]
theorem impl_js (l : List ByteArray) (sep : ByteArray) (hl : bulkS l ≤ 1048576) : Ev (fun k => impl_JoinStrings.f k l sep) (if sep.size = 1 then joinM l sep ((L sep).getD 0 0) else no) := by
  unfold impl_JoinStrings.f
  cases l with
  | nil =>
    refine ev_pos (by simp) (Ev.step (f := fun _ => some no) (fun k => ?_) (ev_eq (Ev.now _) ?_))
    · simp only [impl_JoinStrings.j0]; rfl
    · simp [joinM]
  | cons x l =>
    refine ev_neg (by simp; omega) ?_
    by_cases h1 : sep.size = 1
    · rw [if_pos h1]
      obtain ⟨b, hsep⟩ : ∃ b, L sep = [b] := List.length_eq_one_iff.1 (by rw [L_len, h1])
      have hl2 := bytesS_len hl
      refine Ev.step (f := fun k => impl_JoinStrings.l0 k (x :: l) sep (((x :: l).length - 1 : Nat) : Int) (x :: l) ((x :: l).length : Int) ((0 : Nat) : Int)) (fun k => ?_) ?_
      · simp only [impl_JoinStrings.j0]
        rw [if_neg (by simp [h1]), w64 (by omega) (by omega)]
        congr 1
        simp
      · refine ev_eq (impl_loop (x :: l) sep b h1 hsep hl _ ((x :: l).length - 1) 0 (by omega) rfl (by omega)) ?_
        rw [hsep]
        unfold joinM
        rw [List.drop_zero, show ([b] : List UInt8).getD 0 0 = b from rfl]
        by_cases hc : ¬ bad b (x :: l) ∧ (x :: l).length - 1 + bytesS (x :: l) ≤ 4000
        · rw [if_pos ⟨hc.1, .inr hc.2⟩, if_pos ⟨by simp, hc⟩]
        · rw [if_neg (fun h => hc ⟨h.1, by exact h.2.elim (fun h => absurd h (List.cons_ne_nil _ _)) id⟩), if_neg (fun h => hc h.2)]
    · rw [if_neg h1]
      refine Ev.step (f := fun _ => some no) (fun k => ?_) (Ev.now _)
      simp only [impl_JoinStrings.j0]
      rw [if_pos (by simpa using (show ¬ ((sep.size : Int) = 1) by omega))]; rfl
theorem FnExactJoinStrings : laws_FnExactJoinStrings.Pur := by
  intro l sep hl hsep
  apply Ev.rounds
  unfold laws_FnExactJoinStrings.f
  by_cases g1 : (sep.size : Int) > 1048576
  · exact ev_pos g1 (Ev.now _)
  refine ev_neg g1 (Ev.bind (szS_ev l hl.2 hl.1 1048576 (by omega) (by omega)) ?_)
  by_cases g2 : lftOf 1048576 (bulkS l) < 0
  · exact ev_pos g2 (Ev.now _)
  have g3 : bulkS l ≤ 1048576 := by have := lftOf_nn.1 (Int.not_lt.1 g2); omega
  have hlen := bytesS_len g3
  have hto := toS_ev l (by omega)
  refine ev_neg g2 (Ev.bind hto (Ev.bind (spec_js l sep g3) (Ev.bind hto (Ev.bind (impl_js l sep g3) (ev_pos rfl ?_)))))
  have heq := eqS_ev l l (by omega) (by omega)
  rw [decide_eq_true rfl] at heq
  refine Ev.step (f := fun k => (laws_toStringS.f k l).bind fun t413 => ((laws_eqStringS.f k l t413).bind fun t416 => (if t416 = true then (some true) else (some false)))) (fun k => ?_) ?_
  · simp only [laws_FnExactJoinStrings.j0]; simp
  exact Ev.bind hto (Ev.bind heq (ev_pos rfl (Ev.now _)))
end Go.Proofs.Ytanlagnhlpnakaa.Pure
