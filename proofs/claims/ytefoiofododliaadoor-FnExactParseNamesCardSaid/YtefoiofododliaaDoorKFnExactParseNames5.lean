/- Texts of this session for the law FnExactParseNames, put together by a program (merge.py): each ends with its namespace; conditions stand with each theorem. -/
import Derived.Test.YtefoiofododliaaDoorKFnExactParseNames4
import Derived.Test.YtefoiofododliaaDoorKFnExactParseNames2
import Derived.Test.YtefoiofododliaaDoorKFnExactParseNames3
namespace Go.Proofs.YtefoiofododliaaDoor.G
open Go.RowKit Go.Proofs.YtefoiofododliaaDoorW.PrintWords Go.Proofs.YtefoiofododliaaDoorW.PrintLast Go.Proofs.YtefoiofododliaaDoor.B
set_option linter.unusedVariables false
set_option linter.unusedSimpArgs false
theorem spl_app (b : UInt8) (X Y : List UInt8) : spl b (X ++ b :: Y) = spl b X ++ spl b Y := by
  induction X with
  | nil => rw [List.nil_append, spl_cons, if_pos rfl]; rfl
  | cons c X ih =>
    rw [List.cons_append, spl_cons, spl_cons, ih]
    by_cases h : c = b
    · rw [if_pos h, if_pos h]; rfl
    · rw [if_neg h, if_neg h]
      cases hs : spl b X with
      | nil => exact absurd hs (spl_ne b X)
      | cons p q => rfl
theorem spl_free (b : UInt8) (l : List UInt8) (h : ∀ x ∈ l, x ≠ b) : spl b l = [l] := spl_none b l (fun k e => h b (List.mem_of_getElem? e) rfl)
theorem join_two (b : UInt8) (x y : List UInt8) (ls : List (List UInt8)) : Lib.join (x :: y :: ls) [b] = x ++ b :: Lib.join (y :: ls) [b] := by
  rw [Lib.join_cons, Lib.join_cons]; simp [Lib.joinTail]
theorem spl_join (b : UInt8) (ls : List (List UInt8)) : ∀ x : List UInt8, (∀ y ∈ x, y ≠ b) → (∀ l ∈ ls, ∀ y ∈ l, y ≠ b) → spl b (Lib.join (x :: ls) [b]) = x :: ls := by
  induction ls with
  | nil => intro x hx _; rw [Lib.join_one]; exact spl_free b x hx
  | cons y ls ih =>
    intro x hx h
    rw [join_two, spl_app, spl_free b x hx, ih y (h y (by simp)) (fun l hl => h l (by simp [hl]))]; rfl
theorem join_spl (b : UInt8) (l : List UInt8) : Lib.join (spl b l) [b] = l := by
  induction l with
  | nil => rfl
  | cons c l ih =>
    rw [spl_cons]
    cases hs : spl b l with
    | nil => exact absurd hs (spl_ne b l)
    | cons p q =>
      rw [hs] at ih
      by_cases h : c = b
      · rw [if_pos h, join_two, ih, h]; rfl
      · rw [if_neg h]
        show Lib.join (([c] ++ p) :: q) [b] = _
        rw [Lib.join_cons, List.append_assoc, ← Lib.join_cons, ih]; rfl
theorem spl_len (b : UInt8) (l : List UInt8) : ∀ p ∈ spl b l, p.length ≤ l.length := by
  induction l with
  | nil => intro p hp; simp [spl_nil] at hp; simp [hp]
  | cons c l ih =>
    intro p hp
    rw [spl_cons] at hp
    by_cases h : c = b
    · rw [if_pos h] at hp
      rcases List.mem_cons.1 hp with rfl | hp
      · simp
      · have := ih p hp; simp; omega
    · rw [if_neg h] at hp
      cases hs : spl b l with
      | nil => exact absurd hs (spl_ne b l)
      | cons q r =>
        rw [hs] at hp ih
        rcases List.mem_cons.1 hp with rfl | hp
        · have := ih q (by simp); simp; omega
        · have := ih p (by simp [hp]); simp; omega
theorem join_take (b : UInt8) (l : List (List UInt8)) (n : Nat) : (Lib.join (l.take n) [b]).length ≤ (Lib.join l [b]).length := by
  cases l with
  | nil => simp
  | cons x r =>
    cases n with
    | zero => simp [Lib.join_nil]
    | succ n =>
      rw [List.take_succ_cons, Lib.join_cons, Lib.join_cons, List.length_append, List.length_append]
      have := Lib.joinTail_take_le [b] r n
      omega
-- the library's split at ', '
theorem occ_free (A X : List UInt8) (h : ∀ x ∈ A, x ≠ 44) : Lib.NoOcc (A ++ X) [44, 32] A.length := by
  intro j hj
  unfold Lib.occAt
  rw [List.drop_append_of_le_length (by omega)]
  cases hd : A.drop j with
  | nil => have := congrArg List.length hd; simp at this; omega
  | cons a r =>
    have ha : a ∈ A := List.mem_of_mem_drop (by rw [hd]; simp)
    show ((44 == a) && _) = false
    rw [beq_false_of_ne (fun e => h a ha e.symm)]; rfl
theorem index2_hit (A B : List UInt8) (h : ∀ x ∈ A, x ≠ 44) : Lib.index (A ++ 44 :: 32 :: B) [44, 32] = A.length :=
  Lib.index_hit (occ_free A _ h) (by simp) (by unfold Lib.occAt; rw [List.drop_left]; rfl)
theorem index2_none (A : List UInt8) (h : ∀ x ∈ A, x ≠ 44) : Lib.index A [44, 32] = -1 := by
  refine Lib.index_none (fun j hj => ?_)
  by_cases c : j < A.length
  · have := occ_free A [] h j c
    rwa [List.append_nil] at this
  · unfold Lib.occAt
    rw [List.drop_of_length_le (by omega)]; rfl
def sepC : ByteArray := ⟨#[44, 32]⟩
theorem sepC_L : sepC.data.toList = [44, 32] := rfl
theorem sepC_size : sepC.size = 2 := rfl
def splA (s : ByteArray) : List ByteArray := Lib.splitB sepC 0 (Lib.countB s sepC) s
theorem splA_none (s : ByteArray) (h : ∀ x ∈ L s, x ≠ 44) : splA s = [s] := by
  have hi : Lib.indexB s sepC = -1 := by unfold Lib.indexB; rw [sepC_L]; exact index2_none (L s) h
  unfold splA
  exact Lib.splitB_miss _ _ _ _ hi
theorem splA_hit (s : ByteArray) (A B : List UInt8) (h : ∀ x ∈ A, x ≠ 44) (e : L s = A ++ 44 :: 32 :: B) : splA s = mkB A :: splA (mkB B) := by
  have hi : Lib.indexB s sepC = (A.length : Nat) := by
    unfold Lib.indexB; rw [sepC_L]
    show Lib.index (L s) [44, 32] = _
    rw [e]; exact index2_hit A B h
  have hc := Lib.countB_hit s sepC A.length (by rw [sepC_size]; omega) hi
  have hx : s.extract (A.length + sepC.size) s.size = mkB B := by
    apply L_inj
    rw [L_extract, L_mk, e, sepC_size, ← List.drop_drop, List.drop_left]
    simp only [List.drop_succ_cons, List.drop_zero]
    have := congrArg List.length e
    rw [L_len] at this
    simp at this
    exact List.take_of_length_le (by omega)
  have ha : s.extract 0 (A.length + 0) = mkB A := by
    apply L_inj
    rw [L_extract, L_mk, e, List.drop_zero, Nat.add_zero, Nat.sub_zero, List.take_left]
  unfold splA
  rw [hc, Nat.add_comm 1, Lib.splitB_hit _ _ _ _ _ hi, hx, ha]
theorem splA_len (s : ByteArray) : (splA s).length = Lib.countB s sepC + 1 := Lib.splitB_all sepC (by rw [sepC_size]; omega) 0 _ s rfl
theorem splB_size (k : Nat) : ∀ s : ByteArray, ∀ p ∈ Lib.splitB sepC 0 k s, p.size ≤ s.size := by
  induction k with
  | zero => intro s p hp; rw [Lib.splitB_zero] at hp; rw [List.mem_singleton.1 hp]; exact Nat.le_refl _
  | succ k ih =>
    intro s p hp
    rcases Lib.indexB_cases s sepC with hm | ⟨i, hi, hr⟩
    · rw [Lib.splitB_miss _ _ _ _ hm] at hp
      rw [List.mem_singleton.1 hp]; exact Nat.le_refl _
    · rw [Lib.splitB_hit _ _ _ _ i hi] at hp
      rcases List.mem_cons.1 hp with rfl | hp
      · rw [ByteArray.size_extract]; omega
      · have := ih _ p hp
        rw [ByteArray.size_extract] at this; omega
theorem impl_split2 (s : ByteArray) (hs : s.size ≤ 1048576) : strings_Split.f s (⟨#[44, 32]⟩ : ByteArray) = some (splA s) := by
  have hc := Lib.countB_le sepC (by rw [sepC_size]; omega) s.size s (Nat.le_refl _)
  show strings_Split.f s sepC = _
  unfold strings_Split.f
  exact if_pos ⟨by omega, by rw [sepC_size]; omega, splA_len s, by omega⟩
-- what is read
abbrev Rd := List ByteArray × ByteArray × ByteArray × ByteArray × Bool
def none5 : Rd := (([] : List ByteArray), (⟨#[]⟩ : ByteArray), (⟨#[]⟩ : ByteArray), (⟨#[]⟩ : ByteArray), false)
def finP (s : ByteArray) (G : List ByteArray) (P F S : ByteArray) : Rd := if goodN G P F S = true then (if (invD G P F S).toList = s.toList then (G, P, F, S, true) else none5) else none5
def prt (ps : List ByteArray) (i : Nat) : ByteArray := ps.getD i ByteArray.empty
theorem rd_prt (ps : List ByteArray) (i : Nat) (h : i < ps.length) : rdOf ByteArray.empty ps (i : Int) = prt ps i := by
  rw [rd_get ps i h]; unfold prt; simp [List.getD, h]
theorem prt_mem (ps : List ByteArray) (i : Nat) (h : i < ps.length) : prt ps i ∈ ps := by
  unfold prt; rw [List.getD_eq_getElem?_getD, List.getElem?_eq_getElem h]; exact List.getElem_mem h
def famW (p : ByteArray) : ByteArray := (wordsOf p).getLastD ByteArray.empty
def parW (p : ByteArray) : ByteArray := mkB (Lib.join ((wordsOf p).dropLast.map L) [32])
theorem wordsOf_pos (p : ByteArray) : 1 ≤ (wordsOf p).length := by
  have := spl_ne 32 (L p)
  unfold wordsOf
  rw [List.length_map]
  cases h : spl 32 (L p) with
  | nil => exact absurd h this
  | cons a b => simp
theorem wordsOf_L (p : ByteArray) : (wordsOf p).map L = spl 32 (L p) := by
  unfold wordsOf
  rw [List.map_map]
  have : (L ∘ mkB) = id := by funext x; exact L_mk x
  rw [this, List.map_id]
theorem fam_rd (p : ByteArray) : rdOf ByteArray.empty (wordsOf p) (((wordsOf p).length - 1 : Nat) : Int) = famW p := by
  have h := wordsOf_pos p
  rw [rd_get _ _ (by omega)]
  have hne : wordsOf p ≠ [] := fun e => by rw [e] at h; simp at h
  unfold famW
  rw [List.getLastD_eq_getLast?, List.getLast?_eq_some_getLast hne, Option.getD_some, List.getLast_eq_getElem hne]
theorem parW_size (p : ByteArray) : (parW p).size ≤ p.size := by
  unfold parW
  rw [size_mk, List.dropLast_eq_take, List.map_take, wordsOf_L]
  have h1 := join_take 32 (spl 32 (L p)) ((wordsOf p).length - 1)
  rw [join_spl, L_len] at h1
  exact h1
theorem impl_par (p : ByteArray) (hp : p.size ≤ 1048576) : strings_Join.f ((wordsOf p).take ((wordsOf p).length - 1)) (⟨#[32]⟩ : ByteArray) = some (parW p) := by
  have h1 := wordsOf_len p
  have h2 := parW_size p
  unfold parW at h2
  rw [size_mk, List.dropLast_eq_take] at h2
  unfold strings_Join.f parW
  rw [List.dropLast_eq_take]
  exact if_pos ⟨by rw [List.length_take]; omega, Nat.le_trans h2 (by omega)⟩
theorem part_size {P : ByteArray} (h : partD P = true) : P.size ≤ 26 := by
  unfold partD at h
  rw [Bool.or_eq_true] at h
  rcases h with h | h
  · have := of_decide_eq_true h; omega
  · rw [Bool.and_eq_true] at h
    have h2 := of_decide_eq_true h.2
    have e := join_spl 32 (L P)
    rw [← wordsOf_L] at e
    have hb : ∀ x ∈ (wordsOf P).map L, x.length ≤ 12 := fun x hx => by
      obtain ⟨y, hy, rfl⟩ := List.mem_map.1 hx
      have h1 := List.all_eq_true.1 h.1 y hy
      rw [Bool.and_eq_true] at h1
      have := inD_iff.1 h1.1
      rw [L_len]; omega
    have hl : (Lib.join ((wordsOf P).map L) [32]).length ≤ 26 := by
      revert hb h2
      generalize (wordsOf P) = ws
      intro h2 hb
      match ws, h2 with
      | [], _ => simp [Lib.join_nil]
      | [a], _ => have := hb (L a) (by simp); show (Lib.join [L a] [32]).length ≤ 26; rw [Lib.join_one]; omega
      | [a, b], _ =>
        have h1 := hb (L a) (by simp)
        have h2 := hb (L b) (by simp)
        simp only [List.map_cons, List.map_nil]
        rw [join_two, Lib.join_one, List.length_append, List.length_cons]; omega
      | a :: b :: c :: r, h => simp at h
    rw [e, L_len] at hl
    exact hl
structure Gd (G : List ByteArray) (P F S : ByteArray) : Prop where
  g3 : G.length ≤ 3
  gw : ∀ x ∈ G, wordD x = true
  p : partD P = true
  f : wordD F = true
  s : S.size = 0 ∨ wordD S = true
theorem gd_of {G : List ByteArray} {P F S : ByteArray} (h : goodN G P F S = true) : Gd G P F S := by
  unfold goodN restD sufD at h
  simp only [Bool.and_eq_true, Bool.or_eq_true, decide_eq_true_eq] at h
  obtain ⟨h1, h2, h3, h4, h5⟩ := h
  refine ⟨h2, fun x hx => ?_, h3, ?_, h5⟩
  · have := List.all_eq_true.1 h1 x hx
    unfold greatD at this
    rw [Bool.and_eq_true] at this
    exact this.1
  · unfold greatD at h4
    rw [Bool.and_eq_true] at h4
    exact h4.1
theorem bytes_le {G : List ByteArray} (h : ∀ x ∈ G, x.size ≤ 12) : bytesS G ≤ 12 * G.length := by
  induction G with
  | nil => exact Nat.le_refl _
  | cons a G ih =>
    have h1 := ih (fun x hx => h x (by simp [hx]))
    have h2 := h a (by simp)
    rw [bytesS_cons, List.length_cons]; omega
theorem good_bulk {G : List ByteArray} {P F S : ByteArray} (h : goodN G P F S = true) : bulkN G P F S ≤ 92 := by
  have g := gd_of h
  have h1 := bytes_le (G := G) (fun x hx => (word_in (g.gw x hx)).2)
  have h2 := part_size g.p
  have h3 := word_in g.f
  have h4 : S.size ≤ 12 := by rcases g.s with h | h
                              · omega
                              · exact (word_in h).2
  have h5 := g.g3
  unfold bulkN bulkS; omega
section impl
variable (s : ByteArray)
theorem impl_j3 (G : List ByteArray) (P F S : ByteArray) (hG : G.length ≤ 4000000) (hP : P.size ≤ 4000000) : Ev (fun k => impl_ParseInverse.j3 k s G P F S) (finP s G P F S) := by
  refine Ev.step (f := fun k => (impl_IsValidName.f k G P F S).bind fun t549 => (if t549 = true then ((impl_inverseForm.f k G P F S).bind fun t550 => (if t550.toList = s.toList then (some (G, P, F, S, true)) else (some none5))) else (some none5))) (fun k => by simp only [impl_ParseInverse.j3]; rfl) ?_
  unfold finP
  exact Ev.bind (impl_valid G P F S (by omega) (by omega)) (ev_ite (fun hg => Ev.bind (impl_inv G P F S hg (by have := good_bulk hg; omega)) (ev_ite (fun _ => Ev.now _) (fun _ => Ev.now _))) (fun _ => Ev.now _))
theorem spec_j3 (G : List ByteArray) (P F S : ByteArray) (hG : G.length ≤ 4000000) (hP : P.size ≤ 4000000) : Ev (fun k => spec_l2Parse.j3 k s G P F S) (finP s G P F S) := by
  refine Ev.step (f := fun k => (spec_l2Good.f k G P F S).bind fun t549 => (if t549 = true then ((spec_l2Inverse.f k G P F S).bind fun t550 => (if t550.toList = s.toList then (some (G, P, F, S, true)) else (some none5))) else (some none5))) (fun k => by simp only [spec_l2Parse.j3]; rfl) ?_
  unfold finP
  exact Ev.bind (spec_name G P F S (by omega) (by omega)) (ev_ite (fun hg => Ev.bind (spec_inv G P F S (by have := good_bulk hg; omega)) (ev_ite (fun _ => Ev.now _) (fun _ => Ev.now _))) (fun _ => Ev.now _))
def implG (ps : List ByteArray) : List ByteArray := if 1 < ps.length ∧ (prt ps 1).size ≠ 0 then wordsOf (prt ps 1) else []
def implS (ps : List ByteArray) : ByteArray := if 2 < ps.length then prt ps 2 else (⟨#[]⟩ : ByteArray)
theorem impl_j2 (ps G : List ByteArray) (P F : ByteArray) (hG : G.length ≤ 4000000) (hP : P.size ≤ 4000000) : Ev (fun k => impl_ParseInverse.j2 k s ps G P F (⟨#[]⟩ : ByteArray)) (finP s G P F (implS ps)) := by
  unfold implS
  by_cases h : 2 < ps.length
  · rw [if_pos h]
    have r2 : rdOf ByteArray.empty ps 2 = prt ps 2 := rd_prt ps 2 h
    refine Ev.step (f := fun k => impl_ParseInverse.j3 k s G P F (prt ps 2)) (fun k => ?_) (impl_j3 s G P F _ hG hP)
    simp only [impl_ParseInverse.j2]
    rw [if_pos (by omega), if_pos (by omega), r2]
  · rw [if_neg h]
    refine Ev.step (f := fun k => impl_ParseInverse.j3 k s G P F (⟨#[]⟩ : ByteArray)) (fun k => ?_) (impl_j3 s G P F _ hG hP)
    simp only [impl_ParseInverse.j2]
    rw [if_neg (by omega)]
theorem impl_j1 (ps : List ByteArray) (hp : ∀ p ∈ ps, p.size ≤ 1048576) (b : Bool) (hb : b = decide (1 < ps.length ∧ (prt ps 1).size ≠ 0)) (P F : ByteArray) (hP : P.size ≤ 4000000) : Ev (fun k => impl_ParseInverse.j1 k s ps b [] P F (⟨#[]⟩ : ByteArray)) (finP s (implG ps) P F (implS ps)) := by
  unfold implG
  by_cases h : 1 < ps.length ∧ (prt ps 1).size ≠ 0
  · rw [if_pos h]
    rw [decide_eq_true h] at hb
    subst hb
    have r1 : rdOf ByteArray.empty ps 1 = prt ps 1 := rd_prt ps 1 h.1
    have hs := hp _ (prt_mem ps 1 h.1)
    have hl := wordsOf_len (prt ps 1)
    refine Ev.step (f := fun k => (strings_Split.f (prt ps 1) (⟨#[32]⟩ : ByteArray)).bind fun t545 => (impl_ParseInverse.j2 k s ps t545 P F (⟨#[]⟩ : ByteArray))) (fun k => ?_) (ev_bind0 (split_sp (prt ps 1) 32 (by omega)) (impl_j2 s ps _ P F (by show (wordsOf (prt ps 1)).length ≤ _; omega) hP))
    simp only [impl_ParseInverse.j1]
    rw [if_pos trivial, if_pos (by omega), r1]
  · rw [if_neg h]
    rw [decide_eq_false h] at hb
    subst hb
    refine Ev.step (f := fun k => impl_ParseInverse.j2 k s ps [] P F (⟨#[]⟩ : ByteArray)) (fun k => ?_) (impl_j2 s ps [] P F (by simp) hP)
    simp only [impl_ParseInverse.j1]
    rw [if_neg (by simp)]
def implR : Rd := if 3 < (splA s).length ∨ 200 < s.size then none5 else finP s (implG (splA s)) (parW (prt (splA s) 0)) (famW (prt (splA s) 0)) (implS (splA s))
theorem impl_parse (hs : s.size ≤ 1048576) : Ev (fun k => impl_ParseInverse.f k s) (implR s) := by
  have hc := Lib.countB_le sepC (by rw [sepC_size]; omega) s.size s (Nat.le_refl _)
  have hl := splA_len s
  have hp : ∀ p ∈ splA s, p.size ≤ 1048576 := fun p hp => Nat.le_trans (splB_size _ s p hp) hs
  have jt : Ev (fun k => impl_ParseInverse.j0 k s (splA s) true) none5 := Ev.step (f := fun _ => some none5) (fun k => by simp only [impl_ParseInverse.j0]; rw [if_pos trivial]; rfl) (Ev.now _)
  have h0 : 0 < (splA s).length := by omega
  have s0 := hp _ (prt_mem _ 0 h0)
  have jf : Ev (fun k => impl_ParseInverse.j0 k s (splA s) false) (finP s (implG (splA s)) (parW (prt (splA s) 0)) (famW (prt (splA s) 0)) (implS (splA s))) := by
    have r0 : rdOf ByteArray.empty (splA s) 0 = prt (splA s) 0 := rd_prt _ 0 h0
    have wl := wordsOf_len (prt (splA s) 0)
    have wp := wordsOf_pos (prt (splA s) 0)
    have hw : wrap64 (((wordsOf (prt (splA s) 0)).length : Int) - 1) = (((wordsOf (prt (splA s) 0)).length - 1 : Nat) : Int) := by rw [w64 (by omega) (by omega)]; omega
    have hP := parW_size (prt (splA s) 0)
    refine Ev.step (f := fun k => (strings_Split.f (prt (splA s) 0) (⟨#[32]⟩ : ByteArray)).bind fun t534 => (if 0 ≤ (wrap64 ((t534.length : Int) - 1)) then (if (wrap64 ((t534.length : Int) - 1)) < (t534.length : Int) then (if (wrap64 ((t534.length : Int) - 1)) ≤ (t534.length : Int) then ((strings_Join.f (t534.take ((wrap64 ((t534.length : Int) - 1)) : Int).toNat) (⟨#[32]⟩ : ByteArray)).bind fun t542 => (if ((splA s).length : Int) > 1 then (if 1 < ((splA s).length : Int) then (impl_ParseInverse.j1 k s (splA s) ((rdOf ByteArray.empty (splA s) 1).toList != ([] : List UInt8)) [] t542 (rdOf ByteArray.empty t534 (wrap64 ((t534.length : Int) - 1))) (⟨#[]⟩ : ByteArray)) else (none)) else (impl_ParseInverse.j1 k s (splA s) false [] t542 (rdOf ByteArray.empty t534 (wrap64 ((t534.length : Int) - 1))) (⟨#[]⟩ : ByteArray)))) else (none)) else (none)) else (none))) (fun k => ?_) (ev_bind0 (show strings_Split.f (prt (splA s) 0) (⟨#[32]⟩ : ByteArray) = some (wordsOf (prt (splA s) 0)) from split_sp (prt (splA s) 0) 32 (by omega)) ?_)
    · simp only [impl_ParseInverse.j0]
      rw [if_neg (by simp)]
      simp only [Option.bind_some]
      rw [if_pos (by omega), r0]
    · rw [hw]
      refine ev_pos (by omega) (ev_pos (by omega) (ev_pos (by omega) ?_))
      rw [Int.toNat_natCast]
      refine ev_bind0 (impl_par _ s0) ?_
      rw [fam_rd]
      by_cases c : 1 < (splA s).length
      · have r1 : rdOf ByteArray.empty (splA s) 1 = prt (splA s) 1 := rd_prt _ 1 c
        rw [r1]
        refine ev_pos (by omega) (ev_pos (by omega) (impl_j1 s _ hp _ ?_ _ _ (by omega)))
        by_cases e : (prt (splA s) 1).size = 0
        · rw [(nil_iff _).2 e, decide_eq_false (fun x => x.2 e)]; rfl
        · rw [decide_eq_true ⟨c, e⟩]; exact bne_iff_ne.2 (fun x => e ((nil_iff _).1 x))
      · exact ev_neg (by omega) (impl_j1 s _ hp _ (by rw [decide_eq_false (fun x => c x.1)]) _ _ (by omega))
  unfold impl_ParseInverse.f implR
  refine ev_bind0 (impl_split2 s hs) ?_
  by_cases c1 : 3 < (splA s).length
  · exact ev_pos (by omega) (ev_eq jt (if_pos (Or.inl c1)).symm)
  · refine ev_neg (by omega) ?_
    by_cases c2 : 200 < s.size
    · rw [decide_eq_true (show (s.size : Int) > 200 by omega)]
      exact ev_eq jt (if_pos (Or.inr c2)).symm
    · rw [decide_eq_false (show ¬ (s.size : Int) > 200 by omega)]
      exact ev_eq jf (if_neg (fun x => x.elim c1 c2)).symm
end impl
theorem spl_bytes (b : UInt8) (l : List UInt8) : ((spl b l).map List.length).sum ≤ l.length := by
  induction l with
  | nil => simp [spl_nil]
  | cons c l ih =>
    rw [spl_cons]
    by_cases h : c = b
    · rw [if_pos h]; simp; omega
    · rw [if_neg h]
      cases hs : spl b l with
      | nil => exact absurd hs (spl_ne b l)
      | cons q r => rw [hs] at ih; simp [ahd] at ih ⊢; omega
theorem words_sum (p : ByteArray) : sumB (wordsOf p) ≤ 2 * p.size + 2 := by
  have h1 := spl_bytes 32 (L p)
  have h2 := wordsOf_len p
  rw [sumB_bulk]
  unfold bulkS bytesS
  have e : ((wordsOf p).map fun x => x.size) = (spl 32 (L p)).map List.length := by
    unfold wordsOf
    rw [List.map_map]
    exact List.map_congr_left (fun x _ => size_mk x)
  have e2 : ((wordsOf p).map (·.size)).sum = ((spl 32 (L p)).map List.length).sum := by rw [e]
  rw [e2]
  rw [L_len] at h1
  omega
theorem sumB_take (l : List ByteArray) : ∀ n, sumB (l.take n) ≤ sumB l := by
  induction l with
  | nil => intro n; simp
  | cons a l ih =>
    intro n
    cases n with
    | zero => simp [sumB]
    | succ n => have := ih n; rw [List.take_succ_cons, sumB_cons, sumB_cons]; omega
section spec
variable (s : ByteArray)
def cmS (s : ByteArray) : List ByteArray := (spl 44 (L s)).map mkB
def tl1 (p : ByteArray) : ByteArray := p.extract 1 p.size
def okB (ps : List ByteArray) (i : Nat) : Bool := decide ((prt ps i).size ≠ 0) && decide (bt (prt ps i) 0 = 32)
def badS (ps : List ByteArray) : Bool := decide (3 < ps.length) || ((decide (1 < ps.length) && !okB ps 1) || (decide (2 < ps.length) && !okB ps 2))
def specG (ps : List ByteArray) : List ByteArray := if 1 < ps.length ∧ 1 < (prt ps 1).size then wordsOf (tl1 (prt ps 1)) else []
def specS (ps : List ByteArray) : ByteArray := if 2 < ps.length then tl1 (prt ps 2) else (⟨#[]⟩ : ByteArray)
theorem spec_j2 (ps G : List ByteArray) (h2 : 2 < ps.length → 1 ≤ (prt ps 2).size) (P F : ByteArray) (hG : G.length ≤ 4000000) (hP : P.size ≤ 4000000) : Ev (fun k => spec_l2Parse.j2 k s ps G P F (⟨#[]⟩ : ByteArray)) (finP s G P F (specS ps)) := by
  unfold specS
  by_cases h : 2 < ps.length
  · rw [if_pos h]
    have r2 : rdOf ByteArray.empty ps 2 = prt ps 2 := rd_prt ps 2 h
    have h3 := h2 h
    refine Ev.step (f := fun k => spec_l2Parse.j3 k s G P F (tl1 (prt ps 2))) (fun k => ?_) (spec_j3 s G P F _ hG hP)
    simp only [spec_l2Parse.j2]
    rw [if_pos (by omega), if_pos (by omega), r2, if_pos (by omega)]; rfl
  · rw [if_neg h]
    refine Ev.step (f := fun k => spec_l2Parse.j3 k s G P F (⟨#[]⟩ : ByteArray)) (fun k => ?_) (spec_j3 s G P F _ hG hP)
    simp only [spec_l2Parse.j2]
    rw [if_neg (by omega)]
theorem spec_j1 (ps : List ByteArray) (hp : ∀ p ∈ ps, p.size ≤ 1048576) (h2 : 2 < ps.length → 1 ≤ (prt ps 2).size) (b : Bool) (hb : b = decide (1 < ps.length ∧ 1 < (prt ps 1).size)) (P F : ByteArray) (hP : P.size ≤ 4000000) : Ev (fun k => spec_l2Parse.j1 k s ps b P F (⟨#[]⟩ : ByteArray)) (finP s (specG ps) P F (specS ps)) := by
  unfold specG
  by_cases h : 1 < ps.length ∧ 1 < (prt ps 1).size
  · rw [if_pos h]
    rw [decide_eq_true h] at hb
    subst hb
    have r1 : rdOf ByteArray.empty ps 1 = prt ps 1 := rd_prt ps 1 h.1
    have hs := hp _ (prt_mem ps 1 h.1)
    have ht : (tl1 (prt ps 1)).size ≤ 1048576 := by unfold tl1; rw [ByteArray.size_extract]; omega
    have hl := wordsOf_len (tl1 (prt ps 1))
    have a1 : (1 : Int) ≤ ((prt ps 1).size : Int) := by omega
    refine Ev.step (f := fun k => (spec_l1Split.f k (tl1 (prt ps 1)) 32).bind fun t511 => (spec_l2Parse.j2 k s ps t511 P F (⟨#[]⟩ : ByteArray))) (fun k => ?_) (Ev.bind (split_ev (tl1 (prt ps 1)) 32 (by omega)) (spec_j2 s ps _ h2 P F (by show (wordsOf (tl1 (prt ps 1))).length ≤ _; omega) hP))
    simp only [spec_l2Parse.j1]
    rw [if_pos trivial, if_pos (by omega), r1, if_pos a1]; rfl
  · rw [if_neg h]
    rw [decide_eq_false h] at hb
    subst hb
    refine Ev.step (f := fun k => spec_l2Parse.j2 k s ps [] P F (⟨#[]⟩ : ByteArray)) (fun k => ?_) (spec_j2 s ps [] h2 P F (by simp) hP)
    simp only [spec_l2Parse.j1]
    rw [if_neg (by simp)]
theorem spec_j0 (ps : List ByteArray) (hp : ∀ p ∈ ps, p.size ≤ 1048576) (b : Bool) (hb : b = badS ps) (P F : ByteArray) (hP : P.size ≤ 4000000) : Ev (fun k => spec_l2Parse.j0 k s ps b P F (⟨#[]⟩ : ByteArray)) (if badS ps = true then none5 else finP s (specG ps) P F (specS ps)) := by
  subst hb
  cases h : badS ps with
  | true =>
    rw [if_pos rfl]
    refine Ev.step (f := fun _ => some none5) (fun k => ?_) (Ev.now _)
    simp only [spec_l2Parse.j0]
    rw [if_pos trivial]; rfl
  | false =>
    rw [if_neg (by simp)]
    have h2 : 2 < ps.length → 1 ≤ (prt ps 2).size := fun c => by
      unfold badS okB at h
      rw [decide_eq_true c] at h
      simp only [Bool.or_eq_false_iff, Bool.true_and, Bool.not_eq_false', Bool.and_eq_true, decide_eq_true_eq] at h
      have := h.2.2.1
      omega
    by_cases c : 1 < ps.length
    · have r1 : rdOf ByteArray.empty ps 1 = prt ps 1 := rd_prt ps 1 c
      refine Ev.step (f := fun k => spec_l2Parse.j1 k s ps (decide (((prt ps 1).size : Int) > 1)) P F (⟨#[]⟩ : ByteArray)) (fun k => ?_) (spec_j1 s ps hp h2 _ ?_ P F hP)
      · simp only [spec_l2Parse.j0]
        rw [if_neg (by simp), if_pos (by omega), if_pos (by omega), r1]
      · rw [decide_eq_decide]; omega
    · refine Ev.step (f := fun k => spec_l2Parse.j1 k s ps false P F (⟨#[]⟩ : ByteArray)) (fun k => ?_) (spec_j1 s ps hp h2 _ (by rw [decide_eq_false (fun x => c x.1)]) P F hP)
      simp only [spec_l2Parse.j0]
      rw [if_neg (by simp), if_neg (by omega)]
def specR : Rd := if badS (cmS s) = true then none5 else finP s (specG (cmS s)) (joinD (wordsOf (prt (cmS s) 0)).dropLast) (famW (prt (cmS s) 0)) (specS (cmS s))
theorem spec_l2P (hs : s.size ≤ 1048576) : Ev (fun k => spec_l2Parse.f k s) (specR s) := by
  have hlen := spl_length 44 (L s)
  rw [L_len] at hlen
  have hl : (cmS s).length ≤ s.size + 1 := by unfold cmS; rw [List.length_map]; exact hlen
  have h0 : 0 < (cmS s).length := by
    unfold cmS; rw [List.length_map]
    cases h : spl 44 (L s) with
    | nil => exact absurd h (spl_ne 44 _)
    | cons a b => simp
  have hp : ∀ p ∈ cmS s, p.size ≤ 1048576 := fun p hp => by
    obtain ⟨q, hq, rfl⟩ := List.mem_map.1 hp
    have := spl_len 44 (L s) q hq
    rw [L_len] at this
    rw [size_mk]; omega
  have s0 := hp _ (prt_mem _ 0 h0)
  have r0 : rdOf ByteArray.empty (cmS s) 0 = prt (cmS s) 0 := rd_prt _ 0 h0
  have wl := wordsOf_len (prt (cmS s) 0)
  have wp := wordsOf_pos (prt (cmS s) 0)
  have hw : wrap64 (((wordsOf (prt (cmS s) 0)).length : Int) - 1) = (((wordsOf (prt (cmS s) 0)).length - 1 : Nat) : Int) := by rw [w64 (by omega) (by omega)]; omega
  have hsum : sumB (wordsOf (prt (cmS s) 0)).dropLast ≤ 2 * (prt (cmS s) 0).size + 2 := by
    have h1 := sumB_take (wordsOf (prt (cmS s) 0)) ((wordsOf (prt (cmS s) 0)).length - 1)
    have h2 := words_sum (prt (cmS s) 0)
    rw [List.dropLast_eq_take]; omega
  have hP := joinD_size (wordsOf (prt (cmS s) 0)).dropLast
  have hj := fun b hb => spec_j0 s (cmS s) hp b hb (joinD (wordsOf (prt (cmS s) 0)).dropLast) (famW (prt (cmS s) 0)) (by omega)
  unfold spec_l2Parse.f specR
  refine Ev.bind (show Ev (fun k => spec_l1Split.f k s 44) (cmS s) from split_ev s 44 (by omega)) ?_
  refine ev_pos (by omega) ?_
  rw [r0]
  refine Ev.bind (show Ev (fun k => spec_l1Split.f k (prt (cmS s) 0) 32) (wordsOf (prt (cmS s) 0)) from split_ev (prt (cmS s) 0) 32 (by omega)) ?_
  rw [hw]
  refine ev_pos (by omega) (ev_pos (by omega) (ev_pos (by omega) ?_))
  rw [Int.toNat_natCast, ← List.dropLast_eq_take]
  refine Ev.bind (spec_join _ (by rw [List.length_dropLast]; omega) (by omega)) ?_
  rw [fam_rd]
  by_cases c3 : 3 < (cmS s).length
  · exact ev_pos (by omega) (hj true (by simp [badS, c3]))
  · refine ev_neg (by omega) ?_
    by_cases c1 : 1 < (cmS s).length
    · have r1 : rdOf ByteArray.empty (cmS s) 1 = prt (cmS s) 1 := rd_prt _ 1 c1
      refine ev_pos (by omega) (ev_pos (by omega) ?_)
      rw [r1]
      by_cases e1 : (prt (cmS s) 1).size = 0
      · exact ev_pos ((nil_iff _).2 e1) (hj true (by simp [badS, okB, c1, e1]))
      · refine ev_neg (fun x => e1 ((nil_iff _).1 x)) (ev_pos (by omega) ?_)
        by_cases b1 : bt (prt (cmS s) 1) 0 = 32
        · refine ev_pos b1 ?_
          by_cases c2 : 2 < (cmS s).length
          · have r2 : rdOf ByteArray.empty (cmS s) 2 = prt (cmS s) 2 := rd_prt _ 2 c2
            refine ev_pos (by omega) (ev_pos (by omega) ?_)
            rw [r2]
            by_cases e2 : (prt (cmS s) 2).size = 0
            · exact ev_pos ((nil_iff _).2 e2) (hj true (by simp [badS, okB, c2, e2]))
            · refine ev_neg (fun x => e2 ((nil_iff _).1 x)) (ev_pos (by omega) (hj _ ?_))
              by_cases b2 : bt (prt (cmS s) 2) 0 = 32
              · rw [b2]; simp [badS, okB, c3, c1, e1, b1, c2, e2, b2]
              · rw [show (bt (prt (cmS s) 2) 0 != 32) = true from bne_iff_ne.2 b2]; simp [badS, okB, c2, b2]
          · exact ev_neg (by omega) (hj false (by simp [badS, okB, c3, c1, e1, b1, c2]))
        · exact ev_neg b1 (hj true (by simp [badS, okB, c1, b1]))
    · have c2 : ¬ 2 < (cmS s).length := by omega
      exact ev_neg (by omega) (ev_neg (by omega) (hj false (by simp [badS, c3, c1, c2])))
end spec
theorem le_rng2 {c : Int} (h : leD c = true) : 65 ≤ c ∧ c ≤ 122 := by
  unfold leD upD loD at h
  simp only [Bool.or_eq_true, Bool.and_eq_true, decide_eq_true_eq] at h
  omega
theorem wl_at2 (s : ByteArray) (d : Nat) : ∀ i j : Nat, wlD s d i = true → i ≤ j → j < i + d → okD s j = true := by
  induction d with
  | zero => intro i j h h1 h2; omega
  | succ d ih =>
    intro i j h h1 h2
    unfold wlD at h
    rw [Bool.and_eq_true] at h
    by_cases e : j = i
    · rw [e]; exact h.1
    · exact ih (i + 1) j h.2 (by omega) (by omega)
theorem word_bytes {w : ByteArray} (h : wordD w = true) : ∀ x ∈ L w, x ≠ 44 ∧ x ≠ 32 := by
  intro x hx
  obtain ⟨j, hj, rfl⟩ := List.getElem_of_mem hx
  have hj' : j < w.size := by rw [← L_len]; exact hj
  have hb := bt_get w j hj'
  have key : 65 ≤ bt w (j : Int) ∨ bt w (j : Int) = 45 ∨ bt w (j : Int) = 39 := by
    unfold wordD at h
    simp only [Bool.and_eq_true] at h
    obtain ⟨_, ⟨h1, _⟩, h3⟩ := h
    by_cases c : j = 0
    · subst c; exact Or.inl (le_rng2 h1).1
    · have := wl_at2 w _ 1 j h3 (by omega) (by omega)
      unfold okD at this
      simp only [Bool.or_eq_true, Bool.and_eq_true, decide_eq_true_eq] at this
      rcases this with h | ⟨h, _⟩
      · exact Or.inl (le_rng2 h).1
      · exact Or.inr h
  have e44 : (44 : UInt8).toNat = 44 := rfl
  have e32 : (32 : UInt8).toNat = 32 := rfl
  constructor
  · intro e
    have := congrArg UInt8.toNat e
    omega
  · intro e
    have := congrArg UInt8.toNat e
    omega
theorem spl_mem2 (b : UInt8) (q : UInt8 → Prop) (l : List UInt8) : (∀ p ∈ spl b l, ∀ x ∈ p, q x) → ∀ x ∈ l, q x ∨ x = b := by
  induction l with
  | nil => intro _ x hx; cases hx
  | cons c cs ih =>
    intro h x hx
    rw [spl_cons] at h
    by_cases e : c = b
    · rw [if_pos e] at h
      rcases List.mem_cons.1 hx with rfl | hx
      · exact Or.inr e
      · exact ih (fun p hp => h p (List.mem_cons_of_mem _ hp)) x hx
    · rw [if_neg e] at h
      cases hs : spl b cs with
      | nil => exact absurd hs (spl_ne b cs)
      | cons p ps =>
        rw [hs] at h ih
        have h1 := h ([c] ++ p) (List.mem_cons_self)
        rcases List.mem_cons.1 hx with rfl | hx
        · exact Or.inl (h1 _ (by simp))
        · refine ih (fun r hr => ?_) x hx
          rcases List.mem_cons.1 hr with rfl | hr
          · exact fun z hz => h1 z (by simp [hz])
          · exact h r (List.mem_cons_of_mem _ hr)
theorem part_words {P : ByteArray} (h : partD P = true) (h0 : P.size ≠ 0) : (∀ w ∈ wordsOf P, 1 ≤ w.size) ∧ ∀ x ∈ L P, x ≠ 44 := by
  unfold partD at h
  rw [Bool.or_eq_true, decide_eq_true_eq] at h
  rcases h with h | h
  · exact absurd h h0
  · rw [Bool.and_eq_true] at h
    refine ⟨fun w hw => ?_, fun x hx => ?_⟩
    · have h1 := List.all_eq_true.1 h.1 w hw
      rw [Bool.and_eq_true] at h1
      exact (inD_iff.1 h1.1).1
    · have hall := spl_mem2 32 (fun x => loD (x.toNat : Int) = true) (L P) (fun p hp x hx => by
        have h1 := List.all_eq_true.1 h.1 (mkB p) (List.mem_map.2 ⟨p, hp, rfl⟩)
        rw [Bool.and_eq_true] at h1
        exact List.all_eq_true.1 h1.2 x (by rw [List.drop_zero, L_mk]; exact hx)) x hx
      rcases hall with h2 | h2
      · intro e; subst e; revert h2; decide
      · subst h2; decide
theorem joinD_L (l : List ByteArray) (h : ∀ x ∈ l, 1 ≤ x.size) : L (joinD l) = Lib.join (l.map L) [32] := by
  have := join_filter l
  rw [filter_all h] at this
  exact this.symm
theorem L_two (P F : ByteArray) (hF : 1 ≤ F.size) : L (joinD [P, F]) = if P.size = 0 then L F else L P ++ 32 :: L F := by
  have e : joinD [P, F] = glu (glu ByteArray.empty P) F := rfl
  have e0 : glu ByteArray.empty P = P := L_inj (by rw [L_glu, if_neg (fun x => x.1 rfl)]; rfl)
  rw [e, e0, L_glu]
  by_cases h : P.size = 0
  · rw [if_neg (fun x => x.1 h), if_pos h, L_nil h]; rfl
  · rw [if_pos ⟨h, by omega⟩, if_neg h]
section full
variable {G : List ByteArray} {P F S : ByteArray} (g : Gd G P F S)
include g
theorem A_free : ∀ x ∈ L (joinD [P, F]), x ≠ 44 := by
  have hF := word_in g.f
  intro x hx
  rw [L_two P F hF.1] at hx
  by_cases h : P.size = 0
  · rw [if_pos h] at hx; exact (word_bytes g.f x hx).1
  · rw [if_neg h] at hx
    rcases List.mem_append.1 hx with hx | hx
    · exact (part_words g.p h).2 x hx
    · rcases List.mem_cons.1 hx with rfl | hx
      · decide
      · exact (word_bytes g.f x hx).1
theorem A_words : wordsOf (joinD [P, F]) = (if P.size = 0 then [] else wordsOf P) ++ [F] := by
  have hF := word_in g.f
  have hf := spl_free 32 (L F) (fun x hx => (word_bytes g.f x hx).2)
  unfold wordsOf
  rw [L_two P F hF.1]
  by_cases h : P.size = 0
  · rw [if_pos h, if_pos h, hf]; simp [mk_L]
  · rw [if_neg h, if_neg h, spl_app, hf, List.map_append]; simp [mk_L]
theorem A_fam : famW (joinD [P, F]) = F := by
  unfold famW; rw [A_words g]; simp
theorem A_par : parW (joinD [P, F]) = P := by
  unfold parW
  rw [A_words g, List.dropLast_concat]
  by_cases h : P.size = 0
  · rw [if_pos h]
    apply L_inj
    rw [L_mk, L_nil h]; rfl
  · rw [if_neg h, wordsOf_L, join_spl, mk_L]
theorem A_join : joinD (wordsOf (joinD [P, F])).dropLast = P := by
  rw [A_words g, List.dropLast_concat]
  by_cases h : P.size = 0
  · rw [if_pos h]
    apply L_inj
    rw [L_nil h]; rfl
  · rw [if_neg h]
    apply L_inj
    rw [joinD_L _ (part_words g.p h).1, wordsOf_L, join_spl]
theorem G_pos : ∀ x ∈ G, 1 ≤ x.size := fun x hx => (word_in (g.gw x hx)).1
theorem B_L : L (joinD G) = Lib.join (G.map L) [32] := joinD_L G (G_pos g)
theorem B_free : ∀ x ∈ L (joinD G), x ≠ 44 := by
  rw [B_L g]
  have hw := g.gw
  clear g
  revert hw
  induction G with
  | nil => intro _ x hx; simp [Lib.join_nil] at hx
  | cons a G ih =>
    intro hw x hx
    cases G with
    | nil => rw [List.map_cons, List.map_nil, Lib.join_one] at hx; exact (word_bytes (hw a (by simp)) x hx).1
    | cons b G =>
      rw [List.map_cons, List.map_cons, join_two] at hx
      rcases List.mem_append.1 hx with hx | hx
      · exact (word_bytes (hw a (by simp)) x hx).1
      · rcases List.mem_cons.1 hx with rfl | hx
        · decide
        · exact ih (fun y hy => hw y (by simp [hy])) x (by rw [List.map_cons]; exact hx)
theorem B_words (h : G ≠ []) : wordsOf (joinD G) = G := by
  unfold wordsOf
  rw [B_L g]
  cases G with
  | nil => exact absurd rfl h
  | cons a G =>
    rw [List.map_cons, spl_join 32 (G.map L) (L a) (fun y hy => (word_bytes (g.gw a (by simp)) y hy).2) (fun l hl y hy => by
      obtain ⟨w, hw, rfl⟩ := List.mem_map.1 hl
      exact (word_bytes (g.gw w (by simp [hw])) y hy).2), ← List.map_cons, List.map_map]
    have : (mkB ∘ L) = id := by funext x; exact mk_L x
    rw [this, List.map_id]
theorem B_nil : (joinD G).size = 0 ↔ G = [] := by
  constructor
  · intro h
    cases G with
    | nil => rfl
    | cons a G =>
      have h1 := B_L g
      rw [L_nil h, List.map_cons, Lib.join_cons] at h1
      have h2 := congrArg List.length h1
      rw [List.length_append, L_len] at h2
      have := G_pos g a (by simp)
      simp at h2; omega
  · intro h; subst h; rfl
omit g in
theorem inv_L : L (invD G P F S) = if G = [] ∧ S.size = 0 then L (joinD [P, F]) else if S.size = 0 then L (joinD [P, F]) ++ 44 :: 32 :: L (joinD G) else L (joinD [P, F]) ++ 44 :: 32 :: (L (joinD G) ++ 44 :: 32 :: L S) := by
  unfold invD tailI
  have hg : G.length > 0 ↔ G ≠ [] := List.length_pos_iff
  by_cases c : G = [] ∧ S.size = 0
  · rw [if_pos c, if_neg (fun x => x.elim (fun y => hg.1 y c.1) (fun y => y c.2))]
  · have hc : G.length > 0 ∨ S.size ≠ 0 := by
      by_cases h : G = []
      · exact Or.inr (fun e => c ⟨h, e⟩)
      · exact Or.inl (hg.2 h)
    rw [if_neg c, if_pos hc]
    by_cases h : S.size = 0
    · rw [if_pos h, if_pos h]; simp only [L_append, List.append_assoc]; rfl
    · rw [if_neg h, if_neg h]; simp only [L_append, List.append_assoc]; rfl
theorem S_free : ∀ x ∈ L S, x ≠ 44 := by
  intro x hx
  rcases g.s with h | h
  · rw [L_nil h] at hx; cases hx
  · exact (word_bytes h x hx).1
theorem inv_size : (invD G P F S).size ≤ 200 := by
  have h1 := joinD_size [P, F]
  have h2 : sumB [P, F] = P.size + 1 + (F.size + 1 + 0) := rfl
  have h3 := joinD_size G
  have h4 := sumB_bulk G
  have h5 := bytes_le (G := G) (fun x hx => (word_in (g.gw x hx)).2)
  have h6 := part_size g.p
  have h7 := word_in g.f
  have h8 : S.size ≤ 12 := by rcases g.s with h | h
                              · omega
                              · exact (word_in h).2
  have h9 := g.g3
  unfold bulkS at h4
  have hl := congrArg List.length (inv_L (G := G) (P := P) (F := F) (S := S))
  rw [L_len] at hl
  rw [hl]
  split
  · rw [L_len]; omega
  · split
    · simp only [List.length_append, List.length_cons, L_len]; omega
    · simp only [List.length_append, List.length_cons, L_len]; omega
omit g in
theorem fin_yes (hg : goodN G P F S = true) : finP (invD G P F S) G P F S = (G, P, F, S, true) := by
  unfold finP; rw [if_pos hg, if_pos rfl]
theorem impl_yesP (hg : goodN G P F S = true) : implR (invD G P F S) = (G, P, F, S, true) := by
  have hz := inv_size g
  have hA := A_free g
  have hB := B_free g
  have hL := inv_L (G := G) (P := P) (F := F) (S := S)
  unfold implR
  by_cases c : G = [] ∧ S.size = 0
  · rw [if_pos c] at hL
    have e : invD G P F S = joinD [P, F] := L_inj hL
    have hs : splA (invD G P F S) = [joinD [P, F]] := by rw [e]; exact splA_none _ hA
    rw [hs, if_neg (fun x => x.elim (by simp) (by omega))]
    have e1 : implG [joinD [P, F]] = G := by rw [c.1]; exact if_neg (by simp)
    have e2 : implS [joinD [P, F]] = S := by unfold implS; rw [if_neg (by simp)]; apply L_inj; rw [L_nil c.2]
    rw [e1, e2, show prt [joinD [P, F]] 0 = joinD [P, F] from rfl, A_par g, A_fam g]
    exact fin_yes hg
  · rw [if_neg c] at hL
    by_cases h : S.size = 0
    · rw [if_pos h] at hL
      have hG : G ≠ [] := fun e => c ⟨e, h⟩
      have hs : splA (invD G P F S) = [joinD [P, F], joinD G] := by
        rw [splA_hit _ _ _ hA hL, mk_L, mk_L, splA_none _ hB]
      rw [hs, if_neg (fun x => x.elim (by simp) (by omega))]
      have e1 : implG [joinD [P, F], joinD G] = G := by
        unfold implG
        rw [if_pos ⟨by simp, fun e => hG ((B_nil g).1 e)⟩]
        exact B_words g hG
      have e2 : implS [joinD [P, F], joinD G] = S := by unfold implS; rw [if_neg (by simp)]; apply L_inj; rw [L_nil h]
      rw [e1, e2, show prt [joinD [P, F], joinD G] 0 = joinD [P, F] from rfl, A_par g, A_fam g]
      exact fin_yes hg
    · rw [if_neg h] at hL
      have hs : splA (invD G P F S) = [joinD [P, F], joinD G, S] := by
        rw [splA_hit _ _ _ hA hL, mk_L, splA_hit _ _ _ hB (L_mk _), mk_L, mk_L, splA_none _ (S_free g)]
      rw [hs, if_neg (fun x => x.elim (by simp) (by omega))]
      have e1 : implG [joinD [P, F], joinD G, S] = G := by
        unfold implG
        by_cases e : G = []
        · rw [if_neg (fun x => x.2 ((B_nil g).2 e)), e]
        · rw [if_pos ⟨by simp, fun x => e ((B_nil g).1 x)⟩]; exact B_words g e
      have e2 : implS [joinD [P, F], joinD G, S] = S := by unfold implS; rw [if_pos (by simp)]; rfl
      rw [e1, e2, show prt [joinD [P, F], joinD G, S] 0 = joinD [P, F] from rfl, A_par g, A_fam g]
      exact fin_yes hg
omit g in
theorem tl1_sp (l : List UInt8) : tl1 (mkB (32 :: l)) = mkB l := by
  unfold tl1
  apply L_inj
  rw [L_extract, L_mk, L_mk, size_mk]
  simp
omit g in
theorem bt_sp (l : List UInt8) : bt (mkB (32 :: l)) 0 = 32 := by
  have := bt_getD (mkB (32 :: l)) 0 (by rw [size_mk]; simp)
  rw [show ((0 : Nat) : Int) = 0 from rfl] at this
  rw [this, L_mk]; rfl
theorem spec_yesP (hg : goodN G P F S = true) : specR (invD G P F S) = (G, P, F, S, true) := by
  have hA := A_free g
  have hB := B_free g
  have hL := inv_L (G := G) (P := P) (F := F) (S := S)
  unfold specR
  by_cases c : G = [] ∧ S.size = 0
  · rw [if_pos c] at hL
    have e : invD G P F S = joinD [P, F] := L_inj hL
    have hs : cmS (invD G P F S) = [joinD [P, F]] := by
      unfold cmS; rw [hL, spl_free 44 _ hA]; simp [mk_L]
    rw [hs, if_neg (by simp [badS])]
    have e1 : specG [joinD [P, F]] = G := by rw [c.1]; exact if_neg (by simp)
    have e2 : specS [joinD [P, F]] = S := by unfold specS; rw [if_neg (by simp)]; apply L_inj; rw [L_nil c.2]
    rw [e1, e2, show prt [joinD [P, F]] 0 = joinD [P, F] from rfl, A_join g, A_fam g]
    exact fin_yes hg
  · rw [if_neg c] at hL
    have hB' : ∀ x ∈ 32 :: L (joinD G), x ≠ 44 := fun x hx => by
      rcases List.mem_cons.1 hx with rfl | hx
      · decide
      · exact hB x hx
    by_cases h : S.size = 0
    · rw [if_pos h] at hL
      have hG : G ≠ [] := fun e => c ⟨e, h⟩
      have hs : cmS (invD G P F S) = [joinD [P, F], mkB (32 :: L (joinD G))] := by
        unfold cmS; rw [hL, spl_app, spl_free 44 _ hA, spl_free 44 _ hB']; simp [mk_L]
      have hn : (joinD G).size ≠ 0 := fun e => hG ((B_nil g).1 e)
      have hz : (mkB (32 :: L (joinD G))).size = 1 + (joinD G).size := by rw [size_mk, List.length_cons, L_len]; omega
      have p1 : prt [joinD [P, F], mkB (32 :: L (joinD G))] 1 = mkB (32 :: L (joinD G)) := rfl
      have hb : badS [joinD [P, F], mkB (32 :: L (joinD G))] = false := by
        unfold badS okB
        rw [p1, bt_sp, hz]
        simp
      rw [hs, hb, if_neg (by simp)]
      have e1 : specG [joinD [P, F], mkB (32 :: L (joinD G))] = G := by
        unfold specG
        rw [p1, hz, if_pos ⟨by simp, by omega⟩, tl1_sp, mk_L]
        exact B_words g hG
      have e2 : specS [joinD [P, F], mkB (32 :: L (joinD G))] = S := by unfold specS; rw [if_neg (by simp)]; apply L_inj; rw [L_nil h]
      rw [e1, e2, show prt [joinD [P, F], mkB (32 :: L (joinD G))] 0 = joinD [P, F] from rfl, A_join g, A_fam g]
      exact fin_yes hg
    · rw [if_neg h] at hL
      have hS' : ∀ x ∈ 32 :: L S, x ≠ 44 := fun x hx => by
        rcases List.mem_cons.1 hx with rfl | hx
        · decide
        · exact S_free g x hx
      have hs : cmS (invD G P F S) = [joinD [P, F], mkB (32 :: L (joinD G)), mkB (32 :: L S)] := by
        unfold cmS
        rw [hL, spl_app, spl_free 44 _ hA, show 32 :: (L (joinD G) ++ 44 :: 32 :: L S) = (32 :: L (joinD G)) ++ 44 :: (32 :: L S) from rfl, spl_app, spl_free 44 _ hB', spl_free 44 _ hS']; simp [mk_L]
      have hz : (mkB (32 :: L (joinD G))).size = 1 + (joinD G).size := by rw [size_mk, List.length_cons, L_len]; omega
      have hz2 : (mkB (32 :: L S)).size = 1 + S.size := by rw [size_mk, List.length_cons, L_len]; omega
      have p1 : prt [joinD [P, F], mkB (32 :: L (joinD G)), mkB (32 :: L S)] 1 = mkB (32 :: L (joinD G)) := rfl
      have p2 : prt [joinD [P, F], mkB (32 :: L (joinD G)), mkB (32 :: L S)] 2 = mkB (32 :: L S) := rfl
      have hb : badS [joinD [P, F], mkB (32 :: L (joinD G)), mkB (32 :: L S)] = false := by
        unfold badS okB
        rw [p1, p2, bt_sp, bt_sp, hz, hz2]
        simp
      rw [hs, hb, if_neg (by simp)]
      have e1 : specG [joinD [P, F], mkB (32 :: L (joinD G)), mkB (32 :: L S)] = G := by
        unfold specG
        by_cases e : G = []
        · have := (B_nil g).2 e
          rw [p1, hz, if_neg (fun x => by omega), e]
        · have hn : (joinD G).size ≠ 0 := fun x => e ((B_nil g).1 x)
          rw [p1, hz, if_pos ⟨by simp, by omega⟩, tl1_sp, mk_L]
          exact B_words g e
      have e2 : specS [joinD [P, F], mkB (32 :: L (joinD G)), mkB (32 :: L S)] = S := by unfold specS; rw [if_pos (by simp), p2, tl1_sp, mk_L]
      rw [e1, e2, show prt [joinD [P, F], mkB (32 :: L (joinD G)), mkB (32 :: L S)] 0 = joinD [P, F] from rfl, A_join g, A_fam g]
      exact fin_yes hg
end full
def IsInv (s : ByteArray) (G : List ByteArray) (P F S : ByteArray) : Prop := goodN G P F S = true ∧ invD G P F S = s
theorem fin_no (s : ByteArray) (h : ∀ G P F S, ¬ IsInv s G P F S) (G : List ByteArray) (P F S : ByteArray) : finP s G P F S = none5 := by
  unfold finP
  by_cases hg : goodN G P F S = true
  · rw [if_pos hg]
    exact if_neg (fun e => h G P F S ⟨hg, toList_eq_iff.1 e⟩)
  · exact if_neg hg
theorem parse_same (s : ByteArray) : implR s = specR s := by
  by_cases h : ∃ G P F S, IsInv s G P F S
  · obtain ⟨G, P, F, S, hg, rfl⟩ := h
    rw [impl_yesP (gd_of hg) hg, spec_yesP (gd_of hg) hg]
  · have h' : ∀ G P F S, ¬ IsInv s G P F S := fun G P F S x => h ⟨G, P, F, S, x⟩
    have e1 : implR s = none5 := by unfold implR; rw [fin_no s h']; simp
    have e2 : specR s = none5 := by unfold specR; rw [fin_no s h']; simp
    rw [e1, e2]
end Go.Proofs.YtefoiofododliaaDoor.G

namespace Go.Proofs.YtefoiofododliaaDoor.G
open Go.RowKit Go.Proofs.YtefoiofododliaaDoorW.PrintWords Go.Proofs.YtefoiofododliaaDoorW.PrintLast Go.Proofs.YtefoiofododliaaDoor.B Go.Proofs.YtefoiofododliaaDoor.Opn
set_option linter.unusedVariables false
set_option linter.unusedSimpArgs false
theorem rd27 (l : List S31) (i : Nat) (h : i < l.length) : rd_T31 l (i : Int) = l[i] := by simp [rd_T31, h]
def goodS (x : S31) : Bool := goodN x.f0 x.f1 x.f2 x.f3
def okS (x : S31) : Prop := x.f0.length ≤ 4611686018427387904 ∧ x.f1.size ≤ 4294967280
def listD (l : List S31) : Bool := l.all goodS && decide (l.length ≤ 4)
theorem spec_list_loop (l : List S31) (ho : ∀ x ∈ l, okS x) (hl : l.length ≤ 1048576) (d : Nat) : ∀ i : Nat, i ≤ l.length → min l.length 5 - i = d → i ≤ 5 →
    Ev (fun k => spec_l2List.l0 k l (i : Int)) (((l.take 5).drop i).all goodS && decide (l.length ≤ 4)) := by
  have stop : ∀ i : Nat, Ev (fun k => spec_l2List.j1 k l (i : Int) false) (decide (l.length ≤ 4)) := fun i => by
    refine Ev.step (f := fun _ => some (decide ((l.length : Int) ≤ 4))) (fun k => by simp [spec_l2List.j1]) (ev_eq (Ev.now _) ?_)
    rw [decide_eq_decide]; omega
  induction d with
  | zero =>
    intro i h1 hd h5
    rw [List.drop_of_length_le (by rw [List.length_take]; omega)]
    refine Ev.step (f := fun k => spec_l2List.j1 k l (i : Int) false) (fun k => ?_) (ev_eq (stop i) (by simp))
    simp only [spec_l2List.l0]
    by_cases c : i < l.length
    · rw [if_pos (by omega), decide_eq_false (by omega)]
    · rw [if_neg (by omega)]
  | succ d ih =>
    intro i h1 hd h5
    have hi : i < l.length := by omega
    have hw : wrap64 ((i : Int) + 1) = ((i + 1 : Nat) : Int) := by rw [w64 (by omega) (by omega)]; rfl
    have hi' : i < (l.take 5).length := by rw [List.length_take]; omega
    have hx := ho _ (List.getElem_mem hi)
    rw [List.drop_eq_getElem_cons hi', List.all_cons, List.getElem_take, Bool.and_assoc]
    refine Ev.step (f := fun k => spec_l2List.j1 k l (i : Int) true) (fun k => ?_) (Ev.step (f := fun k => (spec_l2Good.f k (l[i]).f0 (l[i]).f1 (l[i]).f2 (l[i]).f3).bind fun t278 => (if t278 = true then (spec_l2List.l0 k l ((i + 1 : Nat) : Int)) else (some false))) (fun k => ?_) (Ev.bind (spec_name _ _ _ _ hx.1 hx.2) ?_))
    · simp only [spec_l2List.l0]
      rw [if_pos (by omega), decide_eq_true (by omega)]
    · simp only [spec_l2List.j1, rd27 l i hi, hw]
      rw [if_pos trivial, if_pos (by omega), if_pos (by omega)]
    · show Ev _ (goodN (l[i]).f0 (l[i]).f1 (l[i]).f2 (l[i]).f3 && _)
      cases goodN (l[i]).f0 (l[i]).f1 (l[i]).f2 (l[i]).f3 with
      | true => exact ev_pos rfl (ev_eq (ih (i + 1) (by omega) (by omega) (by omega)) (by simp))
      | false => exact ev_neg (by simp) (ev_eq (Ev.now _) (by simp))
theorem spec_list (l : List S31) (ho : ∀ x ∈ l, okS x) (hl : l.length ≤ 1048576) : Ev (fun k => spec_l2List.f k l) (listD l) := by
  have h := spec_list_loop l ho hl _ 0 (by omega) rfl (by omega)
  unfold spec_l2List.f listD
  refine ev_eq h ?_
  rw [List.drop_zero]
  by_cases c : l.length ≤ 4
  · rw [List.take_of_length_le (by omega)]
  · rw [decide_eq_false c]; simp
theorem list_good {l : List S31} (h : listD l = true) : l.length ≤ 4 ∧ ∀ x ∈ l, goodS x = true := by
  unfold listD at h
  simp only [Bool.and_eq_true, decide_eq_true_eq] at h
  exact ⟨h.2, fun x hx => List.all_eq_true.1 h.1 x hx⟩
theorem eqL_loop (l : List S31) (ho : ∀ x ∈ l, okS x) (hl : l.length ≤ 1048576) (d : Nat) : ∀ i : Nat, i ≤ l.length → l.length - i = d → Ev (fun k => laws_eqNameS.l0 k l l (i : Int)) true := by
  induction d with
  | zero =>
    intro i h1 hd
    refine Ev.step (f := fun _ => some true) (fun k => ?_) (Ev.now _)
    simp only [laws_eqNameS.l0]; rw [if_neg (by omega)]
  | succ d ih =>
    intro i h1 hd
    have hi : i < l.length := by omega
    have hw : wrap64 ((i : Int) + 1) = ((i + 1 : Nat) : Int) := by rw [w64 (by omega) (by omega)]; rfl
    refine Ev.step (f := fun k => (laws_eqName.f k (l[i]).f0 (l[i]).f1 (l[i]).f2 (l[i]).f3 (l[i]).f0 (l[i]).f1 (l[i]).f2 (l[i]).f3).bind fun t308 => (if t308 = true then (laws_eqNameS.l0 k l l ((i + 1 : Nat) : Int)) else (some false))) (fun k => ?_) (Ev.bind (eqN_same _ _ _ _ (ho _ (List.getElem_mem hi)).1) (ev_pos rfl (ih (i + 1) (by omega) (by omega))))
    simp only [laws_eqNameS.l0, rd27 l i hi, hw]
    rw [if_pos (by omega), if_pos (by omega), if_pos (by omega)]
theorem eqL_same (l : List S31) (ho : ∀ x ∈ l, okS x) (hl : l.length ≤ 1048576) : Ev (fun k => laws_eqNameS.f k l l) true := by
  unfold laws_eqNameS.f
  exact ev_pos rfl (eqL_loop l ho hl _ 0 (by omega) rfl)

end Go.Proofs.YtefoiofododliaaDoor.G

namespace Go.Proofs.YtefoiofododliaaDoor.G
open Go.RowKit Go.Proofs.YtefoiofododliaaDoorW.PrintWords Go.Proofs.YtefoiofododliaaDoorW.PrintLast Go.Proofs.YtefoiofododliaaDoor.B
set_option linter.unusedVariables false
set_option linter.unusedSimpArgs false
abbrev NmS := S31
-- inverse forms hold no ';'
theorem word59 {w : ByteArray} (h : wordD w = true) : ∀ x ∈ L w, x ≠ 59 := by
  intro x hx
  obtain ⟨j, hj, rfl⟩ := List.getElem_of_mem hx
  have hj' : j < w.size := by rw [← L_len]; exact hj
  have hb := bt_get w j hj'
  have key : 65 ≤ bt w (j : Int) ∨ bt w (j : Int) = 45 ∨ bt w (j : Int) = 39 := by
    unfold wordD at h
    simp only [Bool.and_eq_true] at h
    obtain ⟨_, ⟨h1, _⟩, h3⟩ := h
    by_cases c : j = 0
    · subst c; exact Or.inl (le_rng2 h1).1
    · have := wl_at2 w _ 1 j h3 (by omega) (by omega)
      unfold okD at this
      simp only [Bool.or_eq_true, Bool.and_eq_true, decide_eq_true_eq] at this
      rcases this with h | ⟨h, _⟩
      · exact Or.inl (le_rng2 h).1
      · exact Or.inr h
  have e59 : (59 : UInt8).toNat = 59 := rfl
  intro e
  have := congrArg UInt8.toNat e
  omega
theorem part59 {P : ByteArray} (h : partD P = true) (h0 : P.size ≠ 0) : ∀ x ∈ L P, x ≠ 59 := by
  unfold partD at h
  rw [Bool.or_eq_true, decide_eq_true_eq] at h
  rcases h with h | h
  · exact absurd h h0
  · rw [Bool.and_eq_true] at h
    intro x hx
    have hall := spl_mem2 32 (fun x => loD (x.toNat : Int) = true) (L P) (fun p hp x hx => by
      have h1 := List.all_eq_true.1 h.1 (mkB p) (List.mem_map.2 ⟨p, hp, rfl⟩)
      rw [Bool.and_eq_true] at h1
      exact List.all_eq_true.1 h1.2 x (by rw [List.drop_zero, L_mk]; exact hx)) x hx
    rcases hall with h2 | h2
    · intro e; subst e; revert h2; decide
    · subst h2; decide
theorem join_mem (b : UInt8) (ls : List (List UInt8)) : ∀ x ∈ Lib.join ls [b], x = b ∨ ∃ l ∈ ls, x ∈ l := by
  induction ls with
  | nil => intro x hx; simp [Lib.join_nil] at hx
  | cons y ls ih =>
    intro x hx
    cases ls with
    | nil => rw [Lib.join_one] at hx; exact Or.inr ⟨y, by simp, hx⟩
    | cons z ls =>
      rw [join_two] at hx
      rcases List.mem_append.1 hx with hx | hx
      · exact Or.inr ⟨y, by simp, hx⟩
      · rcases List.mem_cons.1 hx with rfl | hx
        · exact Or.inl rfl
        · rcases ih x hx with h | ⟨l, hl, h⟩
          · exact Or.inl h
          · exact Or.inr ⟨l, List.mem_cons_of_mem _ hl, h⟩
theorem inv59 {G : List ByteArray} {P F S : ByteArray} (g : Gd G P F S) : ∀ x ∈ L (invD G P F S), x ≠ 59 := by
  have hF := word_in g.f
  have hA : ∀ x ∈ L (joinD [P, F]), x ≠ 59 := fun x hx => by
    rw [L_two P F hF.1] at hx
    by_cases h : P.size = 0
    · rw [if_pos h] at hx; exact word59 g.f x hx
    · rw [if_neg h] at hx
      rcases List.mem_append.1 hx with hx | hx
      · exact part59 g.p h x hx
      · rcases List.mem_cons.1 hx with rfl | hx
        · decide
        · exact word59 g.f x hx
  have hB : ∀ x ∈ L (joinD G), x ≠ 59 := fun x hx => by
    rw [B_L g] at hx
    rcases join_mem 32 _ x hx with rfl | ⟨l, hl, hx⟩
    · decide
    · obtain ⟨w, hw, rfl⟩ := List.mem_map.1 hl
      exact word59 (g.gw w hw) x hx
  have hS : ∀ x ∈ L S, x ≠ 59 := fun x hx => by
    rcases g.s with h | h
    · rw [L_nil h] at hx; cases hx
    · exact word59 h x hx
  have hc : ∀ (X Y : List UInt8), (∀ x ∈ X, x ≠ 59) → (∀ x ∈ Y, x ≠ 59) → ∀ x ∈ X ++ 44 :: 32 :: Y, x ≠ 59 := fun X Y h1 h2 x hx => by
    rcases List.mem_append.1 hx with hx | hx
    · exact h1 x hx
    · rcases List.mem_cons.1 hx with rfl | hx
      · decide
      · rcases List.mem_cons.1 hx with rfl | hx
        · decide
        · exact h2 x hx
  rw [inv_L (G := G) (P := P) (F := F) (S := S)]
  split
  · exact hA
  · split
    · exact hc _ _ hA hB
    · exact hc _ _ hA (hc _ _ hB hS)
-- the library's split at '; '
theorem occ_free59 (A X : List UInt8) (h : ∀ x ∈ A, x ≠ 59) : Lib.NoOcc (A ++ X) [59, 32] A.length := by
  intro j hj
  unfold Lib.occAt
  rw [List.drop_append_of_le_length (by omega)]
  cases hd : A.drop j with
  | nil => have := congrArg List.length hd; simp at this; omega
  | cons a r =>
    have ha : a ∈ A := List.mem_of_mem_drop (by rw [hd]; simp)
    show ((59 == a) && _) = false
    rw [beq_false_of_ne (fun e => h a ha e.symm)]; rfl
def sepN : ByteArray := ⟨#[59, 32]⟩
theorem sepN_L : sepN.data.toList = [59, 32] := rfl
theorem sepN_size : sepN.size = 2 := rfl
def splN (s : ByteArray) : List ByteArray := Lib.splitB sepN 0 (Lib.countB s sepN) s
theorem splN_none (s : ByteArray) (h : ∀ x ∈ L s, x ≠ 59) : splN s = [s] := by
  have hi : Lib.indexB s sepN = -1 := by
    unfold Lib.indexB; rw [sepN_L]
    refine Lib.index_none (fun j hj => ?_)
    by_cases c : j < (L s).length
    · have := occ_free59 (L s) [] h j c
      rwa [List.append_nil] at this
    · unfold Lib.occAt
      rw [List.drop_of_length_le (show s.data.toList.length ≤ j from Nat.le_of_not_lt c)]; rfl
  unfold splN
  exact Lib.splitB_miss _ _ _ _ hi
theorem splN_at (s : ByteArray) (A B : List UInt8) (hi : Lib.indexB s sepN = (A.length : Nat)) (e : L s = A ++ 59 :: 32 :: B) : splN s = mkB A :: splN (mkB B) := by
  have hc := Lib.countB_hit s sepN A.length (by rw [sepN_size]; omega) hi
  have hx : s.extract (A.length + sepN.size) s.size = mkB B := by
    apply L_inj
    rw [L_extract, L_mk, e, sepN_size, ← List.drop_drop, List.drop_left]
    simp only [List.drop_succ_cons, List.drop_zero]
    have := congrArg List.length e
    rw [L_len] at this
    simp at this
    exact List.take_of_length_le (by omega)
  have ha : s.extract 0 (A.length + 0) = mkB A := by
    apply L_inj
    rw [L_extract, L_mk, e, List.drop_zero, Nat.add_zero, Nat.sub_zero, List.take_left]
  unfold splN
  rw [hc, Nat.add_comm 1, Lib.splitB_hit _ _ _ _ _ hi, hx, ha]
theorem splN_hit (s : ByteArray) (A B : List UInt8) (h : ∀ x ∈ A, x ≠ 59) (e : L s = A ++ 59 :: 32 :: B) : splN s = mkB A :: splN (mkB B) := by
  refine splN_at s A B ?_ e
  unfold Lib.indexB; rw [sepN_L]
  show Lib.index (L s) [59, 32] = _
  rw [e]
  exact Lib.index_hit (occ_free59 A _ h) (by simp) (by unfold Lib.occAt; rw [List.drop_left]; rfl)
theorem splN_cases (s : ByteArray) : splN s = [s] ∨ ∃ A B : List UInt8, L s = A ++ 59 :: 32 :: B ∧ splN s = mkB A :: splN (mkB B) := by
  rcases Lib.index_spec (L s) [59, 32] with ⟨hm, _⟩ | ⟨i, hi, hl, ho, _⟩
  · exact Or.inl (Lib.splitB_miss _ _ _ _ hm)
  · right
    unfold Lib.occAt at ho
    obtain ⟨B, hB⟩ := List.isPrefixOf_iff_prefix.1 ho
    have e : L s = (L s).take i ++ 59 :: 32 :: B := by
      have h := (List.take_append_drop i (L s)).symm
      rw [← hB] at h
      exact h
    refine ⟨(L s).take i, B, e, splN_at s _ B ?_ e⟩
    rw [List.length_take, Nat.min_eq_left hl]
    exact hi
theorem splN_len (s : ByteArray) : (splN s).length = Lib.countB s sepN + 1 := Lib.splitB_all sepN (by rw [sepN_size]; omega) 0 _ s rfl
theorem splN_size (s : ByteArray) : ∀ p ∈ splN s, p.size ≤ s.size := by
  have key : ∀ (k : Nat) (s : ByteArray), ∀ p ∈ Lib.splitB sepN 0 k s, p.size ≤ s.size := by
    intro k
    induction k with
    | zero => intro s p hp; rw [Lib.splitB_zero] at hp; rw [List.mem_singleton.1 hp]; exact Nat.le_refl _
    | succ k ih =>
      intro s p hp
      rcases Lib.indexB_cases s sepN with hm | ⟨i, hi, hr⟩
      · rw [Lib.splitB_miss _ _ _ _ hm] at hp
        rw [List.mem_singleton.1 hp]; exact Nat.le_refl _
      · rw [Lib.splitB_hit _ _ _ _ i hi] at hp
        rcases List.mem_cons.1 hp with rfl | hp
        · rw [ByteArray.size_extract]; omega
        · have := ih _ p hp
          rw [ByteArray.size_extract] at this; omega
  exact key _ s
theorem split_N (s : ByteArray) (hs : s.size ≤ 1048576) : strings_Split.f s (⟨#[59, 32]⟩ : ByteArray) = some (splN s) := by
  have hc := Lib.countB_le sepN (by rw [sepN_size]; omega) s.size s (Nat.le_refl _)
  show strings_Split.f s sepN = _
  unfold strings_Split.f
  exact if_pos ⟨by omega, by rw [sepN_size]; omega, splN_len s, by omega⟩
-- the text of a list of names
def invS (x : NmS) : ByteArray := invD x.f0 x.f1 x.f2 x.f3
def nmR (r : Rd) : NmS := ⟨r.1, r.2.1, r.2.2.1, r.2.2.2.1⟩
def txtN : List NmS → List UInt8
  | [] => []
  | [x] => L (invS x)
  | x :: y :: r => L (invS x) ++ 59 :: 32 :: txtN (y :: r)
theorem specR_of {x : NmS} (h : goodS x = true) : specR (invS x) = (x.f0, x.f1, x.f2, x.f3, true) := spec_yesP (gd_of h) h
theorem specR_ok (w : ByteArray) (h : (specR w).2.2.2.2 = true) : goodS (nmR (specR w)) = true ∧ invS (nmR (specR w)) = w := by
  have key : ∀ r : Rd, r.2.2.2.2 = true → (∃ G P F S, r = finP w G P F S) ∨ r = none5 → goodS (nmR r) = true ∧ invS (nmR r) = w := by
    rintro r h (⟨G, P, F, S, rfl⟩ | rfl)
    · unfold finP at h ⊢
      by_cases hg : goodN G P F S = true
      · rw [if_pos hg] at h ⊢
        by_cases he : (invD G P F S).toList = w.toList
        · rw [if_pos he]; exact ⟨hg, toList_eq_iff.1 he⟩
        · rw [if_neg he] at h; cases h
      · rw [if_neg hg] at h; cases h
    · cases h
  refine key _ h ?_
  unfold specR
  split
  · exact Or.inr rfl
  · exact Or.inl ⟨_, _, _, _, rfl⟩
theorem inv59S {x : NmS} (h : goodS x = true) : ∀ b ∈ L (invS x), b ≠ 59 := inv59 (gd_of h)
theorem splN_txt (ns : List NmS) : ∀ x : NmS, goodS x = true → (∀ y ∈ ns, goodS y = true) → splN (mkB (txtN (x :: ns))) = (x :: ns).map invS := by
  induction ns with
  | nil => intro x hx _; show splN (mkB (L (invS x))) = _; rw [mk_L]; exact splN_none _ (inv59S hx)
  | cons y ns ih =>
    intro x hx h
    rw [splN_hit (mkB (txtN (x :: y :: ns))) (L (invS x)) (txtN (y :: ns)) (inv59S hx) (L_mk _), ih y (h y (by simp)) (fun z hz => h z (by simp [hz])), mk_L]
    rfl
theorem txt_splN (ns : List NmS) : ∀ (x : NmS) (s : ByteArray), splN s = (x :: ns).map invS → s = mkB (txtN (x :: ns)) := by
  induction ns with
  | nil =>
    intro x s h
    rcases splN_cases s with h1 | ⟨A, B, e, h1⟩
    · rw [h1] at h
      have : s = invS x := (List.cons.inj h).1
      rw [this]; exact (mk_L _).symm
    · rw [h1] at h
      have h2 := (List.cons.inj h).2
      have := splN_len (mkB B)
      rw [h2] at this; simp at this
  | cons y ns ih =>
    intro x s h
    rcases splN_cases s with h1 | ⟨A, B, e, h1⟩
    · rw [h1] at h; cases (List.cons.inj h).2
    · rw [h1] at h
      obtain ⟨h2, h3⟩ := List.cons.inj h
      have h4 := ih y (mkB B) h3
      apply L_inj
      rw [L_mk, e]
      have ea : A = L (invS x) := by rw [← h2, L_mk]
      have eb : B = txtN (y :: ns) := by rw [← L_mk B, h4, L_mk]
      rw [ea, eb]; rfl
-- the reference's words
def spS (x : NmS) : List UInt8 := 32 :: L (invS x)
theorem free_sp {x : NmS} (h : goodS x = true) : ∀ b ∈ spS x, b ≠ 59 := fun b hb => by
  rcases List.mem_cons.1 hb with rfl | hb
  · decide
  · exact inv59S h b hb
theorem spl_txt (ns : List NmS) : ∀ x : NmS, goodS x = true → (∀ y ∈ ns, goodS y = true) → spl 59 (txtN (x :: ns)) = L (invS x) :: ns.map spS := by
  have key : ∀ (ns : List NmS) (x : NmS), goodS x = true → (∀ y ∈ ns, goodS y = true) → spl 59 (32 :: txtN (x :: ns)) = spS x :: ns.map spS := by
    intro ns
    induction ns with
    | nil => intro x hx _; exact spl_free 59 _ (free_sp hx)
    | cons y ns ih =>
      intro x hx h
      show spl 59 (spS x ++ 59 :: (32 :: txtN (y :: ns))) = _
      rw [spl_app, spl_free 59 _ (free_sp hx), ih y (h y (by simp)) (fun z hz => h z (by simp [hz]))]; rfl
  intro x hx h
  cases ns with
  | nil => exact spl_free 59 _ (inv59S hx)
  | cons y ns =>
    show spl 59 (L (invS x) ++ 59 :: (32 :: txtN (y :: ns))) = _
    rw [spl_app, spl_free 59 _ (inv59S hx), key ns y (h y (by simp)) (fun z hz => h z (by simp [hz]))]; rfl
theorem join_txt (ns : List NmS) : ∀ x : NmS, Lib.join (L (invS x) :: ns.map spS) [59] = txtN (x :: ns) := by
  have key : ∀ (ns : List NmS) (x : NmS), Lib.join (spS x :: ns.map spS) [59] = 32 :: txtN (x :: ns) := by
    intro ns
    induction ns with
    | nil => intro x; exact Lib.join_one _ _
    | cons y ns ih => intro x; rw [List.map_cons, join_two, ih y]; rfl
  intro x
  cases ns with
  | nil => exact Lib.join_one _ _
  | cons y ns => rw [List.map_cons, join_two, key]; rfl
-- what the program and the reference read
def okW (w : ByteArray) : Bool := (specR w).2.2.2.2
abbrev Ls := List NmS × Bool
def goI : List NmS → List ByteArray → Ls
  | out, [] => (out, true)
  | out, w :: ws => if okW w = true ∧ out.length ≠ 4 then goI (out ++ [nmR (specR w)]) ws else ([], false)
def endS (out : List NmS) : Ls := if listD out = true then (out, true) else ([], false)
def goT : List NmS → List ByteArray → Ls
  | out, [] => endS out
  | out, p :: ps => if (p.size ≠ 0 ∧ bt p 0 = 32) ∧ okW (tl1 p) = true then goT (out ++ [nmR (specR (tl1 p))]) ps else ([], false)
def goS : List ByteArray → Ls
  | [] => endS []
  | p :: ps => if okW p = true then goT [nmR (specR p)] ps else ([], false)
theorem nm_of {x : NmS} (h : goodS x = true) : okW (invS x) = true ∧ nmR (specR (invS x)) = x := by
  unfold okW; rw [specR_of h]; exact ⟨rfl, rfl⟩
theorem goI_yes (ns : List NmS) : ∀ out : List NmS, (∀ x ∈ ns, goodS x = true) → out.length + ns.length ≤ 4 → goI out (ns.map invS) = (out ++ ns, true) := by
  induction ns with
  | nil => intro out _ _; simp [goI]
  | cons x ns ih =>
    intro out h hl
    rw [List.length_cons] at hl
    have hx := nm_of (h x (by simp))
    rw [List.map_cons, goI, if_pos ⟨hx.1, by omega⟩, hx.2, ih _ (fun y hy => h y (by simp [hy])) (by rw [List.length_append, List.length_singleton]; omega)]
    simp
theorem goI_no (ws : List ByteArray) : ∀ out : List NmS, goI out ws = ([], false) ∨ ∃ ns : List NmS, (∀ x ∈ ns, goodS x = true) ∧ ws = ns.map invS ∧ (out.length ≤ 4 → out.length + ns.length ≤ 4) ∧ goI out ws = (out ++ ns, true) := by
  induction ws with
  | nil => intro out; exact Or.inr ⟨[], by simp, rfl, by simp, by simp [goI]⟩
  | cons w ws ih =>
    intro out
    rw [goI]
    by_cases c : okW w = true ∧ out.length ≠ 4
    · rw [if_pos c]
      rcases ih (out ++ [nmR (specR w)]) with h | ⟨ns, h1, h2, h3, h4⟩
      · exact Or.inl h
      · obtain ⟨g, e⟩ := specR_ok w c.1
        refine Or.inr ⟨nmR (specR w) :: ns, ?_, ?_, ?_, ?_⟩
        · intro x hx
          rcases List.mem_cons.1 hx with rfl | hx
          · exact g
          · exact h1 x hx
        · rw [List.map_cons, e, ← h2]
        · intro ho
          rw [List.length_append, List.length_singleton] at h3
          have := h3 (by have := c.2; omega)
          rw [List.length_cons]; omega
        · rw [h4]; simp
    · rw [if_neg c]; exact Or.inl rfl
theorem list_of {ns : List NmS} (h : ∀ x ∈ ns, goodS x = true) (hl : ns.length ≤ 4) : listD ns = true := by
  unfold listD
  rw [Bool.and_eq_true]
  exact ⟨List.all_eq_true.2 h, decide_eq_true hl⟩
theorem sp_of (x : NmS) : (mkB (spS x)).size ≠ 0 ∧ bt (mkB (spS x)) 0 = 32 ∧ tl1 (mkB (spS x)) = invS x := by
  refine ⟨by rw [size_mk]; simp [spS], bt_sp _, ?_⟩
  unfold spS
  rw [tl1_sp, mk_L]
theorem goT_yes (ns : List NmS) : ∀ out : List NmS, (∀ x ∈ ns, goodS x = true) → goT out (ns.map fun x => mkB (spS x)) = endS (out ++ ns) := by
  induction ns with
  | nil => intro out _; simp [goT]
  | cons x ns ih =>
    intro out h
    have hx := nm_of (h x (by simp))
    obtain ⟨a, b, c⟩ := sp_of x
    rw [List.map_cons, goT, c, if_pos ⟨⟨a, b⟩, hx.1⟩, hx.2, ih _ (fun y hy => h y (by simp [hy]))]
    simp
theorem sp_back (p : ByteArray) (h0 : p.size ≠ 0) (hb : bt p 0 = 32) : L p = 32 :: L (tl1 p) := by
  have h1 := bt_getD p 0 (by omega)
  rw [show ((0 : Nat) : Int) = 0 from rfl, hb] at h1
  have hl : (L p).length = p.size := L_len p
  unfold tl1
  rw [L_extract, List.take_of_length_le (by rw [List.length_drop]; omega)]
  cases hp : L p with
  | nil => rw [hp] at hl; simp at hl; omega
  | cons a r =>
    rw [hp] at h1
    have ha : a = 32 := by
      apply UInt8.toNat_inj.1
      have : (32 : Int) = (a.toNat : Int) := h1
      rw [show (32 : UInt8).toNat = 32 from rfl]
      omega
    rw [ha]; rfl
theorem goT_no (ps : List ByteArray) : ∀ out : List NmS, goT out ps = ([], false) ∨ ∃ ns : List NmS, (∀ x ∈ ns, goodS x = true) ∧ ps.map L = ns.map spS ∧ goT out ps = endS (out ++ ns) := by
  induction ps with
  | nil => intro out; exact Or.inr ⟨[], by simp, rfl, by simp [goT]⟩
  | cons p ps ih =>
    intro out
    rw [goT]
    by_cases c : (p.size ≠ 0 ∧ bt p 0 = 32) ∧ okW (tl1 p) = true
    · rw [if_pos c]
      rcases ih (out ++ [nmR (specR (tl1 p))]) with h | ⟨ns, h1, h2, h4⟩
      · exact Or.inl h
      · obtain ⟨g, e⟩ := specR_ok _ c.2
        refine Or.inr ⟨nmR (specR (tl1 p)) :: ns, ?_, ?_, ?_⟩
        · intro x hx
          rcases List.mem_cons.1 hx with rfl | hx
          · exact g
          · exact h1 x hx
        · rw [List.map_cons, List.map_cons, h2, sp_back p c.1.1 c.1.2]
          unfold spS
          rw [e]
        · rw [h4]; simp
    · rw [if_neg c]; exact Or.inl rfl
def partsN (s : ByteArray) : List ByteArray := (spl 59 (L s)).map mkB
def namI (s : ByteArray) : Ls := if s.size = 0 then ([], true) else goI [] (splN s)
def namS (s : ByteArray) : Ls := if s.size = 0 then ([], true) else goS ((partsN s).take 5)
theorem parts_txt (ns : List NmS) (x : NmS) (hx : goodS x = true) (h : ∀ y ∈ ns, goodS y = true) : partsN (mkB (txtN (x :: ns))) = invS x :: ns.map fun y => mkB (spS y) := by
  unfold partsN
  rw [L_mk, spl_txt ns x hx h, List.map_cons, mk_L, List.map_map]; rfl
theorem goS_yes (ns : List NmS) (x : NmS) (hx : goodS x = true) (h : ∀ y ∈ ns, goodS y = true) (hl : ns.length + 1 ≤ 4) : goS ((partsN (mkB (txtN (x :: ns)))).take 5) = (x :: ns, true) := by
  have hn := nm_of hx
  rw [parts_txt ns x hx h, List.take_of_length_le (by rw [List.length_cons, List.length_map]; omega), goS, if_pos hn.1, hn.2, goT_yes ns _ h]
  unfold endS
  rw [if_pos (list_of (fun y hy => by
    rcases List.mem_cons.1 hy with rfl | hy
    · exact hx
    · exact h y hy) (by simp; omega))]
  rfl
theorem partsN_L (s : ByteArray) : (partsN s).map L = spl 59 (L s) := by
  unfold partsN
  rw [List.map_map]
  have : (L ∘ mkB) = id := by funext x; exact L_mk x
  rw [this, List.map_id]
theorem goS_no (s : ByteArray) : goS ((partsN s).take 5) = ([], false) ∨ ∃ (x : NmS) (ns : List NmS), goodS x = true ∧ (∀ y ∈ ns, goodS y = true) ∧ ns.length + 1 ≤ 4 ∧ s = mkB (txtN (x :: ns)) := by
  have hL := partsN_L s
  have hne := spl_ne 59 (L s)
  cases hp : partsN s with
  | nil => rw [hp] at hL; exact absurd hL.symm hne
  | cons p ps =>
    rw [List.take_succ_cons, goS]
    by_cases c : okW p = true
    · rw [if_pos c]
      rcases goT_no (ps.take 4) [nmR (specR p)] with h | ⟨ns, h1, h2, h3⟩
      · exact Or.inl h
      · rw [h3]
        unfold endS
        by_cases d : listD ([nmR (specR p)] ++ ns) = true
        · right
          obtain ⟨g, e⟩ := specR_ok p c
          obtain ⟨d1, d2⟩ := list_good d
          have hn : ns.length + 1 ≤ 4 := by simp at d1; omega
          have hl := congrArg List.length h2
          rw [List.length_map, List.length_map, List.length_take] at hl
          rw [List.take_of_length_le (by omega)] at h2
          refine ⟨_, ns, g, h1, hn, ?_⟩
          rw [hp, List.map_cons, h2] at hL
          apply L_inj
          rw [L_mk, ← join_txt, e, hL, join_spl]
        · rw [if_neg d]; exact Or.inl rfl
    · rw [if_neg c]; exact Or.inl rfl
theorem names_same (s : ByteArray) : namI s = namS s := by
  unfold namI namS
  by_cases h0 : s.size = 0
  · rw [if_pos h0, if_pos h0]
  · rw [if_neg h0, if_neg h0]
    have yes : ∀ (x : NmS) (ns : List NmS), goodS x = true → (∀ y ∈ ns, goodS y = true) → ns.length + 1 ≤ 4 → s = mkB (txtN (x :: ns)) → goI [] (splN s) = goS ((partsN s).take 5) := by
      intro x ns hx h hl e
      subst e
      rw [goS_yes ns x hx h hl, splN_txt ns x hx h, goI_yes (x :: ns) [] (fun y hy => by
        rcases List.mem_cons.1 hy with rfl | hy
        · exact hx
        · exact h y hy) (by simp; omega)]
      rfl
    rcases goI_no (splN s) [] with h | ⟨ns, h1, h2, h3, h4⟩
    · rcases goS_no s with g | ⟨x, ns, a, b, c, d⟩
      · rw [h, g]
      · exact yes x ns a b c d
    · cases ns with
      | nil =>
        have := splN_len s
        rw [h2] at this; simp at this
      | cons x ns =>
        have := h3 (by simp)
        simp at this
        exact yes x ns (h1 x (by simp)) (fun y hy => h1 y (by simp [hy])) (by omega) (txt_splN ns x s h2)
theorem namI_len (s : ByteArray) : (namI s).1.length ≤ 4 ∧ ∀ x ∈ (namI s).1, goodS x = true := by
  unfold namI
  split
  · exact ⟨by simp, by simp⟩
  · rcases goI_no (splN s) [] with h | ⟨ns, h1, h2, h3, h4⟩
    · rw [h]; exact ⟨by simp, by simp⟩
    · rw [h4]
      have := h3 (by simp)
      simp at this
      exact ⟨by simpa using this, by simpa using h1⟩
theorem mkN_drop (l : List S31) (k : Int) (i : Nat) (hi : i < l.length) : (mkN k l)[i]'(by rw [mkN_len]; exact hi) = ⟨mts (k + cntN (l.take i)) l[i].f0.length, mt (k + cntN (l.take i) + (l[i].f0.length : Int)), mt (k + cntN (l.take i) + (l[i].f0.length : Int) + 1), mt (k + cntN (l.take i) + (l[i].f0.length : Int) + 2)⟩ := by
  have e : mkN k l = mkN k (l.take i) ++ mkN (k + cntN (l.take i)) (l.drop i) := by rw [← mkN_app, List.take_append_drop]
  have hl : (mkN k (l.take i)).length = i := by rw [mkN_len, List.length_take]; omega
  have h2 : (mkN k l)[i]? = some ⟨mts (k + cntN (l.take i)) l[i].f0.length, mt (k + cntN (l.take i) + (l[i].f0.length : Int)), mt (k + cntN (l.take i) + (l[i].f0.length : Int) + 1), mt (k + cntN (l.take i) + (l[i].f0.length : Int) + 2)⟩ := by
    rw [e, List.getElem?_append_right (by omega), hl, Nat.sub_self, List.drop_eq_getElem_cons hi]
    rfl
  rw [List.getElem?_eq_getElem (by rw [mkN_len]; exact hi)] at h2
  exact Option.some.inj h2
theorem w_three (x : Int) (h0 : 0 ≤ x) (h1 : x + 3 ≤ 4611686018427387904) : wrap64 (x + 1) = x + 1 ∧ wrap64 (x + 1 + 1) = x + 2 ∧ wrap64 (x + 2 + 1) = x + 3 :=
  ⟨w64 (by omega) (by omega), (w64 (by omega) (by omega)).trans (by omega), (w64 (by omega) (by omega)).trans (by omega)⟩
theorem heldN_loop (l : List S31) (a : Int) (h0 : 0 ≤ a) (h1 : a + cntN l ≤ 4611686018427387904) (d : Nat) : ∀ i : Nat, i ≤ l.length → l.length - i = d → Ev (fun k => laws_heldNameS.l0 k (mkN a l) (a + cntN (l.take i)) (i : Int)) (a + cntN l) := by
  have hz := cntN_len l
  have hlm : (mkN a l).length = l.length := mkN_len l a
  induction d with
  | zero =>
    intro i h2 hd
    have e : l.take i = l := List.take_of_length_le (by omega)
    refine Ev.step (f := fun _ => some (a + cntN l)) (fun k => ?_) (Ev.now _)
    simp only [laws_heldNameS.l0]; rw [if_neg (by omega), e]
  | succ d ih =>
    intro i h2 hd
    have hi : i < l.length := by omega
    have hn := ih (i + 1) (by omega) (by omega)
    have hst := cntN_step l i hi
    have hc0 := cntN_nonneg (l.take i)
    rw [hst.1, elN_eq, ← Int.add_assoc] at hn
    have hr : rd_T31 (mkN a l) (i : Int) = ⟨mts (a + cntN (l.take i)) l[i].f0.length, mt (a + cntN (l.take i) + (l[i].f0.length : Int)), mt (a + cntN (l.take i) + (l[i].f0.length : Int) + 1), mt (a + cntN (l.take i) + (l[i].f0.length : Int) + 2)⟩ := by
      rw [← mkN_drop l a i hi]
      simp [rd_T31, hlm, hi]
    have hb : a + cntN (l.take i) + (l[i].f0.length : Int) + 3 ≤ 4611686018427387904 := by
      have := hst.2
      rw [hst.1, elN_eq] at this
      omega
    have hn0 : 0 ≤ a + cntN (l.take i) := by omega
    generalize a + cntN (l.take i) = n at *
    generalize l[i].f0.length = m at *
    have g1 : (i : Int) < ((mkN a l).length : Int) := by omega
    have g2 : (0 : Int) ≤ (i : Int) := by omega
    have g3 : ¬ n + (m : Int) < 0 := by omega
    have t1 := mt_ev (n + (m : Int)) (by omega) (by omega)
    have t2 := mt_ev (n + (m : Int) + 1) (by omega) (by omega)
    have t3 := mt_ev (n + (m : Int) + 2) (by omega) (by omega)
    have hs := heldS_ev n m hn0 (by omega)
    have e3 : n + ((m : Int) + 3) = n + (m : Int) + 3 := by omega
    rw [e3] at hn
    have hi4 : i ≤ 4611686018427387904 := by omega
    have hnm : 0 ≤ n + (m : Int) := by omega
    have w4 := mk_i i hi4
    obtain ⟨w1, w2, w3⟩ := w_three (n + (m : Int)) hnm hb
    refine Ev.step (f := fun k => (laws_heldStringS.f k (mts n m) n).bind fun t316 => (if t316 < 0 then (some (-1)) else ((laws_markText.f k t316).bind fun t318 => (if (mt (n + (m : Int))).toList = t318.toList then ((laws_markText.f k (wrap64 (t316 + 1))).bind fun t320 => (if (mt (n + (m : Int) + 1)).toList = t320.toList then ((laws_markText.f k (wrap64 ((wrap64 (t316 + 1)) + 1))).bind fun t322 => (if (mt (n + (m : Int) + 2)).toList = t322.toList then (laws_heldNameS.l0 k (mkN a l) (wrap64 ((wrap64 ((wrap64 (t316 + 1)) + 1)) + 1)) (wrap64 ((i : Int) + 1))) else (some (-1)))) else (some (-1)))) else (some (-1)))))) (fun k => ?_) ?_
    · simp only [laws_heldNameS.l0, hr]
      rw [if_pos g1, if_pos g2]
    · refine Ev.bind hs (ev_neg g3 (Ev.bind t1 (ev_pos rfl ?_)))
      simp only [w1, w2, w3, w4]
      refine Ev.bind t2 (ev_pos rfl (Ev.bind t3 (ev_pos rfl ?_)))
      exact hn
theorem heldN_ev (l : List S31) (a : Int) (h0 : 0 ≤ a) (h1 : a + cntN l ≤ 4611686018427387904) : Ev (fun k => laws_heldNameS.f k (mkN a l) a) (a + cntN l) := by
  unfold laws_heldNameS.f
  have := heldN_loop l a h0 h1 l.length 0 (by omega) rfl
  simpa [cntN] using this
end Go.Proofs.YtefoiofododliaaDoor.G

namespace Go.Proofs.YtefoiofododliaaDoor.Pure
open Go.RowKit Go.Proofs.YtefoiofododliaaDoor.G Go.Proofs.YtefoiofododliaaDoorW.PrintWords Go.Proofs.YtefoiofododliaaDoorW.PrintLast Go.Proofs.YtefoiofododliaaDoor.B Go.Proofs.YtefoiofododliaaDoor.Opn
set_option linter.unusedVariables false
set_option linter.unusedSimpArgs false
theorem ev_shift {α : Type} {f : Nat → Option α} {v : α} (h : Ev (fun k => f (k + 1)) v) : Ev f v := Ev.step (f := fun k => f (k + 1)) (fun _ => rfl) h
theorem w_next (i : Nat) (h : i ≤ 4611686018427387904) : wrap64 ((i : Int) + 1) = ((i + 1 : Nat) : Int) := by rw [w64 (by omega) (by omega)]; rfl
theorem rd_B (ps : List ByteArray) (i : Nat) (h : i < ps.length) : rdOf ByteArray.empty ps (i : Int) = ps[i] := by rw [rd_get ps i h]
theorem impl_loop (ws : List ByteArray) (hw : ∀ p ∈ ws, p.size ≤ 1048576) (hl : ws.length ≤ 4194304) (d : Nat) : ∀ (i : Nat) (out : List NmS), out.length ≤ i → i ≤ ws.length → ws.length - i = d → Ev (fun k => impl_parseNames.l0 k out ws (ws.length : Int) (i : Int)) (goI out (ws.drop i)) := by
  induction d with
  | zero =>
    intro i out ho h1 hd
    refine Ev.step (f := fun _ => some (out, true)) (fun k => ?_) (ev_eq (Ev.now _) ?_)
    · simp only [impl_parseNames.l0]; rw [if_neg (by omega)]
    · rw [List.drop_of_length_le (by omega)]; rfl
  | succ d ih =>
    intro i out ho h1 hd
    have hi : i < ws.length := by omega
    have hr := rd_B ws i hi
    have hn := w_next i (by omega)
    have hp : Ev (fun k => impl_ParseInverse.f k ws[i]) (specR ws[i]) := by
      have h := impl_parse ws[i] (hw _ (List.getElem_mem hi))
      rw [parse_same] at h
      exact h
    rw [List.drop_eq_getElem_cons hi, goI]
    apply ev_shift
    simp only [impl_parseNames.l0, hr, hn]
    refine ev_pos (by omega) (ev_pos (by omega) (ev_pos (by omega) (Ev.bind hp ?_)))
    by_cases c : okW ws[i] = true
    · refine ev_pos c ?_
      by_cases e : out.length = 4
      · rw [if_neg (fun x => x.2 e)]; exact ev_pos (by omega) (Ev.now _)
      · rw [if_pos ⟨c, e⟩]
        exact ev_neg (by omega) (ev_pos (by omega) (ih (i + 1) _ (by rw [List.length_append, List.length_singleton]; omega) (by omega) (by omega)))
    · rw [if_neg (fun x => c x.1)]
      exact ev_neg c (Ev.now _)
theorem impl_names (s : ByteArray) (hs : s.size ≤ 1048576) : Ev (fun k => impl_parseNames.f k s) (namI s) := by
  unfold impl_parseNames.f namI
  refine ev_bind0 rfl ?_
  by_cases c : s.size = 0
  · rw [if_pos c]; exact ev_pos ((nil_iff _).2 c) (Ev.now _)
  · rw [if_neg c]
    have hl := splN_len s
    have hc := Lib.countB_le sepN (by rw [sepN_size]; omega) s.size s (Nat.le_refl _)
    refine ev_neg (fun x => c ((nil_iff _).1 x)) (ev_bind0 (split_N s hs) ?_)
    have := impl_loop (splN s) (fun p hp => Nat.le_trans (splN_size s p hp) hs) (by omega) _ 0 [] (by simp) (by omega) rfl
    rwa [List.drop_zero] at this
theorem tl_size (p : ByteArray) : (tl1 p).size ≤ p.size := by unfold tl1; rw [ByteArray.size_extract]; omega
theorem specR_okS (w : ByteArray) (h : okW w = true) : okS (nmR (specR w)) := by
  have g := gd_of (specR_ok w h).1
  have h1 := part_size g.p
  have h3 := g.g3
  exact ⟨by omega, by omega⟩
theorem spec_end (ps : List ByteArray) (out : List NmS) (ho : ∀ x ∈ out, okS x) (hl : out.length ≤ 5) : Ev (fun k => spec_l2List.f k out) (listD out) := spec_list out ho (by omega)
theorem spec_stop (ps : List ByteArray) (out : List NmS) (ho : ∀ x ∈ out, okS x) (hl : out.length ≤ 5) (i : Int) : Ev (fun k => spec_l5Names.j1 k out ps i false) (endS out) := by
  apply ev_shift
  simp only [spec_l5Names.j1]
  refine ev_neg (by simp) (Ev.bind (spec_end ps out ho hl) ?_)
  unfold endS
  exact ev_ite (fun _ => Ev.now _) (fun _ => Ev.now _)
theorem spec_loop (ps : List ByteArray) (hw : ∀ p ∈ ps, p.size ≤ 1048576) (hl : ps.length ≤ 4194304) (d : Nat) : ∀ (i : Nat) (out : List NmS), 1 ≤ i → out.length = i → (∀ x ∈ out, okS x) → i ≤ ps.length → i ≤ 5 → min ps.length 5 - i = d → Ev (fun k => spec_l5Names.l0 k out ps (i : Int)) (goT out ((ps.take 5).drop i)) := by
  induction d with
  | zero =>
    intro i out h0 hi0 ho h1 h5 hd
    rw [List.drop_of_length_le (by rw [List.length_take]; omega)]
    have hs := spec_stop ps out ho (by omega) (i : Int)
    apply ev_shift
    simp only [spec_l5Names.l0]
    by_cases c : i < ps.length
    · refine ev_pos (by omega) ?_
      rw [decide_eq_false (by omega)]; exact hs
    · exact ev_neg (by omega) hs
  | succ d ih =>
    intro i out h0 hi0 ho h1 h5 hd
    have hi : i < ps.length := by omega
    have hi' : i < (ps.take 5).length := by rw [List.length_take]; omega
    have hr := rd_B ps i hi
    have hn := w_next i (by omega)
    have hz := hw _ (List.getElem_mem hi)
    have ht := tl_size ps[i]
    have hp : Ev (fun k => spec_l2Parse.f k (ps[i].extract 1 ps[i].size)) (specR (tl1 ps[i])) := spec_l2P (tl1 ps[i]) (by omega)
    rw [List.drop_eq_getElem_cons hi', List.getElem_take, goT]
    have bad : Ev (fun k => spec_l5Names.j2 k out ps (i : Int) ps[i] true) (([] : List NmS), false) := by
      apply ev_shift
      simp only [spec_l5Names.j2]
      exact ev_pos trivial (Ev.now _)
    apply ev_shift
    simp only [spec_l5Names.l0]
    refine ev_pos (by omega) ?_
    rw [decide_eq_true (show (i : Int) ≤ 4 by omega)]
    apply ev_shift
    simp only [spec_l5Names.j1, hr]
    refine ev_pos trivial (ev_pos (by omega) (ev_pos (by omega) (ev_pos (by omega) ?_)))
    by_cases c : ps[i].size = 0
    · rw [if_neg (fun x => x.1.1 c)]
      exact ev_pos ((nil_iff _).2 c) bad
    · refine ev_neg (fun x => c ((nil_iff _).1 x)) (ev_pos (by omega) ?_)
      by_cases e : bt ps[i] 0 = 32
      · have hbb : (bt ps[i] 0 != 32) = false := by rw [e]; rfl
        rw [hbb]
        apply ev_shift
        simp only [spec_l5Names.j2, hn]
        refine ev_neg (by simp) (ev_pos (by omega) (Ev.bind hp ?_))
        by_cases k : okW (tl1 ps[i]) = true
        · rw [if_pos ⟨⟨c, e⟩, k⟩]
          refine ev_pos k (ev_pos (by omega) (ih (i + 1) (out ++ [nmR (specR (tl1 ps[i]))]) (by omega) (by rw [List.length_append, List.length_singleton]; omega) ?_ (by omega) (by omega) (by omega)))
          intro x hx
          rcases List.mem_append.1 hx with hx | hx
          · exact ho x hx
          · rw [List.mem_singleton.1 hx]; exact specR_okS _ k
        · rw [if_neg (fun x => k x.2)]
          exact ev_neg k (Ev.now _)
      · rw [if_neg (fun x => e x.1.2), show (bt ps[i] 0 != 32) = true from bne_iff_ne.2 e]
        exact bad
theorem spec_first (ps : List ByteArray) (hw : ∀ p ∈ ps, p.size ≤ 1048576) (hl : ps.length ≤ 4194304) (hp0 : 0 < ps.length) : Ev (fun k => spec_l5Names.l0 k ([] : List NmS) ps 0) (goS (ps.take 5)) := by
  have hr := rd_B ps 0 hp0
  have hz := hw _ (List.getElem_mem hp0)
  have hp := spec_l2P ps[0] hz
  have hn : wrap64 ((0 : Int) + 1) = 1 := by rw [w64 (by omega) (by omega)]; rfl
  have e0 : ps.take 5 = ps[0] :: (ps.take 5).drop 1 := by
    have hi' : 0 < (ps.take 5).length := by rw [List.length_take]; omega
    have := List.drop_eq_getElem_cons hi'
    rw [List.drop_zero, List.getElem_take] at this
    exact this
  rw [e0, goS]
  apply ev_shift
  simp only [spec_l5Names.l0]
  refine ev_pos (by omega) ?_
  rw [decide_eq_true (show (0 : Int) ≤ 4 by omega)]
  apply ev_shift
  have hr0 : rdOf ByteArray.empty ps 0 = ps[0] := hr
  simp only [spec_l5Names.j1, hr0, hn]
  refine ev_pos trivial (ev_pos (by omega) (ev_pos (by omega) (ev_neg (by omega) (Ev.bind hp ?_))))
  by_cases k : okW ps[0] = true
  · rw [if_pos k]
    refine ev_pos k (ev_pos (by simp) ?_)
    exact spec_loop ps hw hl _ 1 [nmR (specR ps[0])] (by omega) rfl (fun x hx => by rw [List.mem_singleton.1 hx]; exact specR_okS _ k) (by omega) (by omega) rfl
  · rw [if_neg k]
    exact ev_neg k (Ev.now _)
theorem spec_names (s : ByteArray) (hs : s.size ≤ 1048576) : Ev (fun k => spec_l5Names.f k s) (namS s) := by
  unfold spec_l5Names.f namS
  refine ev_bind0 rfl ?_
  by_cases c : s.size = 0
  · rw [if_pos c]; exact ev_pos ((nil_iff _).2 c) (Ev.now _)
  · rw [if_neg c]
    have hlen := spl_length 59 (L s)
    rw [L_len] at hlen
    have hl : (partsN s).length ≤ s.size + 1 := by unfold partsN; rw [List.length_map]; exact hlen
    have h0 : 0 < (partsN s).length := by
      unfold partsN; rw [List.length_map]
      cases h : spl 59 (L s) with
      | nil => exact absurd h (spl_ne 59 _)
      | cons a b => simp
    have hp : ∀ p ∈ partsN s, p.size ≤ 1048576 := fun p hp => by
      obtain ⟨q, hq, rfl⟩ := List.mem_map.1 hp
      have := spl_len 59 (L s) q hq
      rw [L_len] at this
      rw [size_mk]; omega
    exact ev_neg (fun x => c ((nil_iff _).1 x)) (Ev.bind (show Ev (fun k => spec_l1Split.f k s 59) (partsN s) from split_ev s 59 (by omega)) (spec_first _ hp (by omega) h0))
theorem cntN_le (l : List NmS) (h : ∀ x ∈ l, x.f0.length ≤ 1048576) : cntN l ≤ 1048579 * (l.length : Int) := by
  induction l with
  | nil => simp [cntN]
  | cons x r ih =>
    have := ih (fun y hy => h y (List.mem_cons_of_mem _ hy))
    have := h x List.mem_cons_self
    simp only [cntN, elN, List.length_cons]
    omega
theorem FnExactParseNames : laws_FnExactParseNames.Pur := by
  intro s hs
  apply Ev.rounds
  unfold laws_FnExactParseNames.f
  by_cases c : (s.size : Int) > 1048576
  · exact ev_pos c (Ev.now _)
  · refine ev_neg c ?_
    have hz : s.size ≤ 1048576 := by omega
    have hw : Ev (fun k => spec_ParseNames.f k s) (namI s) := by
      unfold spec_ParseNames.f
      have := spec_names s hz
      rw [← names_same] at this
      exact Ev.bind this (Ev.now _)
    have hi : Ev (fun k => impl_ParseNames.f k s) (namI s) := by
      unfold impl_ParseNames.f
      exact Ev.bind (impl_names s hz) (Ev.now _)
    obtain ⟨hl, hg⟩ := namI_len s
    generalize namI s = r at hw hi hl hg
    obtain ⟨l, b⟩ := r
    have hl' : l.length ≤ 4 := hl
    have hG : ∀ x ∈ l, x.f0.length ≤ 3 := fun x hx => (gd_of (hg x hx)).g3
    have hO : ∀ x ∈ l, okS x := fun x hx => by
      have g := gd_of (hg x hx)
      have h1 := part_size g.p
      have h3 := g.g3
      exact ⟨by omega, by omega⟩
    have he := eqL_same l hO (by omega)
    have hc0 := cntN_nonneg l
    have hc1 := cntN_le l (fun x hx => by have := hG x hx; omega)
    have hm : laws_markNameS.f l 1 = some (1 + cntN l) := by
      unfold laws_markNameS.f
      exact if_pos ⟨by omega, by omega⟩
    have hh := heldN_ev l 1 (by omega) (by omega)
    have hb : (b != b) = false := by simp
    have j1 : Ev (fun k => laws_FnExactParseNames.j1 k (mkN 1 l) (1 + cntN l) (b != b)) true := by
      apply ev_shift
      simp only [laws_FnExactParseNames.j1]
      exact ev_neg (by simp) (Ev.bind hh (ev_neg (by omega) (ev_pos rfl (Ev.now _))))
    have j0 : Ev (fun k => laws_FnExactParseNames.j0 k s l b l (b != b)) true := by
      apply ev_shift
      simp only [laws_FnExactParseNames.j0]
      exact ev_neg (by simp) (ev_bind0 hm (Ev.bind hh (ev_neg (by omega) (ev_pos rfl (Ev.bind hi (Ev.bind he (ev_pos rfl j1)))))))
    exact Ev.bind hw (Ev.bind hi (Ev.bind he (ev_pos rfl j0)))
end Go.Proofs.YtefoiofododliaaDoor.Pure
