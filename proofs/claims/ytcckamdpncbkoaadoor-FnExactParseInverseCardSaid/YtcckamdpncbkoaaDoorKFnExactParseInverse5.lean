/- Texts of this session for the law FnExactParseInverse, put together by a program (merge.py): each ends with its namespace; conditions stand with each theorem. -/
import Derived.Test.YtcckamdpncbkoaaDoorKFnExactParseInverse4
import Derived.Test.YtcckamdpncbkoaaDoorKFnExactParseInverse3
import Derived.Test.YtcckamdpncbkoaaDoorKFnExactParseInverse2
namespace Go.Proofs.YtcckamdpncbkoaaDoor.G
open Go.RowKit Go.Proofs.YtcckamdpncbkoaaDoorW.PrintWords Go.Proofs.YtcckamdpncbkoaaDoorW.PrintLast Go.Proofs.YtcckamdpncbkoaaDoor.B
set_option linter.unusedVariables false
set_option linter.unusedSimpArgs false
def sufD (S : ByteArray) : Bool := decide (S.size = 0) || wordD S
def restD (P F S : ByteArray) : Bool := partD P && (greatD F && sufD S)
def goodN (G : List ByteArray) (P F S : ByteArray) : Bool := G.all greatD && (decide (G.length ≤ 3) && restD P F S)
theorem spec_tail (P F S : ByteArray) (hP : P.size ≤ 4294967280) : Ev (fun k => (spec_l2Particle.f k P).bind fun t134 => (if t134 = true then ((spec_l2Word.f k F).bind fun t135 => (if t135 = true then (if 0 < (F.size : Int) then ((spec_l2Upper.f (bt F 0)).bind fun t136 => (if t136 = true then (if S.toList = ([] : List UInt8) then (some true) else ((spec_l2Word.f k S).bind fun t137 => (some t137))) else (some false))) else (none)) else (some false))) else (some false))) (restD P F S) := by
  unfold restD
  refine Ev.bind (spec_part P hP) ?_
  cases partD P with
  | false => exact ev_neg (by simp) (Ev.now _)
  | true =>
    refine ev_pos rfl (Ev.bind (spec_word F) ?_)
    unfold greatD
    cases h : wordD F with
    | false => exact ev_neg (by simp) (Ev.now _)
    | true =>
      have := word_in h
      refine ev_pos rfl (ev_pos (by omega) (ev_bind0 (spec_up _) ?_))
      cases upD (bt F 0) with
      | false => exact ev_neg (by simp) (Ev.now _)
      | true =>
        refine ev_pos rfl ?_
        unfold sufD
        by_cases h : S.size = 0
        · exact ev_pos ((nil_iff S).2 h) (ev_eq (Ev.now _) (by simp [h]))
        · exact ev_neg (fun e => h ((nil_iff S).1 e)) (Ev.bind (spec_word S) (ev_eq (Ev.now _) (by simp [h])))
theorem spec_good_loop (G : List ByteArray) (P F S : ByteArray) (hG : G.length ≤ 4611686018427387904) (hP : P.size ≤ 4294967280) (d : Nat) : ∀ i : Nat, i ≤ G.length → G.length - i = d →
    Ev (fun k => spec_l2Good.l0 k (i : Int) G P F S) ((G.drop i).all greatD && (decide (G.length ≤ 3) && restD P F S)) := by
  induction d with
  | zero =>
    intro i h1 hd
    refine Ev.step (f := fun k => if (G.length : Int) ≤ 3 then ((spec_l2Particle.f k P).bind fun t134 => (if t134 = true then ((spec_l2Word.f k F).bind fun t135 => (if t135 = true then (if 0 < (F.size : Int) then ((spec_l2Upper.f (bt F 0)).bind fun t136 => (if t136 = true then (if S.toList = ([] : List UInt8) then (some true) else ((spec_l2Word.f k S).bind fun t137 => (some t137))) else (some false))) else (none)) else (some false))) else (some false))) else some false) (fun k => ?_) ?_
    · simp only [spec_l2Good.l0]; rw [if_neg (by omega)]
    · rw [List.drop_of_length_le (by omega)]
      by_cases h : G.length ≤ 3
      · exact ev_pos (by omega) (ev_eq (spec_tail P F S hP) (by simp [h]))
      · exact ev_neg (by omega) (ev_eq (Ev.now _) (by simp [h]))
  | succ d ih =>
    intro i h1 hd
    have hi : i < G.length := by omega
    have hw : wrap64 ((i : Int) + 1) = ((i + 1 : Nat) : Int) := by rw [w64 (by omega) (by omega)]; rfl
    rw [List.drop_eq_getElem_cons hi, List.all_cons, Bool.and_assoc]
    refine Ev.step (f := fun k => (spec_l2Word.f k G[i]).bind fun t131 => (if t131 = true then (if 0 < ((G[i]).size : Int) then ((spec_l2Upper.f (bt G[i] 0)).bind fun t133 => (if t133 = true then (spec_l2Good.l0 k ((i + 1 : Nat) : Int) G P F S) else (some false))) else (none)) else (some false))) (fun k => ?_) ?_
    · simp only [spec_l2Good.l0, rd_get G i hi]
      rw [if_pos (by omega), if_pos (by omega), hw]
    · refine Ev.bind (spec_word _) ?_
      rw [show greatD G[i] = (wordD G[i] && upD (bt G[i] 0)) from rfl]
      cases h : wordD G[i] with
      | false => exact ev_neg (by simp) (ev_eq (Ev.now _) (by simp))
      | true =>
        have := word_in h
        refine ev_pos rfl (ev_pos (by omega) (ev_bind0 (spec_up _) ?_))
        cases upD (bt G[i] 0) with
        | false => exact ev_neg (by simp) (ev_eq (Ev.now _) (by simp))
        | true => exact ev_pos rfl (ev_eq (ih (i + 1) (by omega) (by omega)) (by simp))
theorem spec_name (G : List ByteArray) (P F S : ByteArray) (hG : G.length ≤ 4611686018427387904) (hP : P.size ≤ 4294967280) : Ev (fun k => spec_l2Good.f k G P F S) (goodN G P F S) := by
  have := spec_good_loop G P F S hG hP _ 0 (by omega) rfl
  unfold spec_l2Good.f goodN
  rw [List.drop_zero] at this
  exact this
theorem idx_loop (G : List ByteArray) (hG : G.length ≤ 4611686018427387904) (d : Nat) : ∀ i : Nat, i ≤ G.length → G.length - i = d →
    ∃ v, Ev (fun k => slices_IndexFunc_string_string_at_42.l0 k G (G.length : Int) (i : Int)) v ∧ decide (v ≥ 0) = !((G.drop i).all greatD) := by
  induction d with
  | zero =>
    intro i h1 hd
    refine ⟨-1, Ev.step (f := fun _ => some (-1)) (fun k => ?_) (Ev.now _), ?_⟩
    · simp only [slices_IndexFunc_string_string_at_42.l0]; rw [if_neg (by omega)]
    · rw [List.drop_of_length_le (by omega)]; simp
  | succ d ih =>
    intro i h1 hd
    have hi : i < G.length := by omega
    have hw : wrap64 ((i : Int) + 1) = ((i + 1 : Nat) : Int) := by rw [w64 (by omega) (by omega)]; rfl
    rw [List.drop_eq_getElem_cons hi, List.all_cons]
    have hst : ∀ v, Ev (fun k => (impl_IsValidName_1.f k G[i]).bind fun t => if t = true then some (i : Int) else slices_IndexFunc_string_string_at_42.l0 k G (G.length : Int) ((i + 1 : Nat) : Int)) v → Ev (fun k => slices_IndexFunc_string_string_at_42.l0 k G (G.length : Int) (i : Int)) v := by
      intro v hv
      refine Ev.step (fun k => ?_) hv
      simp only [slices_IndexFunc_string_string_at_42.l0, rd_get G i hi]
      rw [if_pos (by omega), if_pos (by omega), if_pos (by omega), hw]
    have hf : Ev (fun k => impl_IsValidName_1.f k G[i]) (!greatD G[i]) := by
      unfold impl_IsValidName_1.f
      exact Ev.bind (impl_great _) (Ev.now _)
    cases h : greatD G[i] with
    | true =>
      obtain ⟨v, hv, e⟩ := ih (i + 1) (by omega) (by omega)
      refine ⟨v, hst v (Ev.bind hf (ev_neg (by simp [h]) hv)), ?_⟩
      rw [e]; simp
    | false =>
      refine ⟨(i : Int), hst _ (Ev.bind hf (ev_pos (by simp [h]) (Ev.now _))), ?_⟩
      simp
theorem contains_ev (G : List ByteArray) (hG : G.length ≤ 4611686018427387904) : Ev (fun k => slices_ContainsFunc_string_string_at_42.f k G) (!(G.all greatD)) := by
  obtain ⟨v, hv, e⟩ := idx_loop G hG _ 0 (by omega) rfl
  unfold slices_ContainsFunc_string_string_at_42.f slices_IndexFunc_string_string_at_42.f
  rw [List.drop_zero] at e
  exact Ev.bind hv (ev_eq (Ev.now _) e)
theorem impl_valid (G : List ByteArray) (P F S : ByteArray) (hG : G.length ≤ 4611686018427387904) (hP : P.size ≤ 4294967280) : Ev (fun k => impl_IsValidName.f k G P F S) (goodN G P F S) := by
  have hj1 : Ev (fun k => impl_IsValidName.j0 k true G P F S) false := Ev.step (f := fun _ => some false) (fun k => by simp [impl_IsValidName.j0]) (Ev.now _)
  have hj0 : Ev (fun k => impl_IsValidName.j0 k false G P F S) (restD P F S) := by
    refine Ev.step (f := fun k => (impl_isParticle.f k P).bind fun t172 => (if t172 = true then ((impl_isGreatWord.f k F).bind fun t173 => (if t173 = true then (if S.toList = ([] : List UInt8) then (some true) else ((impl_isNameWord.f k S).bind fun t174 => (some t174))) else (some false))) else (some false))) (fun k => by simp [impl_IsValidName.j0]) ?_
    unfold restD
    refine Ev.bind (impl_part P hP) ?_
    cases partD P with
    | false => exact ev_neg (by simp) (Ev.now _)
    | true =>
      refine ev_pos rfl (Ev.bind (impl_great F) ?_)
      cases greatD F with
      | false => exact ev_neg (by simp) (Ev.now _)
      | true =>
        refine ev_pos rfl ?_
        unfold sufD
        by_cases h : S.size = 0
        · exact ev_pos ((nil_iff S).2 h) (ev_eq (Ev.now _) (by simp [h]))
        · exact ev_neg (fun e => h ((nil_iff S).1 e)) (Ev.bind (impl_word S) (ev_eq (Ev.now _) (by simp [h])))
  unfold impl_IsValidName.f goodN
  by_cases h : G.length ≤ 3
  · refine ev_neg (by omega) (Ev.bind (contains_ev G hG) ?_)
    cases G.all greatD with
    | true => exact ev_eq hj0 (by simp [h])
    | false => exact ev_eq hj1 (by simp)
  · exact ev_pos (by omega) (ev_eq hj1 (by simp [h]))
def bulkN (G : List ByteArray) (P F S : ByteArray) : Nat := bulkS G + P.size + F.size + S.size
theorem eqS_same_loop (l : List ByteArray) (hl : l.length ≤ 4611686018427387904) (d : Nat) : ∀ i : Nat, i ≤ l.length → l.length - i = d → Ev (fun k => laws_eqStringS.l0 k l l (i : Int)) true := by
  induction d with
  | zero =>
    intro i h1 hd
    refine Ev.step (f := fun _ => some true) (fun k => ?_) (Ev.now _)
    simp only [laws_eqStringS.l0]; rw [if_neg (by omega)]
  | succ d ih =>
    intro i h1 hd
    have hw : wrap64 ((i : Int) + 1) = ((i + 1 : Nat) : Int) := by rw [w64 (by omega) (by omega)]; rfl
    refine Ev.step (f := fun k => laws_eqStringS.l0 k l l ((i + 1 : Nat) : Int)) (fun k => ?_) (ih (i + 1) (by omega) (by omega))
    simp only [laws_eqStringS.l0]
    rw [if_pos (by omega), if_pos (by omega), if_pos (by omega), if_pos trivial, hw]
theorem eqS_same (l : List ByteArray) (hl : l.length ≤ 4611686018427387904) : Ev (fun k => laws_eqStringS.f k l l) true := by
  unfold laws_eqStringS.f
  exact ev_pos rfl (eqS_same_loop l hl _ 0 (by omega) rfl)
theorem eqN_same (G : List ByteArray) (P F S : ByteArray) (hl : G.length ≤ 4611686018427387904) : Ev (fun k => laws_eqName.f k G P F S G P F S) true := by
  unfold laws_eqName.f
  exact Ev.bind (eqS_same G hl) (ev_pos rfl (ev_pos rfl (ev_pos rfl (ev_pos rfl (Ev.now _)))))


end Go.Proofs.YtcckamdpncbkoaaDoor.G

namespace Go.Proofs.YtcckamdpncbkoaaDoor.G
open Go.RowKit Go.Proofs.YtcckamdpncbkoaaDoorW.PrintWords Go.Proofs.YtcckamdpncbkoaaDoorW.PrintLast Go.Proofs.YtcckamdpncbkoaaDoorW.PrintMore
open Go.Proofs.YtcckamdpncbkoaaDoor.Gl Go.Proofs.YtcckamdpncbkoaaDoor.Ext
attribute [local go_sem] max2_int min2_int max_two min_two max_three min_three max_four min_four   -- for this text's walks alone
set_option linter.unusedVariables false
set_option linter.unusedSimpArgs false

/-! ### spec_l2Fits: function 76 -/
def spec_l2Fits.f (a0 : ByteArray) (a1 : ByteArray) : Option (Bool) := if a0.toList = a1.toList then (some true) else (if (a0.size : Int) = 1 then (if 0 < (a0.size : Int) then (if 0 < (a1.size : Int) then (if (bt a0 0) = (bt a1 0) then (some true) else (if (a1.size : Int) = 1 then (some ((bt a0 0) == (bt a1 0))) else (some false))) else (none)) else (none)) else (if (a1.size : Int) = 1 then (if 0 < (a0.size : Int) then (if 0 < (a1.size : Int) then (some ((bt a0 0) == (bt a1 0))) else (none)) else (none)) else (some false)))
set_option maxHeartbeats 8000000 in
set_option maxRecDepth 100000 in
theorem spec_l2Fits.calls (a0 : ByteArray) (a1 : ByteArray) (r : Bool) (w : World) (h : spec_l2Fits.f a0 a1 = some r) :
  Calls Tryd.prog 76 #[.string a0, .string a1] w fun e w' => e = .returned (.bool r) ∧ Drawn0 w w' := by
 have H : (if a0.toList = a1.toList then (some true) else (if (a0.size : Int) = 1 then (if 0 < (a0.size : Int) then (if 0 < (a1.size : Int) then (if (bt a0 0) = (bt a1 0) then (some true) else (if (a1.size : Int) = 1 then (some ((bt a0 0) == (bt a1 0))) else (some false))) else (none)) else (none)) else (if (a1.size : Int) = 1 then (if 0 < (a0.size : Int) then (if 0 < (a1.size : Int) then (some ((bt a0 0) == (bt a1 0))) else (none)) else (none)) else (some false)))) = some r := h
 clear h
 by_cases c3 : a0.toList = a1.toList
 ·
  rw [if_pos c3] at H
  have c3b0 : (a0.toList == a1.toList) = true := beq_iff_eq.mpr c3
  have c3b1 : (a0.toList != a1.toList) = false := bne_eq_false_iff_eq.mpr c3
  clear c3
  obtain rfl := Option.some.inj H
  go_enter Tryd.func76, Tryd.ntmps76
  go_wp2
  repeat (go_quiet (fail); try go_wp2)
  go_ret
  exact ax0
 ·
  rw [if_neg c3] at H
  have c3b0 : (a0.toList == a1.toList) = false := beq_eq_false_iff_ne.mpr c3
  have c3b1 : (a0.toList != a1.toList) = true := bne_iff_ne.mpr c3
  by_cases c4 : (a0.size : Int) = 1
  ·
   rw [if_pos c4] at H
   have c4b0 : ((a0.size : Int) == 1) = true := beq_iff_eq.mpr c4
   have c4b1 : ((a0.size : Int) != 1) = false := bne_eq_false_iff_eq.mpr c4
   clear c4
   by_cases c5 : 0 < (a0.size : Int)
   ·
    rw [if_pos c5] at H
    have c5b0 : decide (0 < (a0.size : Int)) = true := decide_eq_true c5
    have c5b1 : decide (0 < a0.size) = true := decide_eq_true (by omega)
    clear c5
    by_cases c7 : 0 < (a1.size : Int)
    ·
     rw [if_pos c7] at H
     have c7b0 : decide (0 < (a1.size : Int)) = true := decide_eq_true c7
     have c7b1 : decide (0 < a1.size) = true := decide_eq_true (by omega)
     clear c7
     by_cases c9 : (bt a0 0) = (bt a1 0)
     ·
      rw [if_pos c9] at H
      have c9b0 : ((bt a0 0) == (bt a1 0)) = true := beq_iff_eq.mpr c9
      have c9b1 : ((bt a0 0) != (bt a1 0)) = false := bne_eq_false_iff_eq.mpr c9
      clear c9
      obtain rfl := Option.some.inj H
      have p6 : 0 ≤ (0 : Int) := (by omega)
      have q6 : 0 < a0.size := (by have : (0 : Int) < (a0.size : Int) := of_decide_eq_true au88; omega)
      have hx6 : ∀ h : 0 < a0.size, ((a0[0]'h).toNat : Int) = bt a0 0 := bt_at a0 0
      clear p6
      have qi6 : (0 < (a0.size : Int)) = True := eq_true (of_decide_eq_true au88)
      replace q6 := eq_true q6
      have p8 : 0 ≤ (0 : Int) := (by omega)
      have q8 : 0 < a1.size := (by have : (0 : Int) < (a1.size : Int) := of_decide_eq_true au88; omega)
      have hx8 : ∀ h : 0 < a1.size, ((a1[0]'h).toNat : Int) = bt a1 0 := bt_at a1 0
      clear p8
      have qi8 : (0 < (a1.size : Int)) = True := eq_true (of_decide_eq_true au88)
      replace q8 := eq_true q8
      go_enter Tryd.func76, Tryd.ntmps76
      go_wp2
      repeat (go_quiet (fail); try go_wp2)
      go_ret
      exact ax0
     ·
      rw [if_neg c9] at H
      have c9b0 : ((bt a0 0) == (bt a1 0)) = false := beq_eq_false_iff_ne.mpr c9
      have c9b1 : ((bt a0 0) != (bt a1 0)) = true := bne_iff_ne.mpr c9
      by_cases c10 : (a1.size : Int) = 1
      ·
       rw [if_pos c10] at H
       have c10b0 : ((a1.size : Int) == 1) = true := beq_iff_eq.mpr c10
       have c10b1 : ((a1.size : Int) != 1) = false := bne_eq_false_iff_eq.mpr c10
       clear c10
       obtain rfl := Option.some.inj H
       have p6 : 0 ≤ (0 : Int) := (by omega)
       have q6 : 0 < a0.size := (by have : (0 : Int) < (a0.size : Int) := of_decide_eq_true au88; omega)
       have hx6 : ∀ h : 0 < a0.size, ((a0[0]'h).toNat : Int) = bt a0 0 := bt_at a0 0
       clear p6
       have qi6 : (0 < (a0.size : Int)) = True := eq_true (of_decide_eq_true au88)
       replace q6 := eq_true q6
       have p8 : 0 ≤ (0 : Int) := (by omega)
       have q8 : 0 < a1.size := (by have : (0 : Int) < (a1.size : Int) := of_decide_eq_true au88; omega)
       have hx8 : ∀ h : 0 < a1.size, ((a1[0]'h).toNat : Int) = bt a1 0 := bt_at a1 0
       clear p8
       have qi8 : (0 < (a1.size : Int)) = True := eq_true (of_decide_eq_true au88)
       replace q8 := eq_true q8
       have p11 : 0 ≤ (0 : Int) := (by omega)
       have q11 : 0 < a0.size := (by have : (0 : Int) < (a0.size : Int) := of_decide_eq_true au88; omega)
       have hx11 : ∀ h : 0 < a0.size, ((a0[0]'h).toNat : Int) = bt a0 0 := bt_at a0 0
       clear p11
       have qi11 : (0 < (a0.size : Int)) = True := eq_true (of_decide_eq_true au88)
       replace q11 := eq_true q11
       have p12 : 0 ≤ (0 : Int) := (by omega)
       have q12 : 0 < a1.size := (by have : (0 : Int) < (a1.size : Int) := of_decide_eq_true au88; omega)
       have hx12 : ∀ h : 0 < a1.size, ((a1[0]'h).toNat : Int) = bt a1 0 := bt_at a1 0
       clear p12
       have qi12 : (0 < (a1.size : Int)) = True := eq_true (of_decide_eq_true au88)
       replace q12 := eq_true q12
       go_enter Tryd.func76, Tryd.ntmps76
       go_wp2
       repeat (go_quiet (fail); try go_wp2)
       go_ret
       exact ax0
      ·
       rw [if_neg c10] at H
       have c10b0 : ((a1.size : Int) == 1) = false := beq_eq_false_iff_ne.mpr c10
       have c10b1 : ((a1.size : Int) != 1) = true := bne_iff_ne.mpr c10
       obtain rfl := Option.some.inj H
       have p6 : 0 ≤ (0 : Int) := (by omega)
       have q6 : 0 < a0.size := (by have : (0 : Int) < (a0.size : Int) := of_decide_eq_true au88; omega)
       have hx6 : ∀ h : 0 < a0.size, ((a0[0]'h).toNat : Int) = bt a0 0 := bt_at a0 0
       clear p6
       have qi6 : (0 < (a0.size : Int)) = True := eq_true (of_decide_eq_true au88)
       replace q6 := eq_true q6
       have p8 : 0 ≤ (0 : Int) := (by omega)
       have q8 : 0 < a1.size := (by have : (0 : Int) < (a1.size : Int) := of_decide_eq_true au88; omega)
       have hx8 : ∀ h : 0 < a1.size, ((a1[0]'h).toNat : Int) = bt a1 0 := bt_at a1 0
       clear p8
       have qi8 : (0 < (a1.size : Int)) = True := eq_true (of_decide_eq_true au88)
       replace q8 := eq_true q8
       go_enter Tryd.func76, Tryd.ntmps76
       go_wp2
       repeat (go_quiet (fail); try go_wp2)
       go_ret
       exact ax0
    ·
     rw [if_neg c7] at H
     exact absurd H (by simp)
   ·
    rw [if_neg c5] at H
    exact absurd H (by simp)
  ·
   rw [if_neg c4] at H
   have c4b0 : ((a0.size : Int) == 1) = false := beq_eq_false_iff_ne.mpr c4
   have c4b1 : ((a0.size : Int) != 1) = true := bne_iff_ne.mpr c4
   by_cases c13 : (a1.size : Int) = 1
   ·
    rw [if_pos c13] at H
    have c13b0 : ((a1.size : Int) == 1) = true := beq_iff_eq.mpr c13
    have c13b1 : ((a1.size : Int) != 1) = false := bne_eq_false_iff_eq.mpr c13
    clear c13
    by_cases c14 : 0 < (a0.size : Int)
    ·
     rw [if_pos c14] at H
     have c14b0 : decide (0 < (a0.size : Int)) = true := decide_eq_true c14
     have c14b1 : decide (0 < a0.size) = true := decide_eq_true (by omega)
     clear c14
     by_cases c16 : 0 < (a1.size : Int)
     ·
      rw [if_pos c16] at H
      have c16b0 : decide (0 < (a1.size : Int)) = true := decide_eq_true c16
      have c16b1 : decide (0 < a1.size) = true := decide_eq_true (by omega)
      clear c16
      obtain rfl := Option.some.inj H
      have p15 : 0 ≤ (0 : Int) := (by omega)
      have q15 : 0 < a0.size := (by have : (0 : Int) < (a0.size : Int) := of_decide_eq_true au88; omega)
      have hx15 : ∀ h : 0 < a0.size, ((a0[0]'h).toNat : Int) = bt a0 0 := bt_at a0 0
      clear p15
      have qi15 : (0 < (a0.size : Int)) = True := eq_true (of_decide_eq_true au88)
      replace q15 := eq_true q15
      have p17 : 0 ≤ (0 : Int) := (by omega)
      have q17 : 0 < a1.size := (by have : (0 : Int) < (a1.size : Int) := of_decide_eq_true au88; omega)
      have hx17 : ∀ h : 0 < a1.size, ((a1[0]'h).toNat : Int) = bt a1 0 := bt_at a1 0
      clear p17
      have qi17 : (0 < (a1.size : Int)) = True := eq_true (of_decide_eq_true au88)
      replace q17 := eq_true q17
      go_enter Tryd.func76, Tryd.ntmps76
      go_wp2
      repeat (go_quiet (fail); try go_wp2)
      go_ret
      exact ax0
     ·
      rw [if_neg c16] at H
      exact absurd H (by simp)
    ·
     rw [if_neg c14] at H
     exact absurd H (by simp)
   ·
    rw [if_neg c13] at H
    have c13b0 : ((a1.size : Int) == 1) = false := beq_eq_false_iff_ne.mpr c13
    have c13b1 : ((a1.size : Int) != 1) = true := bne_iff_ne.mpr c13
    obtain rfl := Option.some.inj H
    go_enter Tryd.func76, Tryd.ntmps76
    go_wp2
    repeat (go_quiet (fail); try go_wp2)
    go_ret
    exact ax0


/-! ### spec_l2May: function 47 -/
mutual
def spec_l2May.l0 : Nat → Int → List ByteArray → ByteArray → ByteArray → ByteArray → List ByteArray → ByteArray → ByteArray → ByteArray → Option (Bool)
 | 0, _, _, _, _, _, _, _, _, _ => none
 | k + 1, x5, x205000, x205001, x205002, x205003, x206000, x206001, x206002, x206003 => if x5 < (x205000.length : Int) then (spec_l2May.j1 k x5 (decide (x5 < (x206000.length : Int))) x205000 x205001 x205002 x205003 x206000 x206001 x206002 x206003) else (spec_l2May.j1 k x5 false x205000 x205001 x205002 x205003 x206000 x206001 x206002 x206003)
def spec_l2May.j1 : Nat → Int → Bool → List ByteArray → ByteArray → ByteArray → ByteArray → List ByteArray → ByteArray → ByteArray → ByteArray → Option (Bool)
 | 0, _, _, _, _, _, _, _, _, _, _ => none
 | k + 1, x5, x17, x205000, x205001, x205002, x205003, x206000, x206001, x206002, x206003 => if x17 = true then (if 0 ≤ x5 then (if x5 < (x205000.length : Int) then (if x5 < (x206000.length : Int) then ((spec_l2Fits.f (rdOf ByteArray.empty x205000 x5) (rdOf ByteArray.empty x206000 x5)).bind fun t208 => (if t208 = true then (spec_l2May.l0 k (wrap64 (x5 + 1)) x205000 x205001 x205002 x205003 x206000 x206001 x206002 x206003) else (some false))) else (none)) else (none)) else (none)) else (if x205001.toList = x206001.toList then (if x205002.toList = x206002.toList then (some (x205003.toList == x206003.toList)) else (some false)) else (some false))
end
def spec_l2May.f (k : Nat) (l0_0 : List ByteArray) (a0_1 : ByteArray) (a0_2 : ByteArray) (a0_3 : ByteArray) (l1_0 : List ByteArray) (a1_1 : ByteArray) (a1_2 : ByteArray) (a1_3 : ByteArray) : Option (Bool) := spec_l2May.l0 k 0 l0_0 a0_1 a0_2 a0_3 l1_0 a1_1 a1_2 a1_3
theorem spec_l2May.mono_l : ∀ k, (∀ y0 y1 y2 y3 y4 y5 y6 y7 y8, LeO (spec_l2May.l0 k y0 y1 y2 y3 y4 y5 y6 y7 y8) (spec_l2May.l0 (k + 1) y0 y1 y2 y3 y4 y5 y6 y7 y8)) ∧ (∀ y0 y1 y2 y3 y4 y5 y6 y7 y8 y9, LeO (spec_l2May.j1 k y0 y1 y2 y3 y4 y5 y6 y7 y8 y9) (spec_l2May.j1 (k + 1) y0 y1 y2 y3 y4 y5 y6 y7 y8 y9))
 | 0 => ⟨fun _ _ _ _ _ _ _ _ _ r h => by simp [spec_l2May.l0] at h, fun _ _ _ _ _ _ _ _ _ _ r h => by simp [spec_l2May.j1] at h⟩
 | k + 1 => by
  obtain ⟨ih0, ih1⟩ := spec_l2May.mono_l k
  refine ⟨?_, ?_⟩
  ·
   intro y0 y1 y2 y3 y4 y5 y6 y7 y8
   unfold spec_l2May.l0
   repeat' first
   | (with_reducible exact ih0 _ _ _ _ _ _ _ _ _)
   | (with_reducible exact ih1 _ _ _ _ _ _ _ _ _ _)
   | (with_reducible exact LeO.refl _)
   | (with_reducible exact LeO.none _)
   | (with_reducible refine LeO.ite ?_ ?_)
   | (with_reducible refine LeO.bind ?_ (fun _ => ?_))
   | exact ih0 _ _ _ _ _ _ _ _ _
   | exact ih1 _ _ _ _ _ _ _ _ _ _
   | exact LeO.none _
   | refine LeO.ite ?_ ?_
   | refine LeO.bind ?_ (fun _ => ?_)
  ·
   intro y0 y1 y2 y3 y4 y5 y6 y7 y8 y9
   unfold spec_l2May.j1
   repeat' first
   | (with_reducible exact ih0 _ _ _ _ _ _ _ _ _)
   | (with_reducible exact ih1 _ _ _ _ _ _ _ _ _ _)
   | (with_reducible exact LeO.refl _)
   | (with_reducible exact LeO.none _)
   | (with_reducible refine LeO.ite ?_ ?_)
   | (with_reducible refine LeO.bind ?_ (fun _ => ?_))
   | exact ih0 _ _ _ _ _ _ _ _ _
   | exact ih1 _ _ _ _ _ _ _ _ _ _
   | exact LeO.none _
   | refine LeO.ite ?_ ?_
   | refine LeO.bind ?_ (fun _ => ?_)
theorem spec_l2May.mono : ∀ a0 a1 a2 a3 a4 a5 a6 a7 k, LeO (spec_l2May.f k a0 a1 a2 a3 a4 a5 a6 a7) (spec_l2May.f (k + 1) a0 a1 a2 a3 a4 a5 a6 a7) := by
 intro a0 a1 a2 a3 a4 a5 a6 a7 k
 obtain ⟨ih0, ih1⟩ := spec_l2May.mono_l k
 unfold spec_l2May.f
 repeat' first
   | (with_reducible exact ih0 _ _ _ _ _ _ _ _ _)
   | (with_reducible exact ih1 _ _ _ _ _ _ _ _ _ _)
   | (with_reducible exact LeO.refl _)
   | (with_reducible exact LeO.none _)
   | (with_reducible refine LeO.ite ?_ ?_)
   | (with_reducible refine LeO.bind ?_ (fun _ => ?_))
   | exact ih0 _ _ _ _ _ _ _ _ _
   | exact ih1 _ _ _ _ _ _ _ _ _ _
   | exact LeO.none _
   | refine LeO.ite ?_ ?_
   | refine LeO.bind ?_ (fun _ => ?_)
set_option maxRecDepth 100000 in
theorem spec_l2May.L0 {P : Prop} (h : P := by
  have hnb26 := NB204_205.out
  have hnc26 := NB205_204.out
  have hcz27_0 : wc.cell? ⟨gb204, 0, none⟩ = some (.slice A0_0 l0_0.length c0_0) := (blk_cell BK204.out 0).trans rfl
  have hcz27_1 : wc.cell? ⟨gb204, 1, none⟩ = some (.string a0_1) := (blk_cell BK204.out 1).trans rfl
  have hcz27_2 : wc.cell? ⟨gb204, 2, none⟩ = some (.string a0_2) := (blk_cell BK204.out 2).trans rfl
  have hcz27_3 : wc.cell? ⟨gb204, 3, none⟩ = some (.string a0_3) := (blk_cell BK204.out 3).trans rfl
  have hfz27_0 := blk_frozen BK204.out 0
  have hfz27_1 := blk_frozen BK204.out 1
  have hfz27_2 := blk_frozen BK204.out 2
  have hfz27_3 := blk_frozen BK204.out 3
  have hcz28_0 : wc.cell? ⟨gb205, 0, none⟩ = some (.slice A1_0 l1_0.length c1_0) := (blk_cell BK205.out 0).trans rfl
  have hcz28_1 : wc.cell? ⟨gb205, 1, none⟩ = some (.string a1_1) := (blk_cell BK205.out 1).trans rfl
  have hcz28_2 : wc.cell? ⟨gb205, 2, none⟩ = some (.string a1_2) := (blk_cell BK205.out 2).trans rfl
  have hcz28_3 : wc.cell? ⟨gb205, 3, none⟩ = some (.string a1_3) := (blk_cell BK205.out 3).trans rfl
  have hfz28_0 := blk_frozen BK205.out 0
  have hfz28_1 := blk_frozen BK205.out 1
  have hfz28_2 := blk_frozen BK205.out 2
  have hfz28_3 := blk_frozen BK205.out 3
  go_wp2
  repeat (go_quiet (fail); try go_wp2)
  go_ret
  exact ⟨by first | rfl | (simp [errW_none, errW_some] <;> rfl) | (simp [*, errW_none, errW_some] <;> rfl), by repeat (first | (with_reducible first | exact HB.out | apply below_alloc | apply pw_below_drewN | apply below_drew1 | refine below_set ?_ GE204.out | refine below_set ?_ GE205.out) | exact HB.out)⟩) : P := h
set_option maxHeartbeats 8000000 in
set_option maxRecDepth 100000 in
theorem spec_l2May.calls (k : Nat) (A0_0 : Option Addr) (c0_0 : Nat) (l0_0 : List ByteArray) (a0_1 : ByteArray) (a0_2 : ByteArray) (a0_3 : ByteArray) (A1_0 : Option Addr) (c1_0 : Nat) (l1_0 : List ByteArray) (a1_1 : ByteArray) (a1_2 : ByteArray) (a1_3 : ByteArray) (r : Bool) (w : World) (hr0_0 : Kd.C Kd.string w A0_0 l0_0.length l0_0) (hc0_0 : l0_0.length ≤ c0_0) (hr1_0 : Kd.C Kd.string w A1_0 l1_0.length l1_0) (hc1_0 : l1_0.length ≤ c1_0) (h : spec_l2May.f k l0_0 a0_1 a0_2 a0_3 l1_0 a1_1 a1_2 a1_3 = some r) :
  Calls Tryd.prog 47 #[.agg #[.slice A0_0 l0_0.length c0_0, .string a0_1, .string a0_2, .string a0_3], .agg #[.slice A1_0 l1_0.length c1_0, .string a1_1, .string a1_2, .string a1_3]] w fun e w' => e = .returned (.bool r) ∧ Below w.heap.size w w' := by
 have hu27 := Tryd.underlying27
 have HR0_0 := Aside0.mk hr0_0
 have HC0_0 := Aside0.mk hc0_0
 clear hr0_0 hc0_0
 have HR1_0 := Aside0.mk hr1_0
 have HC1_0 := Aside0.mk hc1_0
 clear hr1_0 hc1_0
 have HB := Aside0.mk (Below.refl w.heap.size w)
 have H : (spec_l2May.l0 k 0 l0_0 a0_1 a0_2 a0_3 l1_0 a1_1 a1_2 a1_3) = some r := h
 clear h
 have H' := Aside0.mk H
 clear H
 go_enter Tryd.func47, Tryd.ntmps47
 go_wp2_with (first | ((with_reducible refine gate_dst (N := 2) rfl ?_); (try (refine gate_guard (by rfl) ?_; dsimp only)); refine box_event ?hg (N := 2) ?hd (cs := #[.slice A0_0 l0_0.length c0_0, .string a0_1, .string a0_2, .string a0_3]) (t := 27) ?hr ?_; (case hd => rfl); (case hg => rfl); (case hr => first | (go_simp; done) | (go_simp; rfl)); intro gb204 hg w3 hbox hb; have n0_ := Aside0.mk (below_step au41 hb); have n1_ := Aside0.mk (hbox); have n2_ := Aside0.mk ((by rw [hg]; exact (below_size au41) : w.heap.size ≤ gb204)); have n3_ := Aside0.mk ((by rw [hg]; exact (below_size au41) : w.heap.size ≤ gb204)); clear HB; have HB := n0_; have BK204 := n1_; have GW204 := n2_; have GE204 := n3_; clear n0_ n1_ n2_ n3_; clear hb hbox hg) | ((with_reducible refine gate_dst (N := 3) rfl ?_); (try (refine gate_guard (by rfl) ?_; dsimp only)); refine box_event ?hg (N := 3) ?hd (cs := #[.slice A1_0 l1_0.length c1_0, .string a1_1, .string a1_2, .string a1_3]) (t := 27) ?hr ?_; (case hd => rfl); (case hg => rfl); (case hr => first | (go_simp; done) | (go_simp; rfl)); intro gb205 hg w4 hbox hb; have n0_ := Aside0.mk (blk_below (g := gb204) (o := .cells #[.slice A0_0 l0_0.length c0_0, .string a0_1, .string a0_2, .string a0_3] 27 (0, 0)) au73 hb); have n1_ := Aside0.mk (below_step au34 hb); have n2_ := Aside0.mk (hbox); have n3_ := Aside0.mk ((by rw [hg]; exact (below_size au34) : w.heap.size ≤ gb205)); have n4_ := Aside0.mk ((by rw [hg]; exact (below_size au34) : w.heap.size ≤ gb205)); have n5_ := Aside0.mk ((by rw [hg]; exact Nat.ne_of_lt (blk_lt (g := gb204) (o := .cells #[.slice A0_0 l0_0.length c0_0, .string a0_1, .string a0_2, .string a0_3] 27 (0, 0)) au73) : gb204 ≠ gb205)); have n6_ := Aside0.mk ((by rw [hg]; exact Nat.ne_of_gt (blk_lt (g := gb204) (o := .cells #[.slice A0_0 l0_0.length c0_0, .string a0_1, .string a0_2, .string a0_3] 27 (0, 0)) au73) : gb205 ≠ gb204)); clear BK204; clear HB; have BK204 := n0_; have HB := n1_; have BK205 := n2_; have GW205 := n3_; have GE205 := n4_; have NB204_205 := n5_; have NB205_204 := n6_; clear n0_ n1_ n2_ n3_ n4_ n5_ n6_; clear hb hbox hg))
 repeat (go_quiet (first | ((with_reducible refine gate_dst (N := 2) rfl ?_); (try (refine gate_guard (by rfl) ?_; dsimp only)); refine box_event ?hg (N := 2) ?hd (cs := #[.slice A0_0 l0_0.length c0_0, .string a0_1, .string a0_2, .string a0_3]) (t := 27) ?hr ?_; (case hd => rfl); (case hg => rfl); (case hr => first | (go_simp; done) | (go_simp; rfl)); intro gb204 hg w3 hbox hb; have n0_ := Aside0.mk (below_step au41 hb); have n1_ := Aside0.mk (hbox); have n2_ := Aside0.mk ((by rw [hg]; exact (below_size au41) : w.heap.size ≤ gb204)); have n3_ := Aside0.mk ((by rw [hg]; exact (below_size au41) : w.heap.size ≤ gb204)); clear HB; have HB := n0_; have BK204 := n1_; have GW204 := n2_; have GE204 := n3_; clear n0_ n1_ n2_ n3_; clear hb hbox hg) | ((with_reducible refine gate_dst (N := 3) rfl ?_); (try (refine gate_guard (by rfl) ?_; dsimp only)); refine box_event ?hg (N := 3) ?hd (cs := #[.slice A1_0 l1_0.length c1_0, .string a1_1, .string a1_2, .string a1_3]) (t := 27) ?hr ?_; (case hd => rfl); (case hg => rfl); (case hr => first | (go_simp; done) | (go_simp; rfl)); intro gb205 hg w4 hbox hb; have n0_ := Aside0.mk (blk_below (g := gb204) (o := .cells #[.slice A0_0 l0_0.length c0_0, .string a0_1, .string a0_2, .string a0_3] 27 (0, 0)) au73 hb); have n1_ := Aside0.mk (below_step au34 hb); have n2_ := Aside0.mk (hbox); have n3_ := Aside0.mk ((by rw [hg]; exact (below_size au34) : w.heap.size ≤ gb205)); have n4_ := Aside0.mk ((by rw [hg]; exact (below_size au34) : w.heap.size ≤ gb205)); have n5_ := Aside0.mk ((by rw [hg]; exact Nat.ne_of_lt (blk_lt (g := gb204) (o := .cells #[.slice A0_0 l0_0.length c0_0, .string a0_1, .string a0_2, .string a0_3] 27 (0, 0)) au73) : gb204 ≠ gb205)); have n6_ := Aside0.mk ((by rw [hg]; exact Nat.ne_of_gt (blk_lt (g := gb204) (o := .cells #[.slice A0_0 l0_0.length c0_0, .string a0_1, .string a0_2, .string a0_3] 27 (0, 0)) au73) : gb205 ≠ gb204)); clear BK204; clear HB; have BK204 := n0_; have HB := n1_; have BK205 := n2_; have GW205 := n3_; have GE205 := n4_; have NB204_205 := n5_; have NB205_204 := n6_; clear n0_ n1_ n2_ n3_ n4_ n5_ n6_; clear hb hbox hg)); try go_wp2_with (first | ((with_reducible refine gate_dst (N := 2) rfl ?_); (try (refine gate_guard (by rfl) ?_; dsimp only)); refine box_event ?hg (N := 2) ?hd (cs := #[.slice A0_0 l0_0.length c0_0, .string a0_1, .string a0_2, .string a0_3]) (t := 27) ?hr ?_; (case hd => rfl); (case hg => rfl); (case hr => first | (go_simp; done) | (go_simp; rfl)); intro gb204 hg w3 hbox hb; have n0_ := Aside0.mk (below_step au41 hb); have n1_ := Aside0.mk (hbox); have n2_ := Aside0.mk ((by rw [hg]; exact (below_size au41) : w.heap.size ≤ gb204)); have n3_ := Aside0.mk ((by rw [hg]; exact (below_size au41) : w.heap.size ≤ gb204)); clear HB; have HB := n0_; have BK204 := n1_; have GW204 := n2_; have GE204 := n3_; clear n0_ n1_ n2_ n3_; clear hb hbox hg) | ((with_reducible refine gate_dst (N := 3) rfl ?_); (try (refine gate_guard (by rfl) ?_; dsimp only)); refine box_event ?hg (N := 3) ?hd (cs := #[.slice A1_0 l1_0.length c1_0, .string a1_1, .string a1_2, .string a1_3]) (t := 27) ?hr ?_; (case hd => rfl); (case hg => rfl); (case hr => first | (go_simp; done) | (go_simp; rfl)); intro gb205 hg w4 hbox hb; have n0_ := Aside0.mk (blk_below (g := gb204) (o := .cells #[.slice A0_0 l0_0.length c0_0, .string a0_1, .string a0_2, .string a0_3] 27 (0, 0)) au73 hb); have n1_ := Aside0.mk (below_step au34 hb); have n2_ := Aside0.mk (hbox); have n3_ := Aside0.mk ((by rw [hg]; exact (below_size au34) : w.heap.size ≤ gb205)); have n4_ := Aside0.mk ((by rw [hg]; exact (below_size au34) : w.heap.size ≤ gb205)); have n5_ := Aside0.mk ((by rw [hg]; exact Nat.ne_of_lt (blk_lt (g := gb204) (o := .cells #[.slice A0_0 l0_0.length c0_0, .string a0_1, .string a0_2, .string a0_3] 27 (0, 0)) au73) : gb204 ≠ gb205)); have n6_ := Aside0.mk ((by rw [hg]; exact Nat.ne_of_gt (blk_lt (g := gb204) (o := .cells #[.slice A0_0 l0_0.length c0_0, .string a0_1, .string a0_2, .string a0_3] 27 (0, 0)) au73) : gb205 ≠ gb204)); clear BK204; clear HB; have BK204 := n0_; have HB := n1_; have BK205 := n2_; have GW205 := n3_; have GE205 := n4_; have NB204_205 := n5_; have NB205_204 := n6_; clear n0_ n1_ n2_ n3_ n4_ n5_ n6_; clear hb hbox hg)))
 go_loopg [5] k (fun kq v5 w' => ∃ (x5_1 : Int), v5 = .int .i64 x5_1 ∧ Aside0 (spec_l2May.l0 kq x5_1 l0_0 a0_1 a0_2 a0_3 l1_0 a1_1 a1_2 a1_3 = some r) ∧ Aside0 (kq ≤ k) ∧ Aside0 (w'.heap[gb204]? = some (.cells #[(.slice A0_0 l0_0.length c0_0), .string a0_1, .string a0_2, .string a0_3] 27 (0, 0))) ∧ Aside0 (w'.heap[gb205]? = some (.cells #[(.slice A1_0 l1_0.length c1_0), .string a1_1, .string a1_2, .string a1_3] 27 (0, 0))) ∧ Aside0 (Below w.heap.size w w'))
 case atStart => exact ⟨(0), au89, H', ⟨Nat.le_refl _⟩, ⟨by (with_reducible repeat (first | refine blk_drewN ?_ _ | refine blk_drew ?_ | refine blk_alloc ?_ _)); exact BK204.out⟩, ⟨by (with_reducible repeat (first | refine blk_drewN ?_ _ | refine blk_drew ?_ | refine blk_alloc ?_ _)); exact BK205.out⟩, ⟨by repeat (first | (with_reducible first | exact HB.out | apply below_alloc | apply pw_below_drewN | apply below_drew1 | refine below_set ?_ GE204.out | refine below_set ?_ GE205.out) | exact HB.out)⟩⟩
 case round =>
  clear H'
  try clear c1
  try clear p2
  try clear c4
  obtain ⟨x5_1, rfl, HA, HK1, BK204, BK205, HB⟩ := hrel
  cases gk with
  | zero => exact absurd HA.out (by simp [spec_l2May.l0])
  | succ k1 =>
   have H := HA.out
   clear HA
   simp only [spec_l2May.l0] at H
   have HC5 := Aside0.mk H
   clear H
   go_upto_region 2 with (fail)
   repeat (go_quiet (fail); go_upto_region 2 with (fail))
   go_cut [17] (fun v17 wc => ∃ (kq : Nat) (x17_4 : Bool), v17 = .bool x17_4 ∧ Aside0 (spec_l2May.j1 kq x5_1 x17_4 l0_0 a0_1 a0_2 a0_3 l1_0 a1_1 a1_2 a1_3 = some r) ∧ Aside0 (kq ≤ k1) ∧ Aside0 (wc.heap[gb204]? = some (.cells #[(.slice A0_0 l0_0.length c0_0), .string a0_1, .string a0_2, .string a0_3] 27 (0, 0))) ∧ Aside0 (wc.heap[gb205]? = some (.cells #[(.slice A1_0 l1_0.length c1_0), .string a1_1, .string a1_2, .string a1_3] 27 (0, 0))) ∧ Aside0 (Below w.heap.size w wc))
   case first =>
    have H := HC5.out
    clear HC5
    by_cases c6 : x5_1 < (l0_0.length : Int)
    ·
     rw [if_pos c6] at H
     have c6b0 : decide (x5_1 < (l0_0.length : Int)) = true := decide_eq_true c6
     clear c6
     (first | rw [c6b0] | (simp only [i64_w, i32_w]; rw [c6b0]) | skip)
     have H' := Aside0.mk H
     clear H
     have hnb7 := NB204_205.out
     have hnc7 := NB205_204.out
     have hcz8_0 : wr.cell? ⟨gb204, 0, none⟩ = some (.slice A0_0 l0_0.length c0_0) := (blk_cell BK204.out 0).trans rfl
     have hcz8_1 : wr.cell? ⟨gb204, 1, none⟩ = some (.string a0_1) := (blk_cell BK204.out 1).trans rfl
     have hcz8_2 : wr.cell? ⟨gb204, 2, none⟩ = some (.string a0_2) := (blk_cell BK204.out 2).trans rfl
     have hcz8_3 : wr.cell? ⟨gb204, 3, none⟩ = some (.string a0_3) := (blk_cell BK204.out 3).trans rfl
     have hfz8_0 := blk_frozen BK204.out 0
     have hfz8_1 := blk_frozen BK204.out 1
     have hfz8_2 := blk_frozen BK204.out 2
     have hfz8_3 := blk_frozen BK204.out 3
     have hcz9_0 : wr.cell? ⟨gb205, 0, none⟩ = some (.slice A1_0 l1_0.length c1_0) := (blk_cell BK205.out 0).trans rfl
     have hcz9_1 : wr.cell? ⟨gb205, 1, none⟩ = some (.string a1_1) := (blk_cell BK205.out 1).trans rfl
     have hcz9_2 : wr.cell? ⟨gb205, 2, none⟩ = some (.string a1_2) := (blk_cell BK205.out 2).trans rfl
     have hcz9_3 : wr.cell? ⟨gb205, 3, none⟩ = some (.string a1_3) := (blk_cell BK205.out 3).trans rfl
     have hfz9_0 := blk_frozen BK205.out 0
     have hfz9_1 := blk_frozen BK205.out 1
     have hfz9_2 := blk_frozen BK205.out 2
     have hfz9_3 := blk_frozen BK205.out 3
     go_wp2
     repeat (go_quiet (fail); try go_wp2)
     go_meet
     case rel => exact ⟨_, (decide (x5_1 < (l1_0.length : Int))), au89, H', ⟨by have := HK1.out; first | omega | exact Nat.le_refl _⟩, ⟨by (with_reducible repeat (first | refine blk_drewN ?_ _ | refine blk_drew ?_ | refine blk_alloc ?_ _)); exact BK204.out⟩, ⟨by (with_reducible repeat (first | refine blk_drewN ?_ _ | refine blk_drew ?_ | refine blk_alloc ?_ _)); exact BK205.out⟩, ⟨by repeat (first | (with_reducible first | exact HB.out | apply below_alloc | apply pw_below_drewN | apply below_drew1 | refine below_set ?_ GE204.out | refine below_set ?_ GE205.out) | exact HB.out)⟩⟩
    ·
     rw [if_neg c6] at H
     have c6b0 : decide (x5_1 < (l0_0.length : Int)) = false := decide_eq_false c6
     clear c6
     (first | rw [c6b0] | (simp only [i64_w, i32_w]; rw [c6b0]) | skip)
     have H' := Aside0.mk H
     clear H
     have hnb10 := NB204_205.out
     have hnc10 := NB205_204.out
     have hcz11_0 : wr.cell? ⟨gb204, 0, none⟩ = some (.slice A0_0 l0_0.length c0_0) := (blk_cell BK204.out 0).trans rfl
     have hcz11_1 : wr.cell? ⟨gb204, 1, none⟩ = some (.string a0_1) := (blk_cell BK204.out 1).trans rfl
     have hcz11_2 : wr.cell? ⟨gb204, 2, none⟩ = some (.string a0_2) := (blk_cell BK204.out 2).trans rfl
     have hcz11_3 : wr.cell? ⟨gb204, 3, none⟩ = some (.string a0_3) := (blk_cell BK204.out 3).trans rfl
     have hfz11_0 := blk_frozen BK204.out 0
     have hfz11_1 := blk_frozen BK204.out 1
     have hfz11_2 := blk_frozen BK204.out 2
     have hfz11_3 := blk_frozen BK204.out 3
     go_wp2
     repeat (go_quiet (fail); try go_wp2)
     go_meet
     case rel => exact ⟨_, (false), au89, H', ⟨by have := HK1.out; first | omega | exact Nat.le_refl _⟩, ⟨by (with_reducible repeat (first | refine blk_drewN ?_ _ | refine blk_drew ?_ | refine blk_alloc ?_ _)); exact BK204.out⟩, ⟨by (with_reducible repeat (first | refine blk_drewN ?_ _ | refine blk_drew ?_ | refine blk_alloc ?_ _)); exact BK205.out⟩, ⟨by repeat (first | (with_reducible first | exact HB.out | apply below_alloc | apply pw_below_drewN | apply below_drew1 | refine below_set ?_ GE204.out | refine below_set ?_ GE205.out) | exact HB.out)⟩⟩
   case rest =>
    clear HC5
    try clear c1
    try clear p2
    try clear c4
    try clear c6
    try clear c6b0
    try clear c7
    try clear c10
    try clear hcz11_0
    try clear hcz11_1
    try clear hcz11_2
    try clear hcz11_3
    try clear hcz8_0
    try clear hcz8_1
    try clear hcz8_2
    try clear hcz8_3
    try clear hcz9_0
    try clear hcz9_1
    try clear hcz9_2
    try clear hcz9_3
    try clear hfz11_0
    try clear hfz11_1
    try clear hfz11_2
    try clear hfz11_3
    try clear hfz8_0
    try clear hfz8_1
    try clear hfz8_2
    try clear hfz8_3
    try clear hfz9_0
    try clear hfz9_1
    try clear hfz9_2
    try clear hfz9_3
    try clear p2
    obtain ⟨kq, x17_4, rfl, HA, HJ4, BK204, BK205, HB⟩ := hcut
    cases kq with
    | zero => exact absurd HA.out (by simp [spec_l2May.j1])
    | succ kj4 =>
     have H := HA.out
     clear HA
     simp only [spec_l2May.j1] at H
     by_cases c12 : x17_4 = true
     ·
      subst c12
      replace H := (if_pos rfl).symm.trans H
      by_cases c13 : 0 ≤ x5_1
      ·
       rw [if_pos c13] at H
       have c13b0 : decide (0 ≤ x5_1) = true := decide_eq_true c13
       clear c13
       by_cases c14 : x5_1 < (l0_0.length : Int)
       ·
        rw [if_pos c14] at H
        have c14b0 : decide (x5_1 < (l0_0.length : Int)) = true := decide_eq_true c14
        clear c14
        by_cases c15 : x5_1 < (l1_0.length : Int)
        ·
         rw [if_pos c15] at H
         have c15b0 : decide (x5_1 < (l1_0.length : Int)) = true := decide_eq_true c15
         clear c15
         replace H := Option.bind_eq_some_iff.mp H
         obtain ⟨t208, A160, H⟩ := H
         try dsimp only at H
         have A16 := Aside0.mk A160
         clear A160
         by_cases c17 : t208 = true
         ·
          subst c17
          replace H := (if_pos rfl).symm.trans H
          have H' := Aside0.mk H
          clear H
          have hnb18 := NB204_205.out
          have hnc18 := NB205_204.out
          have hcz19_0 : wc.cell? ⟨gb204, 0, none⟩ = some (.slice A0_0 l0_0.length c0_0) := (blk_cell BK204.out 0).trans rfl
          have hcz19_1 : wc.cell? ⟨gb204, 1, none⟩ = some (.string a0_1) := (blk_cell BK204.out 1).trans rfl
          have hcz19_2 : wc.cell? ⟨gb204, 2, none⟩ = some (.string a0_2) := (blk_cell BK204.out 2).trans rfl
          have hcz19_3 : wc.cell? ⟨gb204, 3, none⟩ = some (.string a0_3) := (blk_cell BK204.out 3).trans rfl
          have hfz19_0 := blk_frozen BK204.out 0
          have hfz19_1 := blk_frozen BK204.out 1
          have hfz19_2 := blk_frozen BK204.out 2
          have hfz19_3 := blk_frozen BK204.out 3
          have p206 : 0 ≤ (x5_1 : Int) := of_decide_eq_true au88
          have q206 : x5_1 < (l0_0.length : Int) := of_decide_eq_true au88
          obtain ⟨ad206, e206, hx206_0⟩ := Kd.at_string HR0_0.out x5_1 p206 q206
          cases e206
          replace hx206_0 := (HB.out.cell (World.block_lt_of_cell? w _ hx206_0)).trans hx206_0
          replace p206 := eq_true p206
          replace q206 := eq_true q206
          have hcz20_0 : wc.cell? ⟨gb205, 0, none⟩ = some (.slice A1_0 l1_0.length c1_0) := (blk_cell BK205.out 0).trans rfl
          have hcz20_1 : wc.cell? ⟨gb205, 1, none⟩ = some (.string a1_1) := (blk_cell BK205.out 1).trans rfl
          have hcz20_2 : wc.cell? ⟨gb205, 2, none⟩ = some (.string a1_2) := (blk_cell BK205.out 2).trans rfl
          have hcz20_3 : wc.cell? ⟨gb205, 3, none⟩ = some (.string a1_3) := (blk_cell BK205.out 3).trans rfl
          have hfz20_0 := blk_frozen BK205.out 0
          have hfz20_1 := blk_frozen BK205.out 1
          have hfz20_2 := blk_frozen BK205.out 2
          have hfz20_3 := blk_frozen BK205.out 3
          have p207 : 0 ≤ (x5_1 : Int) := of_decide_eq_true au88
          have q207 : x5_1 < (l1_0.length : Int) := of_decide_eq_true au88
          obtain ⟨ad207, e207, hx207_0⟩ := Kd.at_string HR1_0.out x5_1 p207 q207
          cases e207
          replace hx207_0 := (HB.out.cell (World.block_lt_of_cell? w _ hx207_0)).trans hx207_0
          replace p207 := eq_true p207
          replace q207 := eq_true q207
          go_wp2_with (first | (go_at_call 76; (with_reducible refine (spec_l2Fits.calls (rdOf ByteArray.empty l0_0 x5_1) (rdOf ByteArray.empty l1_0 x5_1) _ _ A16.out).mono ?_); rintro e w' ⟨rfl, ⟨nd, rfl⟩⟩; (try first | exact ⟨rfl, _, World.drewN_drewN _ _ _⟩ | exact ⟨rfl, _, Eq.trans (World.drewN_drewN _ _ _) (congrArg (World.drewN _) (Nat.add_assoc _ _ _))⟩)))
          repeat (go_quiet (first | (go_at_call 76; (with_reducible refine (spec_l2Fits.calls (rdOf ByteArray.empty l0_0 x5_1) (rdOf ByteArray.empty l1_0 x5_1) _ _ A16.out).mono ?_); rintro e w' ⟨rfl, ⟨nd, rfl⟩⟩; (try first | exact ⟨rfl, _, World.drewN_drewN _ _ _⟩ | exact ⟨rfl, _, Eq.trans (World.drewN_drewN _ _ _) (congrArg (World.drewN _) (Nat.add_assoc _ _ _))⟩))); try go_wp2_with (first | (go_at_call 76; (with_reducible refine (spec_l2Fits.calls (rdOf ByteArray.empty l0_0 x5_1) (rdOf ByteArray.empty l1_0 x5_1) _ _ A16.out).mono ?_); rintro e w' ⟨rfl, ⟨nd, rfl⟩⟩; (try first | exact ⟨rfl, _, World.drewN_drewN _ _ _⟩ | exact ⟨rfl, _, Eq.trans (World.drewN_drewN _ _ _) (congrArg (World.drewN _) (Nat.add_assoc _ _ _))⟩))))
          go_roundg kj4
          case measure => have := HK1.out; have := HJ4.out; omega
          case rel => exact ⟨(wrap64 (x5_1 + 1)), au89, H', ⟨by have := HK1.out; have := HJ4.out; omega⟩, ⟨by (with_reducible repeat (first | refine blk_drewN ?_ _ | refine blk_drew ?_ | refine blk_alloc ?_ _)); exact BK204.out⟩, ⟨by (with_reducible repeat (first | refine blk_drewN ?_ _ | refine blk_drew ?_ | refine blk_alloc ?_ _)); exact BK205.out⟩, ⟨by repeat (first | (with_reducible first | exact HB.out | apply below_alloc | apply pw_below_drewN | apply below_drew1 | refine below_set ?_ GE204.out | refine below_set ?_ GE205.out) | exact HB.out)⟩⟩
         ·
          replace c17 := Bool.eq_false_iff.mpr c17
          subst c17
          replace H := (if_neg (show ¬ (false = true) by decide)).symm.trans H
          obtain rfl := Option.some.inj H
          have hnb21 := NB204_205.out
          have hnc21 := NB205_204.out
          have hcz22_0 : wc.cell? ⟨gb204, 0, none⟩ = some (.slice A0_0 l0_0.length c0_0) := (blk_cell BK204.out 0).trans rfl
          have hcz22_1 : wc.cell? ⟨gb204, 1, none⟩ = some (.string a0_1) := (blk_cell BK204.out 1).trans rfl
          have hcz22_2 : wc.cell? ⟨gb204, 2, none⟩ = some (.string a0_2) := (blk_cell BK204.out 2).trans rfl
          have hcz22_3 : wc.cell? ⟨gb204, 3, none⟩ = some (.string a0_3) := (blk_cell BK204.out 3).trans rfl
          have hfz22_0 := blk_frozen BK204.out 0
          have hfz22_1 := blk_frozen BK204.out 1
          have hfz22_2 := blk_frozen BK204.out 2
          have hfz22_3 := blk_frozen BK204.out 3
          have p206 : 0 ≤ (x5_1 : Int) := of_decide_eq_true au88
          have q206 : x5_1 < (l0_0.length : Int) := of_decide_eq_true au88
          obtain ⟨ad206, e206, hx206_0⟩ := Kd.at_string HR0_0.out x5_1 p206 q206
          cases e206
          replace hx206_0 := (HB.out.cell (World.block_lt_of_cell? w _ hx206_0)).trans hx206_0
          replace p206 := eq_true p206
          replace q206 := eq_true q206
          have hcz23_0 : wc.cell? ⟨gb205, 0, none⟩ = some (.slice A1_0 l1_0.length c1_0) := (blk_cell BK205.out 0).trans rfl
          have hcz23_1 : wc.cell? ⟨gb205, 1, none⟩ = some (.string a1_1) := (blk_cell BK205.out 1).trans rfl
          have hcz23_2 : wc.cell? ⟨gb205, 2, none⟩ = some (.string a1_2) := (blk_cell BK205.out 2).trans rfl
          have hcz23_3 : wc.cell? ⟨gb205, 3, none⟩ = some (.string a1_3) := (blk_cell BK205.out 3).trans rfl
          have hfz23_0 := blk_frozen BK205.out 0
          have hfz23_1 := blk_frozen BK205.out 1
          have hfz23_2 := blk_frozen BK205.out 2
          have hfz23_3 := blk_frozen BK205.out 3
          have p207 : 0 ≤ (x5_1 : Int) := of_decide_eq_true au88
          have q207 : x5_1 < (l1_0.length : Int) := of_decide_eq_true au88
          obtain ⟨ad207, e207, hx207_0⟩ := Kd.at_string HR1_0.out x5_1 p207 q207
          cases e207
          replace hx207_0 := (HB.out.cell (World.block_lt_of_cell? w _ hx207_0)).trans hx207_0
          replace p207 := eq_true p207
          replace q207 := eq_true q207
          go_wp2_with (first | (go_at_call 76; (with_reducible refine (spec_l2Fits.calls (rdOf ByteArray.empty l0_0 x5_1) (rdOf ByteArray.empty l1_0 x5_1) _ _ A16.out).mono ?_); rintro e w' ⟨rfl, ⟨nd, rfl⟩⟩; (try first | exact ⟨rfl, _, World.drewN_drewN _ _ _⟩ | exact ⟨rfl, _, Eq.trans (World.drewN_drewN _ _ _) (congrArg (World.drewN _) (Nat.add_assoc _ _ _))⟩)))
          repeat (go_quiet (first | (go_at_call 76; (with_reducible refine (spec_l2Fits.calls (rdOf ByteArray.empty l0_0 x5_1) (rdOf ByteArray.empty l1_0 x5_1) _ _ A16.out).mono ?_); rintro e w' ⟨rfl, ⟨nd, rfl⟩⟩; (try first | exact ⟨rfl, _, World.drewN_drewN _ _ _⟩ | exact ⟨rfl, _, Eq.trans (World.drewN_drewN _ _ _) (congrArg (World.drewN _) (Nat.add_assoc _ _ _))⟩))); try go_wp2_with (first | (go_at_call 76; (with_reducible refine (spec_l2Fits.calls (rdOf ByteArray.empty l0_0 x5_1) (rdOf ByteArray.empty l1_0 x5_1) _ _ A16.out).mono ?_); rintro e w' ⟨rfl, ⟨nd, rfl⟩⟩; (try first | exact ⟨rfl, _, World.drewN_drewN _ _ _⟩ | exact ⟨rfl, _, Eq.trans (World.drewN_drewN _ _ _) (congrArg (World.drewN _) (Nat.add_assoc _ _ _))⟩))))
          go_ret
          exact ⟨by first | rfl | (simp [errW_none, errW_some] <;> rfl) | (simp [*, errW_none, errW_some] <;> rfl), by repeat (first | (with_reducible first | exact HB.out | apply below_alloc | apply pw_below_drewN | apply below_drew1 | refine below_set ?_ GE204.out | refine below_set ?_ GE205.out) | exact HB.out)⟩
        ·
         rw [if_neg c15] at H
         exact absurd H (by simp)
       ·
        rw [if_neg c14] at H
        exact absurd H (by simp)
      ·
       rw [if_neg c13] at H
       exact absurd H (by simp)
     ·
      replace c12 := Bool.eq_false_iff.mpr c12
      subst c12
      replace H := (if_neg (show ¬ (false = true) by decide)).symm.trans H
      by_cases c24 : a0_1.toList = a1_1.toList
      ·
       rw [if_pos c24] at H
       have c24b0 : (a0_1.toList == a1_1.toList) = true := beq_iff_eq.mpr c24
       have c24b1 : (a0_1.toList != a1_1.toList) = false := bne_eq_false_iff_eq.mpr c24
       clear c24
       by_cases c25 : a0_2.toList = a1_2.toList
       ·
        rw [if_pos c25] at H
        have c25b0 : (a0_2.toList == a1_2.toList) = true := beq_iff_eq.mpr c25
        have c25b1 : (a0_2.toList != a1_2.toList) = false := bne_eq_false_iff_eq.mpr c25
        clear c25
        obtain rfl := Option.some.inj H
        exact spec_l2May.L0
       ·
        rw [if_neg c25] at H
        have c25b0 : (a0_2.toList == a1_2.toList) = false := beq_eq_false_iff_ne.mpr c25
        have c25b1 : (a0_2.toList != a1_2.toList) = true := bne_iff_ne.mpr c25
        obtain rfl := Option.some.inj H
        exact spec_l2May.L0
      ·
       rw [if_neg c24] at H
       have c24b0 : (a0_1.toList == a1_1.toList) = false := beq_eq_false_iff_ne.mpr c24
       have c24b1 : (a0_1.toList != a1_1.toList) = true := bne_iff_ne.mpr c24
       obtain rfl := Option.some.inj H
       exact spec_l2May.L0


/-! ### stringslite_HasPrefix: function 98 -/
def stringslite_HasPrefix.f (a0 : ByteArray) (a1 : ByteArray) : Option (Bool) := if (a0.size : Int) ≥ (a1.size : Int) then (if 0 ≤ (a1.size : Int) then (if (a1.size : Int) ≤ (a0.size : Int) then (some ((a0.extract 0 ((a1.size : Int) : Int).toNat).toList == a1.toList)) else (none)) else (none)) else (some false)
set_option maxHeartbeats 8000000 in
set_option maxRecDepth 100000 in
theorem stringslite_HasPrefix.calls (a0 : ByteArray) (a1 : ByteArray) (r : Bool) (w : World) (h : stringslite_HasPrefix.f a0 a1 = some r) :
  Calls Tryd.prog 98 #[.string a0, .string a1] w fun e w' => e = .returned (.bool r) ∧ Drawn0 w w' := by
 have H : (if (a0.size : Int) ≥ (a1.size : Int) then (if 0 ≤ (a1.size : Int) then (if (a1.size : Int) ≤ (a0.size : Int) then (some ((a0.extract 0 ((a1.size : Int) : Int).toNat).toList == a1.toList)) else (none)) else (none)) else (some false)) = some r := h
 clear h
 by_cases c3 : (a0.size : Int) ≥ (a1.size : Int)
 ·
  rw [if_pos c3] at H
  have c3b0 : decide ((a1.size : Int) ≤ (a0.size : Int)) = true := decide_eq_true c3
  have c3b1 : decide (a1.size ≤ a0.size) = true := decide_eq_true (Int.ofNat_le.mp c3)
  clear c3
  by_cases c4 : 0 ≤ (a1.size : Int)
  ·
   rw [if_pos c4] at H
   have c4b0 := eq_true c4
   have c4b1 : decide (0 ≤ (a1.size : Int)) = true := decide_eq_true c4
   clear c4
   by_cases c5 : (a1.size : Int) ≤ (a0.size : Int)
   ·
    rw [if_pos c5] at H
    have c5b0 := eq_true c5
    have c5b1 : decide ((a1.size : Int) ≤ (a0.size : Int)) = true := decide_eq_true c5
    clear c5
    obtain rfl := Option.some.inj H
    go_enter Tryd.func98, Tryd.ntmps98
    go_wp2
    go_ret
    exact ax0
   ·
    rw [if_neg c5] at H
    exact absurd H (by simp)
  ·
   rw [if_neg c4] at H
   exact absurd H (by simp)
 ·
  rw [if_neg c3] at H
  have c3b0 : decide ((a1.size : Int) ≤ (a0.size : Int)) = false := decide_eq_false c3
  have c3b1 : decide (a1.size ≤ a0.size) = false := decide_eq_false (fun h => c3 (Int.ofNat_le.mpr h))
  clear c3
  obtain rfl := Option.some.inj H
  go_enter Tryd.func98, Tryd.ntmps98
  go_wp2
  go_ret
  exact ax0


/-! ### strings_HasPrefix: function 77 -/
def strings_HasPrefix.f (a0 : ByteArray) (a1 : ByteArray) : Option (Bool) := (stringslite_HasPrefix.f a0 a1).bind fun t214 => (some t214)
set_option maxHeartbeats 8000000 in
set_option maxRecDepth 100000 in
theorem strings_HasPrefix.calls (a0 : ByteArray) (a1 : ByteArray) (r : Bool) (w : World) (h : strings_HasPrefix.f a0 a1 = some r) :
  Calls Tryd.prog 77 #[.string a0, .string a1] w fun e w' => e = .returned (.bool r) ∧ Drawn0 w w' := by
 have H : ((stringslite_HasPrefix.f a0 a1).bind fun t214 => (some t214)) = some r := h
 clear h
 replace H := Option.bind_eq_some_iff.mp H
 obtain ⟨t214, A30, H⟩ := H
 try dsimp only at H
 have A3 := Aside0.mk A30
 clear A30
 obtain rfl := Option.some.inj H
 go_enter Tryd.func77, Tryd.ntmps77
 go_wp2_with (first | ((with_reducible refine gate_callee (f := 98) rfl ?_); refine goesL_ (some 7) rfl rfl Tryd.func98 (by kernel_rfl) rfl #[.string a0, .string a1] rfl au38 ?_; (with_reducible refine (stringslite_HasPrefix.calls a0 a1 t214 _ A3.out).mono ?_); rintro e w' ⟨rfl, ⟨nd, rfl⟩⟩; refine ⟨_, rfl, ?_⟩))
 go_ret
 exact ax0


/-! ### impl_mayBeSame: function 48 -/
mutual
def impl_mayBeSame.j0 : Nat → Bool → List ByteArray → ByteArray → ByteArray → ByteArray → List ByteArray → ByteArray → ByteArray → ByteArray → Option (Bool)
  | 0, _, _, _, _, _, _, _, _, _ => none
  | k + 1, x26, x216000, x216001, x216002, x216003, x217000, x217001, x217002, x217003 => if x26 = true then (some false) else (impl_mayBeSame.l0 k 0 x216000 x216001 x216002 x216003 x217000 x217001 x217002 x217003)
def impl_mayBeSame.l0 : Nat → Int → List ByteArray → ByteArray → ByteArray → ByteArray → List ByteArray → ByteArray → ByteArray → ByteArray → Option (Bool)
  | 0, _, _, _, _, _, _, _, _, _ => none
  | k + 1, x5, x216000, x216001, x216002, x216003, x217000, x217001, x217002, x217003 => if x5 < (mn (x216000.length : Int) (x217000.length : Int)) then (if 0 ≤ x5 then (if x5 < (x216000.length : Int) then (if x5 < (x217000.length : Int) then (if (rdOf ByteArray.empty x216000 x5).toList = (rdOf ByteArray.empty x217000 x5).toList then (impl_mayBeSame.l0 k (wrap64 (x5 + 1)) x216000 x216001 x216002 x216003 x217000 x217001 x217002 x217003) else (if ((rdOf ByteArray.empty x216000 x5).size : Int) = 1 then ((strings_HasPrefix.f (rdOf ByteArray.empty x217000 x5) (rdOf ByteArray.empty x216000 x5)).bind fun t219 => (if t219 = true then (impl_mayBeSame.l0 k (wrap64 (x5 + 1)) x216000 x216001 x216002 x216003 x217000 x217001 x217002 x217003) else (if ((rdOf ByteArray.empty x217000 x5).size : Int) = 1 then ((strings_HasPrefix.f (rdOf ByteArray.empty x216000 x5) (rdOf ByteArray.empty x217000 x5)).bind fun t220 => (if t220 = true then (impl_mayBeSame.l0 k (wrap64 (x5 + 1)) x216000 x216001 x216002 x216003 x217000 x217001 x217002 x217003) else (some false))) else (some false)))) else (if ((rdOf ByteArray.empty x217000 x5).size : Int) = 1 then ((strings_HasPrefix.f (rdOf ByteArray.empty x216000 x5) (rdOf ByteArray.empty x217000 x5)).bind fun t221 => (if t221 = true then (impl_mayBeSame.l0 k (wrap64 (x5 + 1)) x216000 x216001 x216002 x216003 x217000 x217001 x217002 x217003) else (some false))) else (some false)))) else (none)) else (none)) else (none)) else (some true)
end
def impl_mayBeSame.f (k : Nat) (l0_0 : List ByteArray) (a0_1 : ByteArray) (a0_2 : ByteArray) (a0_3 : ByteArray) (l1_0 : List ByteArray) (a1_1 : ByteArray) (a1_2 : ByteArray) (a1_3 : ByteArray) : Option (Bool) := if a0_1.toList = a1_1.toList then (if a0_2.toList = a1_2.toList then (impl_mayBeSame.j0 k (a0_3.toList != a1_3.toList) l0_0 a0_1 a0_2 a0_3 l1_0 a1_1 a1_2 a1_3) else (impl_mayBeSame.j0 k true l0_0 a0_1 a0_2 a0_3 l1_0 a1_1 a1_2 a1_3)) else (impl_mayBeSame.j0 k true l0_0 a0_1 a0_2 a0_3 l1_0 a1_1 a1_2 a1_3)
theorem impl_mayBeSame.mono_l : ∀ k, (∀ y0 y1 y2 y3 y4 y5 y6 y7 y8, LeO (impl_mayBeSame.j0 k y0 y1 y2 y3 y4 y5 y6 y7 y8) (impl_mayBeSame.j0 (k + 1) y0 y1 y2 y3 y4 y5 y6 y7 y8)) ∧ (∀ y0 y1 y2 y3 y4 y5 y6 y7 y8, LeO (impl_mayBeSame.l0 k y0 y1 y2 y3 y4 y5 y6 y7 y8) (impl_mayBeSame.l0 (k + 1) y0 y1 y2 y3 y4 y5 y6 y7 y8))
  | 0 => ⟨fun _ _ _ _ _ _ _ _ _ r h => by simp [impl_mayBeSame.j0] at h, fun _ _ _ _ _ _ _ _ _ r h => by simp [impl_mayBeSame.l0] at h⟩
  | k + 1 => by
    obtain ⟨ih0, ih1⟩ := impl_mayBeSame.mono_l k
    refine ⟨?_, ?_⟩
    · intro y0 y1 y2 y3 y4 y5 y6 y7 y8
      unfold impl_mayBeSame.j0
      repeat' first
      | (with_reducible exact ih0 _ _ _ _ _ _ _ _ _)
      | (with_reducible exact ih1 _ _ _ _ _ _ _ _ _)
      | (with_reducible exact LeO.refl _)
      | (with_reducible exact LeO.none _)
      | (with_reducible refine LeO.ite ?_ ?_)
      | (with_reducible refine LeO.bind ?_ (fun _ => ?_))
      | exact ih0 _ _ _ _ _ _ _ _ _
      | exact ih1 _ _ _ _ _ _ _ _ _
      | exact LeO.none _
      | refine LeO.ite ?_ ?_
      | refine LeO.bind ?_ (fun _ => ?_)
    · intro y0 y1 y2 y3 y4 y5 y6 y7 y8
      unfold impl_mayBeSame.l0
      repeat' first
      | (with_reducible exact ih0 _ _ _ _ _ _ _ _ _)
      | (with_reducible exact ih1 _ _ _ _ _ _ _ _ _)
      | (with_reducible exact LeO.refl _)
      | (with_reducible exact LeO.none _)
      | (with_reducible refine LeO.ite ?_ ?_)
      | (with_reducible refine LeO.bind ?_ (fun _ => ?_))
      | exact ih0 _ _ _ _ _ _ _ _ _
      | exact ih1 _ _ _ _ _ _ _ _ _
      | exact LeO.none _
      | refine LeO.ite ?_ ?_
      | refine LeO.bind ?_ (fun _ => ?_)
theorem impl_mayBeSame.mono : ∀ a0 a1 a2 a3 a4 a5 a6 a7 k, LeO (impl_mayBeSame.f k a0 a1 a2 a3 a4 a5 a6 a7) (impl_mayBeSame.f (k + 1) a0 a1 a2 a3 a4 a5 a6 a7) := by
  intro a0 a1 a2 a3 a4 a5 a6 a7 k
  obtain ⟨ih0, ih1⟩ := impl_mayBeSame.mono_l k
  unfold impl_mayBeSame.f
  repeat' first
      | (with_reducible exact ih0 _ _ _ _ _ _ _ _ _)
      | (with_reducible exact ih1 _ _ _ _ _ _ _ _ _)
      | (with_reducible exact LeO.refl _)
      | (with_reducible exact LeO.none _)
      | (with_reducible refine LeO.ite ?_ ?_)
      | (with_reducible refine LeO.bind ?_ (fun _ => ?_))
      | exact ih0 _ _ _ _ _ _ _ _ _
      | exact ih1 _ _ _ _ _ _ _ _ _
      | exact LeO.none _
      | refine LeO.ite ?_ ?_
      | refine LeO.bind ?_ (fun _ => ?_)
set_option maxRecDepth 100000 in
theorem impl_mayBeSame.L0 {P : Prop} (h : P := by
    have hnb8 := NB215_216.out
    have hnc8 := NB216_215.out
    have hcz9_0 : w5.cell? ⟨gb215, 0, none⟩ = some (.slice A0_0 l0_0.length c0_0) := (blk_cell BK215.out 0).trans rfl
    have hcz9_1 : w5.cell? ⟨gb215, 1, none⟩ = some (.string a0_1) := (blk_cell BK215.out 1).trans rfl
    have hcz9_2 : w5.cell? ⟨gb215, 2, none⟩ = some (.string a0_2) := (blk_cell BK215.out 2).trans rfl
    have hcz9_3 : w5.cell? ⟨gb215, 3, none⟩ = some (.string a0_3) := (blk_cell BK215.out 3).trans rfl
    have hfz9_0 := blk_frozen BK215.out 0
    have hfz9_1 := blk_frozen BK215.out 1
    have hfz9_2 := blk_frozen BK215.out 2
    have hfz9_3 := blk_frozen BK215.out 3
    have hcz10_0 : w5.cell? ⟨gb216, 0, none⟩ = some (.slice A1_0 l1_0.length c1_0) := (blk_cell BK216.out 0).trans rfl
    have hcz10_1 : w5.cell? ⟨gb216, 1, none⟩ = some (.string a1_1) := (blk_cell BK216.out 1).trans rfl
    have hcz10_2 : w5.cell? ⟨gb216, 2, none⟩ = some (.string a1_2) := (blk_cell BK216.out 2).trans rfl
    have hcz10_3 : w5.cell? ⟨gb216, 3, none⟩ = some (.string a1_3) := (blk_cell BK216.out 3).trans rfl
    have hfz10_0 := blk_frozen BK216.out 0
    have hfz10_1 := blk_frozen BK216.out 1
    have hfz10_2 := blk_frozen BK216.out 2
    have hfz10_3 := blk_frozen BK216.out 3
    go_wp2
    all_goals
      first
      | (exfalso; (try simp only [decide_eq_true_eq, decide_eq_false_iff_not] at *); first | done | omega)
      | repeat (go_quiet (fail); try go_wp2)
        go_meet
    case rel => first | (exact ⟨_, ((a0_3.toList != a1_3.toList)), au89, H', ⟨by first | omega | exact Nat.le_refl _⟩, ⟨by (with_reducible repeat (first | refine blk_drewN ?_ _ | refine blk_drew ?_ | refine blk_alloc ?_ _)); exact BK215.out⟩, ⟨by (with_reducible repeat (first | refine blk_drewN ?_ _ | refine blk_drew ?_ | refine blk_alloc ?_ _)); exact BK216.out⟩, ⟨by repeat (first | (with_reducible first | exact HB.out | apply below_alloc | apply pw_below_drewN | apply below_drew1 | refine below_set ?_ GE215.out | refine below_set ?_ GE216.out) | exact HB.out)⟩⟩) | (exact ⟨_, (true), au89, H', ⟨by first | omega | exact Nat.le_refl _⟩, ⟨by (with_reducible repeat (first | refine blk_drewN ?_ _ | refine blk_drew ?_ | refine blk_alloc ?_ _)); exact BK215.out⟩, ⟨by (with_reducible repeat (first | refine blk_drewN ?_ _ | refine blk_drew ?_ | refine blk_alloc ?_ _)); exact BK216.out⟩, ⟨by repeat (first | (with_reducible first | exact HB.out | apply below_alloc | apply pw_below_drewN | apply below_drew1 | refine below_set ?_ GE215.out | refine below_set ?_ GE216.out) | exact HB.out)⟩⟩)) : P := h
set_option maxHeartbeats 8000000 in
set_option maxRecDepth 100000 in
theorem impl_mayBeSame.calls (k : Nat) (A0_0 : Option Addr) (c0_0 : Nat) (l0_0 : List ByteArray) (a0_1 : ByteArray) (a0_2 : ByteArray) (a0_3 : ByteArray) (A1_0 : Option Addr) (c1_0 : Nat) (l1_0 : List ByteArray) (a1_1 : ByteArray) (a1_2 : ByteArray) (a1_3 : ByteArray) (r : Bool) (w : World) (hr0_0 : Kd.C Kd.string w A0_0 l0_0.length l0_0) (hc0_0 : l0_0.length ≤ c0_0) (hr1_0 : Kd.C Kd.string w A1_0 l1_0.length l1_0) (hc1_0 : l1_0.length ≤ c1_0) (h : impl_mayBeSame.f k l0_0 a0_1 a0_2 a0_3 l1_0 a1_1 a1_2 a1_3 = some r) :
    Calls Tryd.prog 48 #[.agg #[.slice A0_0 l0_0.length c0_0, .string a0_1, .string a0_2, .string a0_3], .agg #[.slice A1_0 l1_0.length c1_0, .string a1_1, .string a1_2, .string a1_3]] w fun e w' => e = .returned (.bool r) ∧ Below w.heap.size w w' := by
  have hu27 := Tryd.underlying27
  have HR0_0 := Aside0.mk hr0_0
  have HC0_0 := Aside0.mk hc0_0
  clear hr0_0 hc0_0
  have HR1_0 := Aside0.mk hr1_0
  have HC1_0 := Aside0.mk hc1_0
  clear hr1_0 hc1_0
  have HB := Aside0.mk (Below.refl w.heap.size w)
  have H : (if a0_1.toList = a1_1.toList then (if a0_2.toList = a1_2.toList then (impl_mayBeSame.j0 k (a0_3.toList != a1_3.toList) l0_0 a0_1 a0_2 a0_3 l1_0 a1_1 a1_2 a1_3) else (impl_mayBeSame.j0 k true l0_0 a0_1 a0_2 a0_3 l1_0 a1_1 a1_2 a1_3)) else (impl_mayBeSame.j0 k true l0_0 a0_1 a0_2 a0_3 l1_0 a1_1 a1_2 a1_3)) = some r := h
  clear h
  have HC3 := Aside0.mk H
  clear H
  go_enter Tryd.func48, Tryd.ntmps48
  go_upto_region 1 with (first | ((with_reducible refine gate_dst (N := 2) rfl ?_); (try (refine gate_guard (by rfl) ?_; dsimp only)); refine box_event ?hg (N := 2) ?hd (cs := #[.slice A0_0 l0_0.length c0_0, .string a0_1, .string a0_2, .string a0_3]) (t := 27) ?hr ?_; (case hd => rfl); (case hg => rfl); (case hr => first | (go_simp; done) | (go_simp; rfl)); intro gb215 hg w4 hbox hb; have n0_ := Aside0.mk (below_step au41 hb); have n1_ := Aside0.mk (hbox); have n2_ := Aside0.mk ((by rw [hg]; exact (below_size au41) : w.heap.size ≤ gb215)); have n3_ := Aside0.mk ((by rw [hg]; exact (below_size au41) : w.heap.size ≤ gb215)); clear HB; have HB := n0_; have BK215 := n1_; have GW215 := n2_; have GE215 := n3_; clear n0_ n1_ n2_ n3_; clear hb hbox hg) | ((with_reducible refine gate_dst (N := 3) rfl ?_); (try (refine gate_guard (by rfl) ?_; dsimp only)); refine box_event ?hg (N := 3) ?hd (cs := #[.slice A1_0 l1_0.length c1_0, .string a1_1, .string a1_2, .string a1_3]) (t := 27) ?hr ?_; (case hd => rfl); (case hg => rfl); (case hr => first | (go_simp; done) | (go_simp; rfl)); intro gb216 hg w5 hbox hb; have n0_ := Aside0.mk (blk_below (g := gb215) (o := .cells #[.slice A0_0 l0_0.length c0_0, .string a0_1, .string a0_2, .string a0_3] 27 (0, 0)) au74 hb); have n1_ := Aside0.mk (below_step au35 hb); have n2_ := Aside0.mk (hbox); have n3_ := Aside0.mk ((by rw [hg]; exact (below_size au35) : w.heap.size ≤ gb216)); have n4_ := Aside0.mk ((by rw [hg]; exact (below_size au35) : w.heap.size ≤ gb216)); have n5_ := Aside0.mk ((by rw [hg]; exact Nat.ne_of_lt (blk_lt (g := gb215) (o := .cells #[.slice A0_0 l0_0.length c0_0, .string a0_1, .string a0_2, .string a0_3] 27 (0, 0)) au74) : gb215 ≠ gb216)); have n6_ := Aside0.mk ((by rw [hg]; exact Nat.ne_of_gt (blk_lt (g := gb215) (o := .cells #[.slice A0_0 l0_0.length c0_0, .string a0_1, .string a0_2, .string a0_3] 27 (0, 0)) au74) : gb216 ≠ gb215)); clear BK215; clear HB; have BK215 := n0_; have HB := n1_; have BK216 := n2_; have GW216 := n3_; have GE216 := n4_; have NB215_216 := n5_; have NB216_215 := n6_; clear n0_ n1_ n2_ n3_ n4_ n5_ n6_; clear hb hbox hg))
  repeat (go_quiet (first | ((with_reducible refine gate_dst (N := 2) rfl ?_); (try (refine gate_guard (by rfl) ?_; dsimp only)); refine box_event ?hg (N := 2) ?hd (cs := #[.slice A0_0 l0_0.length c0_0, .string a0_1, .string a0_2, .string a0_3]) (t := 27) ?hr ?_; (case hd => rfl); (case hg => rfl); (case hr => first | (go_simp; done) | (go_simp; rfl)); intro gb215 hg w4 hbox hb; have n0_ := Aside0.mk (below_step au41 hb); have n1_ := Aside0.mk (hbox); have n2_ := Aside0.mk ((by rw [hg]; exact (below_size au41) : w.heap.size ≤ gb215)); have n3_ := Aside0.mk ((by rw [hg]; exact (below_size au41) : w.heap.size ≤ gb215)); clear HB; have HB := n0_; have BK215 := n1_; have GW215 := n2_; have GE215 := n3_; clear n0_ n1_ n2_ n3_; clear hb hbox hg) | ((with_reducible refine gate_dst (N := 3) rfl ?_); (try (refine gate_guard (by rfl) ?_; dsimp only)); refine box_event ?hg (N := 3) ?hd (cs := #[.slice A1_0 l1_0.length c1_0, .string a1_1, .string a1_2, .string a1_3]) (t := 27) ?hr ?_; (case hd => rfl); (case hg => rfl); (case hr => first | (go_simp; done) | (go_simp; rfl)); intro gb216 hg w5 hbox hb; have n0_ := Aside0.mk (blk_below (g := gb215) (o := .cells #[.slice A0_0 l0_0.length c0_0, .string a0_1, .string a0_2, .string a0_3] 27 (0, 0)) au74 hb); have n1_ := Aside0.mk (below_step au35 hb); have n2_ := Aside0.mk (hbox); have n3_ := Aside0.mk ((by rw [hg]; exact (below_size au35) : w.heap.size ≤ gb216)); have n4_ := Aside0.mk ((by rw [hg]; exact (below_size au35) : w.heap.size ≤ gb216)); have n5_ := Aside0.mk ((by rw [hg]; exact Nat.ne_of_lt (blk_lt (g := gb215) (o := .cells #[.slice A0_0 l0_0.length c0_0, .string a0_1, .string a0_2, .string a0_3] 27 (0, 0)) au74) : gb215 ≠ gb216)); have n6_ := Aside0.mk ((by rw [hg]; exact Nat.ne_of_gt (blk_lt (g := gb215) (o := .cells #[.slice A0_0 l0_0.length c0_0, .string a0_1, .string a0_2, .string a0_3] 27 (0, 0)) au74) : gb216 ≠ gb215)); clear BK215; clear HB; have BK215 := n0_; have HB := n1_; have BK216 := n2_; have GW216 := n3_; have GE216 := n4_; have NB215_216 := n5_; have NB216_215 := n6_; clear n0_ n1_ n2_ n3_ n4_ n5_ n6_; clear hb hbox hg)); go_upto_region 1 with (first | ((with_reducible refine gate_dst (N := 2) rfl ?_); (try (refine gate_guard (by rfl) ?_; dsimp only)); refine box_event ?hg (N := 2) ?hd (cs := #[.slice A0_0 l0_0.length c0_0, .string a0_1, .string a0_2, .string a0_3]) (t := 27) ?hr ?_; (case hd => rfl); (case hg => rfl); (case hr => first | (go_simp; done) | (go_simp; rfl)); intro gb215 hg w4 hbox hb; have n0_ := Aside0.mk (below_step au41 hb); have n1_ := Aside0.mk (hbox); have n2_ := Aside0.mk ((by rw [hg]; exact (below_size au41) : w.heap.size ≤ gb215)); have n3_ := Aside0.mk ((by rw [hg]; exact (below_size au41) : w.heap.size ≤ gb215)); clear HB; have HB := n0_; have BK215 := n1_; have GW215 := n2_; have GE215 := n3_; clear n0_ n1_ n2_ n3_; clear hb hbox hg) | ((with_reducible refine gate_dst (N := 3) rfl ?_); (try (refine gate_guard (by rfl) ?_; dsimp only)); refine box_event ?hg (N := 3) ?hd (cs := #[.slice A1_0 l1_0.length c1_0, .string a1_1, .string a1_2, .string a1_3]) (t := 27) ?hr ?_; (case hd => rfl); (case hg => rfl); (case hr => first | (go_simp; done) | (go_simp; rfl)); intro gb216 hg w5 hbox hb; have n0_ := Aside0.mk (blk_below (g := gb215) (o := .cells #[.slice A0_0 l0_0.length c0_0, .string a0_1, .string a0_2, .string a0_3] 27 (0, 0)) au74 hb); have n1_ := Aside0.mk (below_step au35 hb); have n2_ := Aside0.mk (hbox); have n3_ := Aside0.mk ((by rw [hg]; exact (below_size au35) : w.heap.size ≤ gb216)); have n4_ := Aside0.mk ((by rw [hg]; exact (below_size au35) : w.heap.size ≤ gb216)); have n5_ := Aside0.mk ((by rw [hg]; exact Nat.ne_of_lt (blk_lt (g := gb215) (o := .cells #[.slice A0_0 l0_0.length c0_0, .string a0_1, .string a0_2, .string a0_3] 27 (0, 0)) au74) : gb215 ≠ gb216)); have n6_ := Aside0.mk ((by rw [hg]; exact Nat.ne_of_gt (blk_lt (g := gb215) (o := .cells #[.slice A0_0 l0_0.length c0_0, .string a0_1, .string a0_2, .string a0_3] 27 (0, 0)) au74) : gb216 ≠ gb215)); clear BK215; clear HB; have BK215 := n0_; have HB := n1_; have BK216 := n2_; have GW216 := n3_; have GE216 := n4_; have NB215_216 := n5_; have NB216_215 := n6_; clear n0_ n1_ n2_ n3_ n4_ n5_ n6_; clear hb hbox hg)))
  (try simp only [Act.put, List.setIfInBounds_toArray, List.set_cons_zero, List.set_cons_succ])
  go_cut [26] (fun v26 wc => ∃ (kq : Nat) (x26_2 : Bool), v26 = .bool x26_2 ∧ Aside0 (impl_mayBeSame.j0 kq x26_2 l0_0 a0_1 a0_2 a0_3 l1_0 a1_1 a1_2 a1_3 = some r) ∧ Aside0 (kq ≤ k) ∧ Aside0 (wc.heap[gb215]? = some (.cells #[(.slice A0_0 l0_0.length c0_0), .string a0_1, .string a0_2, .string a0_3] 27 (0, 0))) ∧ Aside0 (wc.heap[gb216]? = some (.cells #[(.slice A1_0 l1_0.length c1_0), .string a1_1, .string a1_2, .string a1_3] 27 (0, 0))) ∧ Aside0 (Below w.heap.size w wc))
  case first =>
    have H := HC3.out
    clear HC3
    by_cases c6 : a0_1.toList = a1_1.toList
    · rw [if_pos c6] at H
      have c6b0 : (a0_1.toList == a1_1.toList) = true := beq_iff_eq.mpr c6
      have c6b1 : (a0_1.toList != a1_1.toList) = false := bne_eq_false_iff_eq.mpr c6
      clear c6
      (first | rw [c6b0] | (simp only [i64_w, i32_w]; rw [c6b0]) | skip)
      by_cases c7 : a0_2.toList = a1_2.toList
      · rw [if_pos c7] at H
        have c7b0 : (a0_2.toList == a1_2.toList) = true := beq_iff_eq.mpr c7
        have c7b1 : (a0_2.toList != a1_2.toList) = false := bne_eq_false_iff_eq.mpr c7
        clear c7
        have H' := Aside0.mk H
        clear H
        exact impl_mayBeSame.L0
      · rw [if_neg c7] at H
        have c7b0 : (a0_2.toList == a1_2.toList) = false := beq_eq_false_iff_ne.mpr c7
        have c7b1 : (a0_2.toList != a1_2.toList) = true := bne_iff_ne.mpr c7
        have H' := Aside0.mk H
        clear H
        exact impl_mayBeSame.L0
    · rw [if_neg c6] at H
      have c6b0 : (a0_1.toList == a1_1.toList) = false := beq_eq_false_iff_ne.mpr c6
      have c6b1 : (a0_1.toList != a1_1.toList) = true := bne_iff_ne.mpr c6
      (first | rw [c6b0] | (simp only [i64_w, i32_w]; rw [c6b0]) | skip)
      have H' := Aside0.mk H
      clear H
      exact impl_mayBeSame.L0
  case rest =>
    clear HC3
    try clear c1
    try clear p2
    try clear c4
    try clear c6
    try clear c6b0
    try clear c6b1
    try clear c7
    try clear c7b0
    try clear c7b1
    try clear c8
    try clear c11
    try clear c14
    try clear hcz10_0
    try clear hcz10_1
    try clear hcz10_2
    try clear hcz10_3
    try clear hcz12_0
    try clear hcz12_1
    try clear hcz12_2
    try clear hcz12_3
    try clear hcz13_0
    try clear hcz13_1
    try clear hcz13_2
    try clear hcz13_3
    try clear hcz15_0
    try clear hcz15_1
    try clear hcz15_2
    try clear hcz15_3
    try clear hcz16_0
    try clear hcz16_1
    try clear hcz16_2
    try clear hcz16_3
    try clear hcz9_0
    try clear hcz9_1
    try clear hcz9_2
    try clear hcz9_3
    try clear hfz10_0
    try clear hfz10_1
    try clear hfz10_2
    try clear hfz10_3
    try clear hfz12_0
    try clear hfz12_1
    try clear hfz12_2
    try clear hfz12_3
    try clear hfz13_0
    try clear hfz13_1
    try clear hfz13_2
    try clear hfz13_3
    try clear hfz15_0
    try clear hfz15_1
    try clear hfz15_2
    try clear hfz15_3
    try clear hfz16_0
    try clear hfz16_1
    try clear hfz16_2
    try clear hfz16_3
    try clear hfz9_0
    try clear hfz9_1
    try clear hfz9_2
    try clear hfz9_3
    obtain ⟨kq, x26_2, rfl, HA, HJ2, BK215, BK216, HB⟩ := hcut
    cases kq with
    | zero => exact absurd HA.out (by simp [impl_mayBeSame.j0])
    | succ kj2 =>
      have H := HA.out
      clear HA
      simp only [impl_mayBeSame.j0] at H
      by_cases c17 : x26_2 = true
      · subst c17
        replace H := (if_pos rfl).symm.trans H
        obtain rfl := Option.some.inj H
        go_wp2
        all_goals
          first
          | (exfalso; (try simp only [decide_eq_true_eq, decide_eq_false_iff_not] at *); first | done | omega)
          | repeat (go_quiet (fail); try go_wp2)
            go_ret
            exact ⟨by first | rfl | (simp [errW_none, errW_some] <;> rfl) | (simp [*, errW_none, errW_some] <;> rfl), by repeat (first | (with_reducible first | exact HB.out | apply below_alloc | apply pw_below_drewN | apply below_drew1 | refine below_set ?_ GE215.out | refine below_set ?_ GE216.out) | exact HB.out)⟩
      · replace c17 := Bool.eq_false_iff.mpr c17
        subst c17
        replace H := (if_neg (show ¬ (false = true) by decide)).symm.trans H
        have H' := Aside0.mk H
        clear H
        go_wp2
        all_goals
          first
          | (exfalso; (try simp only [decide_eq_true_eq, decide_eq_false_iff_not] at *); first | done | omega)
          | repeat (go_quiet (fail); try go_wp2)
            go_loopg [5] kj2 (fun kq v5 w' => ∃ (x5_2 : Int), v5 = .int .i64 x5_2 ∧ Aside0 (impl_mayBeSame.l0 kq x5_2 l0_0 a0_1 a0_2 a0_3 l1_0 a1_1 a1_2 a1_3 = some r) ∧ Aside0 (kq ≤ kj2) ∧ Aside0 (w'.heap[gb215]? = some (.cells #[(.slice A0_0 l0_0.length c0_0), .string a0_1, .string a0_2, .string a0_3] 27 (0, 0))) ∧ Aside0 (w'.heap[gb216]? = some (.cells #[(.slice A1_0 l1_0.length c1_0), .string a1_1, .string a1_2, .string a1_3] 27 (0, 0))) ∧ Aside0 (Below w.heap.size w w'))
            case atStart => exact ⟨(0), au89, H', ⟨Nat.le_refl _⟩, ⟨by (with_reducible repeat (first | refine blk_drewN ?_ _ | refine blk_drew ?_ | refine blk_alloc ?_ _)); exact BK215.out⟩, ⟨by (with_reducible repeat (first | refine blk_drewN ?_ _ | refine blk_drew ?_ | refine blk_alloc ?_ _)); exact BK216.out⟩, ⟨by repeat (first | (with_reducible first | exact HB.out | apply below_alloc | apply pw_below_drewN | apply below_drew1 | refine below_set ?_ GE215.out | refine below_set ?_ GE216.out) | exact HB.out)⟩⟩
            case round =>
              clear H'
              try clear c1
              try clear p2
              try clear c4
              try clear c6
              try clear c6b0
              try clear c6b1
              try clear c7
              try clear c7b0
              try clear c7b1
              try clear c8
              try clear c11
              try clear c14
              try clear c17
              try clear hcz10_0
              try clear hcz10_1
              try clear hcz10_2
              try clear hcz10_3
              try clear hcz12_0
              try clear hcz12_1
              try clear hcz12_2
              try clear hcz12_3
              try clear hcz13_0
              try clear hcz13_1
              try clear hcz13_2
              try clear hcz13_3
              try clear hcz15_0
              try clear hcz15_1
              try clear hcz15_2
              try clear hcz15_3
              try clear hcz16_0
              try clear hcz16_1
              try clear hcz16_2
              try clear hcz16_3
              try clear hcz9_0
              try clear hcz9_1
              try clear hcz9_2
              try clear hcz9_3
              try clear hfz10_0
              try clear hfz10_1
              try clear hfz10_2
              try clear hfz10_3
              try clear hfz12_0
              try clear hfz12_1
              try clear hfz12_2
              try clear hfz12_3
              try clear hfz13_0
              try clear hfz13_1
              try clear hfz13_2
              try clear hfz13_3
              try clear hfz15_0
              try clear hfz15_1
              try clear hfz15_2
              try clear hfz15_3
              try clear hfz16_0
              try clear hfz16_1
              try clear hfz16_2
              try clear hfz16_3
              try clear hfz9_0
              try clear hfz9_1
              try clear hfz9_2
              try clear hfz9_3
              try clear p2
              obtain ⟨x5_2, rfl, HA, HK2, BK215, BK216, HB⟩ := hrel
              cases gk with
              | zero => exact absurd HA.out (by simp [impl_mayBeSame.l0])
              | succ k2 =>
                have H := HA.out
                clear HA
                simp only [impl_mayBeSame.l0] at H
                obtain ⟨ji18, hji18⟩ : ∃ j_ : Int, (mn (l0_0.length : Int) (l1_0.length : Int)) = j_ := ⟨_, rfl⟩
                replace H : (if x5_2 < (ji18) then (if 0 ≤ x5_2 then (if x5_2 < (l0_0.length : Int) then (if x5_2 < (l1_0.length : Int) then (if (rdOf ByteArray.empty l0_0 x5_2).toList = (rdOf ByteArray.empty l1_0 x5_2).toList then (impl_mayBeSame.l0 k2 (wrap64 (x5_2 + 1)) l0_0 a0_1 a0_2 a0_3 l1_0 a1_1 a1_2 a1_3) else (if ((rdOf ByteArray.empty l0_0 x5_2).size : Int) = 1 then ((strings_HasPrefix.f (rdOf ByteArray.empty l1_0 x5_2) (rdOf ByteArray.empty l0_0 x5_2)).bind fun t219 => (if t219 = true then (impl_mayBeSame.l0 k2 (wrap64 (x5_2 + 1)) l0_0 a0_1 a0_2 a0_3 l1_0 a1_1 a1_2 a1_3) else (if ((rdOf ByteArray.empty l1_0 x5_2).size : Int) = 1 then ((strings_HasPrefix.f (rdOf ByteArray.empty l0_0 x5_2) (rdOf ByteArray.empty l1_0 x5_2)).bind fun t220 => (if t220 = true then (impl_mayBeSame.l0 k2 (wrap64 (x5_2 + 1)) l0_0 a0_1 a0_2 a0_3 l1_0 a1_1 a1_2 a1_3) else (some false))) else (some false)))) else (if ((rdOf ByteArray.empty l1_0 x5_2).size : Int) = 1 then ((strings_HasPrefix.f (rdOf ByteArray.empty l0_0 x5_2) (rdOf ByteArray.empty l1_0 x5_2)).bind fun t221 => (if t221 = true then (impl_mayBeSame.l0 k2 (wrap64 (x5_2 + 1)) l0_0 a0_1 a0_2 a0_3 l1_0 a1_1 a1_2 a1_3) else (some false))) else (some false)))) else (none)) else (none)) else (none)) else (some true)) = some r := by first | (rw [hji18] at H; exact H) | (simp only [hji18] at H ⊢; exact H)
                have hji18_ : (if (l1_0.length : Int) < (l0_0.length : Int) then (l1_0.length : Int) else (l0_0.length : Int)) = ji18 := hji18
                by_cases c19 : x5_2 < (ji18)
                · rw [if_pos c19] at H
                  have c19b0 : decide (x5_2 < (ji18)) = true := decide_eq_true c19
                  clear c19
                  by_cases c20 : 0 ≤ x5_2
                  · rw [if_pos c20] at H
                    have c20b0 : decide (0 ≤ x5_2) = true := decide_eq_true c20
                    clear c20
                    by_cases c21 : x5_2 < (l0_0.length : Int)
                    · rw [if_pos c21] at H
                      have c21b0 : decide (x5_2 < (l0_0.length : Int)) = true := decide_eq_true c21
                      clear c21
                      by_cases c22 : x5_2 < (l1_0.length : Int)
                      · rw [if_pos c22] at H
                        have c22b0 : decide (x5_2 < (l1_0.length : Int)) = true := decide_eq_true c22
                        clear c22
                        by_cases c23 : (rdOf ByteArray.empty l0_0 x5_2).toList = (rdOf ByteArray.empty l1_0 x5_2).toList
                        · rw [if_pos c23] at H
                          have c23b0 : ((rdOf ByteArray.empty l0_0 x5_2).toList == (rdOf ByteArray.empty l1_0 x5_2).toList) = true := beq_iff_eq.mpr c23
                          have c23b1 : ((rdOf ByteArray.empty l0_0 x5_2).toList != (rdOf ByteArray.empty l1_0 x5_2).toList) = false := bne_eq_false_iff_eq.mpr c23
                          clear c23
                          have H' := Aside0.mk H
                          clear H
                          have hnb24 := NB215_216.out
                          have hnc24 := NB216_215.out
                          have hcz25_0 : wr.cell? ⟨gb215, 0, none⟩ = some (.slice A0_0 l0_0.length c0_0) := (blk_cell BK215.out 0).trans rfl
                          have hcz25_1 : wr.cell? ⟨gb215, 1, none⟩ = some (.string a0_1) := (blk_cell BK215.out 1).trans rfl
                          have hcz25_2 : wr.cell? ⟨gb215, 2, none⟩ = some (.string a0_2) := (blk_cell BK215.out 2).trans rfl
                          have hcz25_3 : wr.cell? ⟨gb215, 3, none⟩ = some (.string a0_3) := (blk_cell BK215.out 3).trans rfl
                          have hfz25_0 := blk_frozen BK215.out 0
                          have hfz25_1 := blk_frozen BK215.out 1
                          have hfz25_2 := blk_frozen BK215.out 2
                          have hfz25_3 := blk_frozen BK215.out 3
                          have hcz26_0 : wr.cell? ⟨gb216, 0, none⟩ = some (.slice A1_0 l1_0.length c1_0) := (blk_cell BK216.out 0).trans rfl
                          have hcz26_1 : wr.cell? ⟨gb216, 1, none⟩ = some (.string a1_1) := (blk_cell BK216.out 1).trans rfl
                          have hcz26_2 : wr.cell? ⟨gb216, 2, none⟩ = some (.string a1_2) := (blk_cell BK216.out 2).trans rfl
                          have hcz26_3 : wr.cell? ⟨gb216, 3, none⟩ = some (.string a1_3) := (blk_cell BK216.out 3).trans rfl
                          have hfz26_0 := blk_frozen BK216.out 0
                          have hfz26_1 := blk_frozen BK216.out 1
                          have hfz26_2 := blk_frozen BK216.out 2
                          have hfz26_3 := blk_frozen BK216.out 3
                          have p217 : 0 ≤ (x5_2 : Int) := of_decide_eq_true au88
                          have q217 : x5_2 < (l0_0.length : Int) := of_decide_eq_true au88
                          obtain ⟨ad217, e217, hx217_0⟩ := Kd.at_string HR0_0.out x5_2 p217 q217
                          cases e217
                          replace hx217_0 := (HB.out.cell (World.block_lt_of_cell? w _ hx217_0)).trans hx217_0
                          replace p217 := eq_true p217
                          replace q217 := eq_true q217
                          have p218 : 0 ≤ (x5_2 : Int) := of_decide_eq_true au88
                          have q218 : x5_2 < (l1_0.length : Int) := of_decide_eq_true au88
                          obtain ⟨ad218, e218, hx218_0⟩ := Kd.at_string HR1_0.out x5_2 p218 q218
                          cases e218
                          replace hx218_0 := (HB.out.cell (World.block_lt_of_cell? w _ hx218_0)).trans hx218_0
                          replace p218 := eq_true p218
                          replace q218 := eq_true q218
                          go_wp2
                          all_goals
                            first
                            | (exfalso; (try simp only [decide_eq_true_eq, decide_eq_false_iff_not] at *); first | done | omega)
                            | repeat (go_quiet (fail); try go_wp2)
                              go_roundg k2
                              case measure => have := HJ2.out; have := HK2.out; omega
                              case rel => exact ⟨(wrap64 (x5_2 + 1)), au89, H', ⟨by have := HJ2.out; have := HK2.out; omega⟩, ⟨by (with_reducible repeat (first | refine blk_drewN ?_ _ | refine blk_drew ?_ | refine blk_alloc ?_ _)); exact BK215.out⟩, ⟨by (with_reducible repeat (first | refine blk_drewN ?_ _ | refine blk_drew ?_ | refine blk_alloc ?_ _)); exact BK216.out⟩, ⟨by repeat (first | (with_reducible first | exact HB.out | apply below_alloc | apply pw_below_drewN | apply below_drew1 | refine below_set ?_ GE215.out | refine below_set ?_ GE216.out) | exact HB.out)⟩⟩
                        · rw [if_neg c23] at H
                          have c23b0 : ((rdOf ByteArray.empty l0_0 x5_2).toList == (rdOf ByteArray.empty l1_0 x5_2).toList) = false := beq_eq_false_iff_ne.mpr c23
                          have c23b1 : ((rdOf ByteArray.empty l0_0 x5_2).toList != (rdOf ByteArray.empty l1_0 x5_2).toList) = true := bne_iff_ne.mpr c23
                          by_cases c27 : ((rdOf ByteArray.empty l0_0 x5_2).size : Int) = 1
                          · rw [if_pos c27] at H
                            have c27b0 : (((rdOf ByteArray.empty l0_0 x5_2).size : Int) == 1) = true := beq_iff_eq.mpr c27
                            have c27b1 : (((rdOf ByteArray.empty l0_0 x5_2).size : Int) != 1) = false := bne_eq_false_iff_eq.mpr c27
                            clear c27
                            replace H := Option.bind_eq_some_iff.mp H
                            obtain ⟨t219, A280, H⟩ := H
                            try dsimp only at H
                            have A28 := Aside0.mk A280
                            clear A280
                            by_cases c29 : t219 = true
                            · subst c29
                              replace H := (if_pos rfl).symm.trans H
                              have H' := Aside0.mk H
                              clear H
                              have hnb30 := NB215_216.out
                              have hnc30 := NB216_215.out
                              have hcz31_0 : wr.cell? ⟨gb215, 0, none⟩ = some (.slice A0_0 l0_0.length c0_0) := (blk_cell BK215.out 0).trans rfl
                              have hcz31_1 : wr.cell? ⟨gb215, 1, none⟩ = some (.string a0_1) := (blk_cell BK215.out 1).trans rfl
                              have hcz31_2 : wr.cell? ⟨gb215, 2, none⟩ = some (.string a0_2) := (blk_cell BK215.out 2).trans rfl
                              have hcz31_3 : wr.cell? ⟨gb215, 3, none⟩ = some (.string a0_3) := (blk_cell BK215.out 3).trans rfl
                              have hfz31_0 := blk_frozen BK215.out 0
                              have hfz31_1 := blk_frozen BK215.out 1
                              have hfz31_2 := blk_frozen BK215.out 2
                              have hfz31_3 := blk_frozen BK215.out 3
                              have hcz32_0 : wr.cell? ⟨gb216, 0, none⟩ = some (.slice A1_0 l1_0.length c1_0) := (blk_cell BK216.out 0).trans rfl
                              have hcz32_1 : wr.cell? ⟨gb216, 1, none⟩ = some (.string a1_1) := (blk_cell BK216.out 1).trans rfl
                              have hcz32_2 : wr.cell? ⟨gb216, 2, none⟩ = some (.string a1_2) := (blk_cell BK216.out 2).trans rfl
                              have hcz32_3 : wr.cell? ⟨gb216, 3, none⟩ = some (.string a1_3) := (blk_cell BK216.out 3).trans rfl
                              have hfz32_0 := blk_frozen BK216.out 0
                              have hfz32_1 := blk_frozen BK216.out 1
                              have hfz32_2 := blk_frozen BK216.out 2
                              have hfz32_3 := blk_frozen BK216.out 3
                              have p217 : 0 ≤ (x5_2 : Int) := of_decide_eq_true au88
                              have q217 : x5_2 < (l0_0.length : Int) := of_decide_eq_true au88
                              obtain ⟨ad217, e217, hx217_0⟩ := Kd.at_string HR0_0.out x5_2 p217 q217
                              cases e217
                              replace hx217_0 := (HB.out.cell (World.block_lt_of_cell? w _ hx217_0)).trans hx217_0
                              replace p217 := eq_true p217
                              replace q217 := eq_true q217
                              have p218 : 0 ≤ (x5_2 : Int) := of_decide_eq_true au88
                              have q218 : x5_2 < (l1_0.length : Int) := of_decide_eq_true au88
                              obtain ⟨ad218, e218, hx218_0⟩ := Kd.at_string HR1_0.out x5_2 p218 q218
                              cases e218
                              replace hx218_0 := (HB.out.cell (World.block_lt_of_cell? w _ hx218_0)).trans hx218_0
                              replace p218 := eq_true p218
                              replace q218 := eq_true q218
                              go_wp2_with (first | (go_at_call 77; (with_reducible refine (strings_HasPrefix.calls (rdOf ByteArray.empty l1_0 x5_2) (rdOf ByteArray.empty l0_0 x5_2) _ _ A28.out).mono ?_); rintro e w' ⟨rfl, ⟨nd, rfl⟩⟩; (try first | exact ⟨rfl, _, World.drewN_drewN _ _ _⟩ | exact ⟨rfl, _, Eq.trans (World.drewN_drewN _ _ _) (congrArg (World.drewN _) (Nat.add_assoc _ _ _))⟩)))
                              all_goals
                                first
                                | (exfalso; (try simp only [decide_eq_true_eq, decide_eq_false_iff_not] at *); first | done | omega)
                                | repeat (go_quiet (first | (go_at_call 77; (with_reducible refine (strings_HasPrefix.calls (rdOf ByteArray.empty l1_0 x5_2) (rdOf ByteArray.empty l0_0 x5_2) _ _ A28.out).mono ?_); rintro e w' ⟨rfl, ⟨nd, rfl⟩⟩; (try first | exact ⟨rfl, _, World.drewN_drewN _ _ _⟩ | exact ⟨rfl, _, Eq.trans (World.drewN_drewN _ _ _) (congrArg (World.drewN _) (Nat.add_assoc _ _ _))⟩))); try go_wp2_with (first | (go_at_call 77; (with_reducible refine (strings_HasPrefix.calls (rdOf ByteArray.empty l1_0 x5_2) (rdOf ByteArray.empty l0_0 x5_2) _ _ A28.out).mono ?_); rintro e w' ⟨rfl, ⟨nd, rfl⟩⟩; (try first | exact ⟨rfl, _, World.drewN_drewN _ _ _⟩ | exact ⟨rfl, _, Eq.trans (World.drewN_drewN _ _ _) (congrArg (World.drewN _) (Nat.add_assoc _ _ _))⟩))))
                                  go_roundg k2
                                  case measure => have := HJ2.out; have := HK2.out; omega
                                  case rel => exact ⟨(wrap64 (x5_2 + 1)), au89, H', ⟨by have := HJ2.out; have := HK2.out; omega⟩, ⟨by (with_reducible repeat (first | refine blk_drewN ?_ _ | refine blk_drew ?_ | refine blk_alloc ?_ _)); exact BK215.out⟩, ⟨by (with_reducible repeat (first | refine blk_drewN ?_ _ | refine blk_drew ?_ | refine blk_alloc ?_ _)); exact BK216.out⟩, ⟨by repeat (first | (with_reducible first | exact HB.out | apply below_alloc | apply pw_below_drewN | apply below_drew1 | refine below_set ?_ GE215.out | refine below_set ?_ GE216.out) | exact HB.out)⟩⟩
                            · replace c29 := Bool.eq_false_iff.mpr c29
                              subst c29
                              replace H := (if_neg (show ¬ (false = true) by decide)).symm.trans H
                              by_cases c33 : ((rdOf ByteArray.empty l1_0 x5_2).size : Int) = 1
                              · rw [if_pos c33] at H
                                have c33b0 : (((rdOf ByteArray.empty l1_0 x5_2).size : Int) == 1) = true := beq_iff_eq.mpr c33
                                have c33b1 : (((rdOf ByteArray.empty l1_0 x5_2).size : Int) != 1) = false := bne_eq_false_iff_eq.mpr c33
                                clear c33
                                replace H := Option.bind_eq_some_iff.mp H
                                obtain ⟨t220, A340, H⟩ := H
                                try dsimp only at H
                                have A34 := Aside0.mk A340
                                clear A340
                                by_cases c35 : t220 = true
                                · subst c35
                                  replace H := (if_pos rfl).symm.trans H
                                  have H' := Aside0.mk H
                                  clear H
                                  have hnb36 := NB215_216.out
                                  have hnc36 := NB216_215.out
                                  have hcz37_0 : wr.cell? ⟨gb215, 0, none⟩ = some (.slice A0_0 l0_0.length c0_0) := (blk_cell BK215.out 0).trans rfl
                                  have hcz37_1 : wr.cell? ⟨gb215, 1, none⟩ = some (.string a0_1) := (blk_cell BK215.out 1).trans rfl
                                  have hcz37_2 : wr.cell? ⟨gb215, 2, none⟩ = some (.string a0_2) := (blk_cell BK215.out 2).trans rfl
                                  have hcz37_3 : wr.cell? ⟨gb215, 3, none⟩ = some (.string a0_3) := (blk_cell BK215.out 3).trans rfl
                                  have hfz37_0 := blk_frozen BK215.out 0
                                  have hfz37_1 := blk_frozen BK215.out 1
                                  have hfz37_2 := blk_frozen BK215.out 2
                                  have hfz37_3 := blk_frozen BK215.out 3
                                  have hcz38_0 : wr.cell? ⟨gb216, 0, none⟩ = some (.slice A1_0 l1_0.length c1_0) := (blk_cell BK216.out 0).trans rfl
                                  have hcz38_1 : wr.cell? ⟨gb216, 1, none⟩ = some (.string a1_1) := (blk_cell BK216.out 1).trans rfl
                                  have hcz38_2 : wr.cell? ⟨gb216, 2, none⟩ = some (.string a1_2) := (blk_cell BK216.out 2).trans rfl
                                  have hcz38_3 : wr.cell? ⟨gb216, 3, none⟩ = some (.string a1_3) := (blk_cell BK216.out 3).trans rfl
                                  have hfz38_0 := blk_frozen BK216.out 0
                                  have hfz38_1 := blk_frozen BK216.out 1
                                  have hfz38_2 := blk_frozen BK216.out 2
                                  have hfz38_3 := blk_frozen BK216.out 3
                                  have p217 : 0 ≤ (x5_2 : Int) := of_decide_eq_true au88
                                  have q217 : x5_2 < (l0_0.length : Int) := of_decide_eq_true au88
                                  obtain ⟨ad217, e217, hx217_0⟩ := Kd.at_string HR0_0.out x5_2 p217 q217
                                  cases e217
                                  replace hx217_0 := (HB.out.cell (World.block_lt_of_cell? w _ hx217_0)).trans hx217_0
                                  replace p217 := eq_true p217
                                  replace q217 := eq_true q217
                                  have p218 : 0 ≤ (x5_2 : Int) := of_decide_eq_true au88
                                  have q218 : x5_2 < (l1_0.length : Int) := of_decide_eq_true au88
                                  obtain ⟨ad218, e218, hx218_0⟩ := Kd.at_string HR1_0.out x5_2 p218 q218
                                  cases e218
                                  replace hx218_0 := (HB.out.cell (World.block_lt_of_cell? w _ hx218_0)).trans hx218_0
                                  replace p218 := eq_true p218
                                  replace q218 := eq_true q218
                                  go_wp2_with (first | (go_at_call 77; (with_reducible refine (strings_HasPrefix.calls (rdOf ByteArray.empty l1_0 x5_2) (rdOf ByteArray.empty l0_0 x5_2) _ _ A28.out).mono ?_); rintro e w' ⟨rfl, ⟨nd, rfl⟩⟩; (try first | exact ⟨rfl, _, World.drewN_drewN _ _ _⟩ | exact ⟨rfl, _, Eq.trans (World.drewN_drewN _ _ _) (congrArg (World.drewN _) (Nat.add_assoc _ _ _))⟩)) | (go_at_call 77; (with_reducible refine (strings_HasPrefix.calls (rdOf ByteArray.empty l0_0 x5_2) (rdOf ByteArray.empty l1_0 x5_2) _ _ A34.out).mono ?_); rintro e w' ⟨rfl, ⟨nd, rfl⟩⟩; (try first | exact ⟨rfl, _, World.drewN_drewN _ _ _⟩ | exact ⟨rfl, _, Eq.trans (World.drewN_drewN _ _ _) (congrArg (World.drewN _) (Nat.add_assoc _ _ _))⟩)))
                                  all_goals
                                    first
                                    | (exfalso; (try simp only [decide_eq_true_eq, decide_eq_false_iff_not] at *); first | done | omega)
                                    | repeat (go_quiet (first | (go_at_call 77; (with_reducible refine (strings_HasPrefix.calls (rdOf ByteArray.empty l1_0 x5_2) (rdOf ByteArray.empty l0_0 x5_2) _ _ A28.out).mono ?_); rintro e w' ⟨rfl, ⟨nd, rfl⟩⟩; (try first | exact ⟨rfl, _, World.drewN_drewN _ _ _⟩ | exact ⟨rfl, _, Eq.trans (World.drewN_drewN _ _ _) (congrArg (World.drewN _) (Nat.add_assoc _ _ _))⟩)) | (go_at_call 77; (with_reducible refine (strings_HasPrefix.calls (rdOf ByteArray.empty l0_0 x5_2) (rdOf ByteArray.empty l1_0 x5_2) _ _ A34.out).mono ?_); rintro e w' ⟨rfl, ⟨nd, rfl⟩⟩; (try first | exact ⟨rfl, _, World.drewN_drewN _ _ _⟩ | exact ⟨rfl, _, Eq.trans (World.drewN_drewN _ _ _) (congrArg (World.drewN _) (Nat.add_assoc _ _ _))⟩))); try go_wp2_with (first | (go_at_call 77; (with_reducible refine (strings_HasPrefix.calls (rdOf ByteArray.empty l1_0 x5_2) (rdOf ByteArray.empty l0_0 x5_2) _ _ A28.out).mono ?_); rintro e w' ⟨rfl, ⟨nd, rfl⟩⟩; (try first | exact ⟨rfl, _, World.drewN_drewN _ _ _⟩ | exact ⟨rfl, _, Eq.trans (World.drewN_drewN _ _ _) (congrArg (World.drewN _) (Nat.add_assoc _ _ _))⟩)) | (go_at_call 77; (with_reducible refine (strings_HasPrefix.calls (rdOf ByteArray.empty l0_0 x5_2) (rdOf ByteArray.empty l1_0 x5_2) _ _ A34.out).mono ?_); rintro e w' ⟨rfl, ⟨nd, rfl⟩⟩; (try first | exact ⟨rfl, _, World.drewN_drewN _ _ _⟩ | exact ⟨rfl, _, Eq.trans (World.drewN_drewN _ _ _) (congrArg (World.drewN _) (Nat.add_assoc _ _ _))⟩))))
                                      go_roundg k2
                                      case measure => have := HJ2.out; have := HK2.out; omega
                                      case rel => exact ⟨(wrap64 (x5_2 + 1)), au89, H', ⟨by have := HJ2.out; have := HK2.out; omega⟩, ⟨by (with_reducible repeat (first | refine blk_drewN ?_ _ | refine blk_drew ?_ | refine blk_alloc ?_ _)); exact BK215.out⟩, ⟨by (with_reducible repeat (first | refine blk_drewN ?_ _ | refine blk_drew ?_ | refine blk_alloc ?_ _)); exact BK216.out⟩, ⟨by repeat (first | (with_reducible first | exact HB.out | apply below_alloc | apply pw_below_drewN | apply below_drew1 | refine below_set ?_ GE215.out | refine below_set ?_ GE216.out) | exact HB.out)⟩⟩
                                · replace c35 := Bool.eq_false_iff.mpr c35
                                  subst c35
                                  replace H := (if_neg (show ¬ (false = true) by decide)).symm.trans H
                                  obtain rfl := Option.some.inj H
                                  have hnb39 := NB215_216.out
                                  have hnc39 := NB216_215.out
                                  have hcz40_0 : wr.cell? ⟨gb215, 0, none⟩ = some (.slice A0_0 l0_0.length c0_0) := (blk_cell BK215.out 0).trans rfl
                                  have hcz40_1 : wr.cell? ⟨gb215, 1, none⟩ = some (.string a0_1) := (blk_cell BK215.out 1).trans rfl
                                  have hcz40_2 : wr.cell? ⟨gb215, 2, none⟩ = some (.string a0_2) := (blk_cell BK215.out 2).trans rfl
                                  have hcz40_3 : wr.cell? ⟨gb215, 3, none⟩ = some (.string a0_3) := (blk_cell BK215.out 3).trans rfl
                                  have hfz40_0 := blk_frozen BK215.out 0
                                  have hfz40_1 := blk_frozen BK215.out 1
                                  have hfz40_2 := blk_frozen BK215.out 2
                                  have hfz40_3 := blk_frozen BK215.out 3
                                  have hcz41_0 : wr.cell? ⟨gb216, 0, none⟩ = some (.slice A1_0 l1_0.length c1_0) := (blk_cell BK216.out 0).trans rfl
                                  have hcz41_1 : wr.cell? ⟨gb216, 1, none⟩ = some (.string a1_1) := (blk_cell BK216.out 1).trans rfl
                                  have hcz41_2 : wr.cell? ⟨gb216, 2, none⟩ = some (.string a1_2) := (blk_cell BK216.out 2).trans rfl
                                  have hcz41_3 : wr.cell? ⟨gb216, 3, none⟩ = some (.string a1_3) := (blk_cell BK216.out 3).trans rfl
                                  have hfz41_0 := blk_frozen BK216.out 0
                                  have hfz41_1 := blk_frozen BK216.out 1
                                  have hfz41_2 := blk_frozen BK216.out 2
                                  have hfz41_3 := blk_frozen BK216.out 3
                                  have p217 : 0 ≤ (x5_2 : Int) := of_decide_eq_true au88
                                  have q217 : x5_2 < (l0_0.length : Int) := of_decide_eq_true au88
                                  obtain ⟨ad217, e217, hx217_0⟩ := Kd.at_string HR0_0.out x5_2 p217 q217
                                  cases e217
                                  replace hx217_0 := (HB.out.cell (World.block_lt_of_cell? w _ hx217_0)).trans hx217_0
                                  replace p217 := eq_true p217
                                  replace q217 := eq_true q217
                                  have p218 : 0 ≤ (x5_2 : Int) := of_decide_eq_true au88
                                  have q218 : x5_2 < (l1_0.length : Int) := of_decide_eq_true au88
                                  obtain ⟨ad218, e218, hx218_0⟩ := Kd.at_string HR1_0.out x5_2 p218 q218
                                  cases e218
                                  replace hx218_0 := (HB.out.cell (World.block_lt_of_cell? w _ hx218_0)).trans hx218_0
                                  replace p218 := eq_true p218
                                  replace q218 := eq_true q218
                                  go_wp2_with (first | (go_at_call 77; (with_reducible refine (strings_HasPrefix.calls (rdOf ByteArray.empty l1_0 x5_2) (rdOf ByteArray.empty l0_0 x5_2) _ _ A28.out).mono ?_); rintro e w' ⟨rfl, ⟨nd, rfl⟩⟩; (try first | exact ⟨rfl, _, World.drewN_drewN _ _ _⟩ | exact ⟨rfl, _, Eq.trans (World.drewN_drewN _ _ _) (congrArg (World.drewN _) (Nat.add_assoc _ _ _))⟩)) | (go_at_call 77; (with_reducible refine (strings_HasPrefix.calls (rdOf ByteArray.empty l0_0 x5_2) (rdOf ByteArray.empty l1_0 x5_2) _ _ A34.out).mono ?_); rintro e w' ⟨rfl, ⟨nd, rfl⟩⟩; (try first | exact ⟨rfl, _, World.drewN_drewN _ _ _⟩ | exact ⟨rfl, _, Eq.trans (World.drewN_drewN _ _ _) (congrArg (World.drewN _) (Nat.add_assoc _ _ _))⟩)))
                                  all_goals
                                    first
                                    | (exfalso; (try simp only [decide_eq_true_eq, decide_eq_false_iff_not] at *); first | done | omega)
                                    | repeat (go_quiet (first | (go_at_call 77; (with_reducible refine (strings_HasPrefix.calls (rdOf ByteArray.empty l1_0 x5_2) (rdOf ByteArray.empty l0_0 x5_2) _ _ A28.out).mono ?_); rintro e w' ⟨rfl, ⟨nd, rfl⟩⟩; (try first | exact ⟨rfl, _, World.drewN_drewN _ _ _⟩ | exact ⟨rfl, _, Eq.trans (World.drewN_drewN _ _ _) (congrArg (World.drewN _) (Nat.add_assoc _ _ _))⟩)) | (go_at_call 77; (with_reducible refine (strings_HasPrefix.calls (rdOf ByteArray.empty l0_0 x5_2) (rdOf ByteArray.empty l1_0 x5_2) _ _ A34.out).mono ?_); rintro e w' ⟨rfl, ⟨nd, rfl⟩⟩; (try first | exact ⟨rfl, _, World.drewN_drewN _ _ _⟩ | exact ⟨rfl, _, Eq.trans (World.drewN_drewN _ _ _) (congrArg (World.drewN _) (Nat.add_assoc _ _ _))⟩))); try go_wp2_with (first | (go_at_call 77; (with_reducible refine (strings_HasPrefix.calls (rdOf ByteArray.empty l1_0 x5_2) (rdOf ByteArray.empty l0_0 x5_2) _ _ A28.out).mono ?_); rintro e w' ⟨rfl, ⟨nd, rfl⟩⟩; (try first | exact ⟨rfl, _, World.drewN_drewN _ _ _⟩ | exact ⟨rfl, _, Eq.trans (World.drewN_drewN _ _ _) (congrArg (World.drewN _) (Nat.add_assoc _ _ _))⟩)) | (go_at_call 77; (with_reducible refine (strings_HasPrefix.calls (rdOf ByteArray.empty l0_0 x5_2) (rdOf ByteArray.empty l1_0 x5_2) _ _ A34.out).mono ?_); rintro e w' ⟨rfl, ⟨nd, rfl⟩⟩; (try first | exact ⟨rfl, _, World.drewN_drewN _ _ _⟩ | exact ⟨rfl, _, Eq.trans (World.drewN_drewN _ _ _) (congrArg (World.drewN _) (Nat.add_assoc _ _ _))⟩))))
                                      go_ret
                                      exact ax8
                              · rw [if_neg c33] at H
                                have c33b0 : (((rdOf ByteArray.empty l1_0 x5_2).size : Int) == 1) = false := beq_eq_false_iff_ne.mpr c33
                                have c33b1 : (((rdOf ByteArray.empty l1_0 x5_2).size : Int) != 1) = true := bne_iff_ne.mpr c33
                                obtain rfl := Option.some.inj H
                                have hnb42 := NB215_216.out
                                have hnc42 := NB216_215.out
                                have hcz43_0 : wr.cell? ⟨gb215, 0, none⟩ = some (.slice A0_0 l0_0.length c0_0) := (blk_cell BK215.out 0).trans rfl
                                have hcz43_1 : wr.cell? ⟨gb215, 1, none⟩ = some (.string a0_1) := (blk_cell BK215.out 1).trans rfl
                                have hcz43_2 : wr.cell? ⟨gb215, 2, none⟩ = some (.string a0_2) := (blk_cell BK215.out 2).trans rfl
                                have hcz43_3 : wr.cell? ⟨gb215, 3, none⟩ = some (.string a0_3) := (blk_cell BK215.out 3).trans rfl
                                have hfz43_0 := blk_frozen BK215.out 0
                                have hfz43_1 := blk_frozen BK215.out 1
                                have hfz43_2 := blk_frozen BK215.out 2
                                have hfz43_3 := blk_frozen BK215.out 3
                                have hcz44_0 : wr.cell? ⟨gb216, 0, none⟩ = some (.slice A1_0 l1_0.length c1_0) := (blk_cell BK216.out 0).trans rfl
                                have hcz44_1 : wr.cell? ⟨gb216, 1, none⟩ = some (.string a1_1) := (blk_cell BK216.out 1).trans rfl
                                have hcz44_2 : wr.cell? ⟨gb216, 2, none⟩ = some (.string a1_2) := (blk_cell BK216.out 2).trans rfl
                                have hcz44_3 : wr.cell? ⟨gb216, 3, none⟩ = some (.string a1_3) := (blk_cell BK216.out 3).trans rfl
                                have hfz44_0 := blk_frozen BK216.out 0
                                have hfz44_1 := blk_frozen BK216.out 1
                                have hfz44_2 := blk_frozen BK216.out 2
                                have hfz44_3 := blk_frozen BK216.out 3
                                have p217 : 0 ≤ (x5_2 : Int) := of_decide_eq_true au88
                                have q217 : x5_2 < (l0_0.length : Int) := of_decide_eq_true au88
                                obtain ⟨ad217, e217, hx217_0⟩ := Kd.at_string HR0_0.out x5_2 p217 q217
                                cases e217
                                replace hx217_0 := (HB.out.cell (World.block_lt_of_cell? w _ hx217_0)).trans hx217_0
                                replace p217 := eq_true p217
                                replace q217 := eq_true q217
                                have p218 : 0 ≤ (x5_2 : Int) := of_decide_eq_true au88
                                have q218 : x5_2 < (l1_0.length : Int) := of_decide_eq_true au88
                                obtain ⟨ad218, e218, hx218_0⟩ := Kd.at_string HR1_0.out x5_2 p218 q218
                                cases e218
                                replace hx218_0 := (HB.out.cell (World.block_lt_of_cell? w _ hx218_0)).trans hx218_0
                                replace p218 := eq_true p218
                                replace q218 := eq_true q218
                                go_wp2_with (first | (go_at_call 77; (with_reducible refine (strings_HasPrefix.calls (rdOf ByteArray.empty l1_0 x5_2) (rdOf ByteArray.empty l0_0 x5_2) _ _ A28.out).mono ?_); rintro e w' ⟨rfl, ⟨nd, rfl⟩⟩; (try first | exact ⟨rfl, _, World.drewN_drewN _ _ _⟩ | exact ⟨rfl, _, Eq.trans (World.drewN_drewN _ _ _) (congrArg (World.drewN _) (Nat.add_assoc _ _ _))⟩)))
                                all_goals
                                  first
                                  | (exfalso; (try simp only [decide_eq_true_eq, decide_eq_false_iff_not] at *); first | done | omega)
                                  | repeat (go_quiet (first | (go_at_call 77; (with_reducible refine (strings_HasPrefix.calls (rdOf ByteArray.empty l1_0 x5_2) (rdOf ByteArray.empty l0_0 x5_2) _ _ A28.out).mono ?_); rintro e w' ⟨rfl, ⟨nd, rfl⟩⟩; (try first | exact ⟨rfl, _, World.drewN_drewN _ _ _⟩ | exact ⟨rfl, _, Eq.trans (World.drewN_drewN _ _ _) (congrArg (World.drewN _) (Nat.add_assoc _ _ _))⟩))); try go_wp2_with (first | (go_at_call 77; (with_reducible refine (strings_HasPrefix.calls (rdOf ByteArray.empty l1_0 x5_2) (rdOf ByteArray.empty l0_0 x5_2) _ _ A28.out).mono ?_); rintro e w' ⟨rfl, ⟨nd, rfl⟩⟩; (try first | exact ⟨rfl, _, World.drewN_drewN _ _ _⟩ | exact ⟨rfl, _, Eq.trans (World.drewN_drewN _ _ _) (congrArg (World.drewN _) (Nat.add_assoc _ _ _))⟩))))
                                    go_ret
                                    exact ax8
                          · rw [if_neg c27] at H
                            have c27b0 : (((rdOf ByteArray.empty l0_0 x5_2).size : Int) == 1) = false := beq_eq_false_iff_ne.mpr c27
                            have c27b1 : (((rdOf ByteArray.empty l0_0 x5_2).size : Int) != 1) = true := bne_iff_ne.mpr c27
                            by_cases c45 : ((rdOf ByteArray.empty l1_0 x5_2).size : Int) = 1
                            · rw [if_pos c45] at H
                              have c45b0 : (((rdOf ByteArray.empty l1_0 x5_2).size : Int) == 1) = true := beq_iff_eq.mpr c45
                              have c45b1 : (((rdOf ByteArray.empty l1_0 x5_2).size : Int) != 1) = false := bne_eq_false_iff_eq.mpr c45
                              clear c45
                              replace H := Option.bind_eq_some_iff.mp H
                              obtain ⟨t221, A460, H⟩ := H
                              try dsimp only at H
                              have A46 := Aside0.mk A460
                              clear A460
                              by_cases c47 : t221 = true
                              · subst c47
                                replace H := (if_pos rfl).symm.trans H
                                have H' := Aside0.mk H
                                clear H
                                have hnb48 := NB215_216.out
                                have hnc48 := NB216_215.out
                                have hcz49_0 : wr.cell? ⟨gb215, 0, none⟩ = some (.slice A0_0 l0_0.length c0_0) := (blk_cell BK215.out 0).trans rfl
                                have hcz49_1 : wr.cell? ⟨gb215, 1, none⟩ = some (.string a0_1) := (blk_cell BK215.out 1).trans rfl
                                have hcz49_2 : wr.cell? ⟨gb215, 2, none⟩ = some (.string a0_2) := (blk_cell BK215.out 2).trans rfl
                                have hcz49_3 : wr.cell? ⟨gb215, 3, none⟩ = some (.string a0_3) := (blk_cell BK215.out 3).trans rfl
                                have hfz49_0 := blk_frozen BK215.out 0
                                have hfz49_1 := blk_frozen BK215.out 1
                                have hfz49_2 := blk_frozen BK215.out 2
                                have hfz49_3 := blk_frozen BK215.out 3
                                have hcz50_0 : wr.cell? ⟨gb216, 0, none⟩ = some (.slice A1_0 l1_0.length c1_0) := (blk_cell BK216.out 0).trans rfl
                                have hcz50_1 : wr.cell? ⟨gb216, 1, none⟩ = some (.string a1_1) := (blk_cell BK216.out 1).trans rfl
                                have hcz50_2 : wr.cell? ⟨gb216, 2, none⟩ = some (.string a1_2) := (blk_cell BK216.out 2).trans rfl
                                have hcz50_3 : wr.cell? ⟨gb216, 3, none⟩ = some (.string a1_3) := (blk_cell BK216.out 3).trans rfl
                                have hfz50_0 := blk_frozen BK216.out 0
                                have hfz50_1 := blk_frozen BK216.out 1
                                have hfz50_2 := blk_frozen BK216.out 2
                                have hfz50_3 := blk_frozen BK216.out 3
                                have p217 : 0 ≤ (x5_2 : Int) := of_decide_eq_true au88
                                have q217 : x5_2 < (l0_0.length : Int) := of_decide_eq_true au88
                                obtain ⟨ad217, e217, hx217_0⟩ := Kd.at_string HR0_0.out x5_2 p217 q217
                                cases e217
                                replace hx217_0 := (HB.out.cell (World.block_lt_of_cell? w _ hx217_0)).trans hx217_0
                                replace p217 := eq_true p217
                                replace q217 := eq_true q217
                                have p218 : 0 ≤ (x5_2 : Int) := of_decide_eq_true au88
                                have q218 : x5_2 < (l1_0.length : Int) := of_decide_eq_true au88
                                obtain ⟨ad218, e218, hx218_0⟩ := Kd.at_string HR1_0.out x5_2 p218 q218
                                cases e218
                                replace hx218_0 := (HB.out.cell (World.block_lt_of_cell? w _ hx218_0)).trans hx218_0
                                replace p218 := eq_true p218
                                replace q218 := eq_true q218
                                go_wp2_with (first | (go_at_call 77; (with_reducible refine (strings_HasPrefix.calls (rdOf ByteArray.empty l0_0 x5_2) (rdOf ByteArray.empty l1_0 x5_2) _ _ A46.out).mono ?_); rintro e w' ⟨rfl, ⟨nd, rfl⟩⟩; (try first | exact ⟨rfl, _, World.drewN_drewN _ _ _⟩ | exact ⟨rfl, _, Eq.trans (World.drewN_drewN _ _ _) (congrArg (World.drewN _) (Nat.add_assoc _ _ _))⟩)))
                                all_goals
                                  first
                                  | (exfalso; (try simp only [decide_eq_true_eq, decide_eq_false_iff_not] at *); first | done | omega)
                                  | repeat (go_quiet (first | (go_at_call 77; (with_reducible refine (strings_HasPrefix.calls (rdOf ByteArray.empty l0_0 x5_2) (rdOf ByteArray.empty l1_0 x5_2) _ _ A46.out).mono ?_); rintro e w' ⟨rfl, ⟨nd, rfl⟩⟩; (try first | exact ⟨rfl, _, World.drewN_drewN _ _ _⟩ | exact ⟨rfl, _, Eq.trans (World.drewN_drewN _ _ _) (congrArg (World.drewN _) (Nat.add_assoc _ _ _))⟩))); try go_wp2_with (first | (go_at_call 77; (with_reducible refine (strings_HasPrefix.calls (rdOf ByteArray.empty l0_0 x5_2) (rdOf ByteArray.empty l1_0 x5_2) _ _ A46.out).mono ?_); rintro e w' ⟨rfl, ⟨nd, rfl⟩⟩; (try first | exact ⟨rfl, _, World.drewN_drewN _ _ _⟩ | exact ⟨rfl, _, Eq.trans (World.drewN_drewN _ _ _) (congrArg (World.drewN _) (Nat.add_assoc _ _ _))⟩))))
                                    go_roundg k2
                                    case measure => have := HJ2.out; have := HK2.out; omega
                                    case rel => exact ⟨(wrap64 (x5_2 + 1)), au89, H', ⟨by have := HJ2.out; have := HK2.out; omega⟩, ⟨by (with_reducible repeat (first | refine blk_drewN ?_ _ | refine blk_drew ?_ | refine blk_alloc ?_ _)); exact BK215.out⟩, ⟨by (with_reducible repeat (first | refine blk_drewN ?_ _ | refine blk_drew ?_ | refine blk_alloc ?_ _)); exact BK216.out⟩, ⟨by repeat (first | (with_reducible first | exact HB.out | apply below_alloc | apply pw_below_drewN | apply below_drew1 | refine below_set ?_ GE215.out | refine below_set ?_ GE216.out) | exact HB.out)⟩⟩
                              · replace c47 := Bool.eq_false_iff.mpr c47
                                subst c47
                                replace H := (if_neg (show ¬ (false = true) by decide)).symm.trans H
                                obtain rfl := Option.some.inj H
                                have hnb51 := NB215_216.out
                                have hnc51 := NB216_215.out
                                have hcz52_0 : wr.cell? ⟨gb215, 0, none⟩ = some (.slice A0_0 l0_0.length c0_0) := (blk_cell BK215.out 0).trans rfl
                                have hcz52_1 : wr.cell? ⟨gb215, 1, none⟩ = some (.string a0_1) := (blk_cell BK215.out 1).trans rfl
                                have hcz52_2 : wr.cell? ⟨gb215, 2, none⟩ = some (.string a0_2) := (blk_cell BK215.out 2).trans rfl
                                have hcz52_3 : wr.cell? ⟨gb215, 3, none⟩ = some (.string a0_3) := (blk_cell BK215.out 3).trans rfl
                                have hfz52_0 := blk_frozen BK215.out 0
                                have hfz52_1 := blk_frozen BK215.out 1
                                have hfz52_2 := blk_frozen BK215.out 2
                                have hfz52_3 := blk_frozen BK215.out 3
                                have hcz53_0 : wr.cell? ⟨gb216, 0, none⟩ = some (.slice A1_0 l1_0.length c1_0) := (blk_cell BK216.out 0).trans rfl
                                have hcz53_1 : wr.cell? ⟨gb216, 1, none⟩ = some (.string a1_1) := (blk_cell BK216.out 1).trans rfl
                                have hcz53_2 : wr.cell? ⟨gb216, 2, none⟩ = some (.string a1_2) := (blk_cell BK216.out 2).trans rfl
                                have hcz53_3 : wr.cell? ⟨gb216, 3, none⟩ = some (.string a1_3) := (blk_cell BK216.out 3).trans rfl
                                have hfz53_0 := blk_frozen BK216.out 0
                                have hfz53_1 := blk_frozen BK216.out 1
                                have hfz53_2 := blk_frozen BK216.out 2
                                have hfz53_3 := blk_frozen BK216.out 3
                                have p217 : 0 ≤ (x5_2 : Int) := of_decide_eq_true au88
                                have q217 : x5_2 < (l0_0.length : Int) := of_decide_eq_true au88
                                obtain ⟨ad217, e217, hx217_0⟩ := Kd.at_string HR0_0.out x5_2 p217 q217
                                cases e217
                                replace hx217_0 := (HB.out.cell (World.block_lt_of_cell? w _ hx217_0)).trans hx217_0
                                replace p217 := eq_true p217
                                replace q217 := eq_true q217
                                have p218 : 0 ≤ (x5_2 : Int) := of_decide_eq_true au88
                                have q218 : x5_2 < (l1_0.length : Int) := of_decide_eq_true au88
                                obtain ⟨ad218, e218, hx218_0⟩ := Kd.at_string HR1_0.out x5_2 p218 q218
                                cases e218
                                replace hx218_0 := (HB.out.cell (World.block_lt_of_cell? w _ hx218_0)).trans hx218_0
                                replace p218 := eq_true p218
                                replace q218 := eq_true q218
                                go_wp2_with (first | (go_at_call 77; (with_reducible refine (strings_HasPrefix.calls (rdOf ByteArray.empty l0_0 x5_2) (rdOf ByteArray.empty l1_0 x5_2) _ _ A46.out).mono ?_); rintro e w' ⟨rfl, ⟨nd, rfl⟩⟩; (try first | exact ⟨rfl, _, World.drewN_drewN _ _ _⟩ | exact ⟨rfl, _, Eq.trans (World.drewN_drewN _ _ _) (congrArg (World.drewN _) (Nat.add_assoc _ _ _))⟩)))
                                all_goals
                                  first
                                  | (exfalso; (try simp only [decide_eq_true_eq, decide_eq_false_iff_not] at *); first | done | omega)
                                  | repeat (go_quiet (first | (go_at_call 77; (with_reducible refine (strings_HasPrefix.calls (rdOf ByteArray.empty l0_0 x5_2) (rdOf ByteArray.empty l1_0 x5_2) _ _ A46.out).mono ?_); rintro e w' ⟨rfl, ⟨nd, rfl⟩⟩; (try first | exact ⟨rfl, _, World.drewN_drewN _ _ _⟩ | exact ⟨rfl, _, Eq.trans (World.drewN_drewN _ _ _) (congrArg (World.drewN _) (Nat.add_assoc _ _ _))⟩))); try go_wp2_with (first | (go_at_call 77; (with_reducible refine (strings_HasPrefix.calls (rdOf ByteArray.empty l0_0 x5_2) (rdOf ByteArray.empty l1_0 x5_2) _ _ A46.out).mono ?_); rintro e w' ⟨rfl, ⟨nd, rfl⟩⟩; (try first | exact ⟨rfl, _, World.drewN_drewN _ _ _⟩ | exact ⟨rfl, _, Eq.trans (World.drewN_drewN _ _ _) (congrArg (World.drewN _) (Nat.add_assoc _ _ _))⟩))))
                                    go_ret
                                    exact ax8
                            · rw [if_neg c45] at H
                              have c45b0 : (((rdOf ByteArray.empty l1_0 x5_2).size : Int) == 1) = false := beq_eq_false_iff_ne.mpr c45
                              have c45b1 : (((rdOf ByteArray.empty l1_0 x5_2).size : Int) != 1) = true := bne_iff_ne.mpr c45
                              obtain rfl := Option.some.inj H
                              have hnb54 := NB215_216.out
                              have hnc54 := NB216_215.out
                              have hcz55_0 : wr.cell? ⟨gb215, 0, none⟩ = some (.slice A0_0 l0_0.length c0_0) := (blk_cell BK215.out 0).trans rfl
                              have hcz55_1 : wr.cell? ⟨gb215, 1, none⟩ = some (.string a0_1) := (blk_cell BK215.out 1).trans rfl
                              have hcz55_2 : wr.cell? ⟨gb215, 2, none⟩ = some (.string a0_2) := (blk_cell BK215.out 2).trans rfl
                              have hcz55_3 : wr.cell? ⟨gb215, 3, none⟩ = some (.string a0_3) := (blk_cell BK215.out 3).trans rfl
                              have hfz55_0 := blk_frozen BK215.out 0
                              have hfz55_1 := blk_frozen BK215.out 1
                              have hfz55_2 := blk_frozen BK215.out 2
                              have hfz55_3 := blk_frozen BK215.out 3
                              have hcz56_0 : wr.cell? ⟨gb216, 0, none⟩ = some (.slice A1_0 l1_0.length c1_0) := (blk_cell BK216.out 0).trans rfl
                              have hcz56_1 : wr.cell? ⟨gb216, 1, none⟩ = some (.string a1_1) := (blk_cell BK216.out 1).trans rfl
                              have hcz56_2 : wr.cell? ⟨gb216, 2, none⟩ = some (.string a1_2) := (blk_cell BK216.out 2).trans rfl
                              have hcz56_3 : wr.cell? ⟨gb216, 3, none⟩ = some (.string a1_3) := (blk_cell BK216.out 3).trans rfl
                              have hfz56_0 := blk_frozen BK216.out 0
                              have hfz56_1 := blk_frozen BK216.out 1
                              have hfz56_2 := blk_frozen BK216.out 2
                              have hfz56_3 := blk_frozen BK216.out 3
                              have p217 : 0 ≤ (x5_2 : Int) := of_decide_eq_true au88
                              have q217 : x5_2 < (l0_0.length : Int) := of_decide_eq_true au88
                              obtain ⟨ad217, e217, hx217_0⟩ := Kd.at_string HR0_0.out x5_2 p217 q217
                              cases e217
                              replace hx217_0 := (HB.out.cell (World.block_lt_of_cell? w _ hx217_0)).trans hx217_0
                              replace p217 := eq_true p217
                              replace q217 := eq_true q217
                              have p218 : 0 ≤ (x5_2 : Int) := of_decide_eq_true au88
                              have q218 : x5_2 < (l1_0.length : Int) := of_decide_eq_true au88
                              obtain ⟨ad218, e218, hx218_0⟩ := Kd.at_string HR1_0.out x5_2 p218 q218
                              cases e218
                              replace hx218_0 := (HB.out.cell (World.block_lt_of_cell? w _ hx218_0)).trans hx218_0
                              replace p218 := eq_true p218
                              replace q218 := eq_true q218
                              go_wp2
                              all_goals
                                first
                                | (exfalso; (try simp only [decide_eq_true_eq, decide_eq_false_iff_not] at *); first | done | omega)
                                | repeat (go_quiet (fail); try go_wp2)
                                  go_ret
                                  exact ax8
                      · rw [if_neg c22] at H
                        exact absurd H (by simp)
                    · rw [if_neg c21] at H
                      exact absurd H (by simp)
                  · rw [if_neg c20] at H
                    exact absurd H (by simp)
                · rw [if_neg c19] at H
                  have c19b0 : decide (x5_2 < (ji18)) = false := decide_eq_false c19
                  clear c19
                  obtain rfl := Option.some.inj H
                  have hnb57 := NB215_216.out
                  have hnc57 := NB216_215.out
                  have hcz58_0 : wr.cell? ⟨gb215, 0, none⟩ = some (.slice A0_0 l0_0.length c0_0) := (blk_cell BK215.out 0).trans rfl
                  have hcz58_1 : wr.cell? ⟨gb215, 1, none⟩ = some (.string a0_1) := (blk_cell BK215.out 1).trans rfl
                  have hcz58_2 : wr.cell? ⟨gb215, 2, none⟩ = some (.string a0_2) := (blk_cell BK215.out 2).trans rfl
                  have hcz58_3 : wr.cell? ⟨gb215, 3, none⟩ = some (.string a0_3) := (blk_cell BK215.out 3).trans rfl
                  have hfz58_0 := blk_frozen BK215.out 0
                  have hfz58_1 := blk_frozen BK215.out 1
                  have hfz58_2 := blk_frozen BK215.out 2
                  have hfz58_3 := blk_frozen BK215.out 3
                  have hcz59_0 : wr.cell? ⟨gb216, 0, none⟩ = some (.slice A1_0 l1_0.length c1_0) := (blk_cell BK216.out 0).trans rfl
                  have hcz59_1 : wr.cell? ⟨gb216, 1, none⟩ = some (.string a1_1) := (blk_cell BK216.out 1).trans rfl
                  have hcz59_2 : wr.cell? ⟨gb216, 2, none⟩ = some (.string a1_2) := (blk_cell BK216.out 2).trans rfl
                  have hcz59_3 : wr.cell? ⟨gb216, 3, none⟩ = some (.string a1_3) := (blk_cell BK216.out 3).trans rfl
                  have hfz59_0 := blk_frozen BK216.out 0
                  have hfz59_1 := blk_frozen BK216.out 1
                  have hfz59_2 := blk_frozen BK216.out 2
                  have hfz59_3 := blk_frozen BK216.out 3
                  go_wp2
                  all_goals
                    first
                    | (exfalso; (try simp only [decide_eq_true_eq, decide_eq_false_iff_not] at *); first | done | omega)
                    | repeat (go_quiet (fail); try go_wp2)
                      go_ret
                      exact ax8

end Go.Proofs.YtcckamdpncbkoaaDoor.G

namespace Go.Proofs.YtcckamdpncbkoaaDoor.G
open Go.RowKit Go.Proofs.YtcckamdpncbkoaaDoorW.PrintWords Go.Proofs.YtcckamdpncbkoaaDoorW.PrintLast Go.Proofs.YtcckamdpncbkoaaDoor.B
set_option linter.unusedVariables false
set_option linter.unusedSimpArgs false
theorem good_pos {G : List ByteArray} {P F S : ByteArray} (h : goodN G P F S = true) : G.length ≤ 3 ∧ ∀ x ∈ G, 1 ≤ x.size := by
  unfold goodN at h
  simp only [Bool.and_eq_true, decide_eq_true_eq] at h
  refine ⟨h.2.1, fun x hx => ?_⟩
  have := List.all_eq_true.1 h.1 x hx
  unfold greatD at this
  rw [Bool.and_eq_true] at this
  exact (word_in this.1).1
end Go.Proofs.YtcckamdpncbkoaaDoor.G

namespace Go.Proofs.YtcckamdpncbkoaaDoor.G
open Go.RowKit Go.Proofs.YtcckamdpncbkoaaDoorW.PrintWords Go.Proofs.YtcckamdpncbkoaaDoorW.PrintLast Go.Proofs.YtcckamdpncbkoaaDoorW.PrintMore
open Go.Proofs.YtcckamdpncbkoaaDoor.Gl Go.Proofs.YtcckamdpncbkoaaDoor.Ext
attribute [local go_sem] max2_int min2_int max_two min_two max_three min_three max_four min_four   -- for this text's walks alone
set_option linter.unusedVariables false
set_option linter.unusedSimpArgs false

/-! ### spec_l2Full: function 53 -/
def spec_l2Full.f (k : Nat) (l0_0 : List ByteArray) (a0_1 : ByteArray) (a0_2 : ByteArray) (a0_3 : ByteArray) : Option (ByteArray) := (spec_l2Given.f k l0_0 a0_1 a0_2 a0_3).bind fun t342 => ((spec_l2Join.f k (([t342, a0_1, a0_2, a0_3] : List ByteArray))).bind fun t346 => (some t346))
theorem spec_l2Full.mono : ∀ a0 a1 a2 a3 k, LeO (spec_l2Full.f k a0 a1 a2 a3) (spec_l2Full.f (k + 1) a0 a1 a2 a3) := by
 intro a0 a1 a2 a3 k
 unfold spec_l2Full.f
 repeat' first
   | (with_reducible exact spec_l2Given.mono _ _ _ _ _)
   | (with_reducible exact spec_l2Join.mono _ _)
   | (with_reducible exact LeO.refl _)
   | (with_reducible exact LeO.none _)
   | (with_reducible refine LeO.ite ?_ ?_)
   | (with_reducible refine LeO.bind ?_ (fun _ => ?_))
   | exact spec_l2Given.mono _ _ _ _ _
   | exact spec_l2Join.mono _ _
   | exact LeO.none _
   | refine LeO.ite ?_ ?_
   | refine LeO.bind ?_ (fun _ => ?_)
def spec_l2Full.T1 : Bool × List (List Nat × List Nat) := (true, [([], []), ([0], [0]), ([], []), ([2], [2]), ([], []), ([4], [4]), ([], []), ([6], [6]), ([1, 3, 5, 7], [1, 3, 5, 7]), ([8, 1], [8]), ([9, 9, 0, 1, 2, 3, 4, 5, 6, 7, 8, 9], [9])])
def spec_l2Full.B1 : List Nat := [0, 1, 0, 4, 0, 16, 0, 64, 255, 511, 1023]
theorem spec_l2Full.tab1 : rtab .any (opsOf Tryd.f53 1) = spec_l2Full.T1 := by kernel_rfl
theorem spec_l2Full.bits1 : waitsOk spec_l2Full.T1.2 spec_l2Full.B1 = true := by kernel_rfl
set_option maxHeartbeats 8000000 in
set_option maxRecDepth 100000 in
theorem spec_l2Full.calls (k : Nat) (A0_0 : Option Addr) (c0_0 : Nat) (l0_0 : List ByteArray) (a0_1 : ByteArray) (a0_2 : ByteArray) (a0_3 : ByteArray) (r : ByteArray) (w : World) (hr0_0 : Kd.C Kd.string w A0_0 l0_0.length l0_0) (hc0_0 : l0_0.length ≤ c0_0) (h : spec_l2Full.f k l0_0 a0_1 a0_2 a0_3 = some r) :
  Calls Tryd.prog 53 #[.agg #[.slice A0_0 l0_0.length c0_0, .string a0_1, .string a0_2, .string a0_3]] w fun e w' => e = .returned (.string r) ∧ Below w.heap.size w w' := by
 have hu27 := Tryd.underlying27
 have HR0_0 := Aside0.mk hr0_0
 have HC0_0 := Aside0.mk hc0_0
 clear hr0_0 hc0_0
 have HB := Aside0.mk (Below.refl w.heap.size w)
 have H : ((spec_l2Given.f k l0_0 a0_1 a0_2 a0_3).bind fun t342 => ((spec_l2Join.f k (([t342, a0_1, a0_2, a0_3] : List ByteArray))).bind fun t346 => (some t346))) = some r := h
 clear h
 replace H := Option.bind_eq_some_iff.mp H
 obtain ⟨t342, A20, H⟩ := H
 try dsimp only at H
 have A2 := Aside0.mk A20
 clear A20
 obtain ⟨y343, hy343⟩ : ∃ y_ : List ByteArray, y_ = (([t342, a0_1, a0_2, a0_3] : List ByteArray)) := ⟨_, rfl⟩
 replace H : ((spec_l2Join.f k y343).bind fun t346 => (some t346)) = some r := by first | (rw [hy343]; with_reducible exact H) | (have H2_ := (Option.bind_some _ _).symm.trans H; rw [hy343]; with_reducible exact H2_) | (have H2_ := (Option.bind_some _ _).symm.trans H; with_reducible exact H2_) | with_reducible exact H | (rw [hy343]; exact H) | exact H
 have Ny343 := Aside0.mk hy343
 clear hy343
 replace H := Option.bind_eq_some_iff.mp H
 obtain ⟨t346, A30, H⟩ := H
 try dsimp only at H
 have A3 := Aside0.mk A30
 clear A30
 obtain rfl := Option.some.inj H
 go_enter Tryd.func53, Tryd.ntmps53
 try go_wp2_with (first | ((with_reducible refine gate_dst (N := 1) rfl ?_); refine box_event ?hg (N := 1) ?hd (cs := #[.slice A0_0 l0_0.length c0_0, .string a0_1, .string a0_2, .string a0_3]) (t := 27) ?hr ?_; (case hd => rfl); (case hg => rfl); (case hr => first | (go_simp; done) | (go_simp; rfl)); intro gb341 hg w4 hbox hb; have n0_ := Aside0.mk (below_step au41 hb); have n1_ := Aside0.mk (hbox); have n2_ := Aside0.mk ((by rw [hg]; exact (below_size au41) : w.heap.size ≤ gb341)); have n3_ := Aside0.mk ((by rw [hg]; exact (below_size au41) : w.heap.size ≤ gb341)); clear HB; have HB := n0_; have BK341 := n1_; have GW341 := n2_; have GE341 := n3_; clear n0_ n1_ n2_ n3_; clear hb hbox hg))
 have n0_ := Aside0.mk (blk_drew BK341.out)
 have n1_ := Aside0.mk (below_drew1 HB.out)
 clear BK341
 clear HB
 have BK341 := n0_
 have HB := n1_
 clear n0_ n1_
 refine start_ (n := 11) (S := fun w' => w'.cell? ⟨gb341, 0, none⟩ = some (.slice A0_0 l0_0.length c0_0) ∧ w'.cell? ⟨gb341, 1, none⟩ = some (.string a0_1) ∧ w'.cell? ⟨gb341, 2, none⟩ = some (.string a0_2) ∧ w'.cell? ⟨gb341, 3, none⟩ = some (.string a0_3)) (ds := []) #[false, false, false, false, false, false, false, false, false, false, false] (by kernel_rfl) rfl rfl ⟨(blk_cell BK341.out 0).trans rfl, (blk_cell BK341.out 1).trans rfl, (blk_cell BK341.out 2).trans rfl, (blk_cell BK341.out 3).trans rfl⟩ (fun hHeld => ?_); refine with_tabW spec_l2Full.tab1 spec_l2Full.bits1 (fun HT_ HW_ => ?_)
 generalize w4.drew = w5 at BK341 HB hHeld ⊢
 refine pure_ (i := 2) (N := some 5) (v := ?_) (a' := ?_) #[false, false, true, false, false, false, false, false, false, false, false] rfl rfl (any_of HT_.out (by kernel_rfl)) (fun _ _ _ h => h) (Or.inl ⟨by rfl, ?_⟩) ?_ ?_
 rotate_left
 ·
  intro w'
  go_simp
  with_reducible rfl
 rotate_left
 ·
  simp only [Act.put, List.setIfInBounds_toArray, List.set_cons_zero, List.set_cons_succ, i64_w, i32_w]
  rfl
 refine pure_ (i := 4) (N := some 7) (v := ?_) (a' := ?_) #[false, false, true, false, true, false, false, false, false, false, false] rfl rfl (any_of HT_.out (by kernel_rfl)) (fun _ _ _ h => h) (Or.inl ⟨by rfl, ?_⟩) ?_ ?_
 rotate_left
 ·
  intro w'
  go_simp
  with_reducible rfl
 rotate_left
 ·
  simp only [Act.put, List.setIfInBounds_toArray, List.set_cons_zero, List.set_cons_succ, i64_w, i32_w]
  rfl
 refine pure_ (i := 6) (N := some 9) (v := ?_) (a' := ?_) #[false, false, true, false, true, false, true, false, false, false, false] rfl rfl (any_of HT_.out (by kernel_rfl)) (fun _ _ _ h => h) (Or.inl ⟨by rfl, ?_⟩) ?_ ?_
 rotate_left
 ·
  intro w'
  go_simp
  with_reducible rfl
 rotate_left
 ·
  simp only [Act.put, List.setIfInBounds_toArray, List.set_cons_zero, List.set_cons_succ, i64_w, i32_w]
  rfl
 refine take_ (i := 0) (N := some 3) (v := ?_) (a' := ?_) #[true, false, true, false, true, false, true, false, false, false, false] rfl rfl (take_ofW HT_.out HW_.out (by kernel_rfl)) (fun _ _ _ h => h) (Or.inl ⟨by rfl, ?_⟩) hHeld ?_ ?_
 rotate_left
 ·
  rintro w' ⟨s0, s1, s2, s3⟩
  go_simp
  with_reducible rfl
 rotate_left
 ·
  simp only [Act.put, List.setIfInBounds_toArray, List.set_cons_zero, List.set_cons_succ, i64_w, i32_w]
  rfl
 refine take_ (i := 3) (N := some 6) (v := ?_) (a' := ?_) #[true, false, true, true, true, false, true, false, false, false, false] rfl rfl (take_ofW HT_.out HW_.out (by kernel_rfl)) (fun _ _ _ h => h) (Or.inl ⟨by rfl, ?_⟩) hHeld ?_ ?_
 rotate_left
 ·
  rintro w' ⟨s0, s1, s2, s3⟩
  go_simp
  with_reducible rfl
 rotate_left
 ·
  simp only [Act.put, List.setIfInBounds_toArray, List.set_cons_zero, List.set_cons_succ, i64_w, i32_w]
  rfl
 refine take_ (i := 5) (N := some 8) (v := ?_) (a' := ?_) #[true, false, true, true, true, true, true, false, false, false, false] rfl rfl (take_ofW HT_.out HW_.out (by kernel_rfl)) (fun _ _ _ h => h) (Or.inl ⟨by rfl, ?_⟩) hHeld ?_ ?_
 rotate_left
 ·
  rintro w' ⟨s0, s1, s2, s3⟩
  go_simp
  with_reducible rfl
 rotate_left
 ·
  simp only [Act.put, List.setIfInBounds_toArray, List.set_cons_zero, List.set_cons_succ, i64_w, i32_w]
  rfl
 refine take_ (i := 7) (N := some 10) (v := ?_) (a' := ?_) #[true, false, true, true, true, true, true, true, false, false, false] rfl rfl (take_ofW HT_.out HW_.out (by kernel_rfl)) (fun _ _ _ h => h) (Or.inl ⟨by rfl, ?_⟩) hHeld ?_ ?_
 rotate_left
 ·
  rintro w' ⟨s0, s1, s2, s3⟩
  go_simp
  with_reducible rfl
 rotate_left
 ·
  simp only [Act.put, List.setIfInBounds_toArray, List.set_cons_zero, List.set_cons_succ, i64_w, i32_w]
  rfl
 refine one_ (i := 1) (N := some 4) #[true, true, true, true, true, true, true, true, false, false, false] rfl rfl (one_of HT_.out (by kernel_rfl)) (by decide) (fun K hK => ?_)
 refine goes_ Tryd.func81 (by kernel_rfl) rfl #[.agg #[.slice A0_0 l0_0.length c0_0, .string a0_1, .string a0_2, .string a0_3]] (by rfl) rfl rfl au38 ?_
 with_reducible refine (spec_l2Given.calls k _ _ l0_0 a0_1 a0_2 a0_3 t342 _ ?side1 ?side2 A2.out).mono ?_
 (case side1 => repeat (first | exact (Kd.C_below HR0_0.out HB.out) | (with_reducible refine Kd.C_alloc ?_ _) | (with_reducible refine Kd.C_drewN ?_ _) | (with_reducible refine Kd.C_drew ?_)))
 (case side2 => exact HC0_0.out)
 rintro e w6 ⟨rfl, hb⟩
 refine ⟨_, rfl, ?_⟩
 have n0_ := Aside0.mk (blk_below (g := gb341) (o := .cells #[.slice A0_0 l0_0.length c0_0, .string a0_1, .string a0_2, .string a0_3] 27 (0, 0)) au75 hb)
 have n1_ := Aside0.mk (below_step au36 hb)
 clear BK341
 clear HB
 have BK341 := n0_
 have HB := n1_
 clear n0_ n1_
 (try clear hb)
 (try clear hb2)
 (try clear hk)
 (try clear hi)
 refine hK.out _ _ ⟨(blk_cell BK341.out 0).trans rfl, (blk_cell BK341.out 1).trans rfl, (blk_cell BK341.out 2).trans rfl, (blk_cell BK341.out 3).trans rfl⟩ (fun hHeld => ?_)
 clear hK K
 refine norm_ (a' := ?_) ?_ ?_
 rotate_left
 ·
  show Act.put _ (some 4) _ = _
  simp only [Act.put, List.setIfInBounds_toArray, List.set_cons_zero, List.set_cons_succ, i64_w, i32_w]
  rfl
 refine one_ (i := 8) (N := some 11) #[true, true, true, true, true, true, true, true, true, false, false] rfl rfl (one_of HT_.out (by kernel_rfl)) (by decide) (fun K hK => ?_)
 refine Kd.R_lit_step Kd.string _ 9 ?hg (N := 11) ?hd (xs := ([t342, a0_1, a0_2, a0_3] : List ByteArray)) (inner := [.string t342, .string a0_1, .string a0_2, .string a0_3]) (ok := fun _ => True) (okp := fun _ => True) ?hr ?hp (fun _ hk => hk) trivial (Below.refl _ _) (Nat.le_refl _) (by simp) ?_; (case hd => rfl); (case hg => rfl); (case hr => first | (go_simp; done) | (go_simp; rfl)); (case hp => exact (Reps.one (show Kd.M Kd.string _ _ _ t342 [.string t342] from rfl) (Reps.one (show Kd.M Kd.string _ _ _ a0_1 [.string a0_1] from rfl) (Reps.one (show Kd.M Kd.string _ _ _ a0_2 [.string a0_2] from rfl) (Reps.one (show Kd.M Kd.string _ _ _ a0_3 [.string a0_3] from rfl) (Reps.none _ _))))))
 intro v344 w7 ho8 hb hg_ hnew_
 clear hg_ hnew_
 (first | rw [← Ny343.out] at ho8 | (simp only [Int.reduceToNat] at ho8; rw [← Ny343.out] at ho8))
 have n0_ := Aside0.mk (Kd.R_lower ho8 (below_size au36))
 have n1_ := Aside0.mk (blk_below (g := gb341) (o := .cells #[.slice A0_0 l0_0.length c0_0, .string a0_1, .string a0_2, .string a0_3] 27 (0, 0)) au75 hb)
 have n2_ := Aside0.mk (below_step au36 hb)
 clear BK341
 clear HB
 have HO345 := n0_
 have BK341 := n1_
 have HB := n2_
 clear n0_ n1_ n2_
 clear hb ho8
 obtain ⟨Ao9, co9, eo9⟩ := Kd.R_slice HO345.out
 (first | subst eo9 | (injection eo9 with f1_ f2_ f3_; have f4_ := f1_.symm; have f5_ := f3_.symm; clear f1_ f2_ f3_; subst f4_; subst f5_))
 refine hK.out _ _ ⟨(blk_cell BK341.out 0).trans rfl, (blk_cell BK341.out 1).trans rfl, (blk_cell BK341.out 2).trans rfl, (blk_cell BK341.out 3).trans rfl⟩ (fun hHeld => ?_)
 clear hK K
 refine norm_ (a' := ?_) ?_ ?_
 rotate_left
 ·
  show Act.put _ (some 11) _ = _
  simp only [Act.put, List.setIfInBounds_toArray, List.set_cons_zero, List.set_cons_succ, i64_w, i32_w]
  rfl
 refine one_ (i := 9) (N := some 12) #[true, true, true, true, true, true, true, true, true, true, false] rfl rfl (one_of HT_.out (by kernel_rfl)) (by decide) (fun K hK => ?_)
 refine goes_ Tryd.func80 (by kernel_rfl) rfl #[.slice Ao9 y343.length co9] (by rfl) rfl rfl au38 ?_
 with_reducible refine (spec_l2Join.calls k _ _ y343 t346 _ ?side1 ?side2 A3.out).mono ?_
 (case side1 => repeat (first | exact (Kd.R_reads' HO345.out).2.2 | (with_reducible refine Kd.C_alloc ?_ _) | (with_reducible refine Kd.C_drewN ?_ _) | (with_reducible refine Kd.C_drew ?_)))
 (case side2 => exact (Kd.R_reads' HO345.out).2.1)
 rintro e w' ⟨rfl, ⟨nd, rfl⟩⟩
 refine ⟨_, rfl, ?_⟩
 refine hK.out _ _ ⟨(blk_cell BK341.out 0).trans rfl, (blk_cell BK341.out 1).trans rfl, (blk_cell BK341.out 2).trans rfl, (blk_cell BK341.out 3).trans rfl⟩ (fun hHeld => ?_)
 clear hK K
 refine norm_ (a' := ?_) ?_ ?_
 rotate_left
 ·
  show Act.put _ (some 12) _ = _
  simp only [Act.put, List.setIfInBounds_toArray, List.set_cons_zero, List.set_cons_succ, i64_w, i32_w]
  rfl
 refine pure_ (i := 10) (N := some 2) (v := ?_) (a' := ?_) #[true, true, true, true, true, true, true, true, true, true, true] rfl rfl (any_of HT_.out (by kernel_rfl)) (fun _ _ _ h => h) (Or.inl ⟨by rfl, ?_⟩) ?_ ?_
 rotate_left
 ·
  intro w'
  go_simp
  with_reducible rfl
 rotate_left
 ·
  simp only [Act.put, List.setIfInBounds_toArray, List.set_cons_zero, List.set_cons_succ, i64_w, i32_w]
  rfl
 refine done_ (done_of HT_.out (by kernel_rfl)) ?_
 try go_wp2
 go_ret
 exact ⟨by first | rfl | (simp [errW_none, errW_some] <;> rfl) | (simp [*, errW_none, errW_some] <;> rfl), by repeat (first | (with_reducible first | exact HB.out | apply below_alloc | apply pw_below_drewN | apply below_drew1 | refine below_set ?_ GE341.out) | exact HB.out)⟩


/-! ### impl_fullForm: function 54 -/
def impl_fullForm.f (l0_0 : List ByteArray) (a0_1 : ByteArray) (a0_2 : ByteArray) (a0_3 : ByteArray) : Option (ByteArray) := (strings_Join.f l0_0 (⟨#[32]⟩ : ByteArray)).bind fun t351 => ((impl_spaced.f (([t351, a0_1, a0_2, a0_3] : List ByteArray))).bind fun t355 => (some t355))
def impl_fullForm.T1 : Bool × List (List Nat × List Nat) := (true, [([], []), ([0], [0]), ([1], [1]), ([], []), ([3], [3]), ([], []), ([5], [5]), ([], []), ([7], [7]), ([2, 4, 6, 8], [2, 4, 6, 8]), ([9, 2], [9]), ([10, 10, 0, 1, 2, 3, 4, 5, 6, 7, 8, 9, 10], [10])])
def impl_fullForm.B1 : List Nat := [0, 1, 3, 0, 8, 0, 32, 0, 128, 511, 1023, 2047]
theorem impl_fullForm.tab1 : rtab .any (opsOf Tryd.f54 1) = impl_fullForm.T1 := by kernel_rfl
theorem impl_fullForm.bits1 : waitsOk impl_fullForm.T1.2 impl_fullForm.B1 = true := by kernel_rfl
set_option maxHeartbeats 8000000 in
set_option maxRecDepth 100000 in
theorem impl_fullForm.calls (A0_0 : Option Addr) (c0_0 : Nat) (l0_0 : List ByteArray) (a0_1 : ByteArray) (a0_2 : ByteArray) (a0_3 : ByteArray) (r : ByteArray) (w : World) (hr0_0 : Kd.C Kd.string w A0_0 l0_0.length l0_0) (hc0_0 : l0_0.length ≤ c0_0) (h : impl_fullForm.f l0_0 a0_1 a0_2 a0_3 = some r) :
  Calls Tryd.prog 54 #[.agg #[.slice A0_0 l0_0.length c0_0, .string a0_1, .string a0_2, .string a0_3]] w fun e w' => e = .returned (.string r) ∧ Below w.heap.size w w' := by
 have hu27 := Tryd.underlying27
 have HR0_0 := Aside0.mk hr0_0
 have HC0_0 := Aside0.mk hc0_0
 clear hr0_0 hc0_0
 have HB := Aside0.mk (Below.refl w.heap.size w)
 have H : ((strings_Join.f l0_0 (⟨#[32]⟩ : ByteArray)).bind fun t351 => ((impl_spaced.f (([t351, a0_1, a0_2, a0_3] : List ByteArray))).bind fun t355 => (some t355))) = some r := h
 clear h
 replace H := Option.bind_eq_some_iff.mp H
 obtain ⟨t351, A20, H⟩ := H
 try dsimp only at H
 have A2 := Aside0.mk A20
 clear A20
 obtain ⟨y352, hy352⟩ : ∃ y_ : List ByteArray, y_ = (([t351, a0_1, a0_2, a0_3] : List ByteArray)) := ⟨_, rfl⟩
 replace H : ((impl_spaced.f y352).bind fun t355 => (some t355)) = some r := by first | (rw [hy352]; with_reducible exact H) | (have H2_ := (Option.bind_some _ _).symm.trans H; rw [hy352]; with_reducible exact H2_) | (have H2_ := (Option.bind_some _ _).symm.trans H; with_reducible exact H2_) | with_reducible exact H | (rw [hy352]; exact H) | exact H
 have Ny352 := Aside0.mk hy352
 clear hy352
 replace H := Option.bind_eq_some_iff.mp H
 obtain ⟨t355, A30, H⟩ := H
 try dsimp only at H
 have A3 := Aside0.mk A30
 clear A30
 obtain rfl := Option.some.inj H
 go_enter Tryd.func54, Tryd.ntmps54
 try go_wp2_with (first | ((with_reducible refine gate_dst (N := 1) rfl ?_); refine box_event ?hg (N := 1) ?hd (cs := #[.slice A0_0 l0_0.length c0_0, .string a0_1, .string a0_2, .string a0_3]) (t := 27) ?hr ?_; (case hd => rfl); (case hg => rfl); (case hr => first | (go_simp; done) | (go_simp; rfl)); intro gb350 hg w4 hbox hb; have n0_ := Aside0.mk (below_step au41 hb); have n1_ := Aside0.mk (hbox); have n2_ := Aside0.mk ((by rw [hg]; exact (below_size au41) : w.heap.size ≤ gb350)); have n3_ := Aside0.mk ((by rw [hg]; exact (below_size au41) : w.heap.size ≤ gb350)); clear HB; have HB := n0_; have BK350 := n1_; have GW350 := n2_; have GE350 := n3_; clear n0_ n1_ n2_ n3_; clear hb hbox hg))
 have n0_ := Aside0.mk (blk_drew BK350.out)
 have n1_ := Aside0.mk (below_drew1 HB.out)
 clear BK350
 clear HB
 have BK350 := n0_
 have HB := n1_
 clear n0_ n1_
 refine start_ (n := 12) (S := fun w' => w'.cell? ⟨gb350, 0, none⟩ = some (.slice A0_0 l0_0.length c0_0) ∧ w'.cell? ⟨gb350, 1, none⟩ = some (.string a0_1) ∧ w'.cell? ⟨gb350, 2, none⟩ = some (.string a0_2) ∧ w'.cell? ⟨gb350, 3, none⟩ = some (.string a0_3)) (ds := []) #[false, false, false, false, false, false, false, false, false, false, false, false] (by kernel_rfl) rfl rfl ⟨(blk_cell BK350.out 0).trans rfl, (blk_cell BK350.out 1).trans rfl, (blk_cell BK350.out 2).trans rfl, (blk_cell BK350.out 3).trans rfl⟩ (fun hHeld => ?_); refine with_tabW impl_fullForm.tab1 impl_fullForm.bits1 (fun HT_ HW_ => ?_)
 generalize w4.drew = w5 at BK350 HB hHeld ⊢
 refine pure_ (i := 0) (N := some 3) (v := ?_) (a' := ?_) #[true, false, false, false, false, false, false, false, false, false, false, false] rfl rfl (any_of HT_.out (by kernel_rfl)) (fun _ _ _ h => h) (Or.inl ⟨by rfl, ?_⟩) ?_ ?_
 rotate_left
 ·
  intro w'
  go_simp
  with_reducible rfl
 rotate_left
 ·
  simp only [Act.put, List.setIfInBounds_toArray, List.set_cons_zero, List.set_cons_succ, i64_w, i32_w]
  rfl
 refine pure_ (i := 3) (N := some 6) (v := ?_) (a' := ?_) #[true, false, false, true, false, false, false, false, false, false, false, false] rfl rfl (any_of HT_.out (by kernel_rfl)) (fun _ _ _ h => h) (Or.inl ⟨by rfl, ?_⟩) ?_ ?_
 rotate_left
 ·
  intro w'
  go_simp
  with_reducible rfl
 rotate_left
 ·
  simp only [Act.put, List.setIfInBounds_toArray, List.set_cons_zero, List.set_cons_succ, i64_w, i32_w]
  rfl
 refine pure_ (i := 5) (N := some 8) (v := ?_) (a' := ?_) #[true, false, false, true, false, true, false, false, false, false, false, false] rfl rfl (any_of HT_.out (by kernel_rfl)) (fun _ _ _ h => h) (Or.inl ⟨by rfl, ?_⟩) ?_ ?_
 rotate_left
 ·
  intro w'
  go_simp
  with_reducible rfl
 rotate_left
 ·
  simp only [Act.put, List.setIfInBounds_toArray, List.set_cons_zero, List.set_cons_succ, i64_w, i32_w]
  rfl
 refine pure_ (i := 7) (N := some 10) (v := ?_) (a' := ?_) #[true, false, false, true, false, true, false, true, false, false, false, false] rfl rfl (any_of HT_.out (by kernel_rfl)) (fun _ _ _ h => h) (Or.inl ⟨by rfl, ?_⟩) ?_ ?_
 rotate_left
 ·
  intro w'
  go_simp
  with_reducible rfl
 rotate_left
 ·
  simp only [Act.put, List.setIfInBounds_toArray, List.set_cons_zero, List.set_cons_succ, i64_w, i32_w]
  rfl
 refine take_ (i := 1) (N := some 4) (v := ?_) (a' := ?_) #[true, true, false, true, false, true, false, true, false, false, false, false] rfl rfl (take_ofW HT_.out HW_.out (by kernel_rfl)) (fun _ _ _ h => h) (Or.inl ⟨by rfl, ?_⟩) hHeld ?_ ?_
 rotate_left
 ·
  rintro w' ⟨s0, s1, s2, s3⟩
  go_simp
  with_reducible rfl
 rotate_left
 ·
  simp only [Act.put, List.setIfInBounds_toArray, List.set_cons_zero, List.set_cons_succ, i64_w, i32_w]
  rfl
 refine take_ (i := 4) (N := some 7) (v := ?_) (a' := ?_) #[true, true, false, true, true, true, false, true, false, false, false, false] rfl rfl (take_ofW HT_.out HW_.out (by kernel_rfl)) (fun _ _ _ h => h) (Or.inl ⟨by rfl, ?_⟩) hHeld ?_ ?_
 rotate_left
 ·
  rintro w' ⟨s0, s1, s2, s3⟩
  go_simp
  with_reducible rfl
 rotate_left
 ·
  simp only [Act.put, List.setIfInBounds_toArray, List.set_cons_zero, List.set_cons_succ, i64_w, i32_w]
  rfl
 refine take_ (i := 6) (N := some 9) (v := ?_) (a' := ?_) #[true, true, false, true, true, true, true, true, false, false, false, false] rfl rfl (take_ofW HT_.out HW_.out (by kernel_rfl)) (fun _ _ _ h => h) (Or.inl ⟨by rfl, ?_⟩) hHeld ?_ ?_
 rotate_left
 ·
  rintro w' ⟨s0, s1, s2, s3⟩
  go_simp
  with_reducible rfl
 rotate_left
 ·
  simp only [Act.put, List.setIfInBounds_toArray, List.set_cons_zero, List.set_cons_succ, i64_w, i32_w]
  rfl
 refine take_ (i := 8) (N := some 11) (v := ?_) (a' := ?_) #[true, true, false, true, true, true, true, true, true, false, false, false] rfl rfl (take_ofW HT_.out HW_.out (by kernel_rfl)) (fun _ _ _ h => h) (Or.inl ⟨by rfl, ?_⟩) hHeld ?_ ?_
 rotate_left
 ·
  rintro w' ⟨s0, s1, s2, s3⟩
  go_simp
  with_reducible rfl
 rotate_left
 ·
  simp only [Act.put, List.setIfInBounds_toArray, List.set_cons_zero, List.set_cons_succ, i64_w, i32_w]
  rfl
 refine one_ (i := 2) (N := some 5) #[true, true, true, true, true, true, true, true, true, false, false, false] rfl rfl (one_of HT_.out (by kernel_rfl)) (by decide) (fun K hK => ?_)
 refine goes_ Tryd.func61 (by kernel_rfl) rfl #[.slice A0_0 l0_0.length c0_0, .string (⟨#[32]⟩ : ByteArray)] (by rfl) rfl rfl au38 ?_
 with_reducible refine (strings_Join.calls _ _ l0_0 (⟨#[32]⟩ : ByteArray) t351 _ ?side1 ?side2 A2.out).mono ?_
 (case side1 => repeat (first | exact (Kd.C_below HR0_0.out HB.out) | (with_reducible refine Kd.C_alloc ?_ _) | (with_reducible refine Kd.C_drewN ?_ _) | (with_reducible refine Kd.C_drew ?_)))
 (case side2 => exact HC0_0.out)
 rintro e w6 ⟨rfl, hb⟩
 refine ⟨_, rfl, ?_⟩
 have n0_ := Aside0.mk (blk_below (g := gb350) (o := .cells #[.slice A0_0 l0_0.length c0_0, .string a0_1, .string a0_2, .string a0_3] 27 (0, 0)) au76 hb)
 have n1_ := Aside0.mk (below_step au37 hb)
 clear BK350
 clear HB
 have BK350 := n0_
 have HB := n1_
 clear n0_ n1_
 (try clear hb)
 (try clear hb2)
 (try clear hk)
 (try clear hi)
 refine hK.out _ _ ⟨(blk_cell BK350.out 0).trans rfl, (blk_cell BK350.out 1).trans rfl, (blk_cell BK350.out 2).trans rfl, (blk_cell BK350.out 3).trans rfl⟩ (fun hHeld => ?_)
 clear hK K
 refine norm_ (a' := ?_) ?_ ?_
 rotate_left
 ·
  show Act.put _ (some 5) _ = _
  simp only [Act.put, List.setIfInBounds_toArray, List.set_cons_zero, List.set_cons_succ, i64_w, i32_w]
  rfl
 refine one_ (i := 9) (N := some 12) #[true, true, true, true, true, true, true, true, true, true, false, false] rfl rfl (one_of HT_.out (by kernel_rfl)) (by decide) (fun K hK => ?_)
 refine Kd.R_lit_step Kd.string _ 9 ?hg (N := 12) ?hd (xs := ([t351, a0_1, a0_2, a0_3] : List ByteArray)) (inner := [.string t351, .string a0_1, .string a0_2, .string a0_3]) (ok := fun _ => True) (okp := fun _ => True) ?hr ?hp (fun _ hk => hk) trivial (Below.refl _ _) (Nat.le_refl _) (by simp) ?_; (case hd => rfl); (case hg => rfl); (case hr => first | (go_simp; done) | (go_simp; rfl)); (case hp => exact (Reps.one (show Kd.M Kd.string _ _ _ t351 [.string t351] from rfl) (Reps.one (show Kd.M Kd.string _ _ _ a0_1 [.string a0_1] from rfl) (Reps.one (show Kd.M Kd.string _ _ _ a0_2 [.string a0_2] from rfl) (Reps.one (show Kd.M Kd.string _ _ _ a0_3 [.string a0_3] from rfl) (Reps.none _ _))))))
 intro v353 w7 ho8 hb hg_ hnew_
 clear hg_ hnew_
 (first | rw [← Ny352.out] at ho8 | (simp only [Int.reduceToNat] at ho8; rw [← Ny352.out] at ho8))
 have n0_ := Aside0.mk (Kd.R_lower ho8 (below_size au37))
 have n1_ := Aside0.mk (blk_below (g := gb350) (o := .cells #[.slice A0_0 l0_0.length c0_0, .string a0_1, .string a0_2, .string a0_3] 27 (0, 0)) au76 hb)
 have n2_ := Aside0.mk (below_step au37 hb)
 clear BK350
 clear HB
 have HO354 := n0_
 have BK350 := n1_
 have HB := n2_
 clear n0_ n1_ n2_
 clear hb ho8
 obtain ⟨Ao9, co9, eo9⟩ := Kd.R_slice HO354.out
 (first | subst eo9 | (injection eo9 with f1_ f2_ f3_; have f4_ := f1_.symm; have f5_ := f3_.symm; clear f1_ f2_ f3_; subst f4_; subst f5_))
 refine hK.out _ _ ⟨(blk_cell BK350.out 0).trans rfl, (blk_cell BK350.out 1).trans rfl, (blk_cell BK350.out 2).trans rfl, (blk_cell BK350.out 3).trans rfl⟩ (fun hHeld => ?_)
 clear hK K
 refine norm_ (a' := ?_) ?_ ?_
 rotate_left
 ·
  show Act.put _ (some 12) _ = _
  simp only [Act.put, List.setIfInBounds_toArray, List.set_cons_zero, List.set_cons_succ, i64_w, i32_w]
  rfl
 refine one_ (i := 10) (N := some 13) #[true, true, true, true, true, true, true, true, true, true, true, false] rfl rfl (one_of HT_.out (by kernel_rfl)) (by decide) (fun K hK => ?_)
 refine goes_ Tryd.func82 (by kernel_rfl) rfl #[.slice Ao9 y352.length co9] (by rfl) rfl rfl au38 ?_
 with_reducible refine (impl_spaced.calls (fun k_ => some k_ = (.slice Ao9 y352.length co9 : Value).ownBlock) (.slice Ao9 y352.length co9) y352 t355 w _ ?side1 ?side2 A3.out).mono ?_
 (case side1 => repeat (first | (with_reducible first | exact HB.out | apply below_alloc | apply pw_below_drewN | apply below_drew1 | refine below_set ?_ GE350.out) | exact HB.out))
 (case side2 => exact Kd.R_tight rfl HO354.out)
 rintro e w10 ⟨rfl, hb, hkp⟩
 refine ⟨_, rfl, ?_⟩
 have n0_ := Aside0.mk (blk_kept au76 hkp (fun hs_ => (fun e_ => (Kd.R_ne HO354.out BK350.out (by decide)) e_) hs_))
 have n1_ := Aside0.mk (hb)
 clear BK350
 clear HB
 clear HO354
 have BK350 := n0_
 have HB := n1_
 clear n0_ n1_
 (try clear hb)
 (try clear hkp)
 refine hK.out _ _ ⟨(blk_cell BK350.out 0).trans rfl, (blk_cell BK350.out 1).trans rfl, (blk_cell BK350.out 2).trans rfl, (blk_cell BK350.out 3).trans rfl⟩ (fun hHeld => ?_)
 clear hK K
 refine norm_ (a' := ?_) ?_ ?_
 rotate_left
 ·
  show Act.put _ (some 13) _ = _
  simp only [Act.put, List.setIfInBounds_toArray, List.set_cons_zero, List.set_cons_succ, i64_w, i32_w]
  rfl
 refine pure_ (i := 11) (N := some 2) (v := ?_) (a' := ?_) #[true, true, true, true, true, true, true, true, true, true, true, true] rfl rfl (any_of HT_.out (by kernel_rfl)) (fun _ _ _ h => h) (Or.inl ⟨by rfl, ?_⟩) ?_ ?_
 rotate_left
 ·
  intro w'
  go_simp
  with_reducible rfl
 rotate_left
 ·
  simp only [Act.put, List.setIfInBounds_toArray, List.set_cons_zero, List.set_cons_succ, i64_w, i32_w]
  rfl
 refine done_ (done_of HT_.out (by kernel_rfl)) ?_
 try go_wp2
 go_ret
 exact ⟨by first | rfl | (simp [errW_none, errW_some] <;> rfl) | (simp [*, errW_none, errW_some] <;> rfl), by repeat (first | (with_reducible first | exact HB.out | apply below_alloc | apply pw_below_drewN | apply below_drew1 | refine below_set ?_ GE350.out) | exact HB.out)⟩

end Go.Proofs.YtcckamdpncbkoaaDoor.G

namespace Go.Proofs.YtcckamdpncbkoaaDoor.G
open Go.RowKit Go.Proofs.YtcckamdpncbkoaaDoorW.PrintWords Go.Proofs.YtcckamdpncbkoaaDoorW.PrintLast Go.Proofs.YtcckamdpncbkoaaDoor.B
set_option linter.unusedVariables false
set_option linter.unusedSimpArgs false
def spB : ByteArray := ⟨#[32]⟩
def glu (s p : ByteArray) : ByteArray := (if s.size ≠ 0 ∧ p.size ≠ 0 then s ++ spB else s) ++ p
def joinD (l : List ByteArray) : ByteArray := l.foldl glu ByteArray.empty
def sumB (l : List ByteArray) : Nat := (l.map fun x => x.size + 1).sum
theorem sumB_cons (a : ByteArray) (l : List ByteArray) : sumB (a :: l) = a.size + 1 + sumB l := by simp [sumB]
theorem glu_size (s p : ByteArray) : (glu s p).size ≤ s.size + (p.size + 1) := by
  unfold glu
  rw [size_append]
  split
  · rw [size_append]; show s.size + 1 + p.size ≤ _; omega
  · omega
theorem fold_size (l : List ByteArray) : ∀ s : ByteArray, (l.foldl glu s).size ≤ s.size + sumB l := by
  induction l with
  | nil => intro s; simp [sumB]
  | cons p l ih =>
    intro s
    have := ih (glu s p)
    have h2 := glu_size s p
    rw [List.foldl_cons, sumB_cons]; omega
theorem joinD_size (l : List ByteArray) : (joinD l).size ≤ sumB l := by
  have := fold_size l ByteArray.empty
  have e : ByteArray.empty.size = 0 := rfl
  unfold joinD; omega
theorem L_nil {s : ByteArray} (h : s.size = 0) : L s = [] := (size_pos_iff s).1 h
theorem L_glu (s p : ByteArray) : L (glu s p) = if s.size ≠ 0 ∧ p.size ≠ 0 then L s ++ 32 :: L p else L s ++ L p := by
  unfold glu
  rw [L_append]
  split
  · rw [L_append, List.append_assoc]; rfl
  · rfl
theorem fold_join (l : List ByteArray) : ∀ s : ByteArray, L (l.foldl glu s) = if s.size = 0 then Lib.join ((l.filter fun x => !decide (x.size = 0)).map (·.data.toList)) [32] else L s ++ Lib.joinTail [32] ((l.filter fun x => !decide (x.size = 0)).map (·.data.toList)) := by
  induction l with
  | nil =>
    intro s
    by_cases h : s.size = 0
    · rw [if_pos h]; simp [Lib.join_nil, L_nil h]
    · rw [if_neg h]; simp [Lib.joinTail]
  | cons p l ih =>
    intro s
    rw [List.foldl_cons, ih]
    by_cases hp : p.size = 0
    · have e : glu s p = s := L_inj (by rw [L_glu, if_neg (fun h => h.2 hp), L_nil hp, List.append_nil])
      rw [e, List.filter_cons_of_neg (by simp [hp])]
    · have hg : ¬ (glu s p).size = 0 := by rw [← L_len, L_glu]; split <;> simp [L_len, hp]
      rw [if_neg hg, List.filter_cons_of_pos (by simp [hp]), List.map_cons, L_glu]
      by_cases h : s.size = 0
      · rw [if_neg (fun x => x.1 h), if_pos h, L_nil h, List.nil_append, Lib.join_cons]
      · rw [if_pos (And.intro h hp), if_neg h]
        simp [Lib.joinTail]
theorem join_filter (l : List ByteArray) : Lib.join ((l.filter fun x => !decide (x.size = 0)).map (·.data.toList)) (⟨#[32]⟩ : ByteArray).data.toList = L (joinD l) := by
  have := fold_join l ByteArray.empty
  rw [if_pos (show ByteArray.empty.size = 0 from rfl)] at this
  exact this.symm
theorem filter_all {l : List ByteArray} (h : ∀ x ∈ l, 1 ≤ x.size) : (l.filter fun x => !decide (x.size = 0)) = l := by
  rw [List.filter_eq_self]
  intro x hx
  have := h x hx
  show (!decide (x.size = 0)) = true
  rw [decide_eq_false (by omega)]; rfl
theorem libJoin_filter (l : List ByteArray) (hl : l.length ≤ 1000) (hs : sumB l ≤ 140737488355328) : strings_Join.f (l.filter fun x => !decide (x.size = 0)) (⟨#[32]⟩ : ByteArray) = some (joinD l) := by
  have h1 : (l.filter fun x => !decide (x.size = 0)).length ≤ l.length := List.length_filter_le _ _
  have h2 := joinD_size l
  unfold strings_Join.f
  rw [join_filter, if_pos ⟨by omega, by rw [L_len]; omega⟩]
theorem libJoin_all (l : List ByteArray) (hp : ∀ x ∈ l, 1 ≤ x.size) (hl : l.length ≤ 1000) (hs : sumB l ≤ 140737488355328) : strings_Join.f l (⟨#[32]⟩ : ByteArray) = some (joinD l) := by
  have := libJoin_filter l hl hs
  rwa [filter_all hp] at this
theorem spaced_eq (l : List ByteArray) (h1 : 1 ≤ l.length) (hl : l.length ≤ 1000) (hs : sumB l ≤ 140737488355328) : impl_spaced.f l = some (joinD l) := by
  unfold impl_spaced.f
  rw [if_pos ⟨h1, hl⟩]
  exact libJoin_filter l hl hs
theorem spec_join_loop (l : List ByteArray) (hl : l.length ≤ 4611686018427387904) (hs : sumB l ≤ 140737488355328) (d : Nat) : ∀ (s : ByteArray) (i : Nat), i ≤ l.length → l.length - i = d → s.size + sumB (l.drop i) ≤ 140737488355328 →
    Ev (fun k => spec_l2Join.l0 k l s (i : Int)) ((l.drop i).foldl glu s) := by
  induction d with
  | zero =>
    intro s i h1 hd hb
    refine Ev.step (f := fun _ => some s) (fun k => ?_) (ev_eq (Ev.now _) ?_)
    · simp only [spec_l2Join.l0]; rw [if_neg (by omega)]
    · rw [List.drop_of_length_le (by omega)]; rfl
  | succ d ih =>
    intro s i h1 hd hb
    have hi : i < l.length := by omega
    have hw : wrap64 ((i : Int) + 1) = ((i + 1 : Nat) : Int) := by rw [w64 (by omega) (by omega)]; rfl
    rw [List.drop_eq_getElem_cons hi] at hb ⊢
    rw [sumB_cons] at hb
    have hg := glu_size s l[i]
    rw [List.foldl_cons]
    refine Ev.step (f := fun k => spec_l2Join.l0 k l (glu s l[i]) ((i + 1 : Nat) : Int)) (fun k => ?_) (ih (glu s l[i]) (i + 1) (by omega) (by omega) (by omega))
    simp only [spec_l2Join.l0, rd_get l i hi]
    have a1 : (i : Int) < (l.length : Int) := by omega
    have a2 : (0 : Int) ≤ (i : Int) := by omega
    have a3 : s.size + l[i].size ≤ 9223372036854775807 := by omega
    have a4 : s.size + 1 ≤ 9223372036854775807 := by omega
    have a5 : (s ++ (⟨#[32]⟩ : ByteArray)).size + l[i].size ≤ 9223372036854775807 := by
      rw [size_append]; show s.size + 1 + l[i].size ≤ _; omega
    simp only [if_pos a1, if_pos a2, if_pos a3, if_pos a4, if_pos a5, hw]
    unfold glu
    by_cases hs0 : s.size = 0
    · have b : s.toList = ([] : List UInt8) := (nil_iff s).2 hs0
      simp only [b, hs0, ne_eq, not_true_eq_false, false_and, if_true, if_false]
    · have b : ¬ s.toList = ([] : List UInt8) := fun e => hs0 ((nil_iff s).1 e)
      rw [if_neg b]
      by_cases hp : l[i].size = 0
      · have b2 : (l[i]).toList = ([] : List UInt8) := (nil_iff _).2 hp
        rw [if_pos b2, if_neg (fun x : s.size ≠ 0 ∧ l[i].size ≠ 0 => x.2 hp)]
      · have b2 : ¬ (l[i]).toList = ([] : List UInt8) := fun e => hp ((nil_iff _).1 e)
        rw [if_neg b2, if_pos (show s.size ≠ 0 ∧ l[i].size ≠ 0 from ⟨hs0, hp⟩)]
        rfl
theorem spec_join (l : List ByteArray) (hl : l.length ≤ 4611686018427387904) (hs : sumB l ≤ 140737488355328) : Ev (fun k => spec_l2Join.f k l) (joinD l) := by
  have := spec_join_loop l hl hs _ ByteArray.empty 0 (by omega) rfl (by rw [List.drop_zero]; show 0 + _ ≤ _; omega)
  unfold spec_l2Join.f
  rw [List.drop_zero] at this
  exact this
theorem sumB_bulk (l : List ByteArray) : sumB l = bulkS l := by
  induction l with
  | nil => rfl
  | cons a l ih => rw [sumB_cons, ih]; unfold bulkS; rw [bytesS_cons, List.length_cons]; omega
def cmB : ByteArray := ⟨#[44, 32]⟩
def tailI (t : ByteArray) (G : List ByteArray) (S : ByteArray) : ByteArray := if S.size = 0 then (t ++ cmB) ++ joinD G else (((t ++ cmB) ++ joinD G) ++ cmB) ++ S
def invD (G : List ByteArray) (P F S : ByteArray) : ByteArray := if G.length > 0 ∨ S.size ≠ 0 then tailI (joinD [P, F]) G S else joinD [P, F]
theorem inv_sum (G : List ByteArray) (P F S : ByteArray) (h : bulkN G P F S ≤ 1048576) : (joinD G).size ≤ 1048576 ∧ sumB [P, F] ≤ 1048580 ∧ (joinD [P, F]).size ≤ 1048580 ∧ S.size ≤ 1048576 ∧ G.length ≤ 1048576 ∧ sumB G ≤ 1048576 := by
  have h1 := joinD_size G
  have h2 := sumB_bulk G
  have h3 := joinD_size [P, F]
  have h4 : sumB [P, F] = P.size + 1 + (F.size + 1 + 0) := rfl
  unfold bulkN at h
  unfold bulkS at h h2
  omega
theorem cm_size (t : ByteArray) : (t ++ (⟨#[44, 32]⟩ : ByteArray)).size = t.size + 2 := by rw [size_append]; rfl
theorem cm_size' (t : ByteArray) : ((⟨#[44, 32]⟩ : ByteArray) ++ t).size = 2 + t.size := by rw [size_append]; rfl
theorem spec_inv_j (t : ByteArray) (G : List ByteArray) (P F S : ByteArray) (ht : t.size ≤ 1048580) (h : bulkN G P F S ≤ 1048576) : Ev (fun k => spec_l2Inverse.j0 k t true G P F S) (tailI t G S) := by
  obtain ⟨b1, b2, b3, b4, b5, b6⟩ := inv_sum G P F S h
  obtain ⟨K, hK⟩ := spec_join G (by omega) (by omega)
  have hK' : ∀ k, K ≤ k → spec_l2Given.f k G P F S = some (joinD G) := fun k hk => by unfold spec_l2Given.f; rw [show spec_l2Join.f k G = some (joinD G) from hK k hk]; rfl
  refine ⟨K + 1, fun k hk => ?_⟩
  obtain ⟨k', rfl⟩ : ∃ k', k = k' + 1 := ⟨k - 1, by omega⟩
  have a1 : t.size + 2 ≤ 9223372036854775807 := by omega
  have a2 : (t ++ (⟨#[44, 32]⟩ : ByteArray)).size + (joinD G).size ≤ 9223372036854775807 := by rw [cm_size]; omega
  have a3 : ((t ++ (⟨#[44, 32]⟩ : ByteArray)) ++ joinD G).size + 2 ≤ 9223372036854775807 := by rw [size_append, cm_size]; omega
  have a4 : (((t ++ (⟨#[44, 32]⟩ : ByteArray)) ++ joinD G) ++ (⟨#[44, 32]⟩ : ByteArray)).size + S.size ≤ 9223372036854775807 := by rw [cm_size, size_append, cm_size]; omega
  simp only [spec_l2Inverse.j0]
  rw [if_pos trivial, if_pos a1, hK' k' (by omega)]
  simp only [Option.bind_some]
  rw [if_pos a2]
  unfold tailI
  by_cases c : S.size = 0
  · rw [if_pos ((nil_iff S).2 c), if_pos c]; rfl
  · rw [if_neg (fun e => c ((nil_iff S).1 e)), if_pos a3, if_pos a4, if_neg c]; rfl
theorem spec_inv (G : List ByteArray) (P F S : ByteArray) (h : bulkN G P F S ≤ 1048576) : Ev (fun k => spec_l2Inverse.f k G P F S) (invD G P F S) := by
  obtain ⟨b1, b2, b3, b4, b5, b6⟩ := inv_sum G P F S h
  have hj := spec_inv_j (joinD [P, F]) G P F S b3 h
  unfold spec_l2Inverse.f invD
  refine Ev.bind (spec_join [P, F] (by simp) (by omega)) ?_
  by_cases c : G.length > 0
  · exact ev_pos (by omega) (ev_eq hj (if_pos (Or.inl c)).symm)
  · refine ev_neg (by omega) ?_
    by_cases d : S.size = 0
    · have e : (S.toList != ([] : List UInt8)) = false := by rw [(nil_iff S).2 d]; rfl
      rw [e]
      refine Ev.step (f := fun _ => some (joinD [P, F])) (fun k => ?_) (ev_eq (Ev.now _) (if_neg (fun x => x.elim c (fun y => y d))).symm)
      simp only [spec_l2Inverse.j0]
      rw [if_neg (by simp), if_pos ((nil_iff S).2 d)]
    · have e : (S.toList != ([] : List UInt8)) = true := bne_iff_ne.2 (fun x => d ((nil_iff S).1 x))
      rw [e]
      exact ev_eq hj (if_pos (Or.inr d)).symm
theorem app3 (a b c : ByteArray) : a ++ (b ++ c) = (a ++ b) ++ c := L_inj (by simp only [L_append, List.append_assoc])
theorem impl_inv_j (t : ByteArray) (G : List ByteArray) (P F S : ByteArray) (ht : t.size ≤ 1048580) (hg : goodN G P F S = true) (h : bulkN G P F S ≤ 1048576) : Ev (fun k => impl_inverseForm.j0 k t true G P F S) (tailI t G S) := by
  obtain ⟨b1, b2, b3, b4, b5, b6⟩ := inv_sum G P F S h
  obtain ⟨h3, h4⟩ := good_pos hg
  have hK := libJoin_all G h4 (by omega) (by omega)
  refine ⟨1, fun k hk => ?_⟩
  obtain ⟨k', rfl⟩ : ∃ k', k = k' + 1 := ⟨k - 1, by omega⟩
  have a1 : 2 + (joinD G).size ≤ 9223372036854775807 := by omega
  have a2 : t.size + ((⟨#[44, 32]⟩ : ByteArray) ++ joinD G).size ≤ 9223372036854775807 := by rw [cm_size']; omega
  have a3 : 2 + S.size ≤ 9223372036854775807 := by omega
  have a4 : (t ++ ((⟨#[44, 32]⟩ : ByteArray) ++ joinD G)).size + ((⟨#[44, 32]⟩ : ByteArray) ++ S).size ≤ 9223372036854775807 := by rw [cm_size', size_append, cm_size']; omega
  simp only [impl_inverseForm.j0]
  rw [if_pos trivial, hK]
  simp only [Option.bind_some]
  rw [if_pos a1, if_pos a2]
  unfold tailI
  by_cases c : S.size = 0
  · rw [if_pos ((nil_iff S).2 c), if_pos c, app3]; rfl
  · rw [if_neg (fun e => c ((nil_iff S).1 e)), if_pos a3, if_pos a4, if_neg c, app3, app3]; rfl
theorem impl_inv (G : List ByteArray) (P F S : ByteArray) (hg : goodN G P F S = true) (h : bulkN G P F S ≤ 1048576) : Ev (fun k => impl_inverseForm.f k G P F S) (invD G P F S) := by
  obtain ⟨b1, b2, b3, b4, b5, b6⟩ := inv_sum G P F S h
  have hj := impl_inv_j (joinD [P, F]) G P F S b3 hg h
  unfold impl_inverseForm.f invD
  refine ev_bind0 (spaced_eq [P, F] (by simp) (by simp) (by omega)) ?_
  by_cases c : G.length > 0
  · exact ev_pos (by omega) (ev_eq hj (if_pos (Or.inl c)).symm)
  · refine ev_neg (by omega) ?_
    by_cases d : S.size = 0
    · have e : (S.toList != ([] : List UInt8)) = false := by rw [(nil_iff S).2 d]; rfl
      rw [e]
      refine Ev.step (f := fun _ => some (joinD [P, F])) (fun k => ?_) (ev_eq (Ev.now _) (if_neg (fun x => x.elim c (fun y => y d))).symm)
      simp only [impl_inverseForm.j0]
      rw [if_neg (by simp), if_pos ((nil_iff S).2 d)]
    · have e : (S.toList != ([] : List UInt8)) = true := bne_iff_ne.2 (fun x => d ((nil_iff S).1 x))
      rw [e]
      exact ev_eq hj (if_pos (Or.inr d)).symm
theorem spl_app (b : UInt8) (X Y : List UInt8) : spl b (X ++ b :: Y) = spl b X ++ spl b Y := by
  induction X with
  | nil => rw [List.nil_append, spl_cons, if_pos rfl]; rfl
  | cons c X ih =>
    rw [List.cons_append, spl_cons, spl_cons, ih]
    by_cases h : c = b
    · rw [if_pos h, if_pos h]; rfl
    · rw [if_neg h, if_neg h]
      cases hs : spl b X with
      | nil => exact absurd hs (spl_ne b X)
      | cons p q => rfl
theorem spl_free (b : UInt8) (l : List UInt8) (h : ∀ x ∈ l, x ≠ b) : spl b l = [l] := spl_none b l (fun k e => h b (List.mem_of_getElem? e) rfl)
theorem join_two (b : UInt8) (x y : List UInt8) (ls : List (List UInt8)) : Lib.join (x :: y :: ls) [b] = x ++ b :: Lib.join (y :: ls) [b] := by
  rw [Lib.join_cons, Lib.join_cons]; simp [Lib.joinTail]
theorem spl_join (b : UInt8) (ls : List (List UInt8)) : ∀ x : List UInt8, (∀ y ∈ x, y ≠ b) → (∀ l ∈ ls, ∀ y ∈ l, y ≠ b) → spl b (Lib.join (x :: ls) [b]) = x :: ls := by
  induction ls with
  | nil => intro x hx _; rw [Lib.join_one]; exact spl_free b x hx
  | cons y ls ih =>
    intro x hx h
    rw [join_two, spl_app, spl_free b x hx, ih y (h y (by simp)) (fun l hl => h l (by simp [hl]))]; rfl
theorem join_spl (b : UInt8) (l : List UInt8) : Lib.join (spl b l) [b] = l := by
  induction l with
  | nil => rfl
  | cons c l ih =>
    rw [spl_cons]
    cases hs : spl b l with
    | nil => exact absurd hs (spl_ne b l)
    | cons p q =>
      rw [hs] at ih
      by_cases h : c = b
      · rw [if_pos h, join_two, ih, h]; rfl
      · rw [if_neg h]
        show Lib.join (([c] ++ p) :: q) [b] = _
        rw [Lib.join_cons, List.append_assoc, ← Lib.join_cons, ih]; rfl
theorem spl_len (b : UInt8) (l : List UInt8) : ∀ p ∈ spl b l, p.length ≤ l.length := by
  induction l with
  | nil => intro p hp; simp [spl_nil] at hp; simp [hp]
  | cons c l ih =>
    intro p hp
    rw [spl_cons] at hp
    by_cases h : c = b
    · rw [if_pos h] at hp
      rcases List.mem_cons.1 hp with rfl | hp
      · simp
      · have := ih p hp; simp; omega
    · rw [if_neg h] at hp
      cases hs : spl b l with
      | nil => exact absurd hs (spl_ne b l)
      | cons q r =>
        rw [hs] at hp ih
        rcases List.mem_cons.1 hp with rfl | hp
        · have := ih q (by simp); simp; omega
        · have := ih p (by simp [hp]); simp; omega
theorem join_take (b : UInt8) (l : List (List UInt8)) (n : Nat) : (Lib.join (l.take n) [b]).length ≤ (Lib.join l [b]).length := by
  cases l with
  | nil => simp
  | cons x r =>
    cases n with
    | zero => simp [Lib.join_nil]
    | succ n =>
      rw [List.take_succ_cons, Lib.join_cons, Lib.join_cons, List.length_append, List.length_append]
      have := Lib.joinTail_take_le [b] r n
      omega
-- the library's split at ', '
theorem occ_free (A X : List UInt8) (h : ∀ x ∈ A, x ≠ 44) : Lib.NoOcc (A ++ X) [44, 32] A.length := by
  intro j hj
  unfold Lib.occAt
  rw [List.drop_append_of_le_length (by omega)]
  cases hd : A.drop j with
  | nil => have := congrArg List.length hd; simp at this; omega
  | cons a r =>
    have ha : a ∈ A := List.mem_of_mem_drop (by rw [hd]; simp)
    show ((44 == a) && _) = false
    rw [beq_false_of_ne (fun e => h a ha e.symm)]; rfl
theorem index2_hit (A B : List UInt8) (h : ∀ x ∈ A, x ≠ 44) : Lib.index (A ++ 44 :: 32 :: B) [44, 32] = A.length :=
  Lib.index_hit (occ_free A _ h) (by simp) (by unfold Lib.occAt; rw [List.drop_left]; rfl)
theorem index2_none (A : List UInt8) (h : ∀ x ∈ A, x ≠ 44) : Lib.index A [44, 32] = -1 := by
  refine Lib.index_none (fun j hj => ?_)
  by_cases c : j < A.length
  · have := occ_free A [] h j c
    rwa [List.append_nil] at this
  · unfold Lib.occAt
    rw [List.drop_of_length_le (by omega)]; rfl
def sepC : ByteArray := ⟨#[44, 32]⟩
theorem sepC_L : sepC.data.toList = [44, 32] := rfl
theorem sepC_size : sepC.size = 2 := rfl
def splA (s : ByteArray) : List ByteArray := Lib.splitB sepC 0 (Lib.countB s sepC) s
theorem splA_none (s : ByteArray) (h : ∀ x ∈ L s, x ≠ 44) : splA s = [s] := by
  have hi : Lib.indexB s sepC = -1 := by unfold Lib.indexB; rw [sepC_L]; exact index2_none (L s) h
  unfold splA
  exact Lib.splitB_miss _ _ _ _ hi
theorem splA_hit (s : ByteArray) (A B : List UInt8) (h : ∀ x ∈ A, x ≠ 44) (e : L s = A ++ 44 :: 32 :: B) : splA s = mkB A :: splA (mkB B) := by
  have hi : Lib.indexB s sepC = (A.length : Nat) := by
    unfold Lib.indexB; rw [sepC_L]
    show Lib.index (L s) [44, 32] = _
    rw [e]; exact index2_hit A B h
  have hc := Lib.countB_hit s sepC A.length (by rw [sepC_size]; omega) hi
  have hx : s.extract (A.length + sepC.size) s.size = mkB B := by
    apply L_inj
    rw [L_extract, L_mk, e, sepC_size, ← List.drop_drop, List.drop_left]
    simp only [List.drop_succ_cons, List.drop_zero]
    have := congrArg List.length e
    rw [L_len] at this
    simp at this
    exact List.take_of_length_le (by omega)
  have ha : s.extract 0 (A.length + 0) = mkB A := by
    apply L_inj
    rw [L_extract, L_mk, e, List.drop_zero, Nat.add_zero, Nat.sub_zero, List.take_left]
  unfold splA
  rw [hc, Nat.add_comm 1, Lib.splitB_hit _ _ _ _ _ hi, hx, ha]
theorem splA_len (s : ByteArray) : (splA s).length = Lib.countB s sepC + 1 := Lib.splitB_all sepC (by rw [sepC_size]; omega) 0 _ s rfl
theorem splB_size (k : Nat) : ∀ s : ByteArray, ∀ p ∈ Lib.splitB sepC 0 k s, p.size ≤ s.size := by
  induction k with
  | zero => intro s p hp; rw [Lib.splitB_zero] at hp; rw [List.mem_singleton.1 hp]; exact Nat.le_refl _
  | succ k ih =>
    intro s p hp
    rcases Lib.indexB_cases s sepC with hm | ⟨i, hi, hr⟩
    · rw [Lib.splitB_miss _ _ _ _ hm] at hp
      rw [List.mem_singleton.1 hp]; exact Nat.le_refl _
    · rw [Lib.splitB_hit _ _ _ _ i hi] at hp
      rcases List.mem_cons.1 hp with rfl | hp
      · rw [ByteArray.size_extract]; omega
      · have := ih _ p hp
        rw [ByteArray.size_extract] at this; omega
theorem impl_split2 (s : ByteArray) (hs : s.size ≤ 1048576) : strings_Split.f s (⟨#[44, 32]⟩ : ByteArray) = some (splA s) := by
  have hc := Lib.countB_le sepC (by rw [sepC_size]; omega) s.size s (Nat.le_refl _)
  show strings_Split.f s sepC = _
  unfold strings_Split.f
  exact if_pos ⟨by omega, by rw [sepC_size]; omega, splA_len s, by omega⟩
-- what is read
abbrev Rd := List ByteArray × ByteArray × ByteArray × ByteArray × Bool
def none5 : Rd := (([] : List ByteArray), (⟨#[]⟩ : ByteArray), (⟨#[]⟩ : ByteArray), (⟨#[]⟩ : ByteArray), false)
def finP (s : ByteArray) (G : List ByteArray) (P F S : ByteArray) : Rd := if goodN G P F S = true then (if (invD G P F S).toList = s.toList then (G, P, F, S, true) else none5) else none5
def prt (ps : List ByteArray) (i : Nat) : ByteArray := ps.getD i ByteArray.empty
theorem rd_prt (ps : List ByteArray) (i : Nat) (h : i < ps.length) : rdOf ByteArray.empty ps (i : Int) = prt ps i := by
  rw [rd_get ps i h]; unfold prt; simp [List.getD, h]
theorem prt_mem (ps : List ByteArray) (i : Nat) (h : i < ps.length) : prt ps i ∈ ps := by
  unfold prt; rw [List.getD_eq_getElem?_getD, List.getElem?_eq_getElem h]; exact List.getElem_mem h
def famW (p : ByteArray) : ByteArray := (wordsOf p).getLastD ByteArray.empty
def parW (p : ByteArray) : ByteArray := mkB (Lib.join ((wordsOf p).dropLast.map L) [32])
theorem wordsOf_pos (p : ByteArray) : 1 ≤ (wordsOf p).length := by
  have := spl_ne 32 (L p)
  unfold wordsOf
  rw [List.length_map]
  cases h : spl 32 (L p) with
  | nil => exact absurd h this
  | cons a b => simp
theorem wordsOf_L (p : ByteArray) : (wordsOf p).map L = spl 32 (L p) := by
  unfold wordsOf
  rw [List.map_map]
  have : (L ∘ mkB) = id := by funext x; exact L_mk x
  rw [this, List.map_id]
theorem fam_rd (p : ByteArray) : rdOf ByteArray.empty (wordsOf p) (((wordsOf p).length - 1 : Nat) : Int) = famW p := by
  have h := wordsOf_pos p
  rw [rd_get _ _ (by omega)]
  have hne : wordsOf p ≠ [] := fun e => by rw [e] at h; simp at h
  unfold famW
  rw [List.getLastD_eq_getLast?, List.getLast?_eq_some_getLast hne, Option.getD_some, List.getLast_eq_getElem hne]
theorem parW_size (p : ByteArray) : (parW p).size ≤ p.size := by
  unfold parW
  rw [size_mk, List.dropLast_eq_take, List.map_take, wordsOf_L]
  have h1 := join_take 32 (spl 32 (L p)) ((wordsOf p).length - 1)
  rw [join_spl, L_len] at h1
  exact h1
theorem impl_par (p : ByteArray) (hp : p.size ≤ 1048576) : strings_Join.f ((wordsOf p).take ((wordsOf p).length - 1)) (⟨#[32]⟩ : ByteArray) = some (parW p) := by
  have h1 := wordsOf_len p
  have h2 := parW_size p
  unfold parW at h2
  rw [size_mk, List.dropLast_eq_take] at h2
  unfold strings_Join.f parW
  rw [List.dropLast_eq_take]
  exact if_pos ⟨by rw [List.length_take]; omega, Nat.le_trans h2 (by omega)⟩
theorem part_size {P : ByteArray} (h : partD P = true) : P.size ≤ 26 := by
  unfold partD at h
  rw [Bool.or_eq_true] at h
  rcases h with h | h
  · have := of_decide_eq_true h; omega
  · rw [Bool.and_eq_true] at h
    have h2 := of_decide_eq_true h.2
    have e := join_spl 32 (L P)
    rw [← wordsOf_L] at e
    have hb : ∀ x ∈ (wordsOf P).map L, x.length ≤ 12 := fun x hx => by
      obtain ⟨y, hy, rfl⟩ := List.mem_map.1 hx
      have h1 := List.all_eq_true.1 h.1 y hy
      rw [Bool.and_eq_true] at h1
      have := inD_iff.1 h1.1
      rw [L_len]; omega
    have hl : (Lib.join ((wordsOf P).map L) [32]).length ≤ 26 := by
      revert hb h2
      generalize (wordsOf P) = ws
      intro h2 hb
      match ws, h2 with
      | [], _ => simp [Lib.join_nil]
      | [a], _ => have := hb (L a) (by simp); show (Lib.join [L a] [32]).length ≤ 26; rw [Lib.join_one]; omega
      | [a, b], _ =>
        have h1 := hb (L a) (by simp)
        have h2 := hb (L b) (by simp)
        simp only [List.map_cons, List.map_nil]
        rw [join_two, Lib.join_one, List.length_append, List.length_cons]; omega
      | a :: b :: c :: r, h => simp at h
    rw [e, L_len] at hl
    exact hl
structure Gd (G : List ByteArray) (P F S : ByteArray) : Prop where
  g3 : G.length ≤ 3
  gw : ∀ x ∈ G, wordD x = true
  p : partD P = true
  f : wordD F = true
  s : S.size = 0 ∨ wordD S = true
theorem gd_of {G : List ByteArray} {P F S : ByteArray} (h : goodN G P F S = true) : Gd G P F S := by
  unfold goodN restD sufD at h
  simp only [Bool.and_eq_true, Bool.or_eq_true, decide_eq_true_eq] at h
  obtain ⟨h1, h2, h3, h4, h5⟩ := h
  refine ⟨h2, fun x hx => ?_, h3, ?_, h5⟩
  · have := List.all_eq_true.1 h1 x hx
    unfold greatD at this
    rw [Bool.and_eq_true] at this
    exact this.1
  · unfold greatD at h4
    rw [Bool.and_eq_true] at h4
    exact h4.1
theorem bytes_le {G : List ByteArray} (h : ∀ x ∈ G, x.size ≤ 12) : bytesS G ≤ 12 * G.length := by
  induction G with
  | nil => exact Nat.le_refl _
  | cons a G ih =>
    have h1 := ih (fun x hx => h x (by simp [hx]))
    have h2 := h a (by simp)
    rw [bytesS_cons, List.length_cons]; omega
theorem good_bulk {G : List ByteArray} {P F S : ByteArray} (h : goodN G P F S = true) : bulkN G P F S ≤ 92 := by
  have g := gd_of h
  have h1 := bytes_le (G := G) (fun x hx => (word_in (g.gw x hx)).2)
  have h2 := part_size g.p
  have h3 := word_in g.f
  have h4 : S.size ≤ 12 := by rcases g.s with h | h
                              · omega
                              · exact (word_in h).2
  have h5 := g.g3
  unfold bulkN bulkS; omega
section impl
variable (s : ByteArray)
theorem impl_j3 (G : List ByteArray) (P F S : ByteArray) (hG : G.length ≤ 4000000) (hP : P.size ≤ 4000000) : Ev (fun k => impl_ParseInverse.j3 k s G P F S) (finP s G P F S) := by
  refine Ev.step (f := fun k => (impl_IsValidName.f k G P F S).bind fun t549 => (if t549 = true then ((impl_inverseForm.f k G P F S).bind fun t550 => (if t550.toList = s.toList then (some (G, P, F, S, true)) else (some none5))) else (some none5))) (fun k => by simp only [impl_ParseInverse.j3]; rfl) ?_
  unfold finP
  exact Ev.bind (impl_valid G P F S (by omega) (by omega)) (ev_ite (fun hg => Ev.bind (impl_inv G P F S hg (by have := good_bulk hg; omega)) (ev_ite (fun _ => Ev.now _) (fun _ => Ev.now _))) (fun _ => Ev.now _))
theorem spec_j3 (G : List ByteArray) (P F S : ByteArray) (hG : G.length ≤ 4000000) (hP : P.size ≤ 4000000) : Ev (fun k => spec_l2Parse.j3 k s G P F S) (finP s G P F S) := by
  refine Ev.step (f := fun k => (spec_l2Good.f k G P F S).bind fun t549 => (if t549 = true then ((spec_l2Inverse.f k G P F S).bind fun t550 => (if t550.toList = s.toList then (some (G, P, F, S, true)) else (some none5))) else (some none5))) (fun k => by simp only [spec_l2Parse.j3]; rfl) ?_
  unfold finP
  exact Ev.bind (spec_name G P F S (by omega) (by omega)) (ev_ite (fun hg => Ev.bind (spec_inv G P F S (by have := good_bulk hg; omega)) (ev_ite (fun _ => Ev.now _) (fun _ => Ev.now _))) (fun _ => Ev.now _))
def implG (ps : List ByteArray) : List ByteArray := if 1 < ps.length ∧ (prt ps 1).size ≠ 0 then wordsOf (prt ps 1) else []
def implS (ps : List ByteArray) : ByteArray := if 2 < ps.length then prt ps 2 else (⟨#[]⟩ : ByteArray)
theorem impl_j2 (ps G : List ByteArray) (P F : ByteArray) (hG : G.length ≤ 4000000) (hP : P.size ≤ 4000000) : Ev (fun k => impl_ParseInverse.j2 k s ps G P F (⟨#[]⟩ : ByteArray)) (finP s G P F (implS ps)) := by
  unfold implS
  by_cases h : 2 < ps.length
  · rw [if_pos h]
    have r2 : rdOf ByteArray.empty ps 2 = prt ps 2 := rd_prt ps 2 h
    refine Ev.step (f := fun k => impl_ParseInverse.j3 k s G P F (prt ps 2)) (fun k => ?_) (impl_j3 s G P F _ hG hP)
    simp only [impl_ParseInverse.j2]
    rw [if_pos (by omega), if_pos (by omega), r2]
  · rw [if_neg h]
    refine Ev.step (f := fun k => impl_ParseInverse.j3 k s G P F (⟨#[]⟩ : ByteArray)) (fun k => ?_) (impl_j3 s G P F _ hG hP)
    simp only [impl_ParseInverse.j2]
    rw [if_neg (by omega)]
theorem impl_j1 (ps : List ByteArray) (hp : ∀ p ∈ ps, p.size ≤ 1048576) (b : Bool) (hb : b = decide (1 < ps.length ∧ (prt ps 1).size ≠ 0)) (P F : ByteArray) (hP : P.size ≤ 4000000) : Ev (fun k => impl_ParseInverse.j1 k s ps b [] P F (⟨#[]⟩ : ByteArray)) (finP s (implG ps) P F (implS ps)) := by
  unfold implG
  by_cases h : 1 < ps.length ∧ (prt ps 1).size ≠ 0
  · rw [if_pos h]
    rw [decide_eq_true h] at hb
    subst hb
    have r1 : rdOf ByteArray.empty ps 1 = prt ps 1 := rd_prt ps 1 h.1
    have hs := hp _ (prt_mem ps 1 h.1)
    have hl := wordsOf_len (prt ps 1)
    refine Ev.step (f := fun k => (strings_Split.f (prt ps 1) (⟨#[32]⟩ : ByteArray)).bind fun t545 => (impl_ParseInverse.j2 k s ps t545 P F (⟨#[]⟩ : ByteArray))) (fun k => ?_) (ev_bind0 (split_sp (prt ps 1) 32 (by omega)) (impl_j2 s ps _ P F (by show (wordsOf (prt ps 1)).length ≤ _; omega) hP))
    simp only [impl_ParseInverse.j1]
    rw [if_pos trivial, if_pos (by omega), r1]
  · rw [if_neg h]
    rw [decide_eq_false h] at hb
    subst hb
    refine Ev.step (f := fun k => impl_ParseInverse.j2 k s ps [] P F (⟨#[]⟩ : ByteArray)) (fun k => ?_) (impl_j2 s ps [] P F (by simp) hP)
    simp only [impl_ParseInverse.j1]
    rw [if_neg (by simp)]
def implR : Rd := if 3 < (splA s).length ∨ 200 < s.size then none5 else finP s (implG (splA s)) (parW (prt (splA s) 0)) (famW (prt (splA s) 0)) (implS (splA s))
theorem impl_parse (hs : s.size ≤ 1048576) : Ev (fun k => impl_ParseInverse.f k s) (implR s) := by
  have hc := Lib.countB_le sepC (by rw [sepC_size]; omega) s.size s (Nat.le_refl _)
  have hl := splA_len s
  have hp : ∀ p ∈ splA s, p.size ≤ 1048576 := fun p hp => Nat.le_trans (splB_size _ s p hp) hs
  have jt : Ev (fun k => impl_ParseInverse.j0 k s (splA s) true) none5 := Ev.step (f := fun _ => some none5) (fun k => by simp only [impl_ParseInverse.j0]; rw [if_pos trivial]; rfl) (Ev.now _)
  have h0 : 0 < (splA s).length := by omega
  have s0 := hp _ (prt_mem _ 0 h0)
  have jf : Ev (fun k => impl_ParseInverse.j0 k s (splA s) false) (finP s (implG (splA s)) (parW (prt (splA s) 0)) (famW (prt (splA s) 0)) (implS (splA s))) := by
    have r0 : rdOf ByteArray.empty (splA s) 0 = prt (splA s) 0 := rd_prt _ 0 h0
    have wl := wordsOf_len (prt (splA s) 0)
    have wp := wordsOf_pos (prt (splA s) 0)
    have hw : wrap64 (((wordsOf (prt (splA s) 0)).length : Int) - 1) = (((wordsOf (prt (splA s) 0)).length - 1 : Nat) : Int) := by rw [w64 (by omega) (by omega)]; omega
    have hP := parW_size (prt (splA s) 0)
    refine Ev.step (f := fun k => (strings_Split.f (prt (splA s) 0) (⟨#[32]⟩ : ByteArray)).bind fun t534 => (if 0 ≤ (wrap64 ((t534.length : Int) - 1)) then (if (wrap64 ((t534.length : Int) - 1)) < (t534.length : Int) then (if (wrap64 ((t534.length : Int) - 1)) ≤ (t534.length : Int) then ((strings_Join.f (t534.take ((wrap64 ((t534.length : Int) - 1)) : Int).toNat) (⟨#[32]⟩ : ByteArray)).bind fun t542 => (if ((splA s).length : Int) > 1 then (if 1 < ((splA s).length : Int) then (impl_ParseInverse.j1 k s (splA s) ((rdOf ByteArray.empty (splA s) 1).toList != ([] : List UInt8)) [] t542 (rdOf ByteArray.empty t534 (wrap64 ((t534.length : Int) - 1))) (⟨#[]⟩ : ByteArray)) else (none)) else (impl_ParseInverse.j1 k s (splA s) false [] t542 (rdOf ByteArray.empty t534 (wrap64 ((t534.length : Int) - 1))) (⟨#[]⟩ : ByteArray)))) else (none)) else (none)) else (none))) (fun k => ?_) (ev_bind0 (show strings_Split.f (prt (splA s) 0) (⟨#[32]⟩ : ByteArray) = some (wordsOf (prt (splA s) 0)) from split_sp (prt (splA s) 0) 32 (by omega)) ?_)
    · simp only [impl_ParseInverse.j0]
      rw [if_neg (by simp)]
      simp only [Option.bind_some]
      rw [if_pos (by omega), r0]
    · rw [hw]
      refine ev_pos (by omega) (ev_pos (by omega) (ev_pos (by omega) ?_))
      rw [Int.toNat_natCast]
      refine ev_bind0 (impl_par _ s0) ?_
      rw [fam_rd]
      by_cases c : 1 < (splA s).length
      · have r1 : rdOf ByteArray.empty (splA s) 1 = prt (splA s) 1 := rd_prt _ 1 c
        rw [r1]
        refine ev_pos (by omega) (ev_pos (by omega) (impl_j1 s _ hp _ ?_ _ _ (by omega)))
        by_cases e : (prt (splA s) 1).size = 0
        · rw [(nil_iff _).2 e, decide_eq_false (fun x => x.2 e)]; rfl
        · rw [decide_eq_true ⟨c, e⟩]; exact bne_iff_ne.2 (fun x => e ((nil_iff _).1 x))
      · exact ev_neg (by omega) (impl_j1 s _ hp _ (by rw [decide_eq_false (fun x => c x.1)]) _ _ (by omega))
  unfold impl_ParseInverse.f implR
  refine ev_bind0 (impl_split2 s hs) ?_
  by_cases c1 : 3 < (splA s).length
  · exact ev_pos (by omega) (ev_eq jt (if_pos (Or.inl c1)).symm)
  · refine ev_neg (by omega) ?_
    by_cases c2 : 200 < s.size
    · rw [decide_eq_true (show (s.size : Int) > 200 by omega)]
      exact ev_eq jt (if_pos (Or.inr c2)).symm
    · rw [decide_eq_false (show ¬ (s.size : Int) > 200 by omega)]
      exact ev_eq jf (if_neg (fun x => x.elim c1 c2)).symm
end impl
theorem spl_bytes (b : UInt8) (l : List UInt8) : ((spl b l).map List.length).sum ≤ l.length := by
  induction l with
  | nil => simp [spl_nil]
  | cons c l ih =>
    rw [spl_cons]
    by_cases h : c = b
    · rw [if_pos h]; simp; omega
    · rw [if_neg h]
      cases hs : spl b l with
      | nil => exact absurd hs (spl_ne b l)
      | cons q r => rw [hs] at ih; simp [ahd] at ih ⊢; omega
theorem words_sum (p : ByteArray) : sumB (wordsOf p) ≤ 2 * p.size + 2 := by
  have h1 := spl_bytes 32 (L p)
  have h2 := wordsOf_len p
  rw [sumB_bulk]
  unfold bulkS bytesS
  have e : ((wordsOf p).map fun x => x.size) = (spl 32 (L p)).map List.length := by
    unfold wordsOf
    rw [List.map_map]
    exact List.map_congr_left (fun x _ => size_mk x)
  have e2 : ((wordsOf p).map (·.size)).sum = ((spl 32 (L p)).map List.length).sum := by rw [e]
  rw [e2]
  rw [L_len] at h1
  omega
theorem sumB_take (l : List ByteArray) : ∀ n, sumB (l.take n) ≤ sumB l := by
  induction l with
  | nil => intro n; simp
  | cons a l ih =>
    intro n
    cases n with
    | zero => simp [sumB]
    | succ n => have := ih n; rw [List.take_succ_cons, sumB_cons, sumB_cons]; omega
section spec
variable (s : ByteArray)
def cmS (s : ByteArray) : List ByteArray := (spl 44 (L s)).map mkB
def tl1 (p : ByteArray) : ByteArray := p.extract 1 p.size
def okB (ps : List ByteArray) (i : Nat) : Bool := decide ((prt ps i).size ≠ 0) && decide (bt (prt ps i) 0 = 32)
def badS (ps : List ByteArray) : Bool := decide (3 < ps.length) || ((decide (1 < ps.length) && !okB ps 1) || (decide (2 < ps.length) && !okB ps 2))
def specG (ps : List ByteArray) : List ByteArray := if 1 < ps.length ∧ 1 < (prt ps 1).size then wordsOf (tl1 (prt ps 1)) else []
def specS (ps : List ByteArray) : ByteArray := if 2 < ps.length then tl1 (prt ps 2) else (⟨#[]⟩ : ByteArray)
theorem spec_j2 (ps G : List ByteArray) (h2 : 2 < ps.length → 1 ≤ (prt ps 2).size) (P F : ByteArray) (hG : G.length ≤ 4000000) (hP : P.size ≤ 4000000) : Ev (fun k => spec_l2Parse.j2 k s ps G P F (⟨#[]⟩ : ByteArray)) (finP s G P F (specS ps)) := by
  unfold specS
  by_cases h : 2 < ps.length
  · rw [if_pos h]
    have r2 : rdOf ByteArray.empty ps 2 = prt ps 2 := rd_prt ps 2 h
    have h3 := h2 h
    refine Ev.step (f := fun k => spec_l2Parse.j3 k s G P F (tl1 (prt ps 2))) (fun k => ?_) (spec_j3 s G P F _ hG hP)
    simp only [spec_l2Parse.j2]
    rw [if_pos (by omega), if_pos (by omega), r2, if_pos (by omega)]; rfl
  · rw [if_neg h]
    refine Ev.step (f := fun k => spec_l2Parse.j3 k s G P F (⟨#[]⟩ : ByteArray)) (fun k => ?_) (spec_j3 s G P F _ hG hP)
    simp only [spec_l2Parse.j2]
    rw [if_neg (by omega)]
theorem spec_j1 (ps : List ByteArray) (hp : ∀ p ∈ ps, p.size ≤ 1048576) (h2 : 2 < ps.length → 1 ≤ (prt ps 2).size) (b : Bool) (hb : b = decide (1 < ps.length ∧ 1 < (prt ps 1).size)) (P F : ByteArray) (hP : P.size ≤ 4000000) : Ev (fun k => spec_l2Parse.j1 k s ps b P F (⟨#[]⟩ : ByteArray)) (finP s (specG ps) P F (specS ps)) := by
  unfold specG
  by_cases h : 1 < ps.length ∧ 1 < (prt ps 1).size
  · rw [if_pos h]
    rw [decide_eq_true h] at hb
    subst hb
    have r1 : rdOf ByteArray.empty ps 1 = prt ps 1 := rd_prt ps 1 h.1
    have hs := hp _ (prt_mem ps 1 h.1)
    have ht : (tl1 (prt ps 1)).size ≤ 1048576 := by unfold tl1; rw [ByteArray.size_extract]; omega
    have hl := wordsOf_len (tl1 (prt ps 1))
    have a1 : (1 : Int) ≤ ((prt ps 1).size : Int) := by omega
    refine Ev.step (f := fun k => (spec_l1Split.f k (tl1 (prt ps 1)) 32).bind fun t511 => (spec_l2Parse.j2 k s ps t511 P F (⟨#[]⟩ : ByteArray))) (fun k => ?_) (Ev.bind (split_ev (tl1 (prt ps 1)) 32 (by omega)) (spec_j2 s ps _ h2 P F (by show (wordsOf (tl1 (prt ps 1))).length ≤ _; omega) hP))
    simp only [spec_l2Parse.j1]
    rw [if_pos trivial, if_pos (by omega), r1, if_pos a1]; rfl
  · rw [if_neg h]
    rw [decide_eq_false h] at hb
    subst hb
    refine Ev.step (f := fun k => spec_l2Parse.j2 k s ps [] P F (⟨#[]⟩ : ByteArray)) (fun k => ?_) (spec_j2 s ps [] h2 P F (by simp) hP)
    simp only [spec_l2Parse.j1]
    rw [if_neg (by simp)]
theorem spec_j0 (ps : List ByteArray) (hp : ∀ p ∈ ps, p.size ≤ 1048576) (b : Bool) (hb : b = badS ps) (P F : ByteArray) (hP : P.size ≤ 4000000) : Ev (fun k => spec_l2Parse.j0 k s ps b P F (⟨#[]⟩ : ByteArray)) (if badS ps = true then none5 else finP s (specG ps) P F (specS ps)) := by
  subst hb
  cases h : badS ps with
  | true =>
    rw [if_pos rfl]
    refine Ev.step (f := fun _ => some none5) (fun k => ?_) (Ev.now _)
    simp only [spec_l2Parse.j0]
    rw [if_pos trivial]; rfl
  | false =>
    rw [if_neg (by simp)]
    have h2 : 2 < ps.length → 1 ≤ (prt ps 2).size := fun c => by
      unfold badS okB at h
      rw [decide_eq_true c] at h
      simp only [Bool.or_eq_false_iff, Bool.true_and, Bool.not_eq_false', Bool.and_eq_true, decide_eq_true_eq] at h
      have := h.2.2.1
      omega
    by_cases c : 1 < ps.length
    · have r1 : rdOf ByteArray.empty ps 1 = prt ps 1 := rd_prt ps 1 c
      refine Ev.step (f := fun k => spec_l2Parse.j1 k s ps (decide (((prt ps 1).size : Int) > 1)) P F (⟨#[]⟩ : ByteArray)) (fun k => ?_) (spec_j1 s ps hp h2 _ ?_ P F hP)
      · simp only [spec_l2Parse.j0]
        rw [if_neg (by simp), if_pos (by omega), if_pos (by omega), r1]
      · rw [decide_eq_decide]; omega
    · refine Ev.step (f := fun k => spec_l2Parse.j1 k s ps false P F (⟨#[]⟩ : ByteArray)) (fun k => ?_) (spec_j1 s ps hp h2 _ (by rw [decide_eq_false (fun x => c x.1)]) P F hP)
      simp only [spec_l2Parse.j0]
      rw [if_neg (by simp), if_neg (by omega)]
def specR : Rd := if badS (cmS s) = true then none5 else finP s (specG (cmS s)) (joinD (wordsOf (prt (cmS s) 0)).dropLast) (famW (prt (cmS s) 0)) (specS (cmS s))
theorem spec_parse (hs : s.size ≤ 1048576) : Ev (fun k => spec_ParseInverse.f k s) (specR s) := by
  have hlen := spl_length 44 (L s)
  rw [L_len] at hlen
  have hl : (cmS s).length ≤ s.size + 1 := by unfold cmS; rw [List.length_map]; exact hlen
  have h0 : 0 < (cmS s).length := by
    unfold cmS; rw [List.length_map]
    cases h : spl 44 (L s) with
    | nil => exact absurd h (spl_ne 44 _)
    | cons a b => simp
  have hp : ∀ p ∈ cmS s, p.size ≤ 1048576 := fun p hp => by
    obtain ⟨q, hq, rfl⟩ := List.mem_map.1 hp
    have := spl_len 44 (L s) q hq
    rw [L_len] at this
    rw [size_mk]; omega
  have s0 := hp _ (prt_mem _ 0 h0)
  have r0 : rdOf ByteArray.empty (cmS s) 0 = prt (cmS s) 0 := rd_prt _ 0 h0
  have wl := wordsOf_len (prt (cmS s) 0)
  have wp := wordsOf_pos (prt (cmS s) 0)
  have hw : wrap64 (((wordsOf (prt (cmS s) 0)).length : Int) - 1) = (((wordsOf (prt (cmS s) 0)).length - 1 : Nat) : Int) := by rw [w64 (by omega) (by omega)]; omega
  have hsum : sumB (wordsOf (prt (cmS s) 0)).dropLast ≤ 2 * (prt (cmS s) 0).size + 2 := by
    have h1 := sumB_take (wordsOf (prt (cmS s) 0)) ((wordsOf (prt (cmS s) 0)).length - 1)
    have h2 := words_sum (prt (cmS s) 0)
    rw [List.dropLast_eq_take]; omega
  have hP := joinD_size (wordsOf (prt (cmS s) 0)).dropLast
  have hj := fun b hb => spec_j0 s (cmS s) hp b hb (joinD (wordsOf (prt (cmS s) 0)).dropLast) (famW (prt (cmS s) 0)) (by omega)
  unfold spec_ParseInverse.f
  refine Ev.bind (a := specR s) ?_ (Ev.now _)
  unfold spec_l2Parse.f specR
  refine Ev.bind (show Ev (fun k => spec_l1Split.f k s 44) (cmS s) from split_ev s 44 (by omega)) ?_
  refine ev_pos (by omega) ?_
  rw [r0]
  refine Ev.bind (show Ev (fun k => spec_l1Split.f k (prt (cmS s) 0) 32) (wordsOf (prt (cmS s) 0)) from split_ev (prt (cmS s) 0) 32 (by omega)) ?_
  rw [hw]
  refine ev_pos (by omega) (ev_pos (by omega) (ev_pos (by omega) ?_))
  rw [Int.toNat_natCast, ← List.dropLast_eq_take]
  refine Ev.bind (spec_join _ (by rw [List.length_dropLast]; omega) (by omega)) ?_
  rw [fam_rd]
  by_cases c3 : 3 < (cmS s).length
  · exact ev_pos (by omega) (hj true (by simp [badS, c3]))
  · refine ev_neg (by omega) ?_
    by_cases c1 : 1 < (cmS s).length
    · have r1 : rdOf ByteArray.empty (cmS s) 1 = prt (cmS s) 1 := rd_prt _ 1 c1
      refine ev_pos (by omega) (ev_pos (by omega) ?_)
      rw [r1]
      by_cases e1 : (prt (cmS s) 1).size = 0
      · exact ev_pos ((nil_iff _).2 e1) (hj true (by simp [badS, okB, c1, e1]))
      · refine ev_neg (fun x => e1 ((nil_iff _).1 x)) (ev_pos (by omega) ?_)
        by_cases b1 : bt (prt (cmS s) 1) 0 = 32
        · refine ev_pos b1 ?_
          by_cases c2 : 2 < (cmS s).length
          · have r2 : rdOf ByteArray.empty (cmS s) 2 = prt (cmS s) 2 := rd_prt _ 2 c2
            refine ev_pos (by omega) (ev_pos (by omega) ?_)
            rw [r2]
            by_cases e2 : (prt (cmS s) 2).size = 0
            · exact ev_pos ((nil_iff _).2 e2) (hj true (by simp [badS, okB, c2, e2]))
            · refine ev_neg (fun x => e2 ((nil_iff _).1 x)) (ev_pos (by omega) (hj _ ?_))
              by_cases b2 : bt (prt (cmS s) 2) 0 = 32
              · rw [b2]; simp [badS, okB, c3, c1, e1, b1, c2, e2, b2]
              · rw [show (bt (prt (cmS s) 2) 0 != 32) = true from bne_iff_ne.2 b2]; simp [badS, okB, c2, b2]
          · exact ev_neg (by omega) (hj false (by simp [badS, okB, c3, c1, e1, b1, c2]))
        · exact ev_neg b1 (hj true (by simp [badS, okB, c1, b1]))
    · have c2 : ¬ 2 < (cmS s).length := by omega
      exact ev_neg (by omega) (ev_neg (by omega) (hj false (by simp [badS, c3, c1, c2])))
end spec
theorem le_rng2 {c : Int} (h : leD c = true) : 65 ≤ c ∧ c ≤ 122 := by
  unfold leD upD loD at h
  simp only [Bool.or_eq_true, Bool.and_eq_true, decide_eq_true_eq] at h
  omega
theorem wl_at2 (s : ByteArray) (d : Nat) : ∀ i j : Nat, wlD s d i = true → i ≤ j → j < i + d → okD s j = true := by
  induction d with
  | zero => intro i j h h1 h2; omega
  | succ d ih =>
    intro i j h h1 h2
    unfold wlD at h
    rw [Bool.and_eq_true] at h
    by_cases e : j = i
    · rw [e]; exact h.1
    · exact ih (i + 1) j h.2 (by omega) (by omega)
theorem word_bytes {w : ByteArray} (h : wordD w = true) : ∀ x ∈ L w, x ≠ 44 ∧ x ≠ 32 := by
  intro x hx
  obtain ⟨j, hj, rfl⟩ := List.getElem_of_mem hx
  have hj' : j < w.size := by rw [← L_len]; exact hj
  have hb := bt_get w j hj'
  have key : 65 ≤ bt w (j : Int) ∨ bt w (j : Int) = 45 ∨ bt w (j : Int) = 39 := by
    unfold wordD at h
    simp only [Bool.and_eq_true] at h
    obtain ⟨_, ⟨h1, _⟩, h3⟩ := h
    by_cases c : j = 0
    · subst c; exact Or.inl (le_rng2 h1).1
    · have := wl_at2 w _ 1 j h3 (by omega) (by omega)
      unfold okD at this
      simp only [Bool.or_eq_true, Bool.and_eq_true, decide_eq_true_eq] at this
      rcases this with h | ⟨h, _⟩
      · exact Or.inl (le_rng2 h).1
      · exact Or.inr h
  have e44 : (44 : UInt8).toNat = 44 := rfl
  have e32 : (32 : UInt8).toNat = 32 := rfl
  constructor
  · intro e
    have := congrArg UInt8.toNat e
    omega
  · intro e
    have := congrArg UInt8.toNat e
    omega
theorem spl_mem2 (b : UInt8) (q : UInt8 → Prop) (l : List UInt8) : (∀ p ∈ spl b l, ∀ x ∈ p, q x) → ∀ x ∈ l, q x ∨ x = b := by
  induction l with
  | nil => intro _ x hx; cases hx
  | cons c cs ih =>
    intro h x hx
    rw [spl_cons] at h
    by_cases e : c = b
    · rw [if_pos e] at h
      rcases List.mem_cons.1 hx with rfl | hx
      · exact Or.inr e
      · exact ih (fun p hp => h p (List.mem_cons_of_mem _ hp)) x hx
    · rw [if_neg e] at h
      cases hs : spl b cs with
      | nil => exact absurd hs (spl_ne b cs)
      | cons p ps =>
        rw [hs] at h ih
        have h1 := h ([c] ++ p) (List.mem_cons_self)
        rcases List.mem_cons.1 hx with rfl | hx
        · exact Or.inl (h1 _ (by simp))
        · refine ih (fun r hr => ?_) x hx
          rcases List.mem_cons.1 hr with rfl | hr
          · exact fun z hz => h1 z (by simp [hz])
          · exact h r (List.mem_cons_of_mem _ hr)
theorem part_words {P : ByteArray} (h : partD P = true) (h0 : P.size ≠ 0) : (∀ w ∈ wordsOf P, 1 ≤ w.size) ∧ ∀ x ∈ L P, x ≠ 44 := by
  unfold partD at h
  rw [Bool.or_eq_true, decide_eq_true_eq] at h
  rcases h with h | h
  · exact absurd h h0
  · rw [Bool.and_eq_true] at h
    refine ⟨fun w hw => ?_, fun x hx => ?_⟩
    · have h1 := List.all_eq_true.1 h.1 w hw
      rw [Bool.and_eq_true] at h1
      exact (inD_iff.1 h1.1).1
    · have hall := spl_mem2 32 (fun x => loD (x.toNat : Int) = true) (L P) (fun p hp x hx => by
        have h1 := List.all_eq_true.1 h.1 (mkB p) (List.mem_map.2 ⟨p, hp, rfl⟩)
        rw [Bool.and_eq_true] at h1
        exact List.all_eq_true.1 h1.2 x (by rw [List.drop_zero, L_mk]; exact hx)) x hx
      rcases hall with h2 | h2
      · intro e; subst e; revert h2; decide
      · subst h2; decide
theorem joinD_L (l : List ByteArray) (h : ∀ x ∈ l, 1 ≤ x.size) : L (joinD l) = Lib.join (l.map L) [32] := by
  have := join_filter l
  rw [filter_all h] at this
  exact this.symm
theorem L_two (P F : ByteArray) (hF : 1 ≤ F.size) : L (joinD [P, F]) = if P.size = 0 then L F else L P ++ 32 :: L F := by
  have e : joinD [P, F] = glu (glu ByteArray.empty P) F := rfl
  have e0 : glu ByteArray.empty P = P := L_inj (by rw [L_glu, if_neg (fun x => x.1 rfl)]; rfl)
  rw [e, e0, L_glu]
  by_cases h : P.size = 0
  · rw [if_neg (fun x => x.1 h), if_pos h, L_nil h]; rfl
  · rw [if_pos ⟨h, by omega⟩, if_neg h]
section full
variable {G : List ByteArray} {P F S : ByteArray} (g : Gd G P F S)
include g
theorem A_free : ∀ x ∈ L (joinD [P, F]), x ≠ 44 := by
  have hF := word_in g.f
  intro x hx
  rw [L_two P F hF.1] at hx
  by_cases h : P.size = 0
  · rw [if_pos h] at hx; exact (word_bytes g.f x hx).1
  · rw [if_neg h] at hx
    rcases List.mem_append.1 hx with hx | hx
    · exact (part_words g.p h).2 x hx
    · rcases List.mem_cons.1 hx with rfl | hx
      · decide
      · exact (word_bytes g.f x hx).1
theorem A_words : wordsOf (joinD [P, F]) = (if P.size = 0 then [] else wordsOf P) ++ [F] := by
  have hF := word_in g.f
  have hf := spl_free 32 (L F) (fun x hx => (word_bytes g.f x hx).2)
  unfold wordsOf
  rw [L_two P F hF.1]
  by_cases h : P.size = 0
  · rw [if_pos h, if_pos h, hf]; simp [mk_L]
  · rw [if_neg h, if_neg h, spl_app, hf, List.map_append]; simp [mk_L]
theorem A_fam : famW (joinD [P, F]) = F := by
  unfold famW; rw [A_words g]; simp
theorem A_par : parW (joinD [P, F]) = P := by
  unfold parW
  rw [A_words g, List.dropLast_concat]
  by_cases h : P.size = 0
  · rw [if_pos h]
    apply L_inj
    rw [L_mk, L_nil h]; rfl
  · rw [if_neg h, wordsOf_L, join_spl, mk_L]
theorem A_join : joinD (wordsOf (joinD [P, F])).dropLast = P := by
  rw [A_words g, List.dropLast_concat]
  by_cases h : P.size = 0
  · rw [if_pos h]
    apply L_inj
    rw [L_nil h]; rfl
  · rw [if_neg h]
    apply L_inj
    rw [joinD_L _ (part_words g.p h).1, wordsOf_L, join_spl]
theorem G_pos : ∀ x ∈ G, 1 ≤ x.size := fun x hx => (word_in (g.gw x hx)).1
theorem B_L : L (joinD G) = Lib.join (G.map L) [32] := joinD_L G (G_pos g)
theorem B_free : ∀ x ∈ L (joinD G), x ≠ 44 := by
  rw [B_L g]
  have hw := g.gw
  clear g
  revert hw
  induction G with
  | nil => intro _ x hx; simp [Lib.join_nil] at hx
  | cons a G ih =>
    intro hw x hx
    cases G with
    | nil => rw [List.map_cons, List.map_nil, Lib.join_one] at hx; exact (word_bytes (hw a (by simp)) x hx).1
    | cons b G =>
      rw [List.map_cons, List.map_cons, join_two] at hx
      rcases List.mem_append.1 hx with hx | hx
      · exact (word_bytes (hw a (by simp)) x hx).1
      · rcases List.mem_cons.1 hx with rfl | hx
        · decide
        · exact ih (fun y hy => hw y (by simp [hy])) x (by rw [List.map_cons]; exact hx)
theorem B_words (h : G ≠ []) : wordsOf (joinD G) = G := by
  unfold wordsOf
  rw [B_L g]
  cases G with
  | nil => exact absurd rfl h
  | cons a G =>
    rw [List.map_cons, spl_join 32 (G.map L) (L a) (fun y hy => (word_bytes (g.gw a (by simp)) y hy).2) (fun l hl y hy => by
      obtain ⟨w, hw, rfl⟩ := List.mem_map.1 hl
      exact (word_bytes (g.gw w (by simp [hw])) y hy).2), ← List.map_cons, List.map_map]
    have : (mkB ∘ L) = id := by funext x; exact mk_L x
    rw [this, List.map_id]
theorem B_nil : (joinD G).size = 0 ↔ G = [] := by
  constructor
  · intro h
    cases G with
    | nil => rfl
    | cons a G =>
      have h1 := B_L g
      rw [L_nil h, List.map_cons, Lib.join_cons] at h1
      have h2 := congrArg List.length h1
      rw [List.length_append, L_len] at h2
      have := G_pos g a (by simp)
      simp at h2; omega
  · intro h; subst h; rfl
omit g in
theorem inv_L : L (invD G P F S) = if G = [] ∧ S.size = 0 then L (joinD [P, F]) else if S.size = 0 then L (joinD [P, F]) ++ 44 :: 32 :: L (joinD G) else L (joinD [P, F]) ++ 44 :: 32 :: (L (joinD G) ++ 44 :: 32 :: L S) := by
  unfold invD tailI
  have hg : G.length > 0 ↔ G ≠ [] := List.length_pos_iff
  by_cases c : G = [] ∧ S.size = 0
  · rw [if_pos c, if_neg (fun x => x.elim (fun y => hg.1 y c.1) (fun y => y c.2))]
  · have hc : G.length > 0 ∨ S.size ≠ 0 := by
      by_cases h : G = []
      · exact Or.inr (fun e => c ⟨h, e⟩)
      · exact Or.inl (hg.2 h)
    rw [if_neg c, if_pos hc]
    by_cases h : S.size = 0
    · rw [if_pos h, if_pos h]; simp only [L_append, List.append_assoc]; rfl
    · rw [if_neg h, if_neg h]; simp only [L_append, List.append_assoc]; rfl
theorem S_free : ∀ x ∈ L S, x ≠ 44 := by
  intro x hx
  rcases g.s with h | h
  · rw [L_nil h] at hx; cases hx
  · exact (word_bytes h x hx).1
theorem inv_size : (invD G P F S).size ≤ 200 := by
  have h1 := joinD_size [P, F]
  have h2 : sumB [P, F] = P.size + 1 + (F.size + 1 + 0) := rfl
  have h3 := joinD_size G
  have h4 := sumB_bulk G
  have h5 := bytes_le (G := G) (fun x hx => (word_in (g.gw x hx)).2)
  have h6 := part_size g.p
  have h7 := word_in g.f
  have h8 : S.size ≤ 12 := by rcases g.s with h | h
                              · omega
                              · exact (word_in h).2
  have h9 := g.g3
  unfold bulkS at h4
  have hl := congrArg List.length (inv_L (G := G) (P := P) (F := F) (S := S))
  rw [L_len] at hl
  rw [hl]
  split
  · rw [L_len]; omega
  · split
    · simp only [List.length_append, List.length_cons, L_len]; omega
    · simp only [List.length_append, List.length_cons, L_len]; omega
omit g in
theorem fin_yes (hg : goodN G P F S = true) : finP (invD G P F S) G P F S = (G, P, F, S, true) := by
  unfold finP; rw [if_pos hg, if_pos rfl]
theorem impl_yesP (hg : goodN G P F S = true) : implR (invD G P F S) = (G, P, F, S, true) := by
  have hz := inv_size g
  have hA := A_free g
  have hB := B_free g
  have hL := inv_L (G := G) (P := P) (F := F) (S := S)
  unfold implR
  by_cases c : G = [] ∧ S.size = 0
  · rw [if_pos c] at hL
    have e : invD G P F S = joinD [P, F] := L_inj hL
    have hs : splA (invD G P F S) = [joinD [P, F]] := by rw [e]; exact splA_none _ hA
    rw [hs, if_neg (fun x => x.elim (by simp) (by omega))]
    have e1 : implG [joinD [P, F]] = G := by rw [c.1]; exact if_neg (by simp)
    have e2 : implS [joinD [P, F]] = S := by unfold implS; rw [if_neg (by simp)]; apply L_inj; rw [L_nil c.2]
    rw [e1, e2, show prt [joinD [P, F]] 0 = joinD [P, F] from rfl, A_par g, A_fam g]
    exact fin_yes hg
  · rw [if_neg c] at hL
    by_cases h : S.size = 0
    · rw [if_pos h] at hL
      have hG : G ≠ [] := fun e => c ⟨e, h⟩
      have hs : splA (invD G P F S) = [joinD [P, F], joinD G] := by
        rw [splA_hit _ _ _ hA hL, mk_L, mk_L, splA_none _ hB]
      rw [hs, if_neg (fun x => x.elim (by simp) (by omega))]
      have e1 : implG [joinD [P, F], joinD G] = G := by
        unfold implG
        rw [if_pos ⟨by simp, fun e => hG ((B_nil g).1 e)⟩]
        exact B_words g hG
      have e2 : implS [joinD [P, F], joinD G] = S := by unfold implS; rw [if_neg (by simp)]; apply L_inj; rw [L_nil h]
      rw [e1, e2, show prt [joinD [P, F], joinD G] 0 = joinD [P, F] from rfl, A_par g, A_fam g]
      exact fin_yes hg
    · rw [if_neg h] at hL
      have hs : splA (invD G P F S) = [joinD [P, F], joinD G, S] := by
        rw [splA_hit _ _ _ hA hL, mk_L, splA_hit _ _ _ hB (L_mk _), mk_L, mk_L, splA_none _ (S_free g)]
      rw [hs, if_neg (fun x => x.elim (by simp) (by omega))]
      have e1 : implG [joinD [P, F], joinD G, S] = G := by
        unfold implG
        by_cases e : G = []
        · rw [if_neg (fun x => x.2 ((B_nil g).2 e)), e]
        · rw [if_pos ⟨by simp, fun x => e ((B_nil g).1 x)⟩]; exact B_words g e
      have e2 : implS [joinD [P, F], joinD G, S] = S := by unfold implS; rw [if_pos (by simp)]; rfl
      rw [e1, e2, show prt [joinD [P, F], joinD G, S] 0 = joinD [P, F] from rfl, A_par g, A_fam g]
      exact fin_yes hg
omit g in
theorem tl1_sp (l : List UInt8) : tl1 (mkB (32 :: l)) = mkB l := by
  unfold tl1
  apply L_inj
  rw [L_extract, L_mk, L_mk, size_mk]
  simp
omit g in
theorem bt_sp (l : List UInt8) : bt (mkB (32 :: l)) 0 = 32 := by
  have := bt_getD (mkB (32 :: l)) 0 (by rw [size_mk]; simp)
  rw [show ((0 : Nat) : Int) = 0 from rfl] at this
  rw [this, L_mk]; rfl
theorem spec_yesP (hg : goodN G P F S = true) : specR (invD G P F S) = (G, P, F, S, true) := by
  have hA := A_free g
  have hB := B_free g
  have hL := inv_L (G := G) (P := P) (F := F) (S := S)
  unfold specR
  by_cases c : G = [] ∧ S.size = 0
  · rw [if_pos c] at hL
    have e : invD G P F S = joinD [P, F] := L_inj hL
    have hs : cmS (invD G P F S) = [joinD [P, F]] := by
      unfold cmS; rw [hL, spl_free 44 _ hA]; simp [mk_L]
    rw [hs, if_neg (by simp [badS])]
    have e1 : specG [joinD [P, F]] = G := by rw [c.1]; exact if_neg (by simp)
    have e2 : specS [joinD [P, F]] = S := by unfold specS; rw [if_neg (by simp)]; apply L_inj; rw [L_nil c.2]
    rw [e1, e2, show prt [joinD [P, F]] 0 = joinD [P, F] from rfl, A_join g, A_fam g]
    exact fin_yes hg
  · rw [if_neg c] at hL
    have hB' : ∀ x ∈ 32 :: L (joinD G), x ≠ 44 := fun x hx => by
      rcases List.mem_cons.1 hx with rfl | hx
      · decide
      · exact hB x hx
    by_cases h : S.size = 0
    · rw [if_pos h] at hL
      have hG : G ≠ [] := fun e => c ⟨e, h⟩
      have hs : cmS (invD G P F S) = [joinD [P, F], mkB (32 :: L (joinD G))] := by
        unfold cmS; rw [hL, spl_app, spl_free 44 _ hA, spl_free 44 _ hB']; simp [mk_L]
      have hn : (joinD G).size ≠ 0 := fun e => hG ((B_nil g).1 e)
      have hz : (mkB (32 :: L (joinD G))).size = 1 + (joinD G).size := by rw [size_mk, List.length_cons, L_len]; omega
      have p1 : prt [joinD [P, F], mkB (32 :: L (joinD G))] 1 = mkB (32 :: L (joinD G)) := rfl
      have hb : badS [joinD [P, F], mkB (32 :: L (joinD G))] = false := by
        unfold badS okB
        rw [p1, bt_sp, hz]
        simp
      rw [hs, hb, if_neg (by simp)]
      have e1 : specG [joinD [P, F], mkB (32 :: L (joinD G))] = G := by
        unfold specG
        rw [p1, hz, if_pos ⟨by simp, by omega⟩, tl1_sp, mk_L]
        exact B_words g hG
      have e2 : specS [joinD [P, F], mkB (32 :: L (joinD G))] = S := by unfold specS; rw [if_neg (by simp)]; apply L_inj; rw [L_nil h]
      rw [e1, e2, show prt [joinD [P, F], mkB (32 :: L (joinD G))] 0 = joinD [P, F] from rfl, A_join g, A_fam g]
      exact fin_yes hg
    · rw [if_neg h] at hL
      have hS' : ∀ x ∈ 32 :: L S, x ≠ 44 := fun x hx => by
        rcases List.mem_cons.1 hx with rfl | hx
        · decide
        · exact S_free g x hx
      have hs : cmS (invD G P F S) = [joinD [P, F], mkB (32 :: L (joinD G)), mkB (32 :: L S)] := by
        unfold cmS
        rw [hL, spl_app, spl_free 44 _ hA, show 32 :: (L (joinD G) ++ 44 :: 32 :: L S) = (32 :: L (joinD G)) ++ 44 :: (32 :: L S) from rfl, spl_app, spl_free 44 _ hB', spl_free 44 _ hS']; simp [mk_L]
      have hz : (mkB (32 :: L (joinD G))).size = 1 + (joinD G).size := by rw [size_mk, List.length_cons, L_len]; omega
      have hz2 : (mkB (32 :: L S)).size = 1 + S.size := by rw [size_mk, List.length_cons, L_len]; omega
      have p1 : prt [joinD [P, F], mkB (32 :: L (joinD G)), mkB (32 :: L S)] 1 = mkB (32 :: L (joinD G)) := rfl
      have p2 : prt [joinD [P, F], mkB (32 :: L (joinD G)), mkB (32 :: L S)] 2 = mkB (32 :: L S) := rfl
      have hb : badS [joinD [P, F], mkB (32 :: L (joinD G)), mkB (32 :: L S)] = false := by
        unfold badS okB
        rw [p1, p2, bt_sp, bt_sp, hz, hz2]
        simp
      rw [hs, hb, if_neg (by simp)]
      have e1 : specG [joinD [P, F], mkB (32 :: L (joinD G)), mkB (32 :: L S)] = G := by
        unfold specG
        by_cases e : G = []
        · have := (B_nil g).2 e
          rw [p1, hz, if_neg (fun x => by omega), e]
        · have hn : (joinD G).size ≠ 0 := fun x => e ((B_nil g).1 x)
          rw [p1, hz, if_pos ⟨by simp, by omega⟩, tl1_sp, mk_L]
          exact B_words g e
      have e2 : specS [joinD [P, F], mkB (32 :: L (joinD G)), mkB (32 :: L S)] = S := by unfold specS; rw [if_pos (by simp), p2, tl1_sp, mk_L]
      rw [e1, e2, show prt [joinD [P, F], mkB (32 :: L (joinD G)), mkB (32 :: L S)] 0 = joinD [P, F] from rfl, A_join g, A_fam g]
      exact fin_yes hg
end full
def IsInv (s : ByteArray) (G : List ByteArray) (P F S : ByteArray) : Prop := goodN G P F S = true ∧ invD G P F S = s
theorem fin_no (s : ByteArray) (h : ∀ G P F S, ¬ IsInv s G P F S) (G : List ByteArray) (P F S : ByteArray) : finP s G P F S = none5 := by
  unfold finP
  by_cases hg : goodN G P F S = true
  · rw [if_pos hg]
    exact if_neg (fun e => h G P F S ⟨hg, toList_eq_iff.1 e⟩)
  · exact if_neg hg
theorem parse_same (s : ByteArray) : implR s = specR s := by
  by_cases h : ∃ G P F S, IsInv s G P F S
  · obtain ⟨G, P, F, S, hg, rfl⟩ := h
    rw [impl_yesP (gd_of hg) hg, spec_yesP (gd_of hg) hg]
  · have h' : ∀ G P F S, ¬ IsInv s G P F S := fun G P F S x => h ⟨G, P, F, S, x⟩
    have e1 : implR s = none5 := by unfold implR; rw [fin_no s h']; simp
    have e2 : specR s = none5 := by unfold specR; rw [fin_no s h']; simp
    rw [e1, e2]
theorem R_len (s : ByteArray) : (specR s).1.length ≤ 3 := by
  have h0 : none5.1.length ≤ 3 := by decide
  unfold specR finP
  split
  · exact h0
  · split
    · rename_i hg
      split
      · exact (gd_of hg).g3
      · exact h0
    · exact h0
theorem markText_loop (d : Nat) : ∀ (n : Int) (s : ByteArray), 0 ≤ n → n.toNat < 10 ^ d → s.size + d + 1 ≤ 9223372036854775807 → n ≤ 4611686018427387904 → ∃ r, Ev (fun k => laws_markText.l0 k n s) r := by
  have done : ∀ (n : Int) (s : ByteArray), ¬ n > 0 → s.size + 1 ≤ 9223372036854775807 → ∃ r, Ev (fun k => laws_markText.l0 k n s) r := fun n s hn h =>
    ⟨_, Ev.step (f := fun _ => some ((⟨#[109]⟩ : ByteArray) ++ s)) (fun k => by simp only [laws_markText.l0]; rw [if_neg hn, if_pos (by omega)]) (Ev.now _)⟩
  induction d with
  | zero => intro n s h0 h1 h2 h3; exact done n s (by simp at h1; omega) (by omega)
  | succ d ih =>
    intro n s h0 h1 h2 h3
    by_cases hn : n > 0
    · have hq : wrap64 (Int.tdiv n 10) = n / 10 := by rw [Int.tdiv_eq_ediv_of_nonneg h0, w64 (by omega) (by omega)]
      have hs : (strOfNums [(wrap64 (48 + (Int.tmod n 10))) % 256]).size = 1 := by simp [strOfNums, ByteArray.size]
      obtain ⟨r, hr⟩ := ih (wrap64 (Int.tdiv n 10)) (strOfNums [(wrap64 (48 + (Int.tmod n 10))) % 256] ++ s) (by rw [hq]; omega) (by rw [hq]; rw [Nat.pow_succ] at h1; omega) (by rw [size_append, hs]; omega) (by rw [hq]; omega)
      refine ⟨r, Ev.step (fun k => ?_) hr⟩
      simp only [laws_markText.l0]
      rw [if_pos hn]
      simp only [Option.bind_some]
      rw [if_pos (by rw [hs]; omega)]
    · exact done n s hn (by omega)
theorem markText_ex (n : Int) (h0 : 0 ≤ n) (h : n ≤ 4611686018427387904) : ∃ r, Ev (fun k => laws_markText.f k n) r := by
  unfold laws_markText.f
  by_cases hn : n ≤ 0
  · exact ⟨_, ev_pos hn (Ev.now _)⟩
  · have e1 : (10 : Nat) ^ 20 = 100000000000000000000 := by decide
    have e2 : (⟨#[]⟩ : ByteArray).size = 0 := rfl
    obtain ⟨r, hr⟩ := markText_loop 20 n ⟨#[]⟩ h0 (by rw [e1]; omega) (by rw [e2]; omega) h
    exact ⟨r, ev_neg hn hr⟩
noncomputable def mt (n : Int) : ByteArray := open Classical in if h : ∃ r, Ev (fun k => laws_markText.f k n) r then h.choose else ⟨#[]⟩
theorem mt_ev (n : Int) (h0 : 0 ≤ n) (h : n ≤ 4611686018427387904) : Ev (fun k => laws_markText.f k n) (mt n) := by
  unfold mt
  rw [dif_pos (markText_ex n h0 h)]
  exact (markText_ex n h0 h).choose_spec
noncomputable def mts (m : Int) (n : Nat) : List ByteArray := (List.range n).map fun i => mt (m + (i : Nat))
theorem mts_len (m : Int) (n : Nat) : (mts m n).length = n := by simp [mts]
theorem markS_loop (d : Nat) : ∀ (a : List ByteArray) (m : Int) (i : Nat), 0 ≤ m → m + a.length ≤ 4611686018427387904 → a.length - i = d → i ≤ a.length →
    Ev (fun k => laws_markStringS.l0 k (mts m i ++ a.drop i) (m + i) i) (m + a.length, mts m a.length) := by
  induction d with
  | zero =>
    intro a m i h0 h1 hd hi
    have e : i = a.length := by omega
    subst e
    refine Ev.step (f := fun _ => some (m + (a.length : Nat), mts m a.length)) (fun k => ?_) (Ev.now _)
    simp only [laws_markStringS.l0]
    rw [if_neg (by simp [mts_len]), List.drop_of_length_le (by omega), List.append_nil]
  | succ d ih =>
    intro a m i h0 h1 hd hi
    have hlt : i < a.length := by omega
    refine Ev.step (f := fun k => (laws_markText.f k (m + i)).bind fun t => laws_markStringS.l0 k ((mts m i ++ a.drop i).set i t) (m + ((i + 1 : Nat) : Int)) ((i + 1 : Nat) : Int)) (fun k => ?_) ?_
    · simp only [laws_markStringS.l0]
      rw [if_pos (by simp [mts_len]; omega)]
      congr 1
      funext t
      rw [if_pos (by omega), w64 (by omega) (by omega), w64 (by omega) (by omega)]
      congr 1
      omega
    · refine Ev.bind (mt_ev (m + i) (by omega) (by omega)) ?_
      have e : (mts m i ++ a.drop i).set i (mt (m + (i : Nat))) = mts m (i + 1) ++ a.drop (i + 1) := by
        rw [List.drop_eq_getElem_cons hlt]
        have hl : (mts m i).length = i := mts_len m i
        rw [List.set_append_right _ _ (by omega), hl, Nat.sub_self, List.set_cons_zero]
        unfold mts
        rw [List.range_succ, List.map_append]
        simp
      rw [e]
      exact ih a m (i + 1) h0 h1 (by omega) (by omega)
theorem markS_ev (a : List ByteArray) (m : Int) (h0 : 0 ≤ m) (h1 : m + a.length ≤ 4611686018427387904) : Ev (fun k => laws_markStringS.f k a m) (m + a.length, mts m a.length) := by
  have := markS_loop a.length a m 0 h0 h1 rfl (by omega)
  simpa [laws_markStringS.f, mts] using this
theorem heldS_loop (d : Nat) : ∀ (m : Int) (n i : Nat), 0 ≤ m → m + n ≤ 4611686018427387904 → n - i = d → i ≤ n →
    Ev (fun k => laws_heldStringS.l0 k (mts m n) (m + i) i) (m + n) := by
  induction d with
  | zero =>
    intro m n i h0 h1 hd hi
    have e : i = n := by omega
    subst e
    refine Ev.step (f := fun _ => some (m + (i : Nat))) (fun k => ?_) (Ev.now _)
    simp only [laws_heldStringS.l0]
    rw [if_neg (by simp [mts_len])]
  | succ d ih =>
    intro m n i h0 h1 hd hi
    have hlt : i < n := by omega
    refine Ev.step (f := fun k => (laws_markText.f k (m + i)).bind fun t => if (rdOf ByteArray.empty (mts m n) i).toList = t.toList then laws_heldStringS.l0 k (mts m n) (m + ((i + 1 : Nat) : Int)) ((i + 1 : Nat) : Int) else some (-1)) (fun k => ?_) ?_
    · simp only [laws_heldStringS.l0]
      rw [if_pos (by rw [mts_len]; omega), if_pos (by omega)]
      congr 1
      funext t
      rw [w64 (by omega) (by omega), w64 (by omega) (by omega)]
      have e1 : m + (i : Int) + 1 = m + ((i + 1 : Nat) : Int) := by omega
      rw [e1]
      rfl
    · refine Ev.bind (mt_ev (m + i) (by omega) (by omega)) (ev_pos ?_ (ih m n (i + 1) h0 h1 (by omega) (by omega)))
      simp [rdOf, mts, hlt]
theorem heldS_ev (m : Int) (n : Nat) (h0 : 0 ≤ m) (h1 : m + n ≤ 4611686018427387904) : Ev (fun k => laws_heldStringS.f k (mts m n) m) (m + n) := by
  have := heldS_loop n m n 0 h0 h1 rfl (by omega)
  simpa [laws_heldStringS.f] using this
end Go.Proofs.YtcckamdpncbkoaaDoor.G

namespace Go.Proofs.YtcckamdpncbkoaaDoor.Pure
open Go.RowKit Go.Proofs.YtcckamdpncbkoaaDoor.G Go.Proofs.YtcckamdpncbkoaaDoorW.PrintWords Go.Proofs.YtcckamdpncbkoaaDoorW.PrintLast Go.Proofs.YtcckamdpncbkoaaDoor.B Go.Proofs.YtcckamdpncbkoaaDoor.Opn
set_option linter.unusedVariables false
set_option linter.unusedSimpArgs false
theorem mark_ev (G : List ByteArray) (P F S : ByteArray) (h : G.length ≤ 3) : Ev (fun k => laws_markName.f k G P F S 1) (1 + (G.length : Int), mts 1 G.length) := by
  unfold laws_markName.f
  exact Ev.bind (markS_ev G 1 (by omega) (by omega)) (Ev.now _)
theorem held_ev (n : Nat) (P F S : ByteArray) (h : n ≤ 3) : Ev (fun k => laws_heldName.f k (mts 1 n) P F S 1) (1 + (n : Int)) := by
  unfold laws_heldName.f
  exact Ev.bind (heldS_ev 1 n (by omega) (by omega)) (ev_neg (by omega) (Ev.now _))
theorem FnExactParseInverse : laws_FnExactParseInverse.Pur := by
  intro s hs
  apply Ev.rounds
  unfold laws_FnExactParseInverse.f
  by_cases c : (s.size : Int) > 1048576
  · exact ev_pos c (Ev.now _)
  · refine ev_neg c ?_
    have hz : s.size ≤ 1048576 := by omega
    have hi : Ev (fun k => impl_ParseInverse.f k s) (specR s) := by
      have h := impl_parse s hz
      rw [parse_same s] at h
      exact h
    have hl := R_len s
    refine Ev.bind (spec_parse s hz) (Ev.bind hi ?_)
    generalize specR s = r at hi hl ⊢
    obtain ⟨G, P, F, S, b⟩ := r
    have hl' : G.length ≤ 3 := hl
    have he := eqN_same G P F S (by omega)
    refine Ev.bind he (ev_pos rfl ?_)
    have e : (b != b) = false := by simp
    rw [e]
    refine Ev.step (f := fun k => (laws_markName.f k G P F S 1).bind fun bt580 => ((laws_heldName.f k bt580.2 P F S 1).bind fun t582 => (if t582 < 0 then (some false) else (if t582 = bt580.1 then ((impl_ParseInverse.f k s).bind fun bt583 => ((laws_eqName.f k bt583.1 bt583.2.1 bt583.2.2.1 bt583.2.2.2.1 G P F S).bind fun t591 => (if t591 = true then (laws_FnExactParseInverse.j1 k bt580.1 (bt583.2.2.2.2 != b) bt580.2 P F S) else (laws_FnExactParseInverse.j1 k bt580.1 true bt580.2 P F S)))) else (some false))))) (fun k => by simp [laws_FnExactParseInverse.j0]) ?_
    refine Ev.bind (mark_ev G P F S hl') (Ev.bind (held_ev G.length P F S hl') (ev_neg (by omega) (ev_pos rfl (Ev.bind hi (Ev.bind he (ev_pos rfl ?_))))))
    rw [e]
    refine Ev.step (f := fun k => (laws_heldName.f k (mts 1 G.length) P F S 1).bind fun t592 => (if t592 < 0 then (some false) else (if t592 = 1 + (G.length : Int) then (some true) else (some false)))) (fun k => by simp [laws_FnExactParseInverse.j1]) ?_
    exact Ev.bind (held_ev G.length P F S hl') (ev_neg (by omega) (ev_pos rfl (Ev.now _)))
end Go.Proofs.YtcckamdpncbkoaaDoor.Pure
