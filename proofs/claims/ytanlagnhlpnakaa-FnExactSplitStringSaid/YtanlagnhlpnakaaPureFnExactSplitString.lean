/- For every text and separator the law FnExactSplitString answers true; no condition. -/
import Derived.Test.YtanlagnhlpnakaaGSplit
import Derived.Test.YtanlagnhlpnakaaGMark
import Derived.Test.YtanlagnhlpnakaaGP8
namespace Go.Proofs.Ytanlagnhlpnakaa.Pure
open Go.RowKit Go.Proofs.Ytanlagnhlpnakaa.G Go.Proofs.YtanlagnhlpnakaaW.PrintWords Go.Proofs.YtanlagnhlpnakaaW.PrintLast Go.Proofs.Ytanlagnhlpnakaa.B Go.Proofs.Ytanlagnhlpnakaa.Opn
set_option linter.unusedVariables false
set_option linter.unusedSimpArgs false
theorem impl_loop (s sep : ByteArray) (h1 : sep.size = 1) (k : Nat) : ∀ (out : List ByteArray) (f i : Int), impl_SplitString.l0 k s sep out f i = (spec_l1Split.l0 k s (bt sep 0) out f i).map (fun l => (l, true)) := by
  induction k with
  | zero => intro out f i; simp [impl_SplitString.l0, spec_l1Split.l0]
  | succ k ih =>
    intro out f i
    have h0 : (0 : Int) < (sep.size : Int) := by omega
    simp only [impl_SplitString.l0, spec_l1Split.l0, if_pos h0]
    by_cases c1 : i < (s.size : Int)
    · rw [if_pos c1, if_pos c1]
      by_cases c2 : 0 ≤ i
      · rw [if_pos c2, if_pos c2]
        by_cases c3 : bt s i = bt sep 0
        · rw [if_pos c3, if_pos c3]
          by_cases c4 : 0 ≤ f <;> by_cases c5 : f ≤ i <;> by_cases c6 : i ≤ (s.size : Int) <;> by_cases c7 : out.length < 8796093022208 <;> simp [c4, c5, c6, c7, ih]
        · rw [if_neg c3, if_neg c3]; exact ih _ _ _
      · rw [if_neg c2, if_neg c2]; rfl
    · rw [if_neg c1, if_neg c1]
      by_cases c4 : 0 ≤ f <;> by_cases c5 : f ≤ (s.size : Int) <;> by_cases c7 : out.length < 8796093022208 <;> simp [c4, c5, c7]
theorem spec_ss (s sep : ByteArray) : Ev (fun k => spec_SplitString.f k s sep) (if sep.size = 1 ∧ s.size ≤ 4000 then ((spl ((L sep).getD 0 0) (L s)).map mkB, true) else ([], false)) := by
  unfold spec_SplitString.f
  by_cases h1 : sep.size = 1
  · refine ev_pos (by omega) ?_
    by_cases h2 : s.size ≤ 4000
    · refine ev_neg (by omega) (ev_pos (by omega) ?_)
      rw [if_pos ⟨h1, h2⟩]
      refine Ev.bind (a := (spl ((L sep).getD 0 0) (L s)).map mkB) ?_ (Ev.now _)
      have := bt_getD sep 0 (by omega)
      rw [show ((0 : Nat) : Int) = 0 from rfl] at this
      rw [this]
      exact split_ev s _ (by omega)
    · rw [if_neg (fun h => h2 h.2)]
      exact ev_pos (by omega) (Ev.now _)
  · rw [if_neg (fun h => h1 h.1)]
    exact ev_neg (by omega) (Ev.now _)
theorem impl_ss (s sep : ByteArray) : Ev (fun k => impl_SplitString.f k s sep) (if sep.size = 1 ∧ s.size ≤ 4000 then ((spl ((L sep).getD 0 0) (L s)).map mkB, true) else ([], false)) := by
  unfold impl_SplitString.f
  by_cases h2 : s.size ≤ 4000
  · refine ev_neg (by omega) ?_
    by_cases h1 : sep.size = 1
    · rw [if_pos ⟨h1, h2⟩]
      refine Ev.step (f := fun k => (spec_l1Split.l0 k s (bt sep 0) [] 0 0).map (fun l => (l, true))) (fun k => ?_) ?_
      · simp only [impl_SplitString.j0, impl_loop s sep h1]
        simp [h1]
      · have := bt_getD sep 0 (by omega)
        rw [show ((0 : Nat) : Int) = 0 from rfl] at this
        rw [this]
        obtain ⟨K, hK⟩ := split_ev s ((L sep).getD 0 0) (by omega)
        refine ⟨K, fun k hk => ?_⟩
        have z : spec_l1Split.l0 k s (((L sep).getD 0 0).toNat : Int) [] 0 0 = some ((spl ((L sep).getD 0 0) (L s)).map mkB) := hK k hk
        show (spec_l1Split.l0 k s (((L sep).getD 0 0).toNat : Int) [] 0 0).map _ = _
        rw [z]; rfl
    · rw [if_neg (fun h => h1 h.1)]
      refine Ev.step (f := fun _ => some ([], false)) (fun k => ?_) (Ev.now _)
      simp only [impl_SplitString.j0]
      rw [if_pos (by simpa using (show ¬ ((sep.size : Int) = 1) by omega))]
  · rw [if_neg (fun h => h2 h.2)]
    refine ev_pos (by omega) (Ev.step (f := fun _ => some ([], false)) (fun k => ?_) (Ev.now _))
    simp only [impl_SplitString.j0]
    simp
theorem FnExactSplitString : laws_FnExactSplitString.Pur := by
  intro s sep hs hsep
  apply Ev.rounds
  unfold laws_FnExactSplitString.f
  by_cases g1 : (s.size : Int) > 1048576
  · exact ev_pos g1 (Ev.now _)
  refine ev_neg g1 ?_
  by_cases g2 : (sep.size : Int) > 1048576
  · exact ev_pos g2 (Ev.now _)
  refine ev_neg g2 (Ev.bind (spec_ss s sep) (Ev.bind (impl_ss s sep) ?_))
  obtain ⟨R, hR⟩ : ∃ R : List ByteArray × Bool, R = if sep.size = 1 ∧ s.size ≤ 4000 then ((spl ((L sep).getD 0 0) (L s)).map mkB, true) else ([], false) := ⟨_, rfl⟩
  have hlen : R.1.length ≤ 1048577 := by
    rw [hR]
    split
    · have := spl_length ((L sep).getD 0 0) (L s)
      rw [L_len] at this
      show (List.map mkB _).length ≤ _
      rw [List.length_map]; omega
    · simp
  have himp := impl_ss s sep
  rw [← hR] at himp ⊢
  have heq := eqS_ev R.1 R.1 (by omega) (by omega)
  rw [decide_eq_true rfl] at heq
  refine Ev.bind heq (ev_pos rfl ?_)
  have hm := markS_ev R.1 1 (by omega) (by omega)
  have hh := heldS_ev 1 R.1.length (by omega) (by omega)
  refine Ev.step (f := fun k => (laws_markStringS.f k R.1 1).bind fun bt146 => ((laws_heldStringS.f k bt146.2 1).bind fun t148 => (if t148 < 0 then (some false) else (if t148 = bt146.1 then ((impl_SplitString.f k s sep).bind fun bt149 => ((laws_eqStringS.f k bt149.1 R.1).bind fun t153 => (if t153 = true then (laws_FnExactSplitString.j1 k bt146.2 bt146.1 (bt149.2 != R.2)) else (laws_FnExactSplitString.j1 k bt146.2 bt146.1 true)))) else (some false))))) (fun k => ?_) ?_
  · simp only [laws_FnExactSplitString.j0]; simp
  refine Ev.bind hm (Ev.bind hh (ev_neg (by simp; omega) (ev_pos (by simp) (Ev.bind himp (Ev.bind heq (ev_pos rfl ?_))))))
  refine Ev.step (f := fun k => (laws_heldStringS.f k (mts 1 R.1.length) 1).bind fun t154 => (if t154 < 0 then (some false) else (if t154 = 1 + (R.1.length : Int) then (some true) else (some false)))) (fun k => ?_) ?_
  · simp only [laws_FnExactSplitString.j1]; simp
  exact Ev.bind hh (ev_neg (by omega) (ev_pos rfl (Ev.now _)))
end Go.Proofs.Ytanlagnhlpnakaa.Pure
