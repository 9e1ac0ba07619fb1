/- Texts of this session for the law FnExactTitleWords, put together by a program (merge.py): each ends with its namespace; conditions stand with each theorem. -/
import Derived.Test.YtcbmccjbhfggjaaDoorKFnExactTitleWords1
import Derived.Test.YtcbmccjbhfggjaaDoorWWords
import Derived.Deep.Slices
import Derived.Test.YtcbmccjbhfggjaaDoorWMore
import Derived.Lib.Strings
import Derived.Lib.SplitLaws
import Derived.Lib.IndexBytes
import Derived.Lib.IndexLaws
import Derived.Lib.IndexMore
import Derived.Lib.ItoaLen
import Derived.Lib.ItoaNum
namespace Go.Proofs.YtcbmccjbhfggjaaDoor.G
open Go.RowKit Go.Proofs.YtcbmccjbhfggjaaDoorW.PrintWords Go.Proofs.YtcbmccjbhfggjaaDoorW.PrintLast Go.Proofs.YtcbmccjbhfggjaaDoorW.PrintMore
open Go.Proofs.YtcbmccjbhfggjaaDoor.Gl Go.Proofs.YtcbmccjbhfggjaaDoor.Ext
attribute [local go_sem] max2_int min2_int max_two min_two max_three min_three max_four min_four   -- for this text's walks alone
set_option linter.unusedVariables false
set_option linter.unusedSimpArgs false

/-! ### laws_heldStringS: function 35 -/
def laws_heldStringS.l0 : Nat → List ByteArray → Int → Int → Option (Int)
  | 0, _, _, _ => none
  | k + 1, x0, x1, x5 => if x5 < (x0.length : Int) then (if 0 ≤ x5 then ((laws_markText.f k x1).bind fun t318 => (if (rdOf ByteArray.empty x0 x5).toList = t318.toList then (laws_heldStringS.l0 k x0 (wrap64 (x1 + 1)) (wrap64 (x5 + 1))) else (some (-1)))) else (none)) else (some x1)
def laws_heldStringS.f (k : Nat) (l0 : List ByteArray) (a1 : Int) : Option (Int) := laws_heldStringS.l0 k l0 a1 0
theorem laws_heldStringS.mono_l : ∀ k, (∀ y0 y1 y2, LeO (laws_heldStringS.l0 k y0 y1 y2) (laws_heldStringS.l0 (k + 1) y0 y1 y2))
  | 0 => fun _ _ _ r h => by simp [laws_heldStringS.l0] at h
  | k + 1 => by
    have ih0 := laws_heldStringS.mono_l k
    · intro y0 y1 y2
      unfold laws_heldStringS.l0
      repeat' first
      | (with_reducible exact ih0 _ _ _)
      | (with_reducible exact laws_markText.mono _ _)
      | (with_reducible exact LeO.refl _)
      | (with_reducible exact LeO.none _)
      | (with_reducible refine LeO.ite ?_ ?_)
      | (with_reducible refine LeO.bind ?_ (fun _ => ?_))
      | exact ih0 _ _ _
      | exact laws_markText.mono _ _
      | exact LeO.none _
      | refine LeO.ite ?_ ?_
      | refine LeO.bind ?_ (fun _ => ?_)
theorem laws_heldStringS.mono : ∀ a0 a1 k, LeO (laws_heldStringS.f k a0 a1) (laws_heldStringS.f (k + 1) a0 a1) := by
  intro a0 a1 k
  have ih0 := laws_heldStringS.mono_l k
  unfold laws_heldStringS.f
  repeat' first
      | (with_reducible exact ih0 _ _ _)
      | (with_reducible exact laws_markText.mono _ _)
      | (with_reducible exact LeO.refl _)
      | (with_reducible exact LeO.none _)
      | (with_reducible refine LeO.ite ?_ ?_)
      | (with_reducible refine LeO.bind ?_ (fun _ => ?_))
      | exact ih0 _ _ _
      | exact laws_markText.mono _ _
      | exact LeO.none _
      | refine LeO.ite ?_ ?_
      | refine LeO.bind ?_ (fun _ => ?_)
set_option maxHeartbeats 8000000 in
set_option maxRecDepth 100000 in
theorem laws_heldStringS.calls (k : Nat) (A0 : Option Addr) (c0 : Nat) (l0 : List ByteArray) (a1 : Int) (r : Int) (w : World) (hr0 : Kd.C Kd.string w A0 l0.length l0) (hc0 : l0.length ≤ c0) (h : laws_heldStringS.f k l0 a1 = some r) :
    Calls Tryd.prog 35 #[.slice A0 l0.length c0, .int .i64 a1] w fun e w' => e = .returned (.int .i64 r) ∧ Below w.heap.size w w' := by
  have HR0 := Aside0.mk hr0
  have HC0 := Aside0.mk hc0
  clear hr0 hc0
  have HB := Aside0.mk (Below.refl w.heap.size w)
  have H : (laws_heldStringS.l0 k l0 a1 0) = some r := h
  clear h
  have H' := Aside0.mk H
  clear H
  go_enter Tryd.func35, Tryd.ntmps35
  go_wp2
  go_loopg [1, 5] k (fun kq v1 v5 w' => ∃ (x1_1 : Int) (x5_1 : Int), v1 = .int .i64 x1_1 ∧ v5 = .int .i64 x5_1 ∧ Aside0 (laws_heldStringS.l0 kq l0 x1_1 x5_1 = some r) ∧ Aside0 (kq ≤ k) ∧ Aside0 (Below w.heap.size w w'))
  case atStart => exact ⟨(a1), (0), (by first | rfl | (simp; done) | (simp [*]; done)), (by first | rfl | (simp; done) | (simp [*]; done)), H', ⟨Nat.le_refl _⟩, ⟨by repeat (first | (with_reducible first | exact HB.out | apply below_alloc | apply pw_below_drewN | apply below_drew1) | exact HB.out)⟩⟩
  case round =>
    clear H'
    try clear p2
    obtain ⟨x1_1, x5_1, rfl, rfl, HA, HK1, HB⟩ := hrel
    cases gk with
    | zero => exact absurd HA.out (by simp [laws_heldStringS.l0])
    | succ k1 =>
      have H := HA.out
      clear HA
      simp only [laws_heldStringS.l0] at H
      by_cases c3 : x5_1 < (l0.length : Int)
      · rw [if_pos c3] at H
        have c3b0 : decide (x5_1 < (l0.length : Int)) = true := decide_eq_true c3
        clear c3
        by_cases c4 : 0 ≤ x5_1
        · rw [if_pos c4] at H
          have c4b0 : decide (0 ≤ x5_1) = true := decide_eq_true c4
          clear c4
          replace H := Option.bind_eq_some_iff.mp H
          obtain ⟨t318, A50, H⟩ := H
          replace H : (if (rdOf ByteArray.empty l0 x5_1).toList = t318.toList then (laws_heldStringS.l0 k1 l0 (wrap64 (x1_1 + 1)) (wrap64 (x5_1 + 1))) else (some (-1))) = some r := H
          have A5 := Aside0.mk A50
          clear A50
          by_cases c6 : (rdOf ByteArray.empty l0 x5_1).toList = t318.toList
          · rw [if_pos c6] at H
            have c6b0 : ((rdOf ByteArray.empty l0 x5_1).toList == t318.toList) = true := beq_iff_eq.mpr c6
            have c6b1 : ((rdOf ByteArray.empty l0 x5_1).toList != t318.toList) = false := bne_eq_false_iff_eq.mpr c6
            clear c6
            have H' := Aside0.mk H
            clear H
            try go_wp2
            have n0_ := Aside0.mk (below_drew1 HB.out)
            clear HB
            have HB := n0_
            clear n0_
            have p317 : 0 ≤ (x5_1 : Int) := of_decide_eq_true (by first | (with_reducible assumption) | assumption)
            have q317 : x5_1 < (l0.length : Int) := of_decide_eq_true (by first | (with_reducible assumption) | assumption)
            obtain ⟨ad317, e317, hx317_0⟩ := Kd.at_string HR0.out x5_1 p317 q317
            have hw317_0 := hx317_0
            cases e317
            replace hx317_0 := (HB.out.cell (World.block_lt_of_cell? w _ hx317_0)).trans hx317_0
            replace p317 := eq_true p317
            replace q317 := eq_true q317
            refine start_ (n := 7) (S := fun w' => w'.cell? (ad317.add (x5_1).toNat) = some (.string (rdOf ByteArray.empty l0 x5_1))) (ds := []) #[false, false, false, false, false, false, false] (by kernel_rfl) rfl rfl (((HB.out.cell (World.block_lt_of_cell? w _ hw317_0)).trans hw317_0)) (fun hHeld => ?_)
            generalize wr.drew = w7 at HB hx317_0 hHeld ⊢
            refine pure_ (i := 0) (N := some 12) (v := ?_) (a' := ?_) #[true, false, false, false, false, false, false] rfl rfl (by kernel_rfl) (fun _ _ _ h => h) (Or.inl ⟨by rfl, ?_⟩) ?_ ?_
            rotate_left
            · intro w'
              go_simp
              with_reducible rfl
            rotate_left
            · simp only [Act.put, List.setIfInBounds_toArray, List.set_cons_zero, List.set_cons_succ, i64_w, i32_w]
              rfl
            refine pure_ (i := 1) (N := some 13) (v := ?_) (a' := ?_) #[true, true, false, false, false, false, false] rfl rfl (by kernel_rfl) (fun _ _ _ h => h) (Or.inl ⟨by rfl, ?_⟩) ?_ ?_
            rotate_left
            · intro w'
              go_simp
              with_reducible rfl
            rotate_left
            · simp only [Act.put, List.setIfInBounds_toArray, List.set_cons_zero, List.set_cons_succ, i64_w, i32_w]
              rfl
            refine pure_ (i := 2) (N := some 14) (v := ?_) (a' := ?_) #[true, true, true, false, false, false, false] rfl rfl (by kernel_rfl) (fun _ _ _ h => h) (Or.inl ⟨by rfl, ?_⟩) ?_ ?_
            rotate_left
            · intro w'
              go_simp
              with_reducible rfl
            rotate_left
            · simp only [Act.put, List.setIfInBounds_toArray, List.set_cons_zero, List.set_cons_succ, i64_w, i32_w]
              rfl
            refine pure_ (i := 4) (N := some 16) (v := ?_) (a' := ?_) #[true, true, true, false, true, false, false] rfl rfl (by kernel_rfl) (fun _ _ _ h => h) (Or.inl ⟨by rfl, ?_⟩) ?_ ?_
            rotate_left
            · intro w'
              go_simp
              with_reducible rfl
            rotate_left
            · simp only [Act.put, List.setIfInBounds_toArray, List.set_cons_zero, List.set_cons_succ, i64_w, i32_w]
              rfl
            refine take_ (i := 3) (N := some 15) (v := ?_) (a' := ?_) #[true, true, true, true, true, false, false] rfl rfl (by kernel_rfl) (fun _ _ _ h => h) (Or.inl ⟨by rfl, ?_⟩) hHeld ?_ ?_
            rotate_left
            · intro w' s0
              go_simp
              with_reducible rfl
            rotate_left
            · simp only [Act.put, List.setIfInBounds_toArray, List.set_cons_zero, List.set_cons_succ, i64_w, i32_w]
              rfl
            refine one_ (i := 5) (N := some 17) #[true, true, true, true, true, true, false] rfl rfl (by kernel_rfl) (by decide) (fun K hK => ?_)
            refine goes_ Tryd.func80 (by kernel_rfl) rfl #[.int .i64 x1_1] (by rfl) rfl rfl (by (try simp only [List.map_toArray, List.map_cons, List.map_nil]); first | done | rfl | (simp only [List.length_drop, List.length_take]; rfl)) ?_
            with_reducible refine (laws_markText.calls k1 x1_1 t318 _ A5.out).mono ?_
            rintro e w8 ⟨rfl, hb⟩
            refine ⟨_, rfl, ?_⟩
            have n0_ := Aside0.mk (below_step (by repeat (first | (with_reducible first | exact HB.out | apply below_alloc | apply pw_below_drewN | apply below_drew1) | exact HB.out)) hb)
            clear HB
            have HB := n0_
            clear n0_
            (try clear hb)
            (try clear hb2)
            (try clear hk)
            (try clear hi)
            refine hK.out _ _ (((HB.out.cell (World.block_lt_of_cell? w _ hw317_0)).trans hw317_0)) (fun hHeld => ?_)
            clear hK K
            refine norm_ (a' := ?_) ?_ ?_
            rotate_left
            · show Act.put _ (some 17) _ = _
              simp only [Act.put, List.setIfInBounds_toArray, List.set_cons_zero, List.set_cons_succ, i64_w, i32_w]
              rfl
            refine pure_ (i := 6) (N := some 18) (v := ?_) (a' := ?_) #[true, true, true, true, true, true, true] rfl rfl (by kernel_rfl) (fun _ _ _ h => h) (Or.inl ⟨by rfl, ?_⟩) ?_ ?_
            rotate_left
            · intro w'
              go_simp
              with_reducible rfl
            rotate_left
            · simp only [Act.put, List.setIfInBounds_toArray, List.set_cons_zero, List.set_cons_succ, i64_w, i32_w]
              rfl
            refine done_ (by kernel_rfl) ?_
            try go_wp2
            go_roundg k1
            case measure => have := HK1.out; omega
            case rel => exact ⟨(wrap64 (x1_1 + 1)), (wrap64 (x5_1 + 1)), (by first | rfl | (simp; done) | (simp [*]; done)), (by first | rfl | (simp; done) | (simp [*]; done)), H', ⟨by have := HK1.out; omega⟩, ⟨by repeat (first | (with_reducible first | exact HB.out | apply below_alloc | apply pw_below_drewN | apply below_drew1) | exact HB.out)⟩⟩
          · rw [if_neg c6] at H
            have c6b0 : ((rdOf ByteArray.empty l0 x5_1).toList == t318.toList) = false := beq_eq_false_iff_ne.mpr c6
            have c6b1 : ((rdOf ByteArray.empty l0 x5_1).toList != t318.toList) = true := bne_iff_ne.mpr c6
            obtain rfl := Option.some.inj H
            try go_wp2
            have n0_ := Aside0.mk (below_drew1 HB.out)
            clear HB
            have HB := n0_
            clear n0_
            have p317 : 0 ≤ (x5_1 : Int) := of_decide_eq_true (by first | (with_reducible assumption) | assumption)
            have q317 : x5_1 < (l0.length : Int) := of_decide_eq_true (by first | (with_reducible assumption) | assumption)
            obtain ⟨ad317, e317, hx317_0⟩ := Kd.at_string HR0.out x5_1 p317 q317
            have hw317_0 := hx317_0
            cases e317
            replace hx317_0 := (HB.out.cell (World.block_lt_of_cell? w _ hx317_0)).trans hx317_0
            replace p317 := eq_true p317
            replace q317 := eq_true q317
            refine start_ (n := 7) (S := fun w' => w'.cell? (ad317.add (x5_1).toNat) = some (.string (rdOf ByteArray.empty l0 x5_1))) (ds := []) #[false, false, false, false, false, false, false] (by kernel_rfl) rfl rfl (((HB.out.cell (World.block_lt_of_cell? w _ hw317_0)).trans hw317_0)) (fun hHeld => ?_)
            generalize wr.drew = w9 at HB hx317_0 hHeld ⊢
            refine pure_ (i := 0) (N := some 12) (v := ?_) (a' := ?_) #[true, false, false, false, false, false, false] rfl rfl (by kernel_rfl) (fun _ _ _ h => h) (Or.inl ⟨by rfl, ?_⟩) ?_ ?_
            rotate_left
            · intro w'
              go_simp
              with_reducible rfl
            rotate_left
            · simp only [Act.put, List.setIfInBounds_toArray, List.set_cons_zero, List.set_cons_succ, i64_w, i32_w]
              rfl
            refine pure_ (i := 1) (N := some 13) (v := ?_) (a' := ?_) #[true, true, false, false, false, false, false] rfl rfl (by kernel_rfl) (fun _ _ _ h => h) (Or.inl ⟨by rfl, ?_⟩) ?_ ?_
            rotate_left
            · intro w'
              go_simp
              with_reducible rfl
            rotate_left
            · simp only [Act.put, List.setIfInBounds_toArray, List.set_cons_zero, List.set_cons_succ, i64_w, i32_w]
              rfl
            refine pure_ (i := 2) (N := some 14) (v := ?_) (a' := ?_) #[true, true, true, false, false, false, false] rfl rfl (by kernel_rfl) (fun _ _ _ h => h) (Or.inl ⟨by rfl, ?_⟩) ?_ ?_
            rotate_left
            · intro w'
              go_simp
              with_reducible rfl
            rotate_left
            · simp only [Act.put, List.setIfInBounds_toArray, List.set_cons_zero, List.set_cons_succ, i64_w, i32_w]
              rfl
            refine pure_ (i := 4) (N := some 16) (v := ?_) (a' := ?_) #[true, true, true, false, true, false, false] rfl rfl (by kernel_rfl) (fun _ _ _ h => h) (Or.inl ⟨by rfl, ?_⟩) ?_ ?_
            rotate_left
            · intro w'
              go_simp
              with_reducible rfl
            rotate_left
            · simp only [Act.put, List.setIfInBounds_toArray, List.set_cons_zero, List.set_cons_succ, i64_w, i32_w]
              rfl
            refine take_ (i := 3) (N := some 15) (v := ?_) (a' := ?_) #[true, true, true, true, true, false, false] rfl rfl (by kernel_rfl) (fun _ _ _ h => h) (Or.inl ⟨by rfl, ?_⟩) hHeld ?_ ?_
            rotate_left
            · intro w' s0
              go_simp
              with_reducible rfl
            rotate_left
            · simp only [Act.put, List.setIfInBounds_toArray, List.set_cons_zero, List.set_cons_succ, i64_w, i32_w]
              rfl
            refine one_ (i := 5) (N := some 17) #[true, true, true, true, true, true, false] rfl rfl (by kernel_rfl) (by decide) (fun K hK => ?_)
            refine goes_ Tryd.func80 (by kernel_rfl) rfl #[.int .i64 x1_1] (by rfl) rfl rfl (by (try simp only [List.map_toArray, List.map_cons, List.map_nil]); first | done | rfl | (simp only [List.length_drop, List.length_take]; rfl)) ?_
            with_reducible refine (laws_markText.calls k1 x1_1 t318 _ A5.out).mono ?_
            rintro e w10 ⟨rfl, hb⟩
            refine ⟨_, rfl, ?_⟩
            have n0_ := Aside0.mk (below_step (by repeat (first | (with_reducible first | exact HB.out | apply below_alloc | apply pw_below_drewN | apply below_drew1) | exact HB.out)) hb)
            clear HB
            have HB := n0_
            clear n0_
            (try clear hb)
            (try clear hb2)
            (try clear hk)
            (try clear hi)
            refine hK.out _ _ (((HB.out.cell (World.block_lt_of_cell? w _ hw317_0)).trans hw317_0)) (fun hHeld => ?_)
            clear hK K
            refine norm_ (a' := ?_) ?_ ?_
            rotate_left
            · show Act.put _ (some 17) _ = _
              simp only [Act.put, List.setIfInBounds_toArray, List.set_cons_zero, List.set_cons_succ, i64_w, i32_w]
              rfl
            refine pure_ (i := 6) (N := some 18) (v := ?_) (a' := ?_) #[true, true, true, true, true, true, true] rfl rfl (by kernel_rfl) (fun _ _ _ h => h) (Or.inl ⟨by rfl, ?_⟩) ?_ ?_
            rotate_left
            · intro w'
              go_simp
              with_reducible rfl
            rotate_left
            · simp only [Act.put, List.setIfInBounds_toArray, List.set_cons_zero, List.set_cons_succ, i64_w, i32_w]
              rfl
            refine done_ (by kernel_rfl) ?_
            try go_wp2
            go_ret
            exact ⟨by first | rfl | (simp [errW_none, errW_some] <;> rfl) | (simp [*, errW_none, errW_some] <;> rfl), by repeat (first | (with_reducible first | exact HB.out | apply below_alloc | apply pw_below_drewN | apply below_drew1) | exact HB.out)⟩
        · rw [if_neg c4] at H
          exact absurd H (by simp)
      · rw [if_neg c3] at H
        have c3b0 : decide (x5_1 < (l0.length : Int)) = false := decide_eq_false c3
        clear c3
        obtain rfl := Option.some.inj H
        go_wp2
        go_ret
        exact ⟨by first | rfl | (simp [errW_none, errW_some] <;> rfl) | (simp [*, errW_none, errW_some] <;> rfl), by repeat (first | (with_reducible first | exact HB.out | apply below_alloc | apply pw_below_drewN | apply below_drew1) | exact HB.out)⟩

end Go.Proofs.YtcbmccjbhfggjaaDoor.G

namespace Go.Proofs.YtcbmccjbhfggjaaDoor.G
open Go.RowKit Go.Proofs.YtcbmccjbhfggjaaDoorW.PrintWords Go.Proofs.YtcbmccjbhfggjaaDoorW.PrintLast Go.Proofs.YtcbmccjbhfggjaaDoorW.PrintMore
open Go.Proofs.YtcbmccjbhfggjaaDoor.Gl Go.Proofs.YtcbmccjbhfggjaaDoor.Ext
attribute [local go_sem] max2_int min2_int max_two min_two max_three min_three max_four min_four   -- for this text's walks alone
set_option linter.unusedVariables false
set_option linter.unusedSimpArgs false

/-! ### laws_FnExactTitleWords: function 10 -/
mutual
def laws_FnExactTitleWords.j0 : Nat → ByteArray → List ByteArray → Bool → List ByteArray → Bool → Option (Bool)
  | 0, _, _, _, _, _ => none
  | k + 1, x0, x3, x4, x5, x32 => if x32 = true then (some false) else ((laws_markStringS.f k x5 1).bind fun bt328 => ((laws_heldStringS.f k bt328.2 1).bind fun t330 => (if t330 < 0 then (some false) else (if t330 = bt328.1 then ((impl_TitleWords.f k x0).bind fun bt331 => ((laws_eqStringS.f k bt331.1 x3).bind fun t335 => (if t335 = true then (laws_FnExactTitleWords.j1 k bt328.2 bt328.1 (bt331.2 != x4)) else (laws_FnExactTitleWords.j1 k bt328.2 bt328.1 true)))) else (some false)))))
def laws_FnExactTitleWords.j1 : Nat → List ByteArray → Int → Bool → Option (Bool)
  | 0, _, _, _ => none
  | k + 1, x5, x7, x57 => if x57 = true then (some false) else ((laws_heldStringS.f k x5 1).bind fun t336 => (if t336 < 0 then (some false) else (if t336 = x7 then (some true) else (some false))))
end
def laws_FnExactTitleWords.f (k : Nat) (a0 : ByteArray) : Option (Bool) := if (a0.size : Int) > 1048576 then (some true) else ((spec_TitleWords.f k a0).bind fun bt319 => ((impl_TitleWords.f k a0).bind fun bt323 => ((laws_eqStringS.f k bt323.1 bt319.1).bind fun t327 => (if t327 = true then (laws_FnExactTitleWords.j0 k a0 bt319.1 bt319.2 bt323.1 (bt323.2 != bt319.2)) else (laws_FnExactTitleWords.j0 k a0 bt319.1 bt319.2 bt323.1 true)))))
theorem laws_FnExactTitleWords.mono_l : ∀ k, (∀ y0 y1 y2 y3 y4, LeO (laws_FnExactTitleWords.j0 k y0 y1 y2 y3 y4) (laws_FnExactTitleWords.j0 (k + 1) y0 y1 y2 y3 y4)) ∧ (∀ y0 y1 y2, LeO (laws_FnExactTitleWords.j1 k y0 y1 y2) (laws_FnExactTitleWords.j1 (k + 1) y0 y1 y2))
  | 0 => ⟨fun _ _ _ _ _ r h => by simp [laws_FnExactTitleWords.j0] at h, fun _ _ _ r h => by simp [laws_FnExactTitleWords.j1] at h⟩
  | k + 1 => by
    obtain ⟨ih0, ih1⟩ := laws_FnExactTitleWords.mono_l k
    refine ⟨?_, ?_⟩
    · intro y0 y1 y2 y3 y4
      unfold laws_FnExactTitleWords.j0
      repeat' first
      | (with_reducible exact ih0 _ _ _ _ _)
      | (with_reducible exact ih1 _ _ _)
      | (with_reducible exact impl_TitleWords.mono _ _)
      | (with_reducible exact laws_eqStringS.mono _ _ _)
      | (with_reducible exact laws_heldStringS.mono _ _ _)
      | (with_reducible exact laws_markStringS.mono _ _ _)
      | (with_reducible exact spec_TitleWords.mono _ _)
      | (with_reducible exact LeO.refl _)
      | (with_reducible exact LeO.none _)
      | (with_reducible refine LeO.ite ?_ ?_)
      | (with_reducible refine LeO.bind ?_ (fun _ => ?_))
      | exact ih0 _ _ _ _ _
      | exact ih1 _ _ _
      | exact impl_TitleWords.mono _ _
      | exact laws_eqStringS.mono _ _ _
      | exact laws_heldStringS.mono _ _ _
      | exact laws_markStringS.mono _ _ _
      | exact spec_TitleWords.mono _ _
      | exact LeO.none _
      | refine LeO.ite ?_ ?_
      | refine LeO.bind ?_ (fun _ => ?_)
    · intro y0 y1 y2
      unfold laws_FnExactTitleWords.j1
      repeat' first
      | (with_reducible exact ih0 _ _ _ _ _)
      | (with_reducible exact ih1 _ _ _)
      | (with_reducible exact impl_TitleWords.mono _ _)
      | (with_reducible exact laws_eqStringS.mono _ _ _)
      | (with_reducible exact laws_heldStringS.mono _ _ _)
      | (with_reducible exact laws_markStringS.mono _ _ _)
      | (with_reducible exact spec_TitleWords.mono _ _)
      | (with_reducible exact LeO.refl _)
      | (with_reducible exact LeO.none _)
      | (with_reducible refine LeO.ite ?_ ?_)
      | (with_reducible refine LeO.bind ?_ (fun _ => ?_))
      | exact ih0 _ _ _ _ _
      | exact ih1 _ _ _
      | exact impl_TitleWords.mono _ _
      | exact laws_eqStringS.mono _ _ _
      | exact laws_heldStringS.mono _ _ _
      | exact laws_markStringS.mono _ _ _
      | exact spec_TitleWords.mono _ _
      | exact LeO.none _
      | refine LeO.ite ?_ ?_
      | refine LeO.bind ?_ (fun _ => ?_)
theorem laws_FnExactTitleWords.mono : ∀ a0 k, LeO (laws_FnExactTitleWords.f k a0) (laws_FnExactTitleWords.f (k + 1) a0) := by
  intro a0 k
  obtain ⟨ih0, ih1⟩ := laws_FnExactTitleWords.mono_l k
  unfold laws_FnExactTitleWords.f
  repeat' first
      | (with_reducible exact ih0 _ _ _ _ _)
      | (with_reducible exact ih1 _ _ _)
      | (with_reducible exact impl_TitleWords.mono _ _)
      | (with_reducible exact laws_eqStringS.mono _ _ _)
      | (with_reducible exact laws_heldStringS.mono _ _ _)
      | (with_reducible exact laws_markStringS.mono _ _ _)
      | (with_reducible exact spec_TitleWords.mono _ _)
      | (with_reducible exact LeO.refl _)
      | (with_reducible exact LeO.none _)
      | (with_reducible refine LeO.ite ?_ ?_)
      | (with_reducible refine LeO.bind ?_ (fun _ => ?_))
      | exact ih0 _ _ _ _ _
      | exact ih1 _ _ _
      | exact impl_TitleWords.mono _ _
      | exact laws_eqStringS.mono _ _ _
      | exact laws_heldStringS.mono _ _ _
      | exact laws_markStringS.mono _ _ _
      | exact spec_TitleWords.mono _ _
      | exact LeO.none _
      | refine LeO.ite ?_ ?_
      | refine LeO.bind ?_ (fun _ => ?_)
set_option maxHeartbeats 8000000 in
set_option maxRecDepth 100000 in
theorem laws_FnExactTitleWords.calls (k : Nat) (a0 : ByteArray) (r : Bool) (w : World) {gF1 gF2 gF3 : Bool} (hG : GL gF1 gF2 gF3 w) (h : laws_FnExactTitleWords.f k a0 = some r) :
    Calls Tryd.prog 10 #[.string a0] w fun e w' => e = .returned (.bool r) ∧ Below w.heap.size w w' := by
  have HG := Aside0.mk hG
  clear hG
  have HB := Aside0.mk (Below.refl w.heap.size w)
  have H : (if (a0.size : Int) > 1048576 then (some true) else ((spec_TitleWords.f k a0).bind fun bt319 => ((impl_TitleWords.f k a0).bind fun bt323 => ((laws_eqStringS.f k bt323.1 bt319.1).bind fun t327 => (if t327 = true then (laws_FnExactTitleWords.j0 k a0 bt319.1 bt319.2 bt323.1 (bt323.2 != bt319.2)) else (laws_FnExactTitleWords.j0 k a0 bt319.1 bt319.2 bt323.1 true)))))) = some r := h
  clear h
  by_cases c2 : (a0.size : Int) > 1048576
  · rw [if_pos c2] at H
    have c2b0 : decide (1048576 < (a0.size : Int)) = true := decide_eq_true c2
    have c2b1 : decide (1048576 < a0.size) = true := decide_eq_true (by omega)
    clear c2
    obtain rfl := Option.some.inj H
    go_enter Tryd.func10, Tryd.ntmps10
    go_wp2
    go_ret
    exact ⟨by first | rfl | (simp [errW_none, errW_some] <;> rfl) | (simp [*, errW_none, errW_some] <;> rfl), by repeat (first | (with_reducible first | exact HB.out | apply below_alloc | apply pw_below_drewN | apply below_drew1) | exact HB.out)⟩
  · rw [if_neg c2] at H
    have c2b0 : decide (1048576 < (a0.size : Int)) = false := decide_eq_false c2
    have c2b1 : decide (1048576 < a0.size) = false := decide_eq_false (by omega)
    clear c2
    replace H := Option.bind_eq_some_iff.mp H
    obtain ⟨⟨t319, t320⟩, A30, H⟩ := H
    replace H : ((impl_TitleWords.f k a0).bind fun bt323 => ((laws_eqStringS.f k bt323.1 t319).bind fun t327 => (if t327 = true then (laws_FnExactTitleWords.j0 k a0 t319 t320 bt323.1 (bt323.2 != t320)) else (laws_FnExactTitleWords.j0 k a0 t319 t320 bt323.1 true)))) = some r := H
    have A3 := Aside0.mk A30
    clear A30
    replace H := Option.bind_eq_some_iff.mp H
    obtain ⟨⟨t323, t324⟩, A40, H⟩ := H
    replace H : ((laws_eqStringS.f k t323 t319).bind fun t327 => (if t327 = true then (laws_FnExactTitleWords.j0 k a0 t319 t320 t323 (t324 != t320)) else (laws_FnExactTitleWords.j0 k a0 t319 t320 t323 true))) = some r := H
    have A4 := Aside0.mk A40
    clear A40
    have HC5 := Aside0.mk H
    clear H
    go_enter Tryd.func10, Tryd.ntmps10
    go_upto_region 5 with (first | ((with_reducible refine gate_callee (f := 31) rfl ?_); refine goesL_ (some 16) rfl rfl Tryd.func31 (by kernel_rfl) rfl #[.string a0] rfl (by (try simp only [List.map_toArray, List.map_cons, List.map_nil]); first | done | rfl | (simp only [List.length_drop, List.length_take]; rfl)) ?_; (with_reducible refine (spec_TitleWords.calls k a0 t319 t320 _ A3.out).mono ?_); rintro e w6 ⟨v321, rfl, ho0, hb⟩; refine ⟨_, rfl, ?_⟩; have n0_ := Aside0.mk (Kd.R_lower ho0 (below_size (by repeat (first | (with_reducible first | exact HB.out | apply below_alloc | apply pw_below_drewN | apply below_drew1) | exact HB.out)))); have n1_ := Aside0.mk (below_step (by repeat (first | (with_reducible first | exact HB.out | apply below_alloc | apply pw_below_drewN | apply below_drew1) | exact HB.out)) hb); clear HB; have HO322 := n0_; have HB := n1_; clear n0_ n1_; (try clear hb); (try clear hb2); (try clear hk); (try clear hi); (try clear ho0)) | ((with_reducible refine gate_callee (f := 32) rfl ?_); refine goesL_ (some 21) rfl rfl Tryd.func32 (by kernel_rfl) rfl #[.string a0] rfl (by (try simp only [List.map_toArray, List.map_cons, List.map_nil]); first | done | rfl | (simp only [List.length_drop, List.length_take]; rfl)) ?_; (with_reducible refine (impl_TitleWords.calls (hG := (by first | exact HG.out | (refine HG.out.drawn ?_; (repeat (first | exact Drawn0.refl _ | apply Drawn0.step)); done) | (refine HG.out.below ?_; (repeat (first | (with_reducible first | exact HB.out | apply below_alloc | apply pw_below_drewN | apply below_drew1 | refine below_set ?_ (by first | assumption | exact Aside0.out (by assumption))) | exact HB.out)); done))) k a0 t323 t324 _ A4.out).mono ?_); rintro e w7 ⟨v325, rfl, ho0, hb⟩; refine ⟨_, rfl, ?_⟩; have n0_ := Aside0.mk (Kd.R_elder' (by (with_reducible repeat (first | apply Kd.R_alloc | apply Kd.R_drewN | apply Kd.R_drew)); exact HO322.out) (Kd.R_base ho0) hb); have n1_ := Aside0.mk (Kd.R_lower (Kd.R_new' ho0 (Kd.R_lt (by (with_reducible repeat (first | apply Kd.R_alloc | apply Kd.R_drewN | apply Kd.R_drew)); exact HO322.out))) (below_size (by repeat (first | (with_reducible first | exact HB.out | apply below_alloc | apply pw_below_drewN | apply below_drew1) | exact HB.out)))); have n2_ := Aside0.mk (below_step (by repeat (first | (with_reducible first | exact HB.out | apply below_alloc | apply pw_below_drewN | apply below_drew1) | exact HB.out)) hb); clear HO322; clear HB; have HO322 := n0_; have HO326 := n1_; have HB := n2_; clear n0_ n1_ n2_; (try clear hb); (try clear hb2); (try clear hk); (try clear hi); (try clear ho0)))
    (try simp only [Act.put, List.setIfInBounds_toArray, List.set_cons_zero, List.set_cons_succ])
    go_cut [32] (fun v32 wc => ∃ (kq : Nat) (x32_4 : Bool), v32 = .bool x32_4 ∧ Aside0 (laws_FnExactTitleWords.j0 kq a0 t319 t320 t323 x32_4 = some r) ∧ Aside0 (kq ≤ k) ∧ Aside0 (Kd.R Kd.string 9 wc w.heap.size (fun k_ => some k_ ≠ (v325 : Value).ownBlock) v321 t319) ∧ Aside0 (Kd.R Kd.string 9 wc w.heap.size (fun k_ => some k_ ≠ (v321 : Value).ownBlock) v325 t323) ∧ Aside0 (Below w.heap.size w wc))
    case first =>
      have H := HC5.out
      clear HC5
      replace H := Option.bind_eq_some_iff.mp H
      obtain ⟨t327, A80, H⟩ := H
      replace H : (if t327 = true then (laws_FnExactTitleWords.j0 k a0 t319 t320 t323 (t324 != t320)) else (laws_FnExactTitleWords.j0 k a0 t319 t320 t323 true)) = some r := H
      have A8 := Aside0.mk A80
      clear A80
      by_cases c9 : t327 = true
      · subst c9
        have H1 : (laws_FnExactTitleWords.j0 k a0 t319 t320 t323 (t324 != t320)) = some r := by rw [if_pos rfl] at H; exact H
        clear H
        have H := H1
        clear H1
        have H' := Aside0.mk H
        clear H
        obtain ⟨Ao10, co10, eo10⟩ := Kd.R_slice HO326.out
        subst eo10
        obtain ⟨Ao11, co11, eo11⟩ := Kd.R_slice HO322.out
        subst eo11
        go_wp2_with (first | ((with_reducible refine gate_callee (f := 33) rfl ?_); refine goesL_ (some 26) rfl rfl Tryd.func33 (by kernel_rfl) rfl #[.slice Ao10 t323.length co10, .slice Ao11 t319.length co11] rfl (by (try simp only [List.map_toArray, List.map_cons, List.map_nil]); first | done | rfl | (simp only [List.length_drop, List.length_take]; rfl)) ?_; (with_reducible refine (laws_eqStringS.calls k _ _ t323 _ _ t319 true _ ?side1 ?side2 ?side3 ?side4 A8.out).mono ?_); (case side1 => repeat (first | exact (Kd.R_reads' HO326.out).2.2 | (with_reducible refine Kd.C_alloc ?_ _) | (with_reducible refine Kd.C_drewN ?_ _) | (with_reducible refine Kd.C_drew ?_))); (case side2 => exact (Kd.R_reads' HO326.out).2.1); (case side3 => repeat (first | exact (Kd.R_reads' HO322.out).2.2 | (with_reducible refine Kd.C_alloc ?_ _) | (with_reducible refine Kd.C_drewN ?_ _) | (with_reducible refine Kd.C_drew ?_))); (case side4 => exact (Kd.R_reads' HO322.out).2.1); rintro e w' ⟨rfl, ⟨nd, rfl⟩⟩; refine ⟨_, rfl, ?_⟩))
        go_meet
        case rel => exact ⟨_, ((t324 != t320)), (by first | rfl | (simp; done) | (simp [*]; done)), H', ⟨by first | omega | exact Nat.le_refl _⟩, ⟨by (with_reducible repeat (first | apply Kd.R_alloc | apply Kd.R_drewN | apply Kd.R_drew)); exact Kd.R_mono HO322.out (fun _ hk => hk.2)⟩, ⟨by (with_reducible repeat (first | apply Kd.R_alloc | apply Kd.R_drewN | apply Kd.R_drew)); exact Kd.R_mono HO326.out (fun _ hk => hk.2)⟩, ⟨by repeat (first | (with_reducible first | exact HB.out | apply below_alloc | apply pw_below_drewN | apply below_drew1) | exact HB.out)⟩⟩
      · replace c9 := Bool.eq_false_iff.mpr c9
        subst c9
        have H1 : (laws_FnExactTitleWords.j0 k a0 t319 t320 t323 true) = some r := by rw [if_neg (show ¬ (false = true) by decide)] at H; exact H
        clear H
        have H := H1
        clear H1
        have H' := Aside0.mk H
        clear H
        obtain ⟨Ao12, co12, eo12⟩ := Kd.R_slice HO326.out
        subst eo12
        obtain ⟨Ao13, co13, eo13⟩ := Kd.R_slice HO322.out
        subst eo13
        go_wp2_with (first | ((with_reducible refine gate_callee (f := 33) rfl ?_); refine goesL_ (some 26) rfl rfl Tryd.func33 (by kernel_rfl) rfl #[.slice Ao12 t323.length co12, .slice Ao13 t319.length co13] rfl (by (try simp only [List.map_toArray, List.map_cons, List.map_nil]); first | done | rfl | (simp only [List.length_drop, List.length_take]; rfl)) ?_; (with_reducible refine (laws_eqStringS.calls k _ _ t323 _ _ t319 false _ ?side1 ?side2 ?side3 ?side4 A8.out).mono ?_); (case side1 => repeat (first | exact (Kd.R_reads' HO326.out).2.2 | (with_reducible refine Kd.C_alloc ?_ _) | (with_reducible refine Kd.C_drewN ?_ _) | (with_reducible refine Kd.C_drew ?_))); (case side2 => exact (Kd.R_reads' HO326.out).2.1); (case side3 => repeat (first | exact (Kd.R_reads' HO322.out).2.2 | (with_reducible refine Kd.C_alloc ?_ _) | (with_reducible refine Kd.C_drewN ?_ _) | (with_reducible refine Kd.C_drew ?_))); (case side4 => exact (Kd.R_reads' HO322.out).2.1); rintro e w' ⟨rfl, ⟨nd, rfl⟩⟩; refine ⟨_, rfl, ?_⟩))
        go_meet
        case rel => exact ⟨_, (true), (by first | rfl | (simp; done) | (simp [*]; done)), H', ⟨by first | omega | exact Nat.le_refl _⟩, ⟨by (with_reducible repeat (first | apply Kd.R_alloc | apply Kd.R_drewN | apply Kd.R_drew)); exact Kd.R_mono HO322.out (fun _ hk => hk.2)⟩, ⟨by (with_reducible repeat (first | apply Kd.R_alloc | apply Kd.R_drewN | apply Kd.R_drew)); exact Kd.R_mono HO326.out (fun _ hk => hk.2)⟩, ⟨by repeat (first | (with_reducible first | exact HB.out | apply below_alloc | apply pw_below_drewN | apply below_drew1) | exact HB.out)⟩⟩
    case rest =>
      clear HC5
      try clear c1
      try clear c2
      try clear c2b0
      try clear c2b1
      try clear p2
      try clear c3
      try clear c9
      try clear c10
      obtain ⟨kq, x32_4, rfl, HA, HJ4, HO_3, HO_5, HB⟩ := hcut
      cases kq with
      | zero => exact absurd HA.out (by simp [laws_FnExactTitleWords.j0])
      | succ kj4 =>
        have H := HA.out
        clear HA
        simp only [laws_FnExactTitleWords.j0] at H
        by_cases c14 : x32_4 = true
        · subst c14
          have H1 : (some false) = some r := by rw [if_pos rfl] at H; exact H
          clear H
          have H := H1
          clear H1
          obtain rfl := Option.some.inj H
          go_wp2
          go_ret
          exact ⟨by first | rfl | (simp [errW_none, errW_some] <;> rfl) | (simp [*, errW_none, errW_some] <;> rfl), by repeat (first | (with_reducible first | exact HB.out | apply below_alloc | apply pw_below_drewN | apply below_drew1) | exact HB.out)⟩
        · replace c14 := Bool.eq_false_iff.mpr c14
          subst c14
          have H1 : ((laws_markStringS.f kj4 t323 1).bind fun bt328 => ((laws_heldStringS.f kj4 bt328.2 1).bind fun t330 => (if t330 < 0 then (some false) else (if t330 = bt328.1 then ((impl_TitleWords.f kj4 a0).bind fun bt331 => ((laws_eqStringS.f kj4 bt331.1 t319).bind fun t335 => (if t335 = true then (laws_FnExactTitleWords.j1 kj4 bt328.2 bt328.1 (bt331.2 != t320)) else (laws_FnExactTitleWords.j1 kj4 bt328.2 bt328.1 true)))) else (some false))))) = some r := by rw [if_neg (show ¬ (false = true) by decide)] at H; exact H
          clear H
          have H := H1
          clear H1
          replace H := Option.bind_eq_some_iff.mp H
          obtain ⟨⟨t328, t329⟩, A150, H⟩ := H
          replace H : ((laws_heldStringS.f kj4 t329 1).bind fun t330 => (if t330 < 0 then (some false) else (if t330 = t328 then ((impl_TitleWords.f kj4 a0).bind fun bt331 => ((laws_eqStringS.f kj4 bt331.1 t319).bind fun t335 => (if t335 = true then (laws_FnExactTitleWords.j1 kj4 t329 t328 (bt331.2 != t320)) else (laws_FnExactTitleWords.j1 kj4 t329 t328 true)))) else (some false)))) = some r := H
          have A15 := Aside0.mk A150
          clear A150
          replace H := Option.bind_eq_some_iff.mp H
          obtain ⟨t330, A160, H⟩ := H
          replace H : (if t330 < 0 then (some false) else (if t330 = t328 then ((impl_TitleWords.f kj4 a0).bind fun bt331 => ((laws_eqStringS.f kj4 bt331.1 t319).bind fun t335 => (if t335 = true then (laws_FnExactTitleWords.j1 kj4 t329 t328 (bt331.2 != t320)) else (laws_FnExactTitleWords.j1 kj4 t329 t328 true)))) else (some false))) = some r := H
          have A16 := Aside0.mk A160
          clear A160
          by_cases c17 : t330 < 0
          · rw [if_pos c17] at H
            have c17b0 : decide (t330 < 0) = true := decide_eq_true c17
            clear c17
            obtain rfl := Option.some.inj H
            obtain ⟨Ao18, co18, eo18⟩ := Kd.R_slice HO_5.out
            subst eo18
            go_wp2_with (first | ((with_reducible refine gate_callee (f := 34) rfl ?_); refine goesL_ (some 35) rfl rfl Tryd.func34 (by kernel_rfl) rfl #[.slice Ao18 t323.length co18, .int .i64 1] rfl (by (try simp only [List.map_toArray, List.map_cons, List.map_nil]); first | done | rfl | (simp only [List.length_drop, List.length_take]; rfl)) ?_; (with_reducible refine (laws_markStringS.calls kj4 (fun k_ => some k_ = (.slice Ao18 t323.length co18 : Value).ownBlock) (.slice Ao18 t323.length co18) t323 1 t328 t329 w _ ?side1 ?side2 A15.out).mono ?_); (case side1 => repeat (first | (with_reducible first | exact HB.out | apply below_alloc | apply pw_below_drewN | apply below_drew1) | exact HB.out)); (case side2 => exact Kd.R_tight rfl HO_5.out); rintro e w19 ⟨rfl, hy0, hb, hkp⟩; refine ⟨_, rfl, ?_⟩; have n0_ := Aside0.mk (Kd.R_mono (ok' := fun k_ => some k_ ≠ (.slice Ao18 t323.length co18 : Value).ownBlock) (Kd.R_keptB (HO_3.out) hkp (fun k_ hk_ hs_ => (hk_) hs_)) (fun k_ hk_ => hk_.1)); have n1_ := Aside0.mk (Kd.R_reok rfl hy0 (fun k_ e_ => HO_5.out.1 k_ e_)); have n2_ := Aside0.mk (hb); clear HO_3; clear HO_5; clear HB; have HO_3 := n0_; have HO_5 := n1_; have HB := n2_; clear n0_ n1_ n2_; (try clear hb); (try clear hkp); (try clear hy0)) | ((with_reducible refine gate_callee (f := 35) rfl ?_); refine goesL_ (some 38) rfl rfl Tryd.func35 (by kernel_rfl) rfl #[.slice Ao18 t329.length co18, .int .i64 1] rfl (by (try simp only [List.map_toArray, List.map_cons, List.map_nil]); first | done | (rw [show t329.length = t323.length from (Kd.R_reads' HO_5.out).1.symm] <;> rfl) | rfl | (simp only [List.length_drop, List.length_take]; rfl)) ?_; (with_reducible refine (laws_heldStringS.calls kj4 _ _ t329 1 t330 _ ?side1 ?side2 A16.out).mono ?_); (case side1 => repeat (first | exact (Kd.R_reads' HO_5.out).2.2 | (with_reducible refine Kd.C_alloc ?_ _) | (with_reducible refine Kd.C_drewN ?_ _) | (with_reducible refine Kd.C_drew ?_))); (case side2 => rw [show t329.length = t323.length from (Kd.R_reads' HO_5.out).1.symm]; exact (Kd.R_reads' HO_5.out).2.1); rintro e w20 ⟨rfl, hb⟩; refine ⟨_, rfl, ?_⟩; have n0_ := Aside0.mk (Kd.R_below (by (with_reducible repeat (first | apply Kd.R_alloc | apply Kd.R_drewN | apply Kd.R_drew)); exact HO_3.out) hb); have n1_ := Aside0.mk (Kd.R_below (by (with_reducible repeat (first | apply Kd.R_alloc | apply Kd.R_drewN | apply Kd.R_drew)); exact HO_5.out) hb); have n2_ := Aside0.mk (below_step (by repeat (first | (with_reducible first | exact HB.out | apply below_alloc | apply pw_below_drewN | apply below_drew1) | exact HB.out)) hb); clear HO_3; clear HO_5; clear HB; have HO_3 := n0_; have HO_5 := n1_; have HB := n2_; clear n0_ n1_ n2_; (try clear hb); (try clear hb2); (try clear hk); (try clear hi)))
            go_ret
            exact ⟨by first | rfl | (simp [errW_none, errW_some] <;> rfl) | (simp [*, errW_none, errW_some] <;> rfl), by repeat (first | (with_reducible first | exact HB.out | apply below_alloc | apply pw_below_drewN | apply below_drew1) | exact HB.out)⟩
          · rw [if_neg c17] at H
            have c17b0 : decide (t330 < 0) = false := decide_eq_false c17
            clear c17
            by_cases c21 : t330 = t328
            · rw [if_pos c21] at H
              have c21b0 : (t330 == t328) = true := beq_iff_eq.mpr c21
              have c21b1 : (t330 != t328) = false := bne_eq_false_iff_eq.mpr c21
              clear c21
              replace H := Option.bind_eq_some_iff.mp H
              obtain ⟨⟨t331, t332⟩, A220, H⟩ := H
              replace H : ((laws_eqStringS.f kj4 t331 t319).bind fun t335 => (if t335 = true then (laws_FnExactTitleWords.j1 kj4 t329 t328 (t332 != t320)) else (laws_FnExactTitleWords.j1 kj4 t329 t328 true))) = some r := H
              have A22 := Aside0.mk A220
              clear A220
              have HC23 := Aside0.mk H
              clear H
              obtain ⟨Ao24, co24, eo24⟩ := Kd.R_slice HO_5.out
              subst eo24
              go_upto_region 16 with (first | ((with_reducible refine gate_callee (f := 34) rfl ?_); refine goesL_ (some 35) rfl rfl Tryd.func34 (by kernel_rfl) rfl #[.slice Ao24 t323.length co24, .int .i64 1] rfl (by (try simp only [List.map_toArray, List.map_cons, List.map_nil]); first | done | rfl | (simp only [List.length_drop, List.length_take]; rfl)) ?_; (with_reducible refine (laws_markStringS.calls kj4 (fun k_ => some k_ = (.slice Ao24 t323.length co24 : Value).ownBlock) (.slice Ao24 t323.length co24) t323 1 t328 t329 w _ ?side1 ?side2 A15.out).mono ?_); (case side1 => repeat (first | (with_reducible first | exact HB.out | apply below_alloc | apply pw_below_drewN | apply below_drew1) | exact HB.out)); (case side2 => exact Kd.R_tight rfl HO_5.out); rintro e w25 ⟨rfl, hy0, hb, hkp⟩; refine ⟨_, rfl, ?_⟩; have n0_ := Aside0.mk (Kd.R_mono (ok' := fun k_ => some k_ ≠ (.slice Ao24 t323.length co24 : Value).ownBlock) (Kd.R_keptB (HO_3.out) hkp (fun k_ hk_ hs_ => (hk_) hs_)) (fun k_ hk_ => hk_.1)); have n1_ := Aside0.mk (Kd.R_reok rfl hy0 (fun k_ e_ => HO_5.out.1 k_ e_)); have n2_ := Aside0.mk (hb); clear HO_3; clear HO_5; clear HB; have HO_3 := n0_; have HO_5 := n1_; have HB := n2_; clear n0_ n1_ n2_; (try clear hb); (try clear hkp); (try clear hy0)) | ((with_reducible refine gate_callee (f := 35) rfl ?_); refine goesL_ (some 38) rfl rfl Tryd.func35 (by kernel_rfl) rfl #[.slice Ao24 t329.length co24, .int .i64 1] rfl (by (try simp only [List.map_toArray, List.map_cons, List.map_nil]); first | done | (rw [show t329.length = t323.length from (Kd.R_reads' HO_5.out).1.symm] <;> rfl) | rfl | (simp only [List.length_drop, List.length_take]; rfl)) ?_; (with_reducible refine (laws_heldStringS.calls kj4 _ _ t329 1 t330 _ ?side1 ?side2 A16.out).mono ?_); (case side1 => repeat (first | exact (Kd.R_reads' HO_5.out).2.2 | (with_reducible refine Kd.C_alloc ?_ _) | (with_reducible refine Kd.C_drewN ?_ _) | (with_reducible refine Kd.C_drew ?_))); (case side2 => rw [show t329.length = t323.length from (Kd.R_reads' HO_5.out).1.symm]; exact (Kd.R_reads' HO_5.out).2.1); rintro e w26 ⟨rfl, hb⟩; refine ⟨_, rfl, ?_⟩; have n0_ := Aside0.mk (Kd.R_below (by (with_reducible repeat (first | apply Kd.R_alloc | apply Kd.R_drewN | apply Kd.R_drew)); exact HO_3.out) hb); have n1_ := Aside0.mk (Kd.R_below (by (with_reducible repeat (first | apply Kd.R_alloc | apply Kd.R_drewN | apply Kd.R_drew)); exact HO_5.out) hb); have n2_ := Aside0.mk (below_step (by repeat (first | (with_reducible first | exact HB.out | apply below_alloc | apply pw_below_drewN | apply below_drew1) | exact HB.out)) hb); clear HO_3; clear HO_5; clear HB; have HO_3 := n0_; have HO_5 := n1_; have HB := n2_; clear n0_ n1_ n2_; (try clear hb); (try clear hb2); (try clear hk); (try clear hi)) | ((with_reducible refine gate_callee (f := 32) rfl ?_); refine goesL_ (some 46) rfl rfl Tryd.func32 (by kernel_rfl) rfl #[.string a0] rfl (by (try simp only [List.map_toArray, List.map_cons, List.map_nil]); first | done | rfl | (simp only [List.length_drop, List.length_take]; rfl)) ?_; (with_reducible refine (impl_TitleWords.calls (hG := (by first | exact HG.out | (refine HG.out.drawn ?_; (repeat (first | exact Drawn0.refl _ | apply Drawn0.step)); done) | (refine HG.out.below ?_; (repeat (first | (with_reducible first | exact HB.out | apply below_alloc | apply pw_below_drewN | apply below_drew1 | refine below_set ?_ (by first | assumption | exact Aside0.out (by assumption))) | exact HB.out)); done))) kj4 a0 t331 t332 _ A22.out).mono ?_); rintro e w27 ⟨v333, rfl, ho0, hb⟩; refine ⟨_, rfl, ?_⟩; have n0_ := Aside0.mk (Kd.R_elder' (by (with_reducible repeat (first | apply Kd.R_alloc | apply Kd.R_drewN | apply Kd.R_drew)); exact HO_3.out) (Kd.R_base ho0) hb); have n1_ := Aside0.mk (Kd.R_elder' (by (with_reducible repeat (first | apply Kd.R_alloc | apply Kd.R_drewN | apply Kd.R_drew)); exact HO_5.out) (Kd.R_base ho0) hb); have n2_ := Aside0.mk (Kd.R_lower (Kd.R_new' (Kd.R_new' ho0 (Kd.R_lt (by (with_reducible repeat (first | apply Kd.R_alloc | apply Kd.R_drewN | apply Kd.R_drew)); exact HO_3.out))) (Kd.R_lt (by (with_reducible repeat (first | apply Kd.R_alloc | apply Kd.R_drewN | apply Kd.R_drew)); exact HO_5.out))) (below_size (by repeat (first | (with_reducible first | exact HB.out | apply below_alloc | apply pw_below_drewN | apply below_drew1) | exact HB.out)))); have n3_ := Aside0.mk (below_step (by repeat (first | (with_reducible first | exact HB.out | apply below_alloc | apply pw_below_drewN | apply below_drew1) | exact HB.out)) hb); clear HO_3; clear HO_5; clear HB; have HO_3 := n0_; have HO_5 := n1_; have HO334 := n2_; have HB := n3_; clear n0_ n1_ n2_ n3_; (try clear hb); (try clear hb2); (try clear hk); (try clear hi); (try clear ho0)))
              (try simp only [Act.put, List.setIfInBounds_toArray, List.set_cons_zero, List.set_cons_succ])
              go_cut [57] (fun v57 wc => ∃ (kq : Nat) (x57_22 : Bool), v57 = .bool x57_22 ∧ Aside0 (laws_FnExactTitleWords.j1 kq t329 t328 x57_22 = some r) ∧ Aside0 (kq ≤ kj4) ∧ Aside0 (Kd.R Kd.string 9 wc w.heap.size (fun _ => True) (.slice Ao24 t323.length co24) t329) ∧ Aside0 (Below w.heap.size w wc))
              case first =>
                have H := HC23.out
                clear HC23
                replace H := Option.bind_eq_some_iff.mp H
                obtain ⟨t335, A280, H⟩ := H
                replace H : (if t335 = true then (laws_FnExactTitleWords.j1 kj4 t329 t328 (t332 != t320)) else (laws_FnExactTitleWords.j1 kj4 t329 t328 true)) = some r := H
                have A28 := Aside0.mk A280
                clear A280
                by_cases c29 : t335 = true
                · subst c29
                  have H1 : (laws_FnExactTitleWords.j1 kj4 t329 t328 (t332 != t320)) = some r := by rw [if_pos rfl] at H; exact H
                  clear H
                  have H := H1
                  clear H1
                  have H' := Aside0.mk H
                  clear H
                  obtain ⟨Ao30, co30, eo30⟩ := Kd.R_slice HO334.out
                  subst eo30
                  obtain ⟨Ao31, co31, eo31⟩ := Kd.R_slice HO_3.out
                  subst eo31
                  go_wp2_with (first | ((with_reducible refine gate_callee (f := 33) rfl ?_); refine goesL_ (some 51) rfl rfl Tryd.func33 (by kernel_rfl) rfl #[.slice Ao30 t331.length co30, .slice Ao31 t319.length co31] rfl (by (try simp only [List.map_toArray, List.map_cons, List.map_nil]); first | done | rfl | (simp only [List.length_drop, List.length_take]; rfl)) ?_; (with_reducible refine (laws_eqStringS.calls kj4 _ _ t331 _ _ t319 true _ ?side1 ?side2 ?side3 ?side4 A28.out).mono ?_); (case side1 => repeat (first | exact (Kd.R_reads' HO334.out).2.2 | (with_reducible refine Kd.C_alloc ?_ _) | (with_reducible refine Kd.C_drewN ?_ _) | (with_reducible refine Kd.C_drew ?_))); (case side2 => exact (Kd.R_reads' HO334.out).2.1); (case side3 => repeat (first | exact (Kd.R_reads' HO_3.out).2.2 | (with_reducible refine Kd.C_alloc ?_ _) | (with_reducible refine Kd.C_drewN ?_ _) | (with_reducible refine Kd.C_drew ?_))); (case side4 => exact (Kd.R_reads' HO_3.out).2.1); rintro e w' ⟨rfl, ⟨nd, rfl⟩⟩; refine ⟨_, rfl, ?_⟩))
                  go_meet
                  case rel => exact ⟨_, ((t332 != t320)), (by first | rfl | (simp; done) | (simp [*]; done)), H', ⟨by have := HJ4.out; first | omega | exact Nat.le_refl _⟩, ⟨by (with_reducible repeat (first | apply Kd.R_alloc | apply Kd.R_drewN | apply Kd.R_drew)); exact Kd.R_mono HO_5.out (fun _ hk => trivial)⟩, ⟨by repeat (first | (with_reducible first | exact HB.out | apply below_alloc | apply pw_below_drewN | apply below_drew1) | exact HB.out)⟩⟩
                · replace c29 := Bool.eq_false_iff.mpr c29
                  subst c29
                  have H1 : (laws_FnExactTitleWords.j1 kj4 t329 t328 true) = some r := by rw [if_neg (show ¬ (false = true) by decide)] at H; exact H
                  clear H
                  have H := H1
                  clear H1
                  have H' := Aside0.mk H
                  clear H
                  obtain ⟨Ao32, co32, eo32⟩ := Kd.R_slice HO334.out
                  subst eo32
                  obtain ⟨Ao33, co33, eo33⟩ := Kd.R_slice HO_3.out
                  subst eo33
                  go_wp2_with (first | ((with_reducible refine gate_callee (f := 33) rfl ?_); refine goesL_ (some 51) rfl rfl Tryd.func33 (by kernel_rfl) rfl #[.slice Ao32 t331.length co32, .slice Ao33 t319.length co33] rfl (by (try simp only [List.map_toArray, List.map_cons, List.map_nil]); first | done | rfl | (simp only [List.length_drop, List.length_take]; rfl)) ?_; (with_reducible refine (laws_eqStringS.calls kj4 _ _ t331 _ _ t319 false _ ?side1 ?side2 ?side3 ?side4 A28.out).mono ?_); (case side1 => repeat (first | exact (Kd.R_reads' HO334.out).2.2 | (with_reducible refine Kd.C_alloc ?_ _) | (with_reducible refine Kd.C_drewN ?_ _) | (with_reducible refine Kd.C_drew ?_))); (case side2 => exact (Kd.R_reads' HO334.out).2.1); (case side3 => repeat (first | exact (Kd.R_reads' HO_3.out).2.2 | (with_reducible refine Kd.C_alloc ?_ _) | (with_reducible refine Kd.C_drewN ?_ _) | (with_reducible refine Kd.C_drew ?_))); (case side4 => exact (Kd.R_reads' HO_3.out).2.1); rintro e w' ⟨rfl, ⟨nd, rfl⟩⟩; refine ⟨_, rfl, ?_⟩))
                  go_meet
                  case rel => exact ⟨_, (true), (by first | rfl | (simp; done) | (simp [*]; done)), H', ⟨by have := HJ4.out; first | omega | exact Nat.le_refl _⟩, ⟨by (with_reducible repeat (first | apply Kd.R_alloc | apply Kd.R_drewN | apply Kd.R_drew)); exact Kd.R_mono HO_5.out (fun _ hk => trivial)⟩, ⟨by repeat (first | (with_reducible first | exact HB.out | apply below_alloc | apply pw_below_drewN | apply below_drew1) | exact HB.out)⟩⟩
              case rest =>
                clear HC23
                try clear c1
                try clear c2
                try clear c2b0
                try clear c2b1
                try clear p2
                try clear c3
                try clear c9
                try clear c10
                try clear c14
                try clear c17
                try clear c17b0
                try clear c21
                try clear c21b0
                try clear c21b1
                try clear c29
                try clear c31
                try clear c32
                try clear c33
                try clear p2
                obtain ⟨kq, x57_22, rfl, HA, HJ22, HO_5, HB⟩ := hcut
                have hl5_22 := (Kd.R_reads' HO_5.out).1
                rw [hl5_22] at HO_5
                (try simp only [hl5_22])
                cases kq with
                | zero => exact absurd HA.out (by simp [laws_FnExactTitleWords.j1])
                | succ kj22 =>
                  have H := HA.out
                  clear HA
                  simp only [laws_FnExactTitleWords.j1] at H
                  by_cases c34 : x57_22 = true
                  · subst c34
                    have H1 : (some false) = some r := by rw [if_pos rfl] at H; exact H
                    clear H
                    have H := H1
                    clear H1
                    obtain rfl := Option.some.inj H
                    go_wp2
                    go_ret
                    exact ⟨by first | rfl | (simp [errW_none, errW_some] <;> rfl) | (simp [*, errW_none, errW_some] <;> rfl), by repeat (first | (with_reducible first | exact HB.out | apply below_alloc | apply pw_below_drewN | apply below_drew1) | exact HB.out)⟩
                  · replace c34 := Bool.eq_false_iff.mpr c34
                    subst c34
                    have H1 : ((laws_heldStringS.f kj22 t329 1).bind fun t336 => (if t336 < 0 then (some false) else (if t336 = t328 then (some true) else (some false)))) = some r := by rw [if_neg (show ¬ (false = true) by decide)] at H; exact H
                    clear H
                    have H := H1
                    clear H1
                    replace H := Option.bind_eq_some_iff.mp H
                    obtain ⟨t336, A350, H⟩ := H
                    replace H : (if t336 < 0 then (some false) else (if t336 = t328 then (some true) else (some false))) = some r := H
                    have A35 := Aside0.mk A350
                    clear A350
                    by_cases c36 : t336 < 0
                    · rw [if_pos c36] at H
                      have c36b0 : decide (t336 < 0) = true := decide_eq_true c36
                      clear c36
                      obtain rfl := Option.some.inj H
                      go_wp2_with (first | ((with_reducible refine gate_callee (f := 35) rfl ?_); refine goesL_ (some 60) rfl rfl Tryd.func35 (by kernel_rfl) rfl #[.slice Ao24 t329.length co24, .int .i64 1] rfl (by (try simp only [List.map_toArray, List.map_cons, List.map_nil]); first | done | rfl | (simp only [List.length_drop, List.length_take]; rfl)) ?_; (with_reducible refine (laws_heldStringS.calls kj22 _ _ t329 1 t336 _ ?side1 ?side2 A35.out).mono ?_); (case side1 => repeat (first | exact (Kd.R_reads' HO_5.out).2.2 | (with_reducible refine Kd.C_alloc ?_ _) | (with_reducible refine Kd.C_drewN ?_ _) | (with_reducible refine Kd.C_drew ?_))); (case side2 => exact (Kd.R_reads' HO_5.out).2.1); rintro e w37 ⟨rfl, hb⟩; refine ⟨_, rfl, ?_⟩; have n0_ := Aside0.mk (Kd.R_below (by (with_reducible repeat (first | apply Kd.R_alloc | apply Kd.R_drewN | apply Kd.R_drew)); exact HO_5.out) hb); have n1_ := Aside0.mk (below_step (by repeat (first | (with_reducible first | exact HB.out | apply below_alloc | apply pw_below_drewN | apply below_drew1) | exact HB.out)) hb); clear HO_5; clear HB; have HO_5 := n0_; have HB := n1_; clear n0_ n1_; (try clear hb); (try clear hb2); (try clear hk); (try clear hi)))
                      go_ret
                      exact ⟨by first | rfl | (simp [errW_none, errW_some] <;> rfl) | (simp [*, errW_none, errW_some] <;> rfl), by repeat (first | (with_reducible first | exact HB.out | apply below_alloc | apply pw_below_drewN | apply below_drew1) | exact HB.out)⟩
                    · rw [if_neg c36] at H
                      have c36b0 : decide (t336 < 0) = false := decide_eq_false c36
                      clear c36
                      by_cases c38 : t336 = t328
                      · rw [if_pos c38] at H
                        have c38b0 : (t336 == t328) = true := beq_iff_eq.mpr c38
                        have c38b1 : (t336 != t328) = false := bne_eq_false_iff_eq.mpr c38
                        clear c38
                        obtain rfl := Option.some.inj H
                        go_wp2_with (first | ((with_reducible refine gate_callee (f := 35) rfl ?_); refine goesL_ (some 60) rfl rfl Tryd.func35 (by kernel_rfl) rfl #[.slice Ao24 t329.length co24, .int .i64 1] rfl (by (try simp only [List.map_toArray, List.map_cons, List.map_nil]); first | done | rfl | (simp only [List.length_drop, List.length_take]; rfl)) ?_; (with_reducible refine (laws_heldStringS.calls kj22 _ _ t329 1 t336 _ ?side1 ?side2 A35.out).mono ?_); (case side1 => repeat (first | exact (Kd.R_reads' HO_5.out).2.2 | (with_reducible refine Kd.C_alloc ?_ _) | (with_reducible refine Kd.C_drewN ?_ _) | (with_reducible refine Kd.C_drew ?_))); (case side2 => exact (Kd.R_reads' HO_5.out).2.1); rintro e w39 ⟨rfl, hb⟩; refine ⟨_, rfl, ?_⟩; have n0_ := Aside0.mk (Kd.R_below (by (with_reducible repeat (first | apply Kd.R_alloc | apply Kd.R_drewN | apply Kd.R_drew)); exact HO_5.out) hb); have n1_ := Aside0.mk (below_step (by repeat (first | (with_reducible first | exact HB.out | apply below_alloc | apply pw_below_drewN | apply below_drew1) | exact HB.out)) hb); clear HO_5; clear HB; have HO_5 := n0_; have HB := n1_; clear n0_ n1_; (try clear hb); (try clear hb2); (try clear hk); (try clear hi)))
                        go_ret
                        exact ⟨by first | rfl | (simp [errW_none, errW_some] <;> rfl) | (simp [*, errW_none, errW_some] <;> rfl), by repeat (first | (with_reducible first | exact HB.out | apply below_alloc | apply pw_below_drewN | apply below_drew1) | exact HB.out)⟩
                      · rw [if_neg c38] at H
                        have c38b0 : (t336 == t328) = false := beq_eq_false_iff_ne.mpr c38
                        have c38b1 : (t336 != t328) = true := bne_iff_ne.mpr c38
                        obtain rfl := Option.some.inj H
                        go_wp2_with (first | ((with_reducible refine gate_callee (f := 35) rfl ?_); refine goesL_ (some 60) rfl rfl Tryd.func35 (by kernel_rfl) rfl #[.slice Ao24 t329.length co24, .int .i64 1] rfl (by (try simp only [List.map_toArray, List.map_cons, List.map_nil]); first | done | rfl | (simp only [List.length_drop, List.length_take]; rfl)) ?_; (with_reducible refine (laws_heldStringS.calls kj22 _ _ t329 1 t336 _ ?side1 ?side2 A35.out).mono ?_); (case side1 => repeat (first | exact (Kd.R_reads' HO_5.out).2.2 | (with_reducible refine Kd.C_alloc ?_ _) | (with_reducible refine Kd.C_drewN ?_ _) | (with_reducible refine Kd.C_drew ?_))); (case side2 => exact (Kd.R_reads' HO_5.out).2.1); rintro e w40 ⟨rfl, hb⟩; refine ⟨_, rfl, ?_⟩; have n0_ := Aside0.mk (Kd.R_below (by (with_reducible repeat (first | apply Kd.R_alloc | apply Kd.R_drewN | apply Kd.R_drew)); exact HO_5.out) hb); have n1_ := Aside0.mk (below_step (by repeat (first | (with_reducible first | exact HB.out | apply below_alloc | apply pw_below_drewN | apply below_drew1) | exact HB.out)) hb); clear HO_5; clear HB; have HO_5 := n0_; have HB := n1_; clear n0_ n1_; (try clear hb); (try clear hb2); (try clear hk); (try clear hi)))
                        go_ret
                        exact ⟨by first | rfl | (simp [errW_none, errW_some] <;> rfl) | (simp [*, errW_none, errW_some] <;> rfl), by repeat (first | (with_reducible first | exact HB.out | apply below_alloc | apply pw_below_drewN | apply below_drew1) | exact HB.out)⟩
            · rw [if_neg c21] at H
              have c21b0 : (t330 == t328) = false := beq_eq_false_iff_ne.mpr c21
              have c21b1 : (t330 != t328) = true := bne_iff_ne.mpr c21
              obtain rfl := Option.some.inj H
              obtain ⟨Ao41, co41, eo41⟩ := Kd.R_slice HO_5.out
              subst eo41
              go_wp2_with (first | ((with_reducible refine gate_callee (f := 34) rfl ?_); refine goesL_ (some 35) rfl rfl Tryd.func34 (by kernel_rfl) rfl #[.slice Ao41 t323.length co41, .int .i64 1] rfl (by (try simp only [List.map_toArray, List.map_cons, List.map_nil]); first | done | rfl | (simp only [List.length_drop, List.length_take]; rfl)) ?_; (with_reducible refine (laws_markStringS.calls kj4 (fun k_ => some k_ = (.slice Ao41 t323.length co41 : Value).ownBlock) (.slice Ao41 t323.length co41) t323 1 t328 t329 w _ ?side1 ?side2 A15.out).mono ?_); (case side1 => repeat (first | (with_reducible first | exact HB.out | apply below_alloc | apply pw_below_drewN | apply below_drew1) | exact HB.out)); (case side2 => exact Kd.R_tight rfl HO_5.out); rintro e w42 ⟨rfl, hy0, hb, hkp⟩; refine ⟨_, rfl, ?_⟩; have n0_ := Aside0.mk (Kd.R_mono (ok' := fun k_ => some k_ ≠ (.slice Ao41 t323.length co41 : Value).ownBlock) (Kd.R_keptB (HO_3.out) hkp (fun k_ hk_ hs_ => (hk_) hs_)) (fun k_ hk_ => hk_.1)); have n1_ := Aside0.mk (Kd.R_reok rfl hy0 (fun k_ e_ => HO_5.out.1 k_ e_)); have n2_ := Aside0.mk (hb); clear HO_3; clear HO_5; clear HB; have HO_3 := n0_; have HO_5 := n1_; have HB := n2_; clear n0_ n1_ n2_; (try clear hb); (try clear hkp); (try clear hy0)) | ((with_reducible refine gate_callee (f := 35) rfl ?_); refine goesL_ (some 38) rfl rfl Tryd.func35 (by kernel_rfl) rfl #[.slice Ao41 t329.length co41, .int .i64 1] rfl (by (try simp only [List.map_toArray, List.map_cons, List.map_nil]); first | done | (rw [show t329.length = t323.length from (Kd.R_reads' HO_5.out).1.symm] <;> rfl) | rfl | (simp only [List.length_drop, List.length_take]; rfl)) ?_; (with_reducible refine (laws_heldStringS.calls kj4 _ _ t329 1 t330 _ ?side1 ?side2 A16.out).mono ?_); (case side1 => repeat (first | exact (Kd.R_reads' HO_5.out).2.2 | (with_reducible refine Kd.C_alloc ?_ _) | (with_reducible refine Kd.C_drewN ?_ _) | (with_reducible refine Kd.C_drew ?_))); (case side2 => rw [show t329.length = t323.length from (Kd.R_reads' HO_5.out).1.symm]; exact (Kd.R_reads' HO_5.out).2.1); rintro e w43 ⟨rfl, hb⟩; refine ⟨_, rfl, ?_⟩; have n0_ := Aside0.mk (Kd.R_below (by (with_reducible repeat (first | apply Kd.R_alloc | apply Kd.R_drewN | apply Kd.R_drew)); exact HO_3.out) hb); have n1_ := Aside0.mk (Kd.R_below (by (with_reducible repeat (first | apply Kd.R_alloc | apply Kd.R_drewN | apply Kd.R_drew)); exact HO_5.out) hb); have n2_ := Aside0.mk (below_step (by repeat (first | (with_reducible first | exact HB.out | apply below_alloc | apply pw_below_drewN | apply below_drew1) | exact HB.out)) hb); clear HO_3; clear HO_5; clear HB; have HO_3 := n0_; have HO_5 := n1_; have HB := n2_; clear n0_ n1_ n2_; (try clear hb); (try clear hb2); (try clear hk); (try clear hi)))
              go_ret
              exact ⟨by first | rfl | (simp [errW_none, errW_some] <;> rfl) | (simp [*, errW_none, errW_some] <;> rfl), by repeat (first | (with_reducible first | exact HB.out | apply below_alloc | apply pw_below_drewN | apply below_drew1) | exact HB.out)⟩



end Go.Proofs.YtcbmccjbhfggjaaDoor.G

namespace Go.Proofs.YtcbmccjbhfggjaaDoor.Opn
open Go.RowKit Go.Proofs.YtcbmccjbhfggjaaDoorW.PrintWords
set_option linter.unusedVariables false
set_option linter.unusedSimpArgs false
variable {H : Type} {enc : TypeId × Value → H} {P : Program} {w : World} {base : Nat} {spare : Nat → Bool} {held : Bool}
def okInt (k : IntKind) (n : Int) : Prop := (Lit.int k n).wf = true
def okBool (_ : Bool) : Prop := True
def okStr (s : ByteArray) : Prop := s.size ≤ 9223372036854775807
def okList {α : Type} (p : α → Prop) (xs : List α) : Prop := xs.length ≤ 9223372036854775807 ∧ ∀ x ∈ xs, p x
theorem of_int {t : TypeId} {k : IntKind} {fuel : Nat} {cs : List Value} {x : DataW H × List MemPlace} (ht : P.underlying t = some (.int k)) (h : DataW.trod enc P w base spare held fuel t cs = some x) :
    ∃ n, (Kd.int k).K w n cs ∧ okInt k n := by
  obtain ⟨n, rfl, rfl, hw⟩ := DataW.trod_int ht h
  exact ⟨n, rfl, hw⟩
theorem of_bool {t : TypeId} {fuel : Nat} {cs : List Value} {x : DataW H × List MemPlace} (ht : P.underlying t = some .bool) (h : DataW.trod enc P w base spare held fuel t cs = some x) :
    ∃ n, Kd.bool.K w n cs ∧ okBool n := by
  cases fuel with
  | zero => simp [DataW.trod] at h
  | succ fuel =>
    match cs with
    | [] => simp [DataW.trod, ht] at h
    | [v] => cases v <;> simp [DataW.trod, ht] at h; exact ⟨_, rfl, trivial⟩
    | _ :: _ :: _ => simp [DataW.trod, ht] at h
theorem of_string {t : TypeId} {fuel : Nat} {cs : List Value} {x : DataW H × List MemPlace} (ht : P.underlying t = some .string) (h : DataW.trod enc P w base spare held fuel t cs = some x) :
    ∃ n, Kd.string.K w n cs ∧ okStr n := by
  cases fuel with
  | zero => simp [DataW.trod] at h
  | succ fuel =>
    match cs with
    | [] => simp [DataW.trod, ht] at h
    | [v] => cases v <;> simp [DataW.trod, ht] at h; exact ⟨_, rfl, h.1⟩
    | _ :: _ :: _ => simp [DataW.trod, ht] at h
theorem add_add (a : Addr) (k i : Nat) : (a.add k).add i = a.add (k + i) := by
  unfold Addr.add
  by_cases hk : k = 0 <;> by_cases hi : i = 0 <;> simp [hk, hi, Nat.add_assoc]
theorem of_slice {α : Type} {d : Kd α} {ok : α → Prop} {t e : TypeId} {fuel : Nat} {cs : List Value} {x : DataW H × List MemPlace} (ht : P.underlying t = some (.slice e)) (hc : P.cellsOf e = d.sz)
    (ih : ∀ n cs x, DataW.trod enc P w base spare held n e cs = some x → ∃ y, d.K w y cs ∧ ok y) (h : DataW.trod enc P w base spare held fuel t cs = some x) :
    ∃ ys, (Kd.slice e d).K w ys cs ∧ okList ok ys := by
  rcases Go.Deep.open_slice ht h with ⟨rfl, _⟩ | ⟨a, len, cap, m, n, D, Pl, rfl, hb, hl, hm, hmm, hxe, hel⟩
  · exact ⟨[], ⟨none, 0, rfl, by simp, rfl, by simp, fun h => absurd h (by simp)⟩, by simp, fun x hx => by simp at hx⟩
  · have hlm : len ≤ m := by rw [hmm]; split <;> omega
    have hm' : len ≤ 9223372036854775807 := by unfold maxLen at hm; omega
    have key : ∀ i, i < len → ∃ cs' y, w.cells? base (a.add (i * P.cellsOf e)) (P.cellsOf e) = some cs' ∧ d.K w y cs' ∧ ok y := by
      intro i hi
      obtain ⟨cs', h1, h2⟩ := hel i (by omega)
      obtain ⟨y, hy, ho⟩ := ih _ _ _ h2
      exact ⟨cs', y, h1, hy, ho⟩
    obtain ⟨ys, hlen, hys⟩ : ∃ ys : List α, ys.length = len ∧ ∀ i (hi : i < ys.length), ∃ cs', w.cells? base (a.add (i * P.cellsOf e)) (P.cellsOf e) = some cs' ∧ d.K w ys[i] cs' ∧ ok ys[i] := by
      clear h hxe hel hmm hlm hl hm hm'
      induction len with
      | zero => exact ⟨[], rfl, fun i hi => by simp at hi⟩
      | succ len ihl =>
        obtain ⟨ys, h1, h2⟩ := ihl (fun i hi => key i (by omega))
        obtain ⟨cs', y, h3, h4, h5⟩ := key len (by omega)
        refine ⟨ys ++ [y], by simp [h1], fun i hi => ?_⟩
        by_cases hi' : i < ys.length
        · rw [List.getElem_append_left hi']; exact h2 i hi'
        · have : i = len := by simp at hi; omega
          subst this
          refine ⟨cs', h3, ?_, ?_⟩ <;> rw [List.getElem_append_right (by omega)] <;> simpa [h1]
    refine ⟨ys, ⟨some a, cap, by rw [hlen], by omega, rfl, by omega, fun _ => ⟨a, rfl, fun j p hj => ?_⟩⟩, by omega, fun y hy => ?_⟩
    · obtain ⟨hj', rfl⟩ := List.getElem?_eq_some_iff.1 hj
      obtain ⟨cs', h1, h2, _⟩ := hys j hj'
      rw [hc] at h1
      refine ⟨cs', d.K_len h2, h2, fun i u hu => ?_⟩
      obtain ⟨_, hl', hcell⟩ := World.cells?_some h1
      have hi : i < d.sz := by have := (List.getElem?_eq_some_iff.1 hu).1; omega
      have := hcell i hi
      rw [hu, add_add] at this
      exact this
    · obtain ⟨i, hi, rfl⟩ := List.getElem_of_mem hy
      obtain ⟨_, _, _, h3⟩ := hys i hi
      exact h3
theorem mapM_all {α β : Type} {f : α → Option β} : ∀ {l : List α} {ys : List β}, l.mapM f = some ys → ∀ x ∈ l, ∃ y, f x = some y
  | [], _, _, x, hx => by simp at hx
  | a :: l, ys, h, x, hx => by
    rw [List.mapM_cons] at h
    simp only [Option.bind_eq_bind, Option.bind_eq_some_iff] at h
    obtain ⟨y, h1, ys', h2, _⟩ := h
    rcases List.mem_cons.1 hx with rfl | hx
    · exact ⟨y, h1⟩
    · exact mapM_all h2 x hx
theorem of_fields {t : TypeId} {fs : Array Field} {fuel : Nat} {cs : List Value} {x : DataW H × List MemPlace} (ht : P.underlying t = some (.struct fs)) (h : DataW.trod enc P w base spare held fuel t cs = some x) :
    cs.length = P.cellsOf t ∧ ∃ n, ∀ f ∈ fs.toList, ∃ y, DataW.trod enc P w base spare held n f.type ((cs.drop f.offset).take (P.cellsOf f.type)) = some y := by
  cases fuel with
  | zero => simp [DataW.trod] at h
  | succ fuel =>
    simp only [DataW.trod, ht] at h
    split at h
    · rename_i hl
      refine ⟨hl, fuel, ?_⟩
      simp only [Option.map_eq_some_iff] at h
      obtain ⟨ys, h1, _⟩ := h
      exact mapM_all h1
    · simp at h
theorem pair_K {α β : Type} {a : Kd α} {b : Kd β} {x : α} {y : β} {cs : List Value} {n : Nat} (off : Nat) (hn : a.sz = n) (h0 : a.K w x ((cs.drop off).take n)) (h1 : b.K w y (cs.drop (off + n))) : (Kd.pair a b).K w (x, y) (cs.drop off) :=
  ⟨_, _, by rw [← List.drop_drop]; exact (List.take_append_drop n (cs.drop off)).symm, h0, h1⟩
theorem last_K {α : Type} {a : Kd α} {x : α} {cs : List Value} {n : Nat} (off : Nat) (hl : cs.length = off + n) (h0 : a.K w x ((cs.drop off).take n)) : a.K w x (cs.drop off) := by
  rwa [List.take_of_length_le (by rw [List.length_drop]; omega)] at h0
end Go.Proofs.YtcbmccjbhfggjaaDoor.Opn

namespace Go.Proofs.YtcbmccjbhfggjaaDoor.G
open Go.Proofs.YtcbmccjbhfggjaaDoor.Opn
open Go.RowKit Go.Proofs.YtcbmccjbhfggjaaDoorW.PrintWords Go.Proofs.YtcbmccjbhfggjaaDoorW.PrintLast Go.Proofs.YtcbmccjbhfggjaaDoorW.PrintMore
open Go.Proofs.YtcbmccjbhfggjaaDoor.Gl Go.Proofs.YtcbmccjbhfggjaaDoor.Ext
attribute [local go_sem] max2_int min2_int max_two min_two max_three min_three max_four min_four   -- for this text's walks alone
set_option linter.unusedVariables false
set_option linter.unusedSimpArgs false

theorem cells3 : Tryd.prog.cellsOf 3 = 1 := by kernel_rfl
theorem cells4 : Tryd.prog.cellsOf 4 = 1 := by kernel_rfl
theorem cells26 : Tryd.prog.cellsOf 26 = 4 := by kernel_rfl
def ok26 (y : S26) : Prop := okInt .i64 y.f0 ∧ okInt .i64 y.f1 ∧ okInt .i64 y.f2 ∧ okBool y.f3
theorem of_T26 {H : Type} {enc : TypeId × Value → H} {w : World} {base : Nat} {spare : Nat → Bool} {held : Bool} {fuel : Nat} {cs : List Value} {x : DataW H × List MemPlace} (h : DataW.trod enc Tryd.prog w base spare held fuel 26 cs = some x) : ∃ y : S26, k26.K w y cs ∧ ok26 y := by
  obtain ⟨hl, n, hf⟩ := of_fields Tryd.underlying26 h
  rw [cells26] at hl
  simp only [List.mem_cons, List.not_mem_nil, or_false, forall_eq_or_imp, forall_eq] at hf
  obtain ⟨⟨y0, f0⟩, ⟨y1, f1⟩, ⟨y2, f2⟩, ⟨y3, f3⟩⟩ := hf
  rw [cells3] at f0
  obtain ⟨x0, g0, b0⟩ := of_int Tryd.underlying3 f0
  rw [cells3] at f1
  obtain ⟨x1, g1, b1⟩ := of_int Tryd.underlying3 f1
  rw [cells3] at f2
  obtain ⟨x2, g2, b2⟩ := of_int Tryd.underlying3 f2
  rw [cells4] at f3
  obtain ⟨x3, g3, b3⟩ := of_bool Tryd.underlying4 f3
  exact ⟨⟨x0, x1, x2, x3⟩, (pair_K (n := 1) 0 rfl g0 (pair_K (n := 1) 1 rfl g1 (pair_K (n := 1) 2 rfl g2 (last_K (n := 1) 3 hl g3)))), ⟨b0, b1, b2, b3⟩⟩
end Go.Proofs.YtcbmccjbhfggjaaDoor.G

namespace Go.Proofs.YtcbmccjbhfggjaaDoor.G
open Go.Proofs.YtcbmccjbhfggjaaDoor.Opn
open Go.RowKit Go.Proofs.YtcbmccjbhfggjaaDoorW.PrintWords Go.Proofs.YtcbmccjbhfggjaaDoorW.PrintLast Go.Proofs.YtcbmccjbhfggjaaDoorW.PrintMore
open Go.Proofs.YtcbmccjbhfggjaaDoor.Gl Go.Proofs.YtcbmccjbhfggjaaDoor.Ext
attribute [local go_sem] max2_int min2_int max_two min_two max_three min_three max_four min_four   -- for this text's walks alone
set_option linter.unusedVariables false
set_option linter.unusedSimpArgs false

def laws_FnExactTitleWords.Pur : Prop := ∀ (a0 : ByteArray), okStr a0 → ∃ k, laws_FnExactTitleWords.f k a0 = some true
theorem laws_FnExactTitleWords.wlk (P : laws_FnExactTitleWords.Pur) (a0 : ByteArray) (w : World)  {gF1 gF2 gF3 : Bool} (hG : GL gF1 gF2 gF3 w) (ba0 : okStr a0) :
    Calls Tryd.prog 10 #[.string a0] w fun e w' => e = .returned (.bool true) ∧ Below w.heap.size w w' := by
  obtain ⟨k, h⟩ := P a0 ba0
  refine (laws_FnExactTitleWords.calls k a0 true w hG  h).mono ?_
  rintro e w' ⟨rfl, hd⟩
  exact ⟨rfl, hd⟩

end Go.Proofs.YtcbmccjbhfggjaaDoor.G

namespace Go.Proofs.YtcbmccjbhfggjaaDoor.B
open Go.RowKit Go.Proofs.YtcbmccjbhfggjaaDoorW.PrintWords Go.Proofs.YtcbmccjbhfggjaaDoorW.PrintLast
set_option linter.unusedVariables false
set_option linter.unusedSimpArgs false
theorem w64 {x : Int} (h : -9223372036854775808 ≤ x) (h' : x ≤ 9223372036854775807) : wrap64 x = x := by unfold wrap64; omega
theorem ev_pos {α : Type} {c : Prop} [Decidable c] {g f : Nat → Option α} {r : α} (h : c) (e : Ev g r) : Ev (fun k => if c then g k else f k) r := Ev.congr (fun _ => if_pos h) e
theorem ev_neg {α : Type} {c : Prop} [Decidable c] {g f : Nat → Option α} {r : α} (h : ¬ c) (e : Ev f r) : Ev (fun k => if c then g k else f k) r := Ev.congr (fun _ => if_neg h) e
theorem ev_ite {α : Type} {c : Prop} [Decidable c] {g f : Nat → Option α} {a b : α} (h : c → Ev g a) (h' : ¬ c → Ev f b) : Ev (fun k => if c then g k else f k) (if c then a else b) := by
  by_cases hc : c
  · rw [if_pos hc]; exact ev_pos hc (h hc)
  · rw [if_neg hc]; exact ev_neg hc (h' hc)
theorem ev_bind0 {α β : Type} {o : Option α} {f : Nat → α → Option β} {a : α} {r : β} (h : o = some a) (k : Ev (fun n => f n a) r) : Ev (fun n => o.bind (f n)) r := Ev.congr (fun _ => by rw [h]; rfl) k
theorem ev_uniq {α : Type} {g : Nat → Option α} {a b : α} (h : Ev g a) (h' : Ev g b) : a = b := by
  obtain ⟨K, h⟩ := h
  obtain ⟨K', h'⟩ := h'
  exact Option.some.inj ((h _ (Nat.le_max_left K K')).symm.trans (h' _ (Nat.le_max_right K K')))
theorem ev_eq {α : Type} {g : Nat → Option α} {a b : α} (h : Ev g a) (e : a = b) : Ev g b := e ▸ h
abbrev L (s : ByteArray) : List UInt8 := s.data.toList
def mkB (l : List UInt8) : ByteArray := ⟨l.toArray⟩
theorem L_mk (l : List UInt8) : L (mkB l) = l := by simp [mkB]
theorem mk_L (s : ByteArray) : mkB (L s) = s := by cases s; simp [mkB, L]
theorem L_inj {a b : ByteArray} (h : L a = L b) : a = b := by rw [← mk_L a, h, mk_L]
theorem L_iff {a b : ByteArray} : a = b ↔ L a = L b := ⟨fun h => by rw [h], L_inj⟩
theorem L_len (s : ByteArray) : (L s).length = s.size := (Lib.size_eq s).symm
theorem size_mk (l : List UInt8) : (mkB l).size = l.length := by rw [← L_len, L_mk]
theorem toList_L (s : ByteArray) : s.toList = L s := Lib.toList_data s
theorem L_extract (s : ByteArray) (a b : Nat) : L (s.extract a b) = ((L s).drop a).take (b - a) := Lib.extract_data s a b
theorem L_append (a b : ByteArray) : L (a ++ b) = L a ++ L b := by simp [L, ByteArray.data_append]
theorem size_append (a b : ByteArray) : (a ++ b).size = a.size + b.size := by rw [← L_len, L_append, List.length_append, L_len, L_len]
theorem mk_append (a b : List UInt8) : mkB a ++ mkB b = mkB (a ++ b) := L_inj (by rw [L_append, L_mk, L_mk, L_mk])
theorem bt_get (s : ByteArray) (i : Nat) (h : i < s.size) : bt s (i : Int) = (((L s)[i]'(by rw [L_len]; exact h)).toNat : Int) := by
  unfold bt
  simp only [Int.toNat_natCast, h, dif_pos]
  rfl
theorem bt_getD (s : ByteArray) (i : Nat) (h : i < s.size) : bt s (i : Int) = (((L s).getD i 0).toNat : Int) := by
  rw [bt_get s i h, List.getD_eq_getElem?_getD, List.getElem?_eq_getElem (by rw [L_len]; exact h)]; rfl
theorem size_pos_iff (s : ByteArray) : s.size = 0 ↔ L s = [] := by rw [← L_len, List.length_eq_zero_iff]
theorem u8_inj {a b : UInt8} (h : (a.toNat : Int) = (b.toNat : Int)) : a = b := UInt8.toNat_inj.1 (by omega)
theorem toList_eq_iff {a b : ByteArray} : a.toList = b.toList ↔ a = b := by rw [toList_L, toList_L, L_iff]
theorem mk_eq_iff {a b : List UInt8} : mkB a = mkB b ↔ a = b := ⟨fun h => by have := congrArg L h; rwa [L_mk, L_mk] at this, fun h => by rw [h]⟩
end Go.Proofs.YtcbmccjbhfggjaaDoor.B

namespace Go.Proofs.YtcbmccjbhfggjaaDoor.B
open Go.RowKit Go.Proofs.YtcbmccjbhfggjaaDoorW.PrintWords Go.Proofs.YtcbmccjbhfggjaaDoorW.PrintLast
set_option linter.unusedVariables false
set_option linter.unusedSimpArgs false
/-- What stands ahd of the first part. -/
def ahd (seg : List UInt8) : List (List UInt8) → List (List UInt8)
  | [] => [seg]
  | h :: t => (seg ++ h) :: t
/-- The parts of a list between bytes b. -/
def spl (b : UInt8) : List UInt8 → List (List UInt8)
  | [] => [[]]
  | c :: cs => if c = b then [] :: spl b cs else ahd [c] (spl b cs)
theorem spl_nil (b : UInt8) : spl b [] = [[]] := rfl
theorem spl_cons (b c : UInt8) (cs : List UInt8) : spl b (c :: cs) = if c = b then [] :: spl b cs else ahd [c] (spl b cs) := rfl
theorem spl_ne (b : UInt8) (l : List UInt8) : spl b l ≠ [] := by
  cases l with
  | nil => simp [spl]
  | cons c cs => unfold spl; split <;> simp; unfold ahd; split <;> simp
theorem ahd_nil (p : List (List UInt8)) (h : p ≠ []) : ahd [] p = p := by cases p <;> simp_all [ahd]
theorem ahd_ahd (a b : List UInt8) (p : List (List UInt8)) : ahd a (ahd b p) = ahd (a ++ b) p := by cases p <;> simp [ahd]
theorem spl_length (b : UInt8) (l : List UInt8) : (spl b l).length ≤ l.length + 1 := by
  induction l with
  | nil => simp [spl]
  | cons c cs ih =>
    unfold spl
    split
    · simp; omega
    · cases h : spl b cs with
      | nil => exact absurd h (spl_ne b cs)
      | cons p q => rw [h] at ih; simp [ahd] at ih ⊢; omega
theorem spl_step (b : UInt8) (l : List UInt8) (from_ i : Nat) (hi : i < l.length) (hf : from_ ≤ i) :
    ahd ((l.drop from_).take (i - from_)) (spl b (l.drop i)) =
      if l[i] = b then ((l.drop from_).take (i - from_)) :: spl b (l.drop (i + 1)) else ahd ((l.drop from_).take (i + 1 - from_)) (spl b (l.drop (i + 1))) := by
  rw [List.drop_eq_getElem_cons hi, spl_cons]
  by_cases h : l[i] = b
  · rw [if_pos h, if_pos h]
    simp [ahd]
  · rw [if_neg h, if_neg h]
    have e : (l.drop from_).take (i + 1 - from_) = (l.drop from_).take (i - from_) ++ [l[i]] := by
      rw [show i + 1 - from_ = (i - from_) + 1 by omega, List.take_succ_eq_append_getElem (by rw [List.length_drop]; omega)]
      congr 2
      rw [List.getElem_drop]
      congr 1
      omega
    rw [e]
    exact ahd_ahd _ _ _
end Go.Proofs.YtcbmccjbhfggjaaDoor.B

namespace Go.Proofs.YtcbmccjbhfggjaaDoor.B
open Go.RowKit Go.Proofs.YtcbmccjbhfggjaaDoorW.PrintWords Go.Proofs.YtcbmccjbhfggjaaDoorW.PrintLast
set_option linter.unusedVariables false
set_option linter.unusedSimpArgs false
theorem spl_none (c : UInt8) : ∀ l : List UInt8, (∀ k : Nat, l[k]? ≠ some c) → spl c l = [l]
  | [], _ => rfl
  | a :: l, h => by
    have h0 : a ≠ c := fun e => h 0 (by simp [e])
    rw [spl_cons, if_neg h0, spl_none c l (fun k => by simpa using h (k + 1))]; rfl
theorem spl_first (c : UInt8) : ∀ (i : Nat) (l : List UInt8), l[i]? = some c → (∀ k : Nat, k < i → l[k]? ≠ some c) → spl c l = l.take i :: spl c (l.drop (i + 1))
  | 0, [], h, _ => by simp at h
  | 0, a :: l, h, _ => by
    have h0 : a = c := by simpa using h
    rw [spl_cons, if_pos h0]; rfl
  | i + 1, [], h, _ => by simp at h
  | i + 1, a :: l, h, hk => by
    have h0 : a ≠ c := fun e => hk 0 (by omega) (by simp [e])
    rw [spl_cons, if_neg h0, spl_first c i l (by simpa using h) (fun k hk' => by simpa using hk (k + 1) (by omega))]
    rfl
theorem indexB_one (s : ByteArray) (c : UInt8) : Lib.indexB s (mkB [c]) = Lib.indexByte (L s) c := by
  unfold Lib.indexB
  have : (mkB [c]).data.toList = [c] := L_mk [c]
  rw [this]
  exact Lib.index_one _ _
theorem splitB_spl (c : UInt8) (n : Nat) : ∀ s : ByteArray, s.size ≤ n → (Lib.splitB (mkB [c]) 0 (Lib.countB s (mkB [c])) s).map L = spl c (L s) := by
  have h1 : (mkB [c]).size = 1 := by rw [size_mk]; rfl
  induction n with
  | zero =>
    intro s hs
    rcases Lib.indexB_cases s (mkB [c]) with hm | ⟨i, hi, hr⟩
    · rw [Lib.splitB_miss _ _ _ _ hm]
      have := Lib.indexByte_none (by rw [← indexB_one]; exact hm : Lib.indexByte (L s) c = -1)
      rw [spl_none c (L s) this]; rfl
    · omega
  | succ n ih =>
    intro s hs
    rcases Lib.indexB_cases s (mkB [c]) with hm | ⟨i, hi, hr⟩
    · rw [Lib.splitB_miss _ _ _ _ hm]
      have := Lib.indexByte_none (by rw [← indexB_one]; exact hm : Lib.indexByte (L s) c = -1)
      rw [spl_none c (L s) this]; rfl
    · rw [h1] at hr
      have hc := Lib.countB_hit s (mkB [c]) i (by omega) hi
      rw [h1] at hc
      rw [hc, Nat.add_comm 1, Lib.splitB_hit _ _ _ _ i hi, h1, List.map_cons, ih (s.extract (i + 1) s.size) (by rw [ByteArray.size_extract]; omega)]
      obtain ⟨a, b⟩ := Lib.indexByte_some (by rw [← indexB_one]; exact hi : Lib.indexByte (L s) c = i)
      rw [spl_first c i (L s) a b, L_extract, L_extract]
      congr 1
      congr 1
      rw [List.take_of_length_le (by rw [List.length_drop, L_len]; omega)]
theorem splitB_eq (c : UInt8) (s : ByteArray) : Lib.splitB (mkB [c]) 0 (Lib.countB s (mkB [c])) s = (spl c (L s)).map mkB := by
  rw [← splitB_spl c s.size s (Nat.le_refl _), List.map_map]
  have : (mkB ∘ L) = id := by funext x; exact mk_L x
  rw [this, List.map_id]
end Go.Proofs.YtcbmccjbhfggjaaDoor.B

namespace Go.Proofs.YtcbmccjbhfggjaaDoor.B
open Go.RowKit Go.Proofs.YtcbmccjbhfggjaaDoorW.PrintWords Go.Proofs.YtcbmccjbhfggjaaDoorW.PrintLast
set_option linter.unusedVariables false
set_option linter.unusedSimpArgs false
theorem ix_nn (l : List UInt8) (b : UInt8) : 0 ≤ Lib.indexByte l b ↔ b ∈ l := by
  have h := Lib.indexByte_ge l b
  by_cases e : Lib.indexByte l b = -1
  · have n := Lib.indexByte_none e
    refine ⟨fun h => by omega, fun h => ?_⟩
    obtain ⟨i, hi, rfl⟩ := List.getElem_of_mem h
    exact absurd (List.getElem?_eq_getElem hi) (n i)
  · obtain ⟨o, ho⟩ : ∃ o : Nat, Lib.indexByte l b = o := ⟨(Lib.indexByte l b).toNat, by omega⟩
    obtain ⟨h1, _⟩ := Lib.indexByte_some ho
    exact ⟨fun _ => List.mem_of_getElem? h1, fun _ => by omega⟩
theorem contains_one (l : List UInt8) (b : UInt8) : Lib.contains l [b] = decide (b ∈ l) := by
  unfold Lib.contains
  rw [Lib.index_one, decide_eq_decide]
  exact ix_nn l b
theorem cut_miss (l : List UInt8) (b : UInt8) (h : b ∉ l) : Lib.cut l [b] = (l, [], false) := by
  unfold Lib.cut
  rw [Lib.index_one, if_neg (fun e => h ((ix_nn l b).1 e))]
/-- At a byte that stands there: the first part, and what follows. -/
theorem cut_hit (l : List UInt8) (b : UInt8) (h : b ∈ l) : ∃ i : Nat, i < l.length ∧ Lib.cut l [b] = (l.take i, l.drop (i + 1), true) ∧ spl b l = l.take i :: spl b (l.drop (i + 1)) ∧ b ∉ l.take i ∧ l = l.take i ++ b :: l.drop (i + 1) := by
  have hn := (ix_nn l b).2 h
  obtain ⟨o, ho⟩ : ∃ o : Nat, Lib.indexByte l b = o := ⟨(Lib.indexByte l b).toNat, by omega⟩
  obtain ⟨h1, h2⟩ := Lib.indexByte_some ho
  have hlt : o < l.length := by
    by_cases c : o < l.length
    · exact c
    · rw [List.getElem?_eq_none (by omega)] at h1; cases h1
  refine ⟨o, hlt, ?_, spl_first b o l h1 h2, ?_, ?_⟩
  · unfold Lib.cut
    rw [Lib.index_one, ho, if_pos (by omega)]; simp
  · intro hm
    obtain ⟨i, hi, e⟩ := List.getElem_of_mem hm
    rw [List.length_take] at hi
    refine h2 i (by omega) ?_
    rw [List.getElem_take] at e
    rw [List.getElem?_eq_getElem (by omega), e]
  · rw [List.getElem?_eq_getElem hlt] at h1
    have e : l[o] = b := Option.some.inj h1
    rw [← e, ← List.drop_eq_getElem_cons hlt, List.take_append_drop]
theorem spl_miss (l : List UInt8) (b : UInt8) (h : b ∉ l) : spl b l = [l] := spl_none b l (fun k e => h (List.mem_of_getElem? e))
end Go.Proofs.YtcbmccjbhfggjaaDoor.B

namespace Go.Proofs.YtcbmccjbhfggjaaDoor.G
open Go.RowKit Go.Proofs.YtcbmccjbhfggjaaDoorW.PrintWords Go.Proofs.YtcbmccjbhfggjaaDoorW.PrintLast Go.Proofs.YtcbmccjbhfggjaaDoorW.PrintMore
open Go.Proofs.YtcbmccjbhfggjaaDoor.Gl Go.Proofs.YtcbmccjbhfggjaaDoor.Ext
attribute [local go_sem] max2_int min2_int max_two min_two max_three min_three max_four min_four   -- for this text's walks alone
set_option linter.unusedVariables false
set_option linter.unusedSimpArgs false

/-! ### spec_IsValidTitle: function 27 -/
def spec_IsValidTitle.f (k : Nat) (a0 : ByteArray) : Option (Bool) := (spec_l6Good.f k a0).bind fun t226 => (some t226)
theorem spec_IsValidTitle.mono : ∀ a0 k, LeO (spec_IsValidTitle.f k a0) (spec_IsValidTitle.f (k + 1) a0) := by
  intro a0 k
  unfold spec_IsValidTitle.f
  repeat' first
      | (with_reducible exact spec_l6Good.mono _ _)
      | (with_reducible exact LeO.refl _)
      | (with_reducible exact LeO.none _)
      | (with_reducible refine LeO.ite ?_ ?_)
      | (with_reducible refine LeO.bind ?_ (fun _ => ?_))
      | exact spec_l6Good.mono _ _
      | exact LeO.none _
      | refine LeO.ite ?_ ?_
      | refine LeO.bind ?_ (fun _ => ?_)
set_option maxHeartbeats 8000000 in
set_option maxRecDepth 100000 in
theorem spec_IsValidTitle.calls (k : Nat) (a0 : ByteArray) (r : Bool) (w : World) (h : spec_IsValidTitle.f k a0 = some r) :
    Calls Tryd.prog 27 #[.string a0] w fun e w' => e = .returned (.bool r) ∧ Drawn0 w w' := by
  have H : ((spec_l6Good.f k a0).bind fun t226 => (some t226)) = some r := h
  clear h
  replace H := Option.bind_eq_some_iff.mp H
  obtain ⟨t226, A20, H⟩ := H
  replace H : (some t226) = some r := H
  have A2 := Aside0.mk A20
  clear A20
  obtain rfl := Option.some.inj H
  go_enter Tryd.func27, Tryd.ntmps27
  go_wp2_with (first | ((with_reducible refine gate_callee (f := 72) rfl ?_); refine goesL_ (some 4) rfl rfl Tryd.func72 (by kernel_rfl) rfl #[.string a0] rfl (by (try simp only [List.map_toArray, List.map_cons, List.map_nil]); first | done | rfl | (simp only [List.length_drop, List.length_take]; rfl)) ?_; (with_reducible refine (spec_l6Good.calls k a0 t226 _ A2.out).mono ?_); rintro e w' ⟨rfl, ⟨nd, rfl⟩⟩; refine ⟨_, rfl, ?_⟩))
  go_ret
  exact ⟨by first | rfl | (simp; done) | (simp [*]; done), by repeat (first | exact Drawn0.refl _ | apply Drawn0.step)⟩

end Go.Proofs.YtcbmccjbhfggjaaDoor.G

namespace Go.Proofs.YtcbmccjbhfggjaaDoor.G
open Go.RowKit Go.Proofs.YtcbmccjbhfggjaaDoorW.PrintWords Go.Proofs.YtcbmccjbhfggjaaDoorW.PrintLast Go.Proofs.YtcbmccjbhfggjaaDoor.B
set_option linter.unusedVariables false
set_option linter.unusedSimpArgs false
def rngD (c : Int) : Bool := decide (32 ≤ c) && decide (c ≤ 126)
def inT (n : Nat) : Bool := decide (1 ≤ n) && decide (n ≤ 100)
theorem inT_iff {n : Nat} : inT n = true ↔ 1 ≤ n ∧ n ≤ 100 := by simp [inT]
theorem in100 (n : Nat) : (if (n : Int) ≥ 1 then some (decide ((n : Int) ≤ 100)) else some false) = some (inT n) := by
  unfold inT
  by_cases h : 1 ≤ n
  · rw [if_pos (by omega)]
    congr 1
    rw [decide_eq_true h, Bool.true_and, decide_eq_decide]; omega
  · rw [if_neg (by omega)]; simp [h]
def rngF (s : ByteArray) : Nat → Nat → Bool
  | 0, _ => true
  | d + 1, i => rngD (bt s (i : Int)) && rngF s d (i + 1)
def dblAt (s : ByteArray) (i : Nat) : Bool := decide (0 < i) && (decide (bt s (i : Int) = 32) && decide (bt s ((i : Int) - 1) = 32))
def dblF (s : ByteArray) : Nat → Nat → Bool
  | 0, _ => true
  | d + 1, i => !dblAt s i && dblF s d (i + 1)
def brcF (s : ByteArray) : Nat → Nat → Int → Bool
  | 0, _, op => decide (op < 0)
  | d + 1, i, op =>
    if bt s (i : Int) = 123 then (if op ≥ 0 then false else brcF s d (i + 1) (i : Int))
    else if bt s (i : Int) = 125 then (if op < 0 then false else if op = (i : Int) - 1 then false else brcF s d (i + 1) (-1))
    else brcF s d (i + 1) op
theorem spec_step (s : ByteArray) (i k : Nat) (op : Int) (hi : i < s.size) (hs : s.size ≤ 100) :
    spec_l6Good.l0 (k + 3) s op (i : Int) = if rngD (bt s (i : Int)) = true then (if dblAt s i = true then some false else
      (if bt s (i : Int) = 123 then (if op ≥ 0 then some false else spec_l6Good.l0 k s (i : Int) ((i + 1 : Nat) : Int))
      else if bt s (i : Int) = 125 then (if op < 0 then some false else if op = (i : Int) - 1 then some false else spec_l6Good.l0 k s (-1) ((i + 1 : Nat) : Int))
      else spec_l6Good.l0 k s op ((i + 1 : Nat) : Int))) else some false := by
  have hw : wrap64 ((i : Int) + 1) = ((i + 1 : Nat) : Int) := by rw [w64 (by omega) (by omega)]; rfl
  have hw' : wrap64 ((i : Int) - 1) = (i : Int) - 1 := w64 (by omega) (by omega)
  have a1 : (i : Int) < (s.size : Int) := by omega
  have a2 : (0 : Int) ≤ (i : Int) := by omega
  have j3 : ∀ b, spec_l6Good.j3 (k + 1) s op (i : Int) b = if b = true then some false else
      (if bt s (i : Int) = 123 then (if op ≥ 0 then some false else spec_l6Good.l0 k s (i : Int) ((i + 1 : Nat) : Int))
      else if bt s (i : Int) = 125 then (if op < 0 then some false else if op = (i : Int) - 1 then some false else spec_l6Good.l0 k s (-1) ((i + 1 : Nat) : Int))
      else spec_l6Good.l0 k s op ((i + 1 : Nat) : Int)) := by
    intro b
    simp only [spec_l6Good.j3, if_pos a1, if_pos a2, hw, hw']
  have j2 : ∀ b, spec_l6Good.j2 (k + 2) s op (i : Int) b = if b = true then some false else spec_l6Good.j3 (k + 1) s op (i : Int) (dblAt s i) := by
    intro b
    simp only [spec_l6Good.j2, if_pos a1, if_pos a2, hw']
    cases b with
    | true => simp
    | false =>
      have nf : ¬ (false = true) := by simp
      rw [if_neg nf, if_neg nf]
      unfold dblAt
      by_cases c : 0 < i
      · have b1 : (0 : Int) ≤ (i : Int) - 1 := by omega
        have b2 : (i : Int) - 1 < (s.size : Int) := by omega
        rw [if_pos (show (i : Int) > 0 by omega), if_pos b1, if_pos b2]
        by_cases e : bt s (i : Int) = 32
        · rw [if_pos e]; congr 1; simp [c, e]; rfl
        · rw [if_neg e]; congr 1; simp [e]
      · rw [if_neg (show ¬ (i : Int) > 0 by omega)]; congr 1; simp [c]
  simp only [spec_l6Good.l0, if_pos a1, if_pos a2]
  unfold rngD
  have nf : ¬ (false = true) := by simp
  by_cases c1 : bt s (i : Int) < 32
  · have e : (decide (32 ≤ bt s (i : Int)) && decide (bt s (i : Int) ≤ 126)) = false := by rw [decide_eq_false (show ¬ 32 ≤ bt s (i : Int) by omega)]; rfl
    rw [if_pos c1, j2, if_pos rfl, e, if_neg nf]
  · rw [if_neg c1]
    by_cases c2 : bt s (i : Int) > 126
    · have e : (decide (32 ≤ bt s (i : Int)) && decide (bt s (i : Int) ≤ 126)) = false := by rw [decide_eq_false (show ¬ bt s (i : Int) ≤ 126 by omega)]; simp
      rw [decide_eq_true c2, j2, if_pos rfl, e, if_neg nf]
    · have e : (decide (32 ≤ bt s (i : Int)) && decide (bt s (i : Int) ≤ 126)) = true := by rw [decide_eq_true (show 32 ≤ bt s (i : Int) by omega), decide_eq_true (show bt s (i : Int) ≤ 126 by omega)]; rfl
      rw [decide_eq_false c2, j2, if_neg nf, j3, e, if_pos rfl]
theorem spec_title_loop (s : ByteArray) (hs : s.size ≤ 100) (d : Nat) : ∀ (i : Nat) (op : Int), i ≤ s.size → s.size - i = d →
    Ev (fun k => spec_l6Good.l0 k s op (i : Int)) (rngF s d i && (dblF s d i && brcF s d i op)) := by
  induction d with
  | zero =>
    intro i op h1 hd
    refine Ev.step (f := fun _ => some (decide (op < 0))) (fun k => ?_) (ev_eq (Ev.now _) (by simp [rngF, dblF, brcF]))
    simp only [spec_l6Good.l0]; rw [if_neg (by omega)]
  | succ d ih =>
    intro i op h1 hd
    have hi : i < s.size := by omega
    have st : ∀ v, Ev (fun k => if rngD (bt s (i : Int)) = true then (if dblAt s i = true then some false else
      (if bt s (i : Int) = 123 then (if op ≥ 0 then some false else spec_l6Good.l0 k s (i : Int) ((i + 1 : Nat) : Int))
      else if bt s (i : Int) = 125 then (if op < 0 then some false else if op = (i : Int) - 1 then some false else spec_l6Good.l0 k s (-1) ((i + 1 : Nat) : Int))
      else spec_l6Good.l0 k s op ((i + 1 : Nat) : Int))) else some false) v → Ev (fun k => spec_l6Good.l0 k s op (i : Int)) v := by
      rintro v ⟨K, hK⟩
      refine ⟨K + 3, fun k hk => ?_⟩
      obtain ⟨k', rfl⟩ : ∃ k', k = k' + 3 := ⟨k - 3, by omega⟩
      exact (spec_step s i k' op hi hs).trans (hK k' (by omega))
    refine st _ ?_
    show Ev _ ((rngD (bt s (i : Int)) && rngF s d (i + 1)) && ((!dblAt s i && dblF s d (i + 1)) && brcF s (d + 1) i op))
    cases r : rngD (bt s (i : Int)) with
    | false => exact ev_neg (by simp) (ev_eq (Ev.now _) (by simp))
    | true =>
      refine ev_pos rfl ?_
      cases b : dblAt s i with
      | true => exact ev_pos rfl (ev_eq (Ev.now _) (by simp))
      | false =>
        refine ev_neg (by simp) ?_
        unfold brcF
        by_cases c1 : bt s (i : Int) = 123
        · rw [if_pos c1]
          refine ev_pos c1 ?_
          by_cases c2 : op ≥ 0
          · rw [if_pos c2]; exact ev_pos c2 (ev_eq (Ev.now _) (by simp))
          · rw [if_neg c2]; exact ev_neg c2 (ev_eq (ih (i + 1) (i : Int) (by omega) (by omega)) (by simp))
        · rw [if_neg c1]
          refine ev_neg c1 ?_
          by_cases c3 : bt s (i : Int) = 125
          · rw [if_pos c3]
            refine ev_pos c3 ?_
            by_cases c4 : op < 0
            · rw [if_pos c4]; exact ev_pos c4 (ev_eq (Ev.now _) (by simp))
            · rw [if_neg c4]
              refine ev_neg c4 ?_
              by_cases c5 : op = (i : Int) - 1
              · rw [if_pos c5]; exact ev_pos c5 (ev_eq (Ev.now _) (by simp))
              · rw [if_neg c5]; exact ev_neg c5 (ev_eq (ih (i + 1) (-1) (by omega) (by omega)) (by simp))
          · rw [if_neg c3]
            exact ev_neg c3 (ev_eq (ih (i + 1) op (by omega) (by omega)) (by simp))
def edgeD (s : ByteArray) : Bool := !decide (bt s 0 = 32) && !decide (bt s ((s.size : Int) - 1) = 32)
def titleD (s : ByteArray) : Bool := inT s.size && (edgeD s && (rngF s s.size 0 && (dblF s s.size 0 && brcF s s.size 0 (-1))))
theorem spec_title (s : ByteArray) : Ev (fun k => spec_l6Good.f k s) (titleD s) := by
  have hj1 : Ev (fun k => spec_l6Good.j0 k s true) false := Ev.step (f := fun _ => some false) (fun k => by simp [spec_l6Good.j0]) (Ev.now _)
  unfold spec_l6Good.f spec_l1In.f titleD
  rw [in100]
  refine Ev.bind (a := inT s.size) (Ev.now _) ?_
  cases h : inT s.size with
  | false => exact ev_neg (by simp) (ev_eq hj1 (by simp))
  | true =>
    obtain ⟨h1, h2⟩ := inT_iff.1 h
    have hw : wrap64 ((s.size : Int) - 1) = (s.size : Int) - 1 := w64 (by omega) (by omega)
    refine ev_pos rfl (ev_pos (by omega) ?_)
    unfold edgeD
    by_cases c : bt s 0 = 32
    · exact ev_pos c (ev_eq hj1 (by simp [c]))
    · refine ev_neg c ?_
      rw [hw]
      refine ev_pos (by omega) (ev_pos (by omega) ?_)
      by_cases e : bt s ((s.size : Int) - 1) = 32
      · have : (bt s ((s.size : Int) - 1) == 32) = true := beq_iff_eq.2 e
        rw [this]; exact ev_eq hj1 (by simp [e])
      · have : (bt s ((s.size : Int) - 1) == 32) = false := beq_eq_false_iff_ne.2 e
        rw [this]
        refine Ev.step (f := fun k => spec_l6Good.l0 k s (-1) ((0 : Nat) : Int)) (fun k => by simp [spec_l6Good.j0]) (ev_eq (spec_title_loop s h2 _ 0 (-1) (by omega) rfl) (by simp [c, e]))
theorem trimR (n : Nat) : ∀ s : ByteArray, s.size = n → n ≤ 4611686018427387904 → ∃ t, Ev (fun k => strings_trimRightByte.f k s 32) t ∧ t.size ≤ n ∧ (1 ≤ n → bt s ((n : Int) - 1) = 32 → t.size < n) ∧ ((n = 0 ∨ bt s ((n : Int) - 1) ≠ 32) → t = s) := by
  induction n with
  | zero =>
    intro s hs hb
    refine ⟨s, Ev.step (f := fun _ => some s) (fun k => ?_) (Ev.now _), by omega, fun h => by omega, fun _ => rfl⟩
    simp only [strings_trimRightByte.f, strings_trimRightByte.l0]; rw [if_neg (by omega)]
  | succ n ih =>
    intro s hs hb
    have hw : wrap64 ((s.size : Int) - 1) = (n : Int) := by rw [w64 (by omega) (by omega)]; omega
    have e0 : ((n + 1 : Nat) : Int) - 1 = (n : Int) := by omega
    rw [e0]
    by_cases c : bt s (n : Int) = 32
    · have hs' : (s.extract 0 n).size = n := by rw [ByteArray.size_extract]; omega
      obtain ⟨t, ht, h1, _, _⟩ := ih (s.extract 0 n) hs' (by omega)
      refine ⟨t, Ev.step (f := fun k => strings_trimRightByte.f k (s.extract 0 n) 32) (fun k => ?_) ht, by omega, fun _ _ => by omega, fun h => ?_⟩
      · simp only [strings_trimRightByte.f, strings_trimRightByte.l0, hw]
        rw [if_pos (by omega), if_pos (by omega), if_pos (by omega), if_pos c, if_pos (by omega), Int.toNat_natCast]
      · rcases h with h | h
        · omega
        · exact absurd c h
    · refine ⟨s, Ev.step (f := fun _ => some s) (fun k => ?_) (Ev.now _), by omega, fun _ h => absurd h c, fun _ => rfl⟩
      simp only [strings_trimRightByte.f, strings_trimRightByte.l0, hw]
      rw [if_pos (by omega), if_pos (by omega), if_pos (by omega), if_neg c]
theorem trimL (n : Nat) : ∀ s : ByteArray, s.size = n → n ≤ 4611686018427387904 → ∃ t, Ev (fun k => strings_trimLeftByte.f k s 32) t ∧ t.size ≤ n ∧ (1 ≤ n → bt s 0 = 32 → t.size < n) ∧ ((n = 0 ∨ bt s 0 ≠ 32) → t = s) := by
  induction n with
  | zero =>
    intro s hs hb
    refine ⟨s, Ev.step (f := fun _ => some s) (fun k => ?_) (Ev.now _), by omega, fun h => by omega, fun _ => rfl⟩
    simp only [strings_trimLeftByte.f, strings_trimLeftByte.l0]; rw [if_neg (by omega)]
  | succ n ih =>
    intro s hs hb
    by_cases c : bt s 0 = 32
    · have hs' : (s.extract 1 s.size).size = n := by rw [ByteArray.size_extract]; omega
      obtain ⟨t, ht, h1, _, _⟩ := ih (s.extract 1 s.size) hs' (by omega)
      refine ⟨t, Ev.step (f := fun k => strings_trimLeftByte.f k (s.extract 1 s.size) 32) (fun k => ?_) ht, by omega, fun _ _ => by omega, fun h => ?_⟩
      · simp only [strings_trimLeftByte.f, strings_trimLeftByte.l0]
        rw [if_pos (by omega), if_pos (by omega), if_pos c, if_pos (by omega)]
      · rcases h with h | h
        · omega
        · exact absurd c h
    · refine ⟨s, Ev.step (f := fun _ => some s) (fun k => ?_) (Ev.now _), by omega, fun _ h => absurd h c, fun _ => rfl⟩
      simp only [strings_trimLeftByte.f, strings_trimLeftByte.l0]
      rw [if_pos (by omega), if_pos (by omega), if_neg c]
theorem trim_ev (s : ByteArray) (h1 : 1 ≤ s.size) (h2 : s.size ≤ 4611686018427387904) : ∃ t, Ev (fun k => strings_Trim.f k s (⟨#[32]⟩ : ByteArray)) t ∧ (t.toList == s.toList) = edgeD s := by
  obtain ⟨t1, ht1, ha, hb, hc⟩ := trimR s.size s rfl h2
  obtain ⟨t2, ht2, ha', hb', hc'⟩ := trimL t1.size t1 rfl (by omega)
  refine ⟨t2, ?_, ?_⟩
  · unfold strings_Trim.f
    have hz : ¬ s.toList = ([] : List UInt8) := fun e => by rw [toList_L] at e; have := (size_pos_iff s).2 e; omega
    refine ev_neg hz ?_
    have e1 : ((⟨#[32]⟩ : ByteArray).toList == ([] : List UInt8)) = false := by rw [toList_L]; rfl
    have e2 : ((⟨#[32]⟩ : ByteArray).size : Int) = 1 := rfl
    have e3 : bt (⟨#[32]⟩ : ByteArray) 0 = 32 := rfl
    rw [e1]
    refine Ev.step (f := fun k => strings_Trim.j1 k s (⟨#[32]⟩ : ByteArray) true) (fun k => ?_) (Ev.step (f := fun k => (strings_trimRightByte.f k s 32).bind fun t => (strings_trimLeftByte.f k t 32).bind fun u => some u) (fun k => ?_) (Ev.bind ht1 (Ev.bind ht2 (Ev.now _))))
    · simp only [strings_Trim.j0]
      rw [if_neg (by simp), e2, if_pos rfl, if_pos (by omega), e3]; rfl
    · simp only [strings_Trim.j1]
      rw [if_pos trivial, e2, if_pos (by omega), e3]
  · unfold edgeD
    by_cases c : bt s ((s.size : Int) - 1) = 32
    · have : t2.size < s.size := by have := hb h1 c; omega
      have ne : ¬ t2.toList = s.toList := fun e => by have := toList_eq_iff.1 e; subst this; omega
      rw [show (t2.toList == s.toList) = false by simpa using ne]; simp [c]
    · have e := hc (Or.inr c)
      subst e
      by_cases c0 : bt t1 0 = 32
      · have h3 := hb' h1 c0
        have ne : ¬ t2.toList = t1.toList := fun e => by have := toList_eq_iff.1 e; subst this; omega
        rw [show (t2.toList == t1.toList) = false by simpa using ne]; simp [c0]
      · have e := hc' (Or.inr c0)
        subst e
        simp [c, c0]
theorem print_loop (s : ByteArray) (h1 : 1 ≤ s.size) (h2 : s.size ≤ 100) (d : Nat) : ∀ i : Nat, i ≤ s.size → s.size - i = d →
    Ev (fun k => impl_isPrintable.l0 k s (i : Int)) (rngF s d i && edgeD s) := by
  induction d with
  | zero =>
    intro i hi hd
    obtain ⟨t, ht, e⟩ := trim_ev s h1 (by omega)
    refine Ev.step (f := fun k => (strings_Trim.f k s (⟨#[32]⟩ : ByteArray)).bind fun t231 => (some (t231.toList == s.toList))) (fun k => ?_) (Ev.bind ht (ev_eq (Ev.now _) (by rw [e]; simp [rngF])))
    simp only [impl_isPrintable.l0]; rw [if_neg (by omega)]
  | succ d ih =>
    intro i hi hd
    have hw : wrap64 ((i : Int) + 1) = ((i + 1 : Nat) : Int) := by rw [w64 (by omega) (by omega)]; rfl
    refine Ev.step (f := fun k => if rngD (bt s (i : Int)) = true then impl_isPrintable.l0 k s ((i + 1 : Nat) : Int) else some false) (fun k => ?_) ?_
    · simp only [impl_isPrintable.l0]
      rw [if_pos (by omega), if_pos (by omega), hw]
      unfold rngD
      by_cases c1 : bt s (i : Int) < 32
      · rw [if_pos c1, if_neg (by simp; omega)]
      · rw [if_neg c1]
        by_cases c2 : bt s (i : Int) > 126
        · rw [if_pos c2, if_neg (by simp; omega)]
        · rw [if_neg c2, if_pos (by simp; omega)]
    · unfold rngF
      cases h : rngD (bt s (i : Int)) with
      | true => exact ev_pos rfl (ev_eq (ih (i + 1) (by omega) (by omega)) (by simp))
      | false => exact ev_neg (by simp) (ev_eq (Ev.now _) (by simp))
theorem prot_loop (s : ByteArray) (h2 : s.size ≤ 100) (d : Nat) : ∀ (i : Nat) (op : Int) (out : List Bool), out.length = s.size → i ≤ s.size → s.size - i = d →
    ∃ r, Ev (fun k => impl_protected.l0 k s out op (i : Int)) (r, brcF s d i op) := by
  induction d with
  | zero =>
    intro i op out ho hi hd
    refine ⟨out, Ev.step (f := fun _ => some (out, decide (op < 0))) (fun k => ?_) (Ev.now _)⟩
    simp only [impl_protected.l0]; rw [if_neg (by omega)]
  | succ d ih =>
    intro i op out ho hi hd
    have hw : wrap64 ((i : Int) + 1) = ((i + 1 : Nat) : Int) := by rw [w64 (by omega) (by omega)]; rfl
    have hw' : wrap64 ((i : Int) - 1) = (i : Int) - 1 := w64 (by omega) (by omega)
    have a1 : (i : Int) < (s.size : Int) := by omega
    have a2 : (0 : Int) ≤ (i : Int) := by omega
    have a3 : (i : Int) < (out.length : Int) := by omega
    unfold brcF
    by_cases c1 : bt s (i : Int) = 123
    · by_cases c2 : op ≥ 0
      · refine ⟨[], Ev.step (f := fun _ => some ([], false)) (fun k => ?_) (ev_eq (Ev.now _) (by rw [if_pos c1, if_pos c2]))⟩
        simp only [impl_protected.l0, if_pos a1, if_pos a2, if_pos c1, if_pos c2]
      · rw [if_pos c1, if_neg c2]
        by_cases c3 : rdOf false out (i : Int) = true
        · obtain ⟨r, hr⟩ := ih (i + 1) (i : Int) (out.set i true) (by simpa using ho) (by omega) (by omega)
          refine ⟨r, Ev.step (fun k => ?_) hr⟩
          simp only [impl_protected.l0, if_pos a1, if_pos a2, if_pos a3, if_pos c1, if_neg c2, if_pos c3, hw, Int.toNat_natCast]
        · obtain ⟨r, hr⟩ := ih (i + 1) (i : Int) (out.set i (decide ((i : Int) ≥ 0))) (by simpa using ho) (by omega) (by omega)
          refine ⟨r, Ev.step (fun k => ?_) hr⟩
          simp only [impl_protected.l0, if_pos a1, if_pos a2, if_pos a3, if_pos c1, if_neg c2, if_neg c3, hw, Int.toNat_natCast]
    · rw [if_neg c1]
      by_cases c3 : bt s (i : Int) = 125
      · rw [if_pos c3]
        by_cases c4 : op < 0
        · refine ⟨[], Ev.step (f := fun _ => some ([], false)) (fun k => ?_) (ev_eq (Ev.now _) (by rw [if_pos c4]))⟩
          simp only [impl_protected.l0, if_pos a1, if_pos a2, if_neg c1, if_pos c3, if_pos c4]
        · rw [if_neg c4]
          by_cases c5 : op = (i : Int) - 1
          · refine ⟨[], Ev.step (f := fun _ => some ([], false)) (fun k => ?_) (ev_eq (Ev.now _) (by rw [if_pos c5]))⟩
            simp only [impl_protected.l0, if_pos a1, if_pos a2, if_neg c1, if_pos c3, if_neg c4, hw', if_pos c5]
          · rw [if_neg c5]
            have hl : (out.set i true).length = s.size := by simpa using ho
            by_cases c6 : rdOf false (out.set i true) (i : Int) = true
            · obtain ⟨r, hr⟩ := ih (i + 1) (-1) ((out.set i true).set i true) (by simpa using ho) (by omega) (by omega)
              refine ⟨r, Ev.step (fun k => ?_) hr⟩
              simp only [impl_protected.l0, if_pos a1, if_pos a2, if_pos a3, if_neg c1, if_pos c3, if_neg c4, hw', if_neg c5, Option.bind_some, Int.toNat_natCast, if_pos c6, hw]
            · obtain ⟨r, hr⟩ := ih (i + 1) (-1) ((out.set i true).set i (decide ((-1 : Int) ≥ 0))) (by simpa using ho) (by omega) (by omega)
              refine ⟨r, Ev.step (fun k => ?_) hr⟩
              simp only [impl_protected.l0, if_pos a1, if_pos a2, if_pos a3, if_neg c1, if_pos c3, if_neg c4, hw', if_neg c5, Option.bind_some, Int.toNat_natCast, if_neg c6, hw]
      · rw [if_neg c3]
        by_cases c7 : rdOf false out (i : Int) = true
        · obtain ⟨r, hr⟩ := ih (i + 1) op (out.set i true) (by simpa using ho) (by omega) (by omega)
          refine ⟨r, Ev.step (fun k => ?_) hr⟩
          simp only [impl_protected.l0, if_pos a1, if_pos a2, if_pos a3, if_neg c1, if_neg c3, if_pos c7, hw, Int.toNat_natCast]
        · obtain ⟨r, hr⟩ := ih (i + 1) op (out.set i (decide (op ≥ 0))) (by simpa using ho) (by omega) (by omega)
          refine ⟨r, Ev.step (fun k => ?_) hr⟩
          simp only [impl_protected.l0, if_pos a1, if_pos a2, if_pos a3, if_neg c1, if_neg c3, if_neg c7, hw, Int.toNat_natCast]
theorem prot_ev (s : ByteArray) (h2 : s.size ≤ 100) : ∃ r, Ev (fun k => impl_protected.f k s) (r, brcF s s.size 0 (-1)) := by
  obtain ⟨r, hr⟩ := prot_loop s h2 _ 0 (-1) (List.replicate s.size false) (by simp) (by omega) rfl
  refine ⟨r, ?_⟩
  unfold impl_protected.f
  exact ev_pos (by omega) (ev_pos (by omega) hr)
theorem dbl_iff (s : ByteArray) (d : Nat) : ∀ i, dblF s d i = true ↔ ∀ j, i ≤ j → j < i + d → dblAt s j = false := by
  induction d with
  | zero => intro i; simp [dblF]; omega
  | succ d ih =>
    intro i
    unfold dblF
    rw [Bool.and_eq_true, ih (i + 1)]
    constructor
    · rintro ⟨h1, h2⟩ j hj hj'
      by_cases e : j = i
      · subst e; simpa using h1
      · exact h2 j (by omega) (by omega)
    · intro h
      exact ⟨by simpa using h i (Nat.le_refl _) (by omega), fun j hj hj' => h j (by omega) (by omega)⟩
end Go.Proofs.YtcbmccjbhfggjaaDoor.G

namespace Go.Proofs.YtcbmccjbhfggjaaDoor.G
open Go.RowKit Go.Proofs.YtcbmccjbhfggjaaDoorW.PrintWords Go.Proofs.YtcbmccjbhfggjaaDoorW.PrintLast Go.Proofs.YtcbmccjbhfggjaaDoor.B
set_option linter.unusedVariables false
set_option linter.unusedSimpArgs false
theorem occ2 (l : List UInt8) (i : Nat) : Lib.occAt l [32, 32] i = true ↔ l[i]? = some 32 ∧ l[i + 1]? = some 32 := by
  have e0 : l[i]? = (l.drop i)[0]? := by rw [List.getElem?_drop]; rfl
  have e1 : l[i + 1]? = (l.drop i)[1]? := by rw [List.getElem?_drop]
  rw [e0, e1]
  unfold Lib.occAt
  generalize l.drop i = m
  match m with
  | [] => simp
  | [x] => simp [List.isPrefixOf]
  | x :: y :: t =>
    simp [List.isPrefixOf]
    exact ⟨fun h => ⟨h.1.symm, h.2.symm⟩, fun h => ⟨h.1.symm, h.2.symm⟩⟩
theorem bt32 (s : ByteArray) (j : Nat) (h : j < s.size) : bt s (j : Int) = 32 ↔ (L s)[j]? = some 32 := by
  have hl : j < (L s).length := by rw [L_len]; exact h
  rw [bt_get s j h, List.getElem?_eq_getElem hl, Option.some.injEq]
  constructor
  · intro e; exact UInt8.toNat_inj.1 (by show _ = 32; omega)
  · intro e; rw [e]; rfl
theorem contains_dbl (s : ByteArray) : Lib.contains (L s) [32, 32] = !dblF s s.size 0 := by
  have hl : (L s).length = s.size := L_len s
  unfold Lib.contains
  rcases Lib.index_spec (L s) [32, 32] with ⟨h1, h2⟩ | ⟨i, h1, h2, h3, _⟩
  · rw [h1, decide_eq_false (by omega)]
    have : dblF s s.size 0 = true := by
      rw [dbl_iff]
      intro j _ hj
      cases e : dblAt s j with
      | false => rfl
      | true =>
        unfold dblAt at e
        simp only [Bool.and_eq_true, decide_eq_true_eq] at e
        obtain ⟨j0, e1, e2⟩ := e
        obtain ⟨m, rfl⟩ : ∃ m, j = m + 1 := ⟨j - 1, by omega⟩
        have e2' : bt s (m : Int) = 32 := by rw [show ((m + 1 : Nat) : Int) - 1 = (m : Int) by omega] at e2; exact e2
        have := (occ2 (L s) m).2 ⟨(bt32 s m (by omega)).1 e2', (bt32 s (m + 1) (by omega)).1 e1⟩
        rw [h2 m (by omega)] at this; cases this
    rw [this]; rfl
  · rw [h1, decide_eq_true (by omega)]
    obtain ⟨a, b⟩ := (occ2 (L s) i).1 h3
    have hi : i + 1 < s.size := by
      by_cases c : i + 1 < s.size
      · exact c
      · rw [List.getElem?_eq_none (by omega)] at b; cases b
    cases e : dblF s s.size 0 with
    | false => rfl
    | true =>
      have := (dbl_iff s s.size 0).1 e (i + 1) (by omega) (by omega)
      unfold dblAt at this
      rw [(bt32 s (i + 1) hi).2 b, show ((i + 1 : Nat) : Int) - 1 = (i : Int) by omega, (bt32 s i (by omega)).2 a] at this
      simp at this
theorem impl_title (s : ByteArray) : Ev (fun k => impl_IsValidTitle.f k s) (titleD s) := by
  unfold impl_IsValidTitle.f impl_inside.f titleD
  rw [in100]
  refine Ev.bind (a := inT s.size) (Ev.now _) ?_
  cases h : inT s.size with
  | false => exact ev_neg (by simp) (ev_eq (Ev.now _) (by simp))
  | true =>
    obtain ⟨h1, h2⟩ := inT_iff.1 h
    refine ev_pos rfl (Ev.bind (print_loop s h1 h2 _ 0 (by omega) rfl) ?_)
    cases hr : rngF s s.size 0 with
    | false => exact ev_neg (by simp) (ev_eq (Ev.now _) (by simp))
    | true =>
      cases he : edgeD s with
      | false => exact ev_neg (by simp) (ev_eq (Ev.now _) (by simp))
      | true =>
        refine ev_pos rfl ?_
        have hc : strings_Contains.f s (⟨#[32, 32]⟩ : ByteArray) = some (!dblF s s.size 0) := by
          unfold strings_Contains.f
          rw [if_pos (by omega)]
          exact congrArg some (contains_dbl s)
        refine ev_bind0 hc ?_
        cases hd : dblF s s.size 0 with
        | false => exact ev_pos rfl (ev_eq (Ev.now _) (by simp))
        | true =>
          obtain ⟨r, hp⟩ := prot_ev s h2
          exact ev_neg (by simp) (Ev.bind hp (ev_eq (Ev.now _) (by simp)))
theorem title_size {s : ByteArray} (h : titleD s = true) : 1 ≤ s.size ∧ s.size ≤ 100 := by
  unfold titleD at h
  cases hi : inT s.size with
  | true => exact inT_iff.1 hi
  | false => rw [hi] at h; simp at h
end Go.Proofs.YtcbmccjbhfggjaaDoor.G

namespace Go.Proofs.YtcbmccjbhfggjaaDoor.G
open Go.RowKit Go.Proofs.YtcbmccjbhfggjaaDoorW.PrintWords Go.Proofs.YtcbmccjbhfggjaaDoorW.PrintLast Go.Proofs.YtcbmccjbhfggjaaDoor.B
set_option linter.unusedVariables false
set_option linter.unusedSimpArgs false
/-- Where the open brace stands ahead of byte i, or -1. -/
def opnAt (s : ByteArray) : Nat → Int
  | 0 => -1
  | i + 1 => if bt s (i : Int) = 123 then (i : Int) else if bt s (i : Int) = 125 then -1 else opnAt s i
def flagD (s : ByteArray) (j : Nat) : Bool := decide (bt s (j : Int) = 125) || decide (opnAt s (j + 1) ≥ 0)
theorem rdb {out : List Bool} {i : Nat} {b : Bool} (h : out[i]? = some b) : rdOf false out (i : Int) = b := by simp [rdOf, List.getD, h]
theorem set_at {out : List Bool} {i n : Nat} (h : out.length = n) (hi : i < n) (b : Bool) : (out.set i b)[i]? = some b := by
  rw [List.getElem?_set]; simp; omega
theorem set_ne {out : List Bool} {i j : Nat} (h : i ≠ j) (b : Bool) : (out.set i b)[j]? = out[j]? := by
  rw [List.getElem?_set, if_neg h]
theorem prot_loop2 (s : ByteArray) (h2 : s.size ≤ 100) (d : Nat) : ∀ (i : Nat) (out : List Bool), out.length = s.size → i ≤ s.size → s.size - i = d →
    (∀ j, j < i → out[j]? = some (flagD s j)) → (∀ j, i ≤ j → j < s.size → out[j]? = some false) → brcF s d i (opnAt s i) = true →
    ∃ r, Ev (fun k => impl_protected.l0 k s out (opnAt s i) (i : Int)) (r, true) ∧ r.length = s.size ∧ ∀ j, j < s.size → r[j]? = some (flagD s j) := by
  induction d with
  | zero =>
    intro i out ho hi hd hA hB hbr
    have e : i = s.size := by omega
    refine ⟨out, Ev.step (f := fun _ => some (out, true)) (fun k => ?_) (Ev.now _), ho, fun j hj => hA j (by omega)⟩
    have hop : opnAt s i < 0 := by simpa [brcF] using hbr
    simp only [impl_protected.l0]; rw [if_neg (by omega), decide_eq_true hop]
  | succ d ih =>
    intro i out ho hi hd hA hB hbr
    have hlt : i < s.size := by omega
    have hw : wrap64 ((i : Int) + 1) = ((i + 1 : Nat) : Int) := by rw [w64 (by omega) (by omega)]; rfl
    have hw' : wrap64 ((i : Int) - 1) = (i : Int) - 1 := w64 (by omega) (by omega)
    have a1 : (i : Int) < (s.size : Int) := by omega
    have a2 : (0 : Int) ≤ (i : Int) := by omega
    have a3 : (i : Int) < (out.length : Int) := by omega
    have r0 := rdb (hB i (Nat.le_refl _) hlt)
    have n0 : ¬ rdOf false out (i : Int) = true := by rw [r0]; simp
    have next : ∀ (b : Bool) (o : Int), opnAt s (i + 1) = o → b = flagD s i → brcF s d (i + 1) o = true → ∀ g : Nat → Option (List Bool × Bool),
        (∀ k, g (k + 1) = impl_protected.l0 k s (out.set i b) o ((i + 1 : Nat) : Int)) → ∃ r, Ev g (r, true) ∧ r.length = s.size ∧ ∀ j, j < s.size → r[j]? = some (flagD s j) := by
      intro b o ho1 hb1 hbr1 g hg
      obtain ⟨r, hr, h3, h4⟩ := ih (i + 1) (out.set i b) (by simpa using ho) (by omega) (by omega) (fun j hj => by
        by_cases c : i = j
        · subst c; rw [set_at ho hlt, hb1]
        · rw [set_ne c]; exact hA j (by omega)) (fun j hj hj' => by rw [set_ne (by omega)]; exact hB j (by omega) hj') (by rw [ho1]; exact hbr1)
      rw [ho1] at hr
      exact ⟨r, Ev.step hg hr, h3, h4⟩
    unfold brcF at hbr
    by_cases c1 : bt s (i : Int) = 123
    · rw [if_pos c1] at hbr
      by_cases c2 : opnAt s i ≥ 0
      · rw [if_pos c2] at hbr; cases hbr
      · rw [if_neg c2] at hbr
        have eo : opnAt s (i + 1) = (i : Int) := if_pos c1
        refine next (decide ((i : Int) ≥ 0)) (i : Int) eo ?_ hbr _ (fun k => ?_)
        · unfold flagD; rw [eo]; simp [c1]
        · simp only [impl_protected.l0, if_pos a1, if_pos a2, if_pos a3, if_pos c1, if_neg c2, if_neg n0, hw, Int.toNat_natCast]
    · rw [if_neg c1] at hbr
      by_cases c3 : bt s (i : Int) = 125
      · rw [if_pos c3] at hbr
        by_cases c4 : opnAt s i < 0
        · rw [if_pos c4] at hbr; cases hbr
        · rw [if_neg c4] at hbr
          by_cases c5 : opnAt s i = (i : Int) - 1
          · rw [if_pos c5] at hbr; cases hbr
          · rw [if_neg c5] at hbr
            have eo : opnAt s (i + 1) = -1 := (if_neg c1).trans (if_pos c3)
            have r1 : rdOf false (out.set i true) (i : Int) = true := rdb (set_at ho hlt true)
            refine next true (-1) eo ?_ hbr _ (fun k => ?_)
            · unfold flagD; simp [c3]
            · simp only [impl_protected.l0, if_pos a1, if_pos a2, if_pos a3, if_neg c1, if_pos c3, if_neg c4, hw', if_neg c5, Option.bind_some, Int.toNat_natCast, if_pos r1, hw, List.set_set]
      · rw [if_neg c3] at hbr
        have eo : opnAt s (i + 1) = opnAt s i := (if_neg c1).trans (if_neg c3)
        refine next (decide (opnAt s i ≥ 0)) (opnAt s i) eo ?_ hbr _ (fun k => ?_)
        · unfold flagD; rw [eo]; simp [c3]
        · simp only [impl_protected.l0, if_pos a1, if_pos a2, if_pos a3, if_neg c1, if_neg c3, if_neg n0, hw, Int.toNat_natCast]
theorem prot_ev2 (s : ByteArray) (h : titleD s = true) : ∃ r, Ev (fun k => impl_protected.f k s) (r, true) ∧ r.length = s.size ∧ ∀ j, j < s.size → r[j]? = some (flagD s j) := by
  have h2 := (title_size h).2
  have hb : brcF s s.size 0 (-1) = true := by
    unfold titleD at h
    simp only [Bool.and_eq_true] at h
    exact h.2.2.2.2
  obtain ⟨r, hr, h3, h4⟩ := prot_loop2 s h2 _ 0 (List.replicate s.size false) (by simp) (by omega) rfl (fun j hj => by omega) (fun j _ hj => by rw [List.getElem?_replicate, if_pos hj]) hb
  refine ⟨r, ?_, h3, h4⟩
  unfold impl_protected.f
  exact ev_pos (by omega) (ev_pos (by omega) hr)
theorem flag_plain (s : ByteArray) (j : Nat) (h1 : bt s (j : Int) ≠ 123) (h2 : bt s (j : Int) ≠ 125) : flagD s j = decide (opnAt s j ≥ 0) := by
  unfold flagD
  have : opnAt s (j + 1) = opnAt s j := (if_neg h1).trans (if_neg h2)
  rw [this]; simp [h2]
end Go.Proofs.YtcbmccjbhfggjaaDoor.G

namespace Go.Proofs.YtcbmccjbhfggjaaDoor.G
open Go.RowKit Go.Proofs.YtcbmccjbhfggjaaDoorW.PrintWords Go.Proofs.YtcbmccjbhfggjaaDoorW.PrintLast Go.Proofs.YtcbmccjbhfggjaaDoor.B
set_option linter.unusedVariables false
set_option linter.unusedSimpArgs false
theorem eqS_loop (d : Nat) : ∀ (a b : List ByteArray) (i : Nat), a.length = b.length → a.length < 4611686018427387904 → a.length - i = d → i ≤ a.length →
    Ev (fun k => laws_eqStringS.l0 k a b i) (decide (a.drop i = b.drop i)) := by
  induction d with
  | zero =>
    intro a b i hl hm hd hi
    refine Ev.step (f := fun _ => some (decide (a.drop i = b.drop i))) (fun k => ?_) (Ev.now _)
    simp only [laws_eqStringS.l0]
    rw [if_neg (by omega), List.drop_of_length_le (by omega), List.drop_of_length_le (by omega)]
    simp
  | succ d ih =>
    intro a b i hl hm hd hi
    have hlt : i < a.length := by omega
    have hlt' : i < b.length := by omega
    have hw : wrap64 ((i : Int) + 1) = ((i + 1 : Nat) : Int) := by rw [w64 (by omega) (by omega)]; rfl
    by_cases e : a[i] = b[i]
    · refine Ev.step (f := fun k => laws_eqStringS.l0 k a b ((i + 1 : Nat) : Int)) (fun k => ?_) (ev_eq (ih a b (i + 1) hl hm (by omega) (by omega)) ?_)
      · simp only [laws_eqStringS.l0]
        rw [if_pos (by omega), if_pos (by omega), if_pos (by omega), if_pos (by simp [rdOf, hlt, hlt', e]), hw]
      · simp only [List.drop_eq_getElem_cons hlt, List.drop_eq_getElem_cons hlt', e, List.cons.injEq, true_and]
    · refine Ev.step (f := fun _ => some (decide (a.drop i = b.drop i))) (fun k => ?_) (Ev.now _)
      simp only [laws_eqStringS.l0]
      rw [if_pos (by omega), if_pos (by omega), if_pos (by omega), if_neg (by simp [rdOf, hlt, hlt', toList_eq_iff, e])]
      simp only [List.drop_eq_getElem_cons hlt, List.drop_eq_getElem_cons hlt', List.cons.injEq, e, false_and, decide_false]
theorem eqS_ev (a b : List ByteArray) (ha : a.length < 4611686018427387904) (hb : b.length < 4611686018427387904) : Ev (fun k => laws_eqStringS.f k a b) (decide (a = b)) := by
  unfold laws_eqStringS.f
  by_cases h : a.length = b.length
  · exact ev_pos (by omega) (ev_eq (eqS_loop a.length a b 0 h ha rfl (by omega)) (by simp))
  · exact ev_neg (by omega) (ev_eq (Ev.now false) (by rw [eq_comm, decide_eq_false_iff_not]; rintro rfl; exact h rfl))
theorem markText_loop (d : Nat) : ∀ (n : Int) (s : ByteArray), 0 ≤ n → n.toNat < 10 ^ d → s.size + d + 1 ≤ 9223372036854775807 → n ≤ 4611686018427387904 → ∃ r, Ev (fun k => laws_markText.l0 k n s) r := by
  have done : ∀ (n : Int) (s : ByteArray), ¬ n > 0 → s.size + 1 ≤ 9223372036854775807 → ∃ r, Ev (fun k => laws_markText.l0 k n s) r := fun n s hn h =>
    ⟨_, Ev.step (f := fun _ => some ((⟨#[109]⟩ : ByteArray) ++ s)) (fun k => by simp only [laws_markText.l0]; rw [if_neg hn, if_pos (by omega)]) (Ev.now _)⟩
  induction d with
  | zero => intro n s h0 h1 h2 h3; exact done n s (by simp at h1; omega) (by omega)
  | succ d ih =>
    intro n s h0 h1 h2 h3
    by_cases hn : n > 0
    · have hq : wrap64 (Int.tdiv n 10) = n / 10 := by rw [Int.tdiv_eq_ediv_of_nonneg h0, w64 (by omega) (by omega)]
      have hs : (strOfNums [(wrap64 (48 + (Int.tmod n 10))) % 256]).size = 1 := by simp [strOfNums, ByteArray.size]
      obtain ⟨r, hr⟩ := ih (wrap64 (Int.tdiv n 10)) (strOfNums [(wrap64 (48 + (Int.tmod n 10))) % 256] ++ s) (by rw [hq]; omega) (by rw [hq]; rw [Nat.pow_succ] at h1; omega) (by rw [size_append, hs]; omega) (by rw [hq]; omega)
      refine ⟨r, Ev.step (fun k => ?_) hr⟩
      simp only [laws_markText.l0]
      rw [if_pos hn]
      simp only [Option.bind_some]
      rw [if_pos (by rw [hs]; omega)]
    · exact done n s hn (by omega)
theorem markText_ex (n : Int) (h0 : 0 ≤ n) (h : n ≤ 4611686018427387904) : ∃ r, Ev (fun k => laws_markText.f k n) r := by
  unfold laws_markText.f
  by_cases hn : n ≤ 0
  · exact ⟨_, ev_pos hn (Ev.now _)⟩
  · have e1 : (10 : Nat) ^ 20 = 100000000000000000000 := by decide
    have e2 : (⟨#[]⟩ : ByteArray).size = 0 := rfl
    obtain ⟨r, hr⟩ := markText_loop 20 n ⟨#[]⟩ h0 (by rw [e1]; omega) (by rw [e2]; omega) h
    exact ⟨r, ev_neg hn hr⟩
/-- The text that marks number n. -/
noncomputable def mt (n : Int) : ByteArray := open Classical in if h : ∃ r, Ev (fun k => laws_markText.f k n) r then h.choose else ⟨#[]⟩
theorem mt_ev (n : Int) (h0 : 0 ≤ n) (h : n ≤ 4611686018427387904) : Ev (fun k => laws_markText.f k n) (mt n) := by
  unfold mt
  rw [dif_pos (markText_ex n h0 h)]
  exact (markText_ex n h0 h).choose_spec
noncomputable def mts (m : Int) (n : Nat) : List ByteArray := (List.range n).map fun i => mt (m + (i : Nat))
theorem mts_len (m : Int) (n : Nat) : (mts m n).length = n := by simp [mts]
theorem markS_loop (d : Nat) : ∀ (a : List ByteArray) (m : Int) (i : Nat), 0 ≤ m → m + a.length ≤ 4611686018427387904 → a.length - i = d → i ≤ a.length →
    Ev (fun k => laws_markStringS.l0 k (mts m i ++ a.drop i) (m + i) i) (m + a.length, mts m a.length) := by
  induction d with
  | zero =>
    intro a m i h0 h1 hd hi
    have e : i = a.length := by omega
    subst e
    refine Ev.step (f := fun _ => some (m + (a.length : Nat), mts m a.length)) (fun k => ?_) (Ev.now _)
    simp only [laws_markStringS.l0]
    rw [if_neg (by simp [mts_len]), List.drop_of_length_le (by omega), List.append_nil]
  | succ d ih =>
    intro a m i h0 h1 hd hi
    have hlt : i < a.length := by omega
    refine Ev.step (f := fun k => (laws_markText.f k (m + i)).bind fun t => laws_markStringS.l0 k ((mts m i ++ a.drop i).set i t) (m + ((i + 1 : Nat) : Int)) ((i + 1 : Nat) : Int)) (fun k => ?_) ?_
    · simp only [laws_markStringS.l0]
      rw [if_pos (by simp [mts_len]; omega)]
      congr 1
      funext t
      rw [if_pos (by omega), w64 (by omega) (by omega), w64 (by omega) (by omega)]
      congr 1
      omega
    · refine Ev.bind (mt_ev (m + i) (by omega) (by omega)) ?_
      have e : (mts m i ++ a.drop i).set i (mt (m + (i : Nat))) = mts m (i + 1) ++ a.drop (i + 1) := by
        rw [List.drop_eq_getElem_cons hlt]
        have hl : (mts m i).length = i := mts_len m i
        rw [List.set_append_right _ _ (by omega), hl, Nat.sub_self, List.set_cons_zero]
        unfold mts
        rw [List.range_succ, List.map_append]
        simp
      rw [e]
      exact ih a m (i + 1) h0 h1 (by omega) (by omega)
theorem markS_ev (a : List ByteArray) (m : Int) (h0 : 0 ≤ m) (h1 : m + a.length ≤ 4611686018427387904) : Ev (fun k => laws_markStringS.f k a m) (m + a.length, mts m a.length) := by
  have := markS_loop a.length a m 0 h0 h1 rfl (by omega)
  simpa [laws_markStringS.f, mts] using this
theorem heldS_loop (d : Nat) : ∀ (m : Int) (n i : Nat), 0 ≤ m → m + n ≤ 4611686018427387904 → n - i = d → i ≤ n →
    Ev (fun k => laws_heldStringS.l0 k (mts m n) (m + i) i) (m + n) := by
  induction d with
  | zero =>
    intro m n i h0 h1 hd hi
    have e : i = n := by omega
    subst e
    refine Ev.step (f := fun _ => some (m + (i : Nat))) (fun k => ?_) (Ev.now _)
    simp only [laws_heldStringS.l0]
    rw [if_neg (by simp [mts_len])]
  | succ d ih =>
    intro m n i h0 h1 hd hi
    have hlt : i < n := by omega
    refine Ev.step (f := fun k => (laws_markText.f k (m + i)).bind fun t => if (rdOf ByteArray.empty (mts m n) i).toList = t.toList then laws_heldStringS.l0 k (mts m n) (m + ((i + 1 : Nat) : Int)) ((i + 1 : Nat) : Int) else some (-1)) (fun k => ?_) ?_
    · simp only [laws_heldStringS.l0]
      rw [if_pos (by rw [mts_len]; omega), if_pos (by omega)]
      congr 1
      funext t
      rw [w64 (by omega) (by omega), w64 (by omega) (by omega)]
      have e1 : m + (i : Int) + 1 = m + ((i + 1 : Nat) : Int) := by omega
      rw [e1]
      rfl
    · refine Ev.bind (mt_ev (m + i) (by omega) (by omega)) (ev_pos ?_ (ih m n (i + 1) h0 h1 (by omega) (by omega)))
      simp [rdOf, mts, hlt]
theorem heldS_ev (m : Int) (n : Nat) (h0 : 0 ≤ m) (h1 : m + n ≤ 4611686018427387904) : Ev (fun k => laws_heldStringS.f k (mts m n) m) (m + n) := by
  have := heldS_loop n m n 0 h0 h1 rfl (by omega)
  simpa [laws_heldStringS.f] using this
end Go.Proofs.YtcbmccjbhfggjaaDoor.G

namespace Go.Proofs.YtcbmccjbhfggjaaDoor.Pure
open Go.RowKit Go.Proofs.YtcbmccjbhfggjaaDoor.G Go.Proofs.YtcbmccjbhfggjaaDoorW.PrintWords Go.Proofs.YtcbmccjbhfggjaaDoorW.PrintLast Go.Proofs.YtcbmccjbhfggjaaDoor.B Go.Proofs.YtcbmccjbhfggjaaDoor.Opn
set_option linter.unusedVariables false
set_option linter.unusedSimpArgs false
/-- The words of a title, from byte i on; the word under way begins at f. -/
def wordsT (s : ByteArray) : Nat → Nat → Nat → List ByteArray
  | 0, _, f => [s.extract f s.size]
  | d + 1, i, f => if bt s (i : Int) = 32 ∧ ¬ opnAt s i ≥ 0 then s.extract f i :: wordsT s d (i + 1) (i + 1) else wordsT s d (i + 1) f
theorem wordsT_len (s : ByteArray) (d : Nat) : ∀ i f, (wordsT s d i f).length ≤ d + 1 := by
  induction d with
  | zero => intro i f; simp [wordsT]
  | succ d ih =>
    intro i f
    unfold wordsT
    split
    · have := ih (i + 1) (i + 1); simp; omega
    · have := ih (i + 1) f; omega
theorem spec_words (s : ByteArray) (hs : s.size ≤ 100) (d : Nat) : ∀ (i f : Nat) (out : List ByteArray), out.length ≤ i → f ≤ i → i ≤ s.size → s.size - i = d →
    Ev (fun k => spec_l6Words.l0 k s out (f : Int) (decide (opnAt s i ≥ 0)) (i : Int)) (out ++ wordsT s d i f) := by
  induction d with
  | zero =>
    intro i f out h0 h1 h2 hd
    refine Ev.step (f := fun _ => some (out ++ [s.extract f s.size])) (fun k => ?_) (Ev.now _)
    simp only [spec_l6Words.l0]
    rw [if_neg (by omega), if_pos (by omega), if_pos (by omega), if_pos (by omega), Int.toNat_natCast]
  | succ d ih =>
    intro i f out h0 h1 h2 hd
    have hw : wrap64 ((i : Int) + 1) = ((i + 1 : Nat) : Int) := by rw [w64 (by omega) (by omega)]; rfl
    have a1 : (i : Int) < (s.size : Int) := by omega
    have a2 : (0 : Int) ≤ (i : Int) := by omega
    have a3 : (0 : Int) ≤ (f : Int) := by omega
    have a4 : (f : Int) ≤ (i : Int) := by omega
    have a5 : (i : Int) ≤ (s.size : Int) := by omega
    have a6 : out.length < 8796093022208 := by omega
    unfold wordsT
    by_cases c1 : bt s (i : Int) = 123
    · have eo : opnAt s (i + 1) = (i : Int) := if_pos c1
      have hq := ih (i + 1) f out (by omega) (by omega) (by omega) (by omega)
      rw [eo, decide_eq_true (show (i : Int) ≥ 0 by omega)] at hq
      rw [if_neg (fun h => by rw [c1] at h; exact absurd h.1 (by decide))]
      refine Ev.step (fun k => ?_) hq
      simp only [spec_l6Words.l0, if_pos a1, if_pos a2, if_pos c1, hw]
    · by_cases c3 : bt s (i : Int) = 125
      · have eo : opnAt s (i + 1) = -1 := (if_neg c1).trans (if_pos c3)
        have hq := ih (i + 1) f out (by omega) (by omega) (by omega) (by omega)
        rw [eo, decide_eq_false (show ¬ (-1 : Int) ≥ 0 by omega)] at hq
        rw [if_neg (fun h => by rw [c3] at h; exact absurd h.1 (by decide))]
        refine Ev.step (fun k => ?_) hq
        simp only [spec_l6Words.l0, if_pos a1, if_pos a2, if_neg c1, if_pos c3, hw]
      · have eo : opnAt s (i + 1) = opnAt s i := (if_neg c1).trans (if_neg c3)
        by_cases c4 : bt s (i : Int) = 32
        · by_cases c5 : opnAt s i ≥ 0
          · have hq := ih (i + 1) f out (by omega) (by omega) (by omega) (by omega)
            rw [eo] at hq
            rw [if_neg (fun h => h.2 c5)]
            refine Ev.step (fun k => ?_) hq
            simp only [spec_l6Words.l0, if_pos a1, if_pos a2, if_neg c1, if_neg c3, if_pos c4, hw, decide_eq_true c5]
            rw [if_pos trivial]
          · have hq := ih (i + 1) (i + 1) (out ++ [s.extract f i]) (by simp; omega) (by omega) (by omega) (by omega)
            rw [eo, List.append_assoc] at hq
            rw [if_pos ⟨c4, c5⟩]
            refine Ev.step (fun k => ?_) hq
            simp only [spec_l6Words.l0, if_pos a1, if_pos a2, if_neg c1, if_neg c3, if_pos c4, hw, decide_eq_false c5, if_pos a3, if_pos a4, if_pos a5, if_pos a6, Int.toNat_natCast]
            rw [if_neg (by simp)]
        · have hq := ih (i + 1) f out (by omega) (by omega) (by omega) (by omega)
          rw [eo] at hq
          rw [if_neg (fun h => c4 h.1)]
          refine Ev.step (fun k => ?_) hq
          simp only [spec_l6Words.l0, if_pos a1, if_pos a2, if_neg c1, if_neg c3, if_neg c4, hw]
theorem impl_words (s : ByteArray) (hs : s.size ≤ 100) (r : List Bool) (hr : r.length = s.size) (hf : ∀ j, j < s.size → r[j]? = some (flagD s j)) (d : Nat) : ∀ (i f : Nat) (out : List ByteArray), out.length ≤ i → f ≤ i → i ≤ s.size → s.size - i = d →
    Ev (fun k => impl_titleWords.l0 k s r out (f : Int) (i : Int)) (out ++ wordsT s d i f) := by
  induction d with
  | zero =>
    intro i f out h0 h1 h2 hd
    refine Ev.step (f := fun _ => some (out ++ [s.extract f s.size])) (fun k => ?_) (Ev.now _)
    simp only [impl_titleWords.l0]
    rw [if_neg (by omega), if_pos (by omega), if_pos (by omega), if_pos (by omega), Int.toNat_natCast]
  | succ d ih =>
    intro i f out h0 h1 h2 hd
    have hw : wrap64 ((i : Int) + 1) = ((i + 1 : Nat) : Int) := by rw [w64 (by omega) (by omega)]; rfl
    have a1 : (i : Int) < (s.size : Int) := by omega
    have a2 : (0 : Int) ≤ (i : Int) := by omega
    have a3 : (0 : Int) ≤ (f : Int) := by omega
    have a4 : (f : Int) ≤ (i : Int) := by omega
    have a5 : (i : Int) ≤ (s.size : Int) := by omega
    have a6 : out.length < 8796093022208 := by omega
    have a7 : (i : Int) < (r.length : Int) := by omega
    unfold wordsT
    by_cases c4 : bt s (i : Int) = 32
    · have hfl := flag_plain s i (by rw [c4]; decide) (by rw [c4]; decide)
      have hrd := rdb (hf i (by omega))
      rw [hfl] at hrd
      by_cases c5 : opnAt s i ≥ 0
      · rw [decide_eq_true c5] at hrd
        rw [if_neg (fun h => h.2 c5)]
        refine Ev.step (fun k => ?_) (ih (i + 1) f out (by omega) (by omega) (by omega) (by omega))
        simp only [impl_titleWords.l0, if_pos a1, if_pos a2, if_pos c4, if_pos a7, hrd, hw]
        rw [if_pos trivial]
      · rw [decide_eq_false c5] at hrd
        have hq := ih (i + 1) (i + 1) (out ++ [s.extract f i]) (by simp; omega) (by omega) (by omega) (by omega)
        rw [List.append_assoc] at hq
        rw [if_pos ⟨c4, c5⟩]
        refine Ev.step (fun k => ?_) hq
        simp only [impl_titleWords.l0, if_pos a1, if_pos a2, if_pos c4, if_pos a7, hrd, hw, if_pos a3, if_pos a4, if_pos a5, if_pos a6, Int.toNat_natCast]
        rw [if_neg (by simp)]
    · rw [if_neg (fun h => c4 h.1)]
      refine Ev.step (fun k => ?_) (ih (i + 1) f out (by omega) (by omega) (by omega) (by omega))
      simp only [impl_titleWords.l0, if_pos a1, if_pos a2, if_neg c4, hw]
def twD (s : ByteArray) : List ByteArray × Bool := if titleD s = true then (wordsT s s.size 0 0, true) else ([], false)
theorem spec_tw (s : ByteArray) : Ev (fun k => spec_TitleWords.f k s) (twD s) := by
  unfold spec_TitleWords.f twD
  refine Ev.bind (spec_title s) ?_
  by_cases h : titleD s = true
  · rw [if_pos h]
    have hq := spec_words s (title_size h).2 _ 0 0 [] (by simp) (by omega) (by omega) rfl
    exact ev_pos h (Ev.bind (g := fun k => spec_l6Words.f k s) hq (Ev.now _))
  · rw [if_neg h]; exact ev_neg h (Ev.now _)
theorem impl_tw (s : ByteArray) : Ev (fun k => impl_TitleWords.f k s) (twD s) := by
  unfold impl_TitleWords.f twD
  refine Ev.bind (impl_title s) ?_
  by_cases h : titleD s = true
  · rw [if_pos h]
    obtain ⟨r, hr, h3, h4⟩ := prot_ev2 s h
    have hq := impl_words s (title_size h).2 r h3 h4 _ 0 0 [] (by simp) (by omega) (by omega) rfl
    refine ev_pos h (Ev.bind (g := fun k => impl_titleWords.f k s) (a := wordsT s s.size 0 0) ?_ (Ev.now _))
    unfold impl_titleWords.f
    exact Ev.bind hr hq
  · rw [if_neg h]; exact ev_neg h (Ev.now _)
theorem FnExactTitleWords : laws_FnExactTitleWords.Pur := by
  intro s _
  apply Ev.rounds
  unfold laws_FnExactTitleWords.f
  by_cases g : (s.size : Int) > 1048576
  · exact ev_pos g (Ev.now _)
  have hsp := spec_tw s
  have himp := impl_tw s
  obtain ⟨R, hR⟩ : ∃ R, R = twD s := ⟨_, rfl⟩
  have hlen : R.1.length ≤ 1048577 := by
    rw [hR]; unfold twD
    split
    · have := wordsT_len s s.size 0 0
      show (wordsT s s.size 0 0).length ≤ _
      omega
    · simp
  rw [← hR] at hsp himp
  have heq := eqS_ev R.1 R.1 (by omega) (by omega)
  rw [decide_eq_true rfl] at heq
  have hm := markS_ev R.1 1 (by omega) (by omega)
  have hh := heldS_ev 1 R.1.length (by omega) (by omega)
  refine ev_neg g (Ev.bind hsp (Ev.bind himp (Ev.bind heq (ev_pos rfl ?_))))
  have e : (R.2 != R.2) = false := by simp
  rw [e]
  refine Ev.step (f := fun k => (laws_markStringS.f k R.1 1).bind fun bt328 => ((laws_heldStringS.f k bt328.2 1).bind fun t330 => (if t330 < 0 then (some false) else (if t330 = bt328.1 then ((impl_TitleWords.f k s).bind fun bt331 => ((laws_eqStringS.f k bt331.1 R.1).bind fun t335 => (if t335 = true then (laws_FnExactTitleWords.j1 k bt328.2 bt328.1 (bt331.2 != R.2)) else (laws_FnExactTitleWords.j1 k bt328.2 bt328.1 true)))) else (some false))))) (fun k => by simp [laws_FnExactTitleWords.j0]) ?_
  refine Ev.bind hm (Ev.bind hh (ev_neg (by simp; omega) (ev_pos (by simp) (Ev.bind himp (Ev.bind heq (ev_pos rfl ?_))))))
  rw [e]
  refine Ev.step (f := fun k => (laws_heldStringS.f k (mts 1 R.1.length) 1).bind fun t336 => (if t336 < 0 then (some false) else (if t336 = 1 + (R.1.length : Int) then (some true) else (some false)))) (fun k => by simp [laws_FnExactTitleWords.j1]) ?_
  exact Ev.bind hh (ev_neg (by omega) (ev_pos rfl (Ev.now _)))
end Go.Proofs.YtcbmccjbhfggjaaDoor.Pure
