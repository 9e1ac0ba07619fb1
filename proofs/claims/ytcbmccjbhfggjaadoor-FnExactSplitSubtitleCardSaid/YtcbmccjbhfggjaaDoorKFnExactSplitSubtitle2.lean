/- Texts of this session for the law FnExactSplitSubtitle, put together by a program (merge.py): each ends with its namespace; conditions stand with each theorem. -/
import Derived.Test.YtcbmccjbhfggjaaDoorKFnExactSplitSubtitle1
import Derived.Test.YtcbmccjbhfggjaaDoorWWords
import Derived.Deep.Slices
import Derived.Test.YtcbmccjbhfggjaaDoorWMore
import Derived.Lib.Strings
import Derived.Lib.SplitLaws
import Derived.Lib.IndexBytes
import Derived.Lib.IndexLaws
import Derived.Lib.IndexMore
import Derived.Lib.ItoaLen
import Derived.Lib.ItoaNum
namespace Go.Proofs.YtcbmccjbhfggjaaDoor.G
open Go.RowKit Go.Proofs.YtcbmccjbhfggjaaDoorW.PrintWords Go.Proofs.YtcbmccjbhfggjaaDoorW.PrintLast Go.Proofs.YtcbmccjbhfggjaaDoorW.PrintMore
open Go.Proofs.YtcbmccjbhfggjaaDoor.Gl Go.Proofs.YtcbmccjbhfggjaaDoor.Ext
attribute [local go_sem] max2_int min2_int max_two min_two max_three min_three max_four min_four   -- for this text's walks alone
set_option linter.unusedVariables false
set_option linter.unusedSimpArgs false

/-! ### impl_splitSubtitle: function 77 -/
mutual
def impl_splitSubtitle.l0 : Nat → ByteArray → List Bool → Int → Option (ByteArray × ByteArray × Bool)
  | 0, _, _, _ => none
  | k + 1, x0, x5, x7 => if (wrap64 (x7 + 1)) < (x0.size : Int) then (if 0 ≤ x7 then (if x7 < (x0.size : Int) then (if (bt x0 x7) = 58 then (if 0 ≤ (wrap64 (x7 + 1)) then (if (bt x0 (wrap64 (x7 + 1))) = 32 then (if x7 < (x5.length : Int) then (if rdOf false x5 x7 = true then (impl_splitSubtitle.j1 k x0 x5 x7 true) else (if (wrap64 (x7 + 1)) < (x5.length : Int) then (impl_splitSubtitle.j1 k x0 x5 x7 (rdOf false x5 (wrap64 (x7 + 1)))) else (none))) else (none)) else (impl_splitSubtitle.j1 k x0 x5 x7 true)) else (none)) else (impl_splitSubtitle.j1 k x0 x5 x7 true)) else (none)) else (none)) else (some (x0, (⟨#[]⟩ : ByteArray), true))
def impl_splitSubtitle.j1 : Nat → ByteArray → List Bool → Int → Bool → Option (ByteArray × ByteArray × Bool)
  | 0, _, _, _, _ => none
  | k + 1, x0, x5, x7, x45 => if x45 = true then (impl_splitSubtitle.l0 k x0 x5 (wrap64 (x7 + 1))) else (if 0 ≤ x7 then (if x7 ≤ (x0.size : Int) then (if 0 ≤ (wrap64 (x7 + 2)) then (if (wrap64 (x7 + 2)) ≤ (x0.size : Int) then (if (x0.extract 0 (x7 : Int).toNat).toList = ([] : List UInt8) then (some ((⟨#[]⟩ : ByteArray), (⟨#[]⟩ : ByteArray), false)) else (if (x0.extract ((wrap64 (x7 + 2)) : Int).toNat x0.size).toList = ([] : List UInt8) then (some ((⟨#[]⟩ : ByteArray), (⟨#[]⟩ : ByteArray), false)) else ((strings_Trim.f k (x0.extract 0 (x7 : Int).toNat) (⟨#[32]⟩ : ByteArray)).bind fun t264 => (if t264.toList = (x0.extract 0 (x7 : Int).toNat).toList then ((strings_Trim.f k (x0.extract ((wrap64 (x7 + 2)) : Int).toNat x0.size) (⟨#[32]⟩ : ByteArray)).bind fun t265 => (if t265.toList = (x0.extract ((wrap64 (x7 + 2)) : Int).toNat x0.size).toList then (some (x0.extract 0 (x7 : Int).toNat, x0.extract ((wrap64 (x7 + 2)) : Int).toNat x0.size, true)) else (some ((⟨#[]⟩ : ByteArray), (⟨#[]⟩ : ByteArray), false)))) else (some ((⟨#[]⟩ : ByteArray), (⟨#[]⟩ : ByteArray), false)))))) else (none)) else (none)) else (none)) else (none))
end
def impl_splitSubtitle.f (k : Nat) (a0 : ByteArray) : Option (ByteArray × ByteArray × Bool) := (impl_protected.f k a0).bind fun bt258 => (impl_splitSubtitle.l0 k a0 bt258.1 0)
theorem impl_splitSubtitle.mono_l : ∀ k, (∀ y0 y1 y2, LeO (impl_splitSubtitle.l0 k y0 y1 y2) (impl_splitSubtitle.l0 (k + 1) y0 y1 y2)) ∧ (∀ y0 y1 y2 y3, LeO (impl_splitSubtitle.j1 k y0 y1 y2 y3) (impl_splitSubtitle.j1 (k + 1) y0 y1 y2 y3))
  | 0 => ⟨fun _ _ _ r h => by simp [impl_splitSubtitle.l0] at h, fun _ _ _ _ r h => by simp [impl_splitSubtitle.j1] at h⟩
  | k + 1 => by
    obtain ⟨ih0, ih1⟩ := impl_splitSubtitle.mono_l k
    refine ⟨?_, ?_⟩
    · intro y0 y1 y2
      unfold impl_splitSubtitle.l0
      repeat' first
      | (with_reducible exact ih0 _ _ _)
      | (with_reducible exact ih1 _ _ _ _)
      | (with_reducible exact impl_protected.mono _ _)
      | (with_reducible exact strings_Trim.mono _ _ _)
      | (with_reducible exact LeO.refl _)
      | (with_reducible exact LeO.none _)
      | (with_reducible refine LeO.ite ?_ ?_)
      | (with_reducible refine LeO.bind ?_ (fun _ => ?_))
      | exact ih0 _ _ _
      | exact ih1 _ _ _ _
      | exact impl_protected.mono _ _
      | exact strings_Trim.mono _ _ _
      | exact LeO.none _
      | refine LeO.ite ?_ ?_
      | refine LeO.bind ?_ (fun _ => ?_)
    · intro y0 y1 y2 y3
      unfold impl_splitSubtitle.j1
      repeat' first
      | (with_reducible exact ih0 _ _ _)
      | (with_reducible exact ih1 _ _ _ _)
      | (with_reducible exact impl_protected.mono _ _)
      | (with_reducible exact strings_Trim.mono _ _ _)
      | (with_reducible exact LeO.refl _)
      | (with_reducible exact LeO.none _)
      | (with_reducible refine LeO.ite ?_ ?_)
      | (with_reducible refine LeO.bind ?_ (fun _ => ?_))
      | exact ih0 _ _ _
      | exact ih1 _ _ _ _
      | exact impl_protected.mono _ _
      | exact strings_Trim.mono _ _ _
      | exact LeO.none _
      | refine LeO.ite ?_ ?_
      | refine LeO.bind ?_ (fun _ => ?_)
theorem impl_splitSubtitle.mono : ∀ a0 k, LeO (impl_splitSubtitle.f k a0) (impl_splitSubtitle.f (k + 1) a0) := by
  intro a0 k
  obtain ⟨ih0, ih1⟩ := impl_splitSubtitle.mono_l k
  unfold impl_splitSubtitle.f
  repeat' first
      | (with_reducible exact ih0 _ _ _)
      | (with_reducible exact ih1 _ _ _ _)
      | (with_reducible exact impl_protected.mono _ _)
      | (with_reducible exact strings_Trim.mono _ _ _)
      | (with_reducible exact LeO.refl _)
      | (with_reducible exact LeO.none _)
      | (with_reducible refine LeO.ite ?_ ?_)
      | (with_reducible refine LeO.bind ?_ (fun _ => ?_))
      | exact ih0 _ _ _
      | exact ih1 _ _ _ _
      | exact impl_protected.mono _ _
      | exact strings_Trim.mono _ _ _
      | exact LeO.none _
      | refine LeO.ite ?_ ?_
      | refine LeO.bind ?_ (fun _ => ?_)
set_option maxHeartbeats 8000000 in
set_option maxRecDepth 100000 in
theorem impl_splitSubtitle.calls (k : Nat) (a0 : ByteArray) (r1 : ByteArray) (r2 : ByteArray) (r3 : Bool) (w : World) (h : impl_splitSubtitle.f k a0 = some (r1, r2, r3)) :
    Calls Tryd.prog 77 #[.string a0] w fun e w' => e = .returned (.tuple #[.string r1, .string r2, .bool r3]) ∧ Below w.heap.size w w' := by
  have HB := Aside0.mk (Below.refl w.heap.size w)
  have H : ((impl_protected.f k a0).bind fun bt258 => (impl_splitSubtitle.l0 k a0 bt258.1 0)) = some (r1, r2, r3) := h
  clear h
  replace H := Option.bind_eq_some_iff.mp H
  obtain ⟨⟨t258, t259⟩, A20, H⟩ := H
  replace H : (impl_splitSubtitle.l0 k a0 t258 0) = some (r1, r2, r3) := H
  have A2 := Aside0.mk A20
  clear A20
  have H' := Aside0.mk H
  clear H
  go_enter Tryd.func77, Tryd.ntmps77
  go_wp2_with (first | (go_at_call 74; (with_reducible refine (impl_protected.calls k a0 t258 t259 _ A2.out).mono ?_); rintro e w3 ⟨v260, rfl, ho0, hb⟩; have n0_ := Aside0.mk (Kd.R_lower ho0 (below_size (by repeat (first | (with_reducible first | exact HB.out | apply below_alloc | apply pw_below_drewN | apply below_drew1) | exact HB.out)))); have n1_ := Aside0.mk (below_step (by repeat (first | (with_reducible first | exact HB.out | apply below_alloc | apply pw_below_drewN | apply below_drew1) | exact HB.out)) hb); clear HB; have HO261 := n0_; have HB := n1_; clear n0_ n1_; (try clear hb); (try clear hb2); (try clear hk); (try clear hi); (try clear ho0)))
  repeat (go_quiet (first | (go_at_call 74; (with_reducible refine (impl_protected.calls k a0 t258 t259 _ A2.out).mono ?_); rintro e w3 ⟨v260, rfl, ho0, hb⟩; have n0_ := Aside0.mk (Kd.R_lower ho0 (below_size (by repeat (first | (with_reducible first | exact HB.out | apply below_alloc | apply pw_below_drewN | apply below_drew1) | exact HB.out)))); have n1_ := Aside0.mk (below_step (by repeat (first | (with_reducible first | exact HB.out | apply below_alloc | apply pw_below_drewN | apply below_drew1) | exact HB.out)) hb); clear HB; have HO261 := n0_; have HB := n1_; clear n0_ n1_; (try clear hb); (try clear hb2); (try clear hk); (try clear hi); (try clear ho0))); try go_wp2_with (first | (go_at_call 74; (with_reducible refine (impl_protected.calls k a0 t258 t259 _ A2.out).mono ?_); rintro e w3 ⟨v260, rfl, ho0, hb⟩; have n0_ := Aside0.mk (Kd.R_lower ho0 (below_size (by repeat (first | (with_reducible first | exact HB.out | apply below_alloc | apply pw_below_drewN | apply below_drew1) | exact HB.out)))); have n1_ := Aside0.mk (below_step (by repeat (first | (with_reducible first | exact HB.out | apply below_alloc | apply pw_below_drewN | apply below_drew1) | exact HB.out)) hb); clear HB; have HO261 := n0_; have HB := n1_; clear n0_ n1_; (try clear hb); (try clear hb2); (try clear hk); (try clear hi); (try clear ho0))))
  go_loopg [7] k (fun kq v7 w' => ∃ (x7_1 : Int), v7 = .int .i64 x7_1 ∧ Aside0 (impl_splitSubtitle.l0 kq a0 t258 x7_1 = some (r1, r2, r3)) ∧ Aside0 (kq ≤ k) ∧ Aside0 (Kd.R Kd.bool 4 w' w.heap.size (fun _ => True) v260 t258) ∧ Aside0 (Below w.heap.size w w'))
  case atStart => exact ⟨(0), (by first | rfl | (simp; done) | (simp [*]; done)), H', ⟨Nat.le_refl _⟩, ⟨by (with_reducible repeat (first | apply Kd.R_alloc | apply Kd.R_drewN | apply Kd.R_drew)); exact HO261.out⟩, ⟨by repeat (first | (with_reducible first | exact HB.out | apply below_alloc | apply pw_below_drewN | apply below_drew1) | exact HB.out)⟩⟩
  case round =>
    clear H'
    try clear p2
    obtain ⟨x7_1, rfl, HA, HK1, HO_5, HB⟩ := hrel
    cases gk with
    | zero => exact absurd HA.out (by simp [impl_splitSubtitle.l0])
    | succ k1 =>
      have H := HA.out
      clear HA
      simp only [impl_splitSubtitle.l0] at H
      by_cases c4 : (wrap64 (x7_1 + 1)) < (a0.size : Int)
      · rw [if_pos c4] at H
        have c4b0 : decide ((wrap64 (x7_1 + 1)) < (a0.size : Int)) = true := decide_eq_true c4
        clear c4
        have HC5 := Aside0.mk H
        clear H
        go_upto_region 5 with (fail)
        repeat (go_quiet (fail); go_upto_region 5 with (fail))
        go_cut [45] (fun v45 wc => ∃ (kq : Nat) (x45_4 : Bool), v45 = .bool x45_4 ∧ Aside0 (impl_splitSubtitle.j1 kq a0 t258 x7_1 x45_4 = some (r1, r2, r3)) ∧ Aside0 (kq ≤ k1) ∧ Aside0 (Kd.R Kd.bool 4 wc w.heap.size (fun _ => True) v260 t258) ∧ Aside0 (Below w.heap.size w wc))
        case first =>
          have H := HC5.out
          clear HC5
          by_cases c6 : 0 ≤ x7_1
          · rw [if_pos c6] at H
            have c6b0 : decide (0 ≤ x7_1) = true := decide_eq_true c6
            clear c6
            (first | rw [c6b0] | (simp only [i64_w, i32_w]; rw [c6b0]) | skip)
            by_cases c7 : x7_1 < (a0.size : Int)
            · rw [if_pos c7] at H
              have c7b0 : decide (x7_1 < (a0.size : Int)) = true := decide_eq_true c7
              clear c7
              by_cases c9 : (bt a0 x7_1) = 58
              · rw [if_pos c9] at H
                have c9b0 : ((bt a0 x7_1) == 58) = true := beq_iff_eq.mpr c9
                have c9b1 : ((bt a0 x7_1) != 58) = false := bne_eq_false_iff_eq.mpr c9
                clear c9
                obtain ⟨ji10, hji10⟩ : ∃ j_ : Int, (wrap64 (x7_1 + 1)) = j_ := ⟨_, rfl⟩
                replace H : (if 0 ≤ (ji10) then (if (bt a0 (ji10)) = 32 then (if x7_1 < (t258.length : Int) then (if rdOf false t258 x7_1 = true then (impl_splitSubtitle.j1 k1 a0 t258 x7_1 true) else (if (ji10) < (t258.length : Int) then (impl_splitSubtitle.j1 k1 a0 t258 x7_1 (rdOf false t258 (ji10))) else (none))) else (none)) else (impl_splitSubtitle.j1 k1 a0 t258 x7_1 true)) else (none)) = some (r1, r2, r3) := by first | (rw [hji10] at H; exact H) | (simp only [hji10] at H ⊢; exact H)
                (try rw [hji10] at c4b0)
                have hji10w : (IntKind.i64.wrap (x7_1 + 1)) = ji10 := (i64_w _).trans hji10
                by_cases c11 : 0 ≤ (ji10)
                · rw [if_pos c11] at H
                  have c11b0 : decide (0 ≤ (ji10)) = true := decide_eq_true c11
                  clear c11
                  by_cases c13 : (bt a0 (ji10)) = 32
                  · rw [if_pos c13] at H
                    have c13b0 : ((bt a0 (ji10)) == 32) = true := beq_iff_eq.mpr c13
                    have c13b1 : ((bt a0 (ji10)) != 32) = false := bne_eq_false_iff_eq.mpr c13
                    clear c13
                    by_cases c14 : x7_1 < (t258.length : Int)
                    · rw [if_pos c14] at H
                      have c14b0 : decide (x7_1 < (t258.length : Int)) = true := decide_eq_true c14
                      clear c14
                      obtain ⟨bq15, hbq15⟩ : ∃ b_ : Bool, b_ = (rdOf false t258 x7_1) := ⟨_, rfl⟩
                      replace H : (if bq15 = true then (impl_splitSubtitle.j1 k1 a0 t258 x7_1 true) else (if (ji10) < (t258.length : Int) then (impl_splitSubtitle.j1 k1 a0 t258 x7_1 (rdOf false t258 (ji10))) else (none))) = some (r1, r2, r3) := by rw [← hbq15] at H; exact H
                      have Nbq15 := Aside0.mk hbq15
                      clear hbq15
                      by_cases c16 : bq15 = true
                      · subst c16
                        have H1 : (impl_splitSubtitle.j1 k1 a0 t258 x7_1 true) = some (r1, r2, r3) := by rw [if_pos rfl] at H; exact H
                        clear H
                        have H := H1
                        clear H1
                        have H' := Aside0.mk H
                        clear H
                        have p8 : 0 ≤ (x7_1 : Int) := of_decide_eq_true (by first | (with_reducible assumption) | assumption)
                        have q8 : x7_1 < (a0.size : Int) := of_decide_eq_true (by first | (with_reducible assumption) | assumption)
                        have hx8 := bt_at a0 x7_1
                        replace p8 := eq_true p8
                        replace q8 := eq_true q8
                        have p12 : 0 ≤ ((ji10) : Int) := of_decide_eq_true (by first | (with_reducible assumption) | assumption)
                        have q12 : (ji10) < (a0.size : Int) := of_decide_eq_true (by first | (with_reducible assumption) | assumption)
                        have hx12 := bt_at a0 (ji10)
                        replace p12 := eq_true p12
                        replace q12 := eq_true q12
                        obtain ⟨Ao17, co17, eo17⟩ := Kd.R_slice HO_5.out
                        subst eo17
                        have p262 : 0 ≤ (x7_1 : Int) := of_decide_eq_true (by first | (with_reducible assumption) | assumption)
                        have q262 : x7_1 < (t258.length : Int) := of_decide_eq_true (by first | (with_reducible assumption) | assumption)
                        obtain ⟨ad262, e262, hx262_0⟩ := Kd.at_bool (Kd.R_reads' HO_5.out).2.2 x7_1 p262 q262
                        (try rw [← Nbq15.out] at hx262_0)
                        cases e262
                        replace p262 := eq_true p262
                        replace q262 := eq_true q262
                        go_wp2
                        repeat (go_quiet (fail); try go_wp2)
                        go_meet
                        case rel => exact ⟨_, (true), (by first | rfl | (simp; done) | (simp [*]; done)), H', ⟨by have := HK1.out; first | omega | exact Nat.le_refl _⟩, ⟨by (with_reducible repeat (first | apply Kd.R_alloc | apply Kd.R_drewN | apply Kd.R_drew)); exact HO_5.out⟩, ⟨by repeat (first | (with_reducible first | exact HB.out | apply below_alloc | apply pw_below_drewN | apply below_drew1) | exact HB.out)⟩⟩
                      · replace c16 := Bool.eq_false_iff.mpr c16
                        subst c16
                        have H1 : (if (ji10) < (t258.length : Int) then (impl_splitSubtitle.j1 k1 a0 t258 x7_1 (rdOf false t258 (ji10))) else (none)) = some (r1, r2, r3) := by rw [if_neg (show ¬ (false = true) by decide)] at H; exact H
                        clear H
                        have H := H1
                        clear H1
                        by_cases c18 : (ji10) < (t258.length : Int)
                        · rw [if_pos c18] at H
                          have c18b0 : decide ((ji10) < (t258.length : Int)) = true := decide_eq_true c18
                          clear c18
                          have H' := Aside0.mk H
                          clear H
                          have p8 : 0 ≤ (x7_1 : Int) := of_decide_eq_true (by first | (with_reducible assumption) | assumption)
                          have q8 : x7_1 < (a0.size : Int) := of_decide_eq_true (by first | (with_reducible assumption) | assumption)
                          have hx8 := bt_at a0 x7_1
                          replace p8 := eq_true p8
                          replace q8 := eq_true q8
                          have p12 : 0 ≤ ((ji10) : Int) := of_decide_eq_true (by first | (with_reducible assumption) | assumption)
                          have q12 : (ji10) < (a0.size : Int) := of_decide_eq_true (by first | (with_reducible assumption) | assumption)
                          have hx12 := bt_at a0 (ji10)
                          replace p12 := eq_true p12
                          replace q12 := eq_true q12
                          obtain ⟨Ao19, co19, eo19⟩ := Kd.R_slice HO_5.out
                          subst eo19
                          have p262 : 0 ≤ (x7_1 : Int) := of_decide_eq_true (by first | (with_reducible assumption) | assumption)
                          have q262 : x7_1 < (t258.length : Int) := of_decide_eq_true (by first | (with_reducible assumption) | assumption)
                          obtain ⟨ad262, e262, hx262_0⟩ := Kd.at_bool (Kd.R_reads' HO_5.out).2.2 x7_1 p262 q262
                          (try rw [← Nbq15.out] at hx262_0)
                          cases e262
                          replace p262 := eq_true p262
                          replace q262 := eq_true q262
                          have p263 : 0 ≤ ((ji10) : Int) := of_decide_eq_true (by first | (with_reducible assumption) | assumption)
                          have q263 : (ji10) < (t258.length : Int) := of_decide_eq_true (by first | (with_reducible assumption) | assumption)
                          obtain ⟨ad263, e263, hx263_0⟩ := Kd.at_bool (Kd.R_reads' HO_5.out).2.2 (ji10) p263 q263
                          (try rw [← Nbq15.out] at hx263_0)
                          obtain rfl : ad262 = ad263 := (by injection e263)
                          replace p263 := eq_true p263
                          replace q263 := eq_true q263
                          go_wp2
                          repeat (go_quiet (fail); try go_wp2)
                          go_meet
                          case rel => exact ⟨_, (rdOf false t258 (ji10)), (by first | rfl | (simp; done) | (simp only [← hji10] <;> (first | rfl | simp)) | (simp [*]; done)), H', ⟨by have := HK1.out; first | omega | exact Nat.le_refl _⟩, ⟨by (with_reducible repeat (first | apply Kd.R_alloc | apply Kd.R_drewN | apply Kd.R_drew)); exact HO_5.out⟩, ⟨by repeat (first | (with_reducible first | exact HB.out | apply below_alloc | apply pw_below_drewN | apply below_drew1) | exact HB.out)⟩⟩
                        · rw [if_neg c18] at H
                          exact absurd H (by simp)
                    · rw [if_neg c14] at H
                      exact absurd H (by simp)
                  · rw [if_neg c13] at H
                    have c13b0 : ((bt a0 (ji10)) == 32) = false := beq_eq_false_iff_ne.mpr c13
                    have c13b1 : ((bt a0 (ji10)) != 32) = true := bne_iff_ne.mpr c13
                    have H' := Aside0.mk H
                    clear H
                    have p8 : 0 ≤ (x7_1 : Int) := of_decide_eq_true (by first | (with_reducible assumption) | assumption)
                    have q8 : x7_1 < (a0.size : Int) := of_decide_eq_true (by first | (with_reducible assumption) | assumption)
                    have hx8 := bt_at a0 x7_1
                    replace p8 := eq_true p8
                    replace q8 := eq_true q8
                    have p12 : 0 ≤ ((ji10) : Int) := of_decide_eq_true (by first | (with_reducible assumption) | assumption)
                    have q12 : (ji10) < (a0.size : Int) := of_decide_eq_true (by first | (with_reducible assumption) | assumption)
                    have hx12 := bt_at a0 (ji10)
                    replace p12 := eq_true p12
                    replace q12 := eq_true q12
                    go_wp2
                    repeat (go_quiet (fail); try go_wp2)
                    go_meet
                    case rel => exact ⟨_, (true), (by first | rfl | (simp; done) | (simp [*]; done)), H', ⟨by have := HK1.out; first | omega | exact Nat.le_refl _⟩, ⟨by (with_reducible repeat (first | apply Kd.R_alloc | apply Kd.R_drewN | apply Kd.R_drew)); exact HO_5.out⟩, ⟨by repeat (first | (with_reducible first | exact HB.out | apply below_alloc | apply pw_below_drewN | apply below_drew1) | exact HB.out)⟩⟩
                · rw [if_neg c11] at H
                  exact absurd H (by simp)
              · rw [if_neg c9] at H
                have c9b0 : ((bt a0 x7_1) == 58) = false := beq_eq_false_iff_ne.mpr c9
                have c9b1 : ((bt a0 x7_1) != 58) = true := bne_iff_ne.mpr c9
                have H' := Aside0.mk H
                clear H
                have p8 : 0 ≤ (x7_1 : Int) := of_decide_eq_true (by first | (with_reducible assumption) | assumption)
                have q8 : x7_1 < (a0.size : Int) := of_decide_eq_true (by first | (with_reducible assumption) | assumption)
                have hx8 := bt_at a0 x7_1
                replace p8 := eq_true p8
                replace q8 := eq_true q8
                go_wp2
                repeat (go_quiet (fail); try go_wp2)
                go_meet
                case rel => exact ⟨_, (true), (by first | rfl | (simp; done) | (simp [*]; done)), H', ⟨by have := HK1.out; first | omega | exact Nat.le_refl _⟩, ⟨by (with_reducible repeat (first | apply Kd.R_alloc | apply Kd.R_drewN | apply Kd.R_drew)); exact HO_5.out⟩, ⟨by repeat (first | (with_reducible first | exact HB.out | apply below_alloc | apply pw_below_drewN | apply below_drew1) | exact HB.out)⟩⟩
            · rw [if_neg c7] at H
              exact absurd H (by simp)
          · rw [if_neg c6] at H
            exact absurd H (by simp)
        case rest =>
          clear HC5
          try clear c1
          try clear p1
          try clear q1
          try clear hx1
          try clear p2
          try clear q2
          try clear hx2
          try clear c4
          try clear c4b0
          try clear c6
          try clear c6b0
          try clear p6
          try clear c7
          try clear c7b0
          try clear p8
          try clear q8
          try clear hx8
          try clear c9
          try clear c9b0
          try clear c9b1
          try clear c11
          try clear c11b0
          try clear p12
          try clear q12
          try clear hx12
          try clear c13
          try clear c13b0
          try clear c13b1
          try clear c14
          try clear c14b0
          try clear q15
          try clear c16
          try clear c18
          try clear c18b0
          try clear hx262_0
          try clear hx263_0
          try clear p12
          try clear p2
          try clear p262
          try clear p263
          try clear p8
          try clear q12
          try clear q262
          try clear q263
          try clear q8
          obtain ⟨kq, x45_4, rfl, HA, HJ4, HO_5, HB⟩ := hcut
          cases kq with
          | zero => exact absurd HA.out (by simp [impl_splitSubtitle.j1])
          | succ kj4 =>
            have H := HA.out
            clear HA
            simp only [impl_splitSubtitle.j1] at H
            by_cases c20 : x45_4 = true
            · subst c20
              have H1 : (impl_splitSubtitle.l0 kj4 a0 t258 (wrap64 (x7_1 + 1))) = some (r1, r2, r3) := by rw [if_pos rfl] at H; exact H
              clear H
              have H := H1
              clear H1
              have H' := Aside0.mk H
              clear H
              go_wp2
              repeat (go_quiet (fail); try go_wp2)
              go_roundg kj4
              case measure => have := HK1.out; have := HJ4.out; omega
              case rel => exact ⟨(wrap64 (x7_1 + 1)), (by first | rfl | (simp; done) | (simp [*]; done)), H', ⟨by have := HK1.out; have := HJ4.out; omega⟩, ⟨by (with_reducible repeat (first | apply Kd.R_alloc | apply Kd.R_drewN | apply Kd.R_drew)); exact HO_5.out⟩, ⟨by repeat (first | (with_reducible first | exact HB.out | apply below_alloc | apply pw_below_drewN | apply below_drew1) | exact HB.out)⟩⟩
            · replace c20 := Bool.eq_false_iff.mpr c20
              subst c20
              have H1 : (if 0 ≤ x7_1 then (if x7_1 ≤ (a0.size : Int) then (if 0 ≤ (wrap64 (x7_1 + 2)) then (if (wrap64 (x7_1 + 2)) ≤ (a0.size : Int) then (if (a0.extract 0 (x7_1 : Int).toNat).toList = ([] : List UInt8) then (some ((⟨#[]⟩ : ByteArray), (⟨#[]⟩ : ByteArray), false)) else (if (a0.extract ((wrap64 (x7_1 + 2)) : Int).toNat a0.size).toList = ([] : List UInt8) then (some ((⟨#[]⟩ : ByteArray), (⟨#[]⟩ : ByteArray), false)) else ((strings_Trim.f kj4 (a0.extract 0 (x7_1 : Int).toNat) (⟨#[32]⟩ : ByteArray)).bind fun t264 => (if t264.toList = (a0.extract 0 (x7_1 : Int).toNat).toList then ((strings_Trim.f kj4 (a0.extract ((wrap64 (x7_1 + 2)) : Int).toNat a0.size) (⟨#[32]⟩ : ByteArray)).bind fun t265 => (if t265.toList = (a0.extract ((wrap64 (x7_1 + 2)) : Int).toNat a0.size).toList then (some (a0.extract 0 (x7_1 : Int).toNat, a0.extract ((wrap64 (x7_1 + 2)) : Int).toNat a0.size, true)) else (some ((⟨#[]⟩ : ByteArray), (⟨#[]⟩ : ByteArray), false)))) else (some ((⟨#[]⟩ : ByteArray), (⟨#[]⟩ : ByteArray), false)))))) else (none)) else (none)) else (none)) else (none)) = some (r1, r2, r3) := by rw [if_neg (show ¬ (false = true) by decide)] at H; exact H
              clear H
              have H := H1
              clear H1
              by_cases c21 : 0 ≤ x7_1
              · rw [if_pos c21] at H
                have c21b0 := eq_true c21
                have c21b1 : decide (0 ≤ x7_1) = true := decide_eq_true c21
                clear c21
                by_cases c22 : x7_1 ≤ (a0.size : Int)
                · rw [if_pos c22] at H
                  have c22b0 := eq_true c22
                  have c22b1 : decide (x7_1 ≤ (a0.size : Int)) = true := decide_eq_true c22
                  clear c22
                  obtain ⟨ji23, hji23⟩ : ∃ j_ : Int, (wrap64 (x7_1 + 2)) = j_ := ⟨_, rfl⟩
                  replace H : (if 0 ≤ (ji23) then (if (ji23) ≤ (a0.size : Int) then (if (a0.extract 0 (x7_1 : Int).toNat).toList = ([] : List UInt8) then (some ((⟨#[]⟩ : ByteArray), (⟨#[]⟩ : ByteArray), false)) else (if (a0.extract ((ji23) : Int).toNat a0.size).toList = ([] : List UInt8) then (some ((⟨#[]⟩ : ByteArray), (⟨#[]⟩ : ByteArray), false)) else ((strings_Trim.f kj4 (a0.extract 0 (x7_1 : Int).toNat) (⟨#[32]⟩ : ByteArray)).bind fun t264 => (if t264.toList = (a0.extract 0 (x7_1 : Int).toNat).toList then ((strings_Trim.f kj4 (a0.extract ((ji23) : Int).toNat a0.size) (⟨#[32]⟩ : ByteArray)).bind fun t265 => (if t265.toList = (a0.extract ((ji23) : Int).toNat a0.size).toList then (some (a0.extract 0 (x7_1 : Int).toNat, a0.extract ((ji23) : Int).toNat a0.size, true)) else (some ((⟨#[]⟩ : ByteArray), (⟨#[]⟩ : ByteArray), false)))) else (some ((⟨#[]⟩ : ByteArray), (⟨#[]⟩ : ByteArray), false)))))) else (none)) else (none)) = some (r1, r2, r3) := by first | (rw [hji23] at H; exact H) | (simp only [hji23] at H ⊢; exact H)
                  have hji23w : (IntKind.i64.wrap (x7_1 + 2)) = ji23 := (i64_w _).trans hji23
                  by_cases c24 : 0 ≤ (ji23)
                  · rw [if_pos c24] at H
                    have c24b0 := eq_true c24
                    have c24b1 : decide (0 ≤ (ji23)) = true := decide_eq_true c24
                    clear c24
                    by_cases c25 : (ji23) ≤ (a0.size : Int)
                    · rw [if_pos c25] at H
                      have c25b0 := eq_true c25
                      have c25b1 : decide ((ji23) ≤ (a0.size : Int)) = true := decide_eq_true c25
                      clear c25
                      by_cases c26 : (a0.extract 0 (x7_1 : Int).toNat).toList = ([] : List UInt8)
                      · rw [if_pos c26] at H
                        have c26b0 : ((a0.extract 0 (x7_1 : Int).toNat).toList == ([] : List UInt8)) = true := beq_iff_eq.mpr c26
                        have c26b1 : ((a0.extract 0 (x7_1 : Int).toNat).toList != ([] : List UInt8)) = false := bne_eq_false_iff_eq.mpr c26
                        clear c26
                        simp only [Option.some.injEq, Prod.mk.injEq] at H
                        obtain ⟨rfl, rfl, rfl⟩ := H
                        go_wp2
                        repeat (go_quiet (fail); try go_wp2)
                        go_ret3
                        exact ⟨by first | rfl | (simp [errW_none, errW_some] <;> rfl) | (simp only [← hji23]; first | rfl | (simp [errW_none, errW_some] <;> rfl)) | (simp [*, errW_none, errW_some] <;> rfl), by repeat (first | (with_reducible first | exact HB.out | apply below_alloc | apply pw_below_drewN | apply below_drew1) | exact HB.out)⟩
                      · rw [if_neg c26] at H
                        have c26b0 : ((a0.extract 0 (x7_1 : Int).toNat).toList == ([] : List UInt8)) = false := beq_eq_false_iff_ne.mpr c26
                        have c26b1 : ((a0.extract 0 (x7_1 : Int).toNat).toList != ([] : List UInt8)) = true := bne_iff_ne.mpr c26
                        by_cases c27 : (a0.extract ((ji23) : Int).toNat a0.size).toList = ([] : List UInt8)
                        · rw [if_pos c27] at H
                          have c27b0 : ((a0.extract ((ji23) : Int).toNat a0.size).toList == ([] : List UInt8)) = true := beq_iff_eq.mpr c27
                          have c27b1 : ((a0.extract ((ji23) : Int).toNat a0.size).toList != ([] : List UInt8)) = false := bne_eq_false_iff_eq.mpr c27
                          clear c27
                          simp only [Option.some.injEq, Prod.mk.injEq] at H
                          obtain ⟨rfl, rfl, rfl⟩ := H
                          go_wp2
                          repeat (go_quiet (fail); try go_wp2)
                          go_ret3
                          exact ⟨by first | rfl | (simp [errW_none, errW_some] <;> rfl) | (simp only [← hji23]; first | rfl | (simp [errW_none, errW_some] <;> rfl)) | (simp [*, errW_none, errW_some] <;> rfl), by repeat (first | (with_reducible first | exact HB.out | apply below_alloc | apply pw_below_drewN | apply below_drew1) | exact HB.out)⟩
                        · rw [if_neg c27] at H
                          have c27b0 : ((a0.extract ((ji23) : Int).toNat a0.size).toList == ([] : List UInt8)) = false := beq_eq_false_iff_ne.mpr c27
                          have c27b1 : ((a0.extract ((ji23) : Int).toNat a0.size).toList != ([] : List UInt8)) = true := bne_iff_ne.mpr c27
                          replace H := Option.bind_eq_some_iff.mp H
                          obtain ⟨t264, A280, H⟩ := H
                          replace H : (if t264.toList = (a0.extract 0 (x7_1 : Int).toNat).toList then ((strings_Trim.f kj4 (a0.extract ((ji23) : Int).toNat a0.size) (⟨#[32]⟩ : ByteArray)).bind fun t265 => (if t265.toList = (a0.extract ((ji23) : Int).toNat a0.size).toList then (some (a0.extract 0 (x7_1 : Int).toNat, a0.extract ((ji23) : Int).toNat a0.size, true)) else (some ((⟨#[]⟩ : ByteArray), (⟨#[]⟩ : ByteArray), false)))) else (some ((⟨#[]⟩ : ByteArray), (⟨#[]⟩ : ByteArray), false))) = some (r1, r2, r3) := H
                          have A28 := Aside0.mk A280
                          clear A280
                          by_cases c29 : t264.toList = (a0.extract 0 (x7_1 : Int).toNat).toList
                          · rw [if_pos c29] at H
                            have c29b0 : (t264.toList == (a0.extract 0 (x7_1 : Int).toNat).toList) = true := beq_iff_eq.mpr c29
                            have c29b1 : (t264.toList != (a0.extract 0 (x7_1 : Int).toNat).toList) = false := bne_eq_false_iff_eq.mpr c29
                            clear c29
                            replace H := Option.bind_eq_some_iff.mp H
                            obtain ⟨t265, A300, H⟩ := H
                            replace H : (if t265.toList = (a0.extract ((ji23) : Int).toNat a0.size).toList then (some (a0.extract 0 (x7_1 : Int).toNat, a0.extract ((ji23) : Int).toNat a0.size, true)) else (some ((⟨#[]⟩ : ByteArray), (⟨#[]⟩ : ByteArray), false))) = some (r1, r2, r3) := H
                            have A30 := Aside0.mk A300
                            clear A300
                            by_cases c31 : t265.toList = (a0.extract ((ji23) : Int).toNat a0.size).toList
                            · rw [if_pos c31] at H
                              have c31b0 : (t265.toList == (a0.extract ((ji23) : Int).toNat a0.size).toList) = true := beq_iff_eq.mpr c31
                              have c31b1 : (t265.toList != (a0.extract ((ji23) : Int).toNat a0.size).toList) = false := bne_eq_false_iff_eq.mpr c31
                              clear c31
                              simp only [Option.some.injEq, Prod.mk.injEq] at H
                              obtain ⟨rfl, rfl, rfl⟩ := H
                              go_wp2_with (first | (go_at_call 110; (with_reducible refine (strings_Trim.calls kj4 (a0.extract 0 (x7_1 : Int).toNat) (⟨#[32]⟩ : ByteArray) t264 _ A28.out).mono ?_); rintro e w32 ⟨rfl, hb⟩; have n0_ := Aside0.mk (Kd.R_below (by (with_reducible repeat (first | apply Kd.R_alloc | apply Kd.R_drewN | apply Kd.R_drew)); exact HO_5.out) hb); have n1_ := Aside0.mk (below_step (by repeat (first | (with_reducible first | exact HB.out | apply below_alloc | apply pw_below_drewN | apply below_drew1) | exact HB.out)) hb); clear HO_5; clear HB; have HO_5 := n0_; have HB := n1_; clear n0_ n1_; (try clear hb); (try clear hb2); (try clear hk); (try clear hi)) | (go_at_call 110; (with_reducible refine (strings_Trim.calls kj4 (a0.extract ((ji23) : Int).toNat a0.size) (⟨#[32]⟩ : ByteArray) t265 _ A30.out).mono ?_); rintro e w33 ⟨rfl, hb⟩; have n0_ := Aside0.mk (Kd.R_below (by (with_reducible repeat (first | apply Kd.R_alloc | apply Kd.R_drewN | apply Kd.R_drew)); exact HO_5.out) hb); have n1_ := Aside0.mk (below_step (by repeat (first | (with_reducible first | exact HB.out | apply below_alloc | apply pw_below_drewN | apply below_drew1) | exact HB.out)) hb); clear HO_5; clear HB; have HO_5 := n0_; have HB := n1_; clear n0_ n1_; (try clear hb); (try clear hb2); (try clear hk); (try clear hi)))
                              repeat (go_quiet (first | (go_at_call 110; (with_reducible refine (strings_Trim.calls kj4 (a0.extract 0 (x7_1 : Int).toNat) (⟨#[32]⟩ : ByteArray) t264 _ A28.out).mono ?_); rintro e w32 ⟨rfl, hb⟩; have n0_ := Aside0.mk (Kd.R_below (by (with_reducible repeat (first | apply Kd.R_alloc | apply Kd.R_drewN | apply Kd.R_drew)); exact HO_5.out) hb); have n1_ := Aside0.mk (below_step (by repeat (first | (with_reducible first | exact HB.out | apply below_alloc | apply pw_below_drewN | apply below_drew1) | exact HB.out)) hb); clear HO_5; clear HB; have HO_5 := n0_; have HB := n1_; clear n0_ n1_; (try clear hb); (try clear hb2); (try clear hk); (try clear hi)) | (go_at_call 110; (with_reducible refine (strings_Trim.calls kj4 (a0.extract ((ji23) : Int).toNat a0.size) (⟨#[32]⟩ : ByteArray) t265 _ A30.out).mono ?_); rintro e w33 ⟨rfl, hb⟩; have n0_ := Aside0.mk (Kd.R_below (by (with_reducible repeat (first | apply Kd.R_alloc | apply Kd.R_drewN | apply Kd.R_drew)); exact HO_5.out) hb); have n1_ := Aside0.mk (below_step (by repeat (first | (with_reducible first | exact HB.out | apply below_alloc | apply pw_below_drewN | apply below_drew1) | exact HB.out)) hb); clear HO_5; clear HB; have HO_5 := n0_; have HB := n1_; clear n0_ n1_; (try clear hb); (try clear hb2); (try clear hk); (try clear hi))); try go_wp2_with (first | (go_at_call 110; (with_reducible refine (strings_Trim.calls kj4 (a0.extract 0 (x7_1 : Int).toNat) (⟨#[32]⟩ : ByteArray) t264 _ A28.out).mono ?_); rintro e w32 ⟨rfl, hb⟩; have n0_ := Aside0.mk (Kd.R_below (by (with_reducible repeat (first | apply Kd.R_alloc | apply Kd.R_drewN | apply Kd.R_drew)); exact HO_5.out) hb); have n1_ := Aside0.mk (below_step (by repeat (first | (with_reducible first | exact HB.out | apply below_alloc | apply pw_below_drewN | apply below_drew1) | exact HB.out)) hb); clear HO_5; clear HB; have HO_5 := n0_; have HB := n1_; clear n0_ n1_; (try clear hb); (try clear hb2); (try clear hk); (try clear hi)) | (go_at_call 110; (with_reducible refine (strings_Trim.calls kj4 (a0.extract ((ji23) : Int).toNat a0.size) (⟨#[32]⟩ : ByteArray) t265 _ A30.out).mono ?_); rintro e w33 ⟨rfl, hb⟩; have n0_ := Aside0.mk (Kd.R_below (by (with_reducible repeat (first | apply Kd.R_alloc | apply Kd.R_drewN | apply Kd.R_drew)); exact HO_5.out) hb); have n1_ := Aside0.mk (below_step (by repeat (first | (with_reducible first | exact HB.out | apply below_alloc | apply pw_below_drewN | apply below_drew1) | exact HB.out)) hb); clear HO_5; clear HB; have HO_5 := n0_; have HB := n1_; clear n0_ n1_; (try clear hb); (try clear hb2); (try clear hk); (try clear hi))))
                              go_ret3
                              exact ⟨by first | rfl | (simp [errW_none, errW_some] <;> rfl) | (simp only [← hji23]; first | rfl | (simp [errW_none, errW_some] <;> rfl)) | (simp [*, errW_none, errW_some] <;> rfl), by repeat (first | (with_reducible first | exact HB.out | apply below_alloc | apply pw_below_drewN | apply below_drew1) | exact HB.out)⟩
                            · rw [if_neg c31] at H
                              have c31b0 : (t265.toList == (a0.extract ((ji23) : Int).toNat a0.size).toList) = false := beq_eq_false_iff_ne.mpr c31
                              have c31b1 : (t265.toList != (a0.extract ((ji23) : Int).toNat a0.size).toList) = true := bne_iff_ne.mpr c31
                              simp only [Option.some.injEq, Prod.mk.injEq] at H
                              obtain ⟨rfl, rfl, rfl⟩ := H
                              go_wp2_with (first | (go_at_call 110; (with_reducible refine (strings_Trim.calls kj4 (a0.extract 0 (x7_1 : Int).toNat) (⟨#[32]⟩ : ByteArray) t264 _ A28.out).mono ?_); rintro e w34 ⟨rfl, hb⟩; have n0_ := Aside0.mk (Kd.R_below (by (with_reducible repeat (first | apply Kd.R_alloc | apply Kd.R_drewN | apply Kd.R_drew)); exact HO_5.out) hb); have n1_ := Aside0.mk (below_step (by repeat (first | (with_reducible first | exact HB.out | apply below_alloc | apply pw_below_drewN | apply below_drew1) | exact HB.out)) hb); clear HO_5; clear HB; have HO_5 := n0_; have HB := n1_; clear n0_ n1_; (try clear hb); (try clear hb2); (try clear hk); (try clear hi)) | (go_at_call 110; (with_reducible refine (strings_Trim.calls kj4 (a0.extract ((ji23) : Int).toNat a0.size) (⟨#[32]⟩ : ByteArray) t265 _ A30.out).mono ?_); rintro e w35 ⟨rfl, hb⟩; have n0_ := Aside0.mk (Kd.R_below (by (with_reducible repeat (first | apply Kd.R_alloc | apply Kd.R_drewN | apply Kd.R_drew)); exact HO_5.out) hb); have n1_ := Aside0.mk (below_step (by repeat (first | (with_reducible first | exact HB.out | apply below_alloc | apply pw_below_drewN | apply below_drew1) | exact HB.out)) hb); clear HO_5; clear HB; have HO_5 := n0_; have HB := n1_; clear n0_ n1_; (try clear hb); (try clear hb2); (try clear hk); (try clear hi)))
                              repeat (go_quiet (first | (go_at_call 110; (with_reducible refine (strings_Trim.calls kj4 (a0.extract 0 (x7_1 : Int).toNat) (⟨#[32]⟩ : ByteArray) t264 _ A28.out).mono ?_); rintro e w34 ⟨rfl, hb⟩; have n0_ := Aside0.mk (Kd.R_below (by (with_reducible repeat (first | apply Kd.R_alloc | apply Kd.R_drewN | apply Kd.R_drew)); exact HO_5.out) hb); have n1_ := Aside0.mk (below_step (by repeat (first | (with_reducible first | exact HB.out | apply below_alloc | apply pw_below_drewN | apply below_drew1) | exact HB.out)) hb); clear HO_5; clear HB; have HO_5 := n0_; have HB := n1_; clear n0_ n1_; (try clear hb); (try clear hb2); (try clear hk); (try clear hi)) | (go_at_call 110; (with_reducible refine (strings_Trim.calls kj4 (a0.extract ((ji23) : Int).toNat a0.size) (⟨#[32]⟩ : ByteArray) t265 _ A30.out).mono ?_); rintro e w35 ⟨rfl, hb⟩; have n0_ := Aside0.mk (Kd.R_below (by (with_reducible repeat (first | apply Kd.R_alloc | apply Kd.R_drewN | apply Kd.R_drew)); exact HO_5.out) hb); have n1_ := Aside0.mk (below_step (by repeat (first | (with_reducible first | exact HB.out | apply below_alloc | apply pw_below_drewN | apply below_drew1) | exact HB.out)) hb); clear HO_5; clear HB; have HO_5 := n0_; have HB := n1_; clear n0_ n1_; (try clear hb); (try clear hb2); (try clear hk); (try clear hi))); try go_wp2_with (first | (go_at_call 110; (with_reducible refine (strings_Trim.calls kj4 (a0.extract 0 (x7_1 : Int).toNat) (⟨#[32]⟩ : ByteArray) t264 _ A28.out).mono ?_); rintro e w34 ⟨rfl, hb⟩; have n0_ := Aside0.mk (Kd.R_below (by (with_reducible repeat (first | apply Kd.R_alloc | apply Kd.R_drewN | apply Kd.R_drew)); exact HO_5.out) hb); have n1_ := Aside0.mk (below_step (by repeat (first | (with_reducible first | exact HB.out | apply below_alloc | apply pw_below_drewN | apply below_drew1) | exact HB.out)) hb); clear HO_5; clear HB; have HO_5 := n0_; have HB := n1_; clear n0_ n1_; (try clear hb); (try clear hb2); (try clear hk); (try clear hi)) | (go_at_call 110; (with_reducible refine (strings_Trim.calls kj4 (a0.extract ((ji23) : Int).toNat a0.size) (⟨#[32]⟩ : ByteArray) t265 _ A30.out).mono ?_); rintro e w35 ⟨rfl, hb⟩; have n0_ := Aside0.mk (Kd.R_below (by (with_reducible repeat (first | apply Kd.R_alloc | apply Kd.R_drewN | apply Kd.R_drew)); exact HO_5.out) hb); have n1_ := Aside0.mk (below_step (by repeat (first | (with_reducible first | exact HB.out | apply below_alloc | apply pw_below_drewN | apply below_drew1) | exact HB.out)) hb); clear HO_5; clear HB; have HO_5 := n0_; have HB := n1_; clear n0_ n1_; (try clear hb); (try clear hb2); (try clear hk); (try clear hi))))
                              go_ret3
                              exact ⟨by first | rfl | (simp [errW_none, errW_some] <;> rfl) | (simp only [← hji23]; first | rfl | (simp [errW_none, errW_some] <;> rfl)) | (simp [*, errW_none, errW_some] <;> rfl), by repeat (first | (with_reducible first | exact HB.out | apply below_alloc | apply pw_below_drewN | apply below_drew1) | exact HB.out)⟩
                          · rw [if_neg c29] at H
                            have c29b0 : (t264.toList == (a0.extract 0 (x7_1 : Int).toNat).toList) = false := beq_eq_false_iff_ne.mpr c29
                            have c29b1 : (t264.toList != (a0.extract 0 (x7_1 : Int).toNat).toList) = true := bne_iff_ne.mpr c29
                            simp only [Option.some.injEq, Prod.mk.injEq] at H
                            obtain ⟨rfl, rfl, rfl⟩ := H
                            go_wp2_with (first | (go_at_call 110; (with_reducible refine (strings_Trim.calls kj4 (a0.extract 0 (x7_1 : Int).toNat) (⟨#[32]⟩ : ByteArray) t264 _ A28.out).mono ?_); rintro e w36 ⟨rfl, hb⟩; have n0_ := Aside0.mk (Kd.R_below (by (with_reducible repeat (first | apply Kd.R_alloc | apply Kd.R_drewN | apply Kd.R_drew)); exact HO_5.out) hb); have n1_ := Aside0.mk (below_step (by repeat (first | (with_reducible first | exact HB.out | apply below_alloc | apply pw_below_drewN | apply below_drew1) | exact HB.out)) hb); clear HO_5; clear HB; have HO_5 := n0_; have HB := n1_; clear n0_ n1_; (try clear hb); (try clear hb2); (try clear hk); (try clear hi)))
                            repeat (go_quiet (first | (go_at_call 110; (with_reducible refine (strings_Trim.calls kj4 (a0.extract 0 (x7_1 : Int).toNat) (⟨#[32]⟩ : ByteArray) t264 _ A28.out).mono ?_); rintro e w36 ⟨rfl, hb⟩; have n0_ := Aside0.mk (Kd.R_below (by (with_reducible repeat (first | apply Kd.R_alloc | apply Kd.R_drewN | apply Kd.R_drew)); exact HO_5.out) hb); have n1_ := Aside0.mk (below_step (by repeat (first | (with_reducible first | exact HB.out | apply below_alloc | apply pw_below_drewN | apply below_drew1) | exact HB.out)) hb); clear HO_5; clear HB; have HO_5 := n0_; have HB := n1_; clear n0_ n1_; (try clear hb); (try clear hb2); (try clear hk); (try clear hi))); try go_wp2_with (first | (go_at_call 110; (with_reducible refine (strings_Trim.calls kj4 (a0.extract 0 (x7_1 : Int).toNat) (⟨#[32]⟩ : ByteArray) t264 _ A28.out).mono ?_); rintro e w36 ⟨rfl, hb⟩; have n0_ := Aside0.mk (Kd.R_below (by (with_reducible repeat (first | apply Kd.R_alloc | apply Kd.R_drewN | apply Kd.R_drew)); exact HO_5.out) hb); have n1_ := Aside0.mk (below_step (by repeat (first | (with_reducible first | exact HB.out | apply below_alloc | apply pw_below_drewN | apply below_drew1) | exact HB.out)) hb); clear HO_5; clear HB; have HO_5 := n0_; have HB := n1_; clear n0_ n1_; (try clear hb); (try clear hb2); (try clear hk); (try clear hi))))
                            go_ret3
                            exact ⟨by first | rfl | (simp [errW_none, errW_some] <;> rfl) | (simp only [← hji23]; first | rfl | (simp [errW_none, errW_some] <;> rfl)) | (simp [*, errW_none, errW_some] <;> rfl), by repeat (first | (with_reducible first | exact HB.out | apply below_alloc | apply pw_below_drewN | apply below_drew1) | exact HB.out)⟩
                    · rw [if_neg c25] at H
                      exact absurd H (by simp)
                  · rw [if_neg c24] at H
                    exact absurd H (by simp)
                · rw [if_neg c22] at H
                  exact absurd H (by simp)
              · rw [if_neg c21] at H
                exact absurd H (by simp)
      · rw [if_neg c4] at H
        have c4b0 : decide ((wrap64 (x7_1 + 1)) < (a0.size : Int)) = false := decide_eq_false c4
        clear c4
        simp only [Option.some.injEq, Prod.mk.injEq] at H
        obtain ⟨rfl, rfl, rfl⟩ := H
        go_wp2
        repeat (go_quiet (fail); try go_wp2)
        go_ret3
        exact ⟨by first | rfl | (simp [errW_none, errW_some] <;> rfl) | (simp [*, errW_none, errW_some] <;> rfl), by repeat (first | (with_reducible first | exact HB.out | apply below_alloc | apply pw_below_drewN | apply below_drew1) | exact HB.out)⟩

end Go.Proofs.YtcbmccjbhfggjaaDoor.G

namespace Go.Proofs.YtcbmccjbhfggjaaDoor.G
open Go.RowKit Go.Proofs.YtcbmccjbhfggjaaDoorW.PrintWords Go.Proofs.YtcbmccjbhfggjaaDoorW.PrintLast Go.Proofs.YtcbmccjbhfggjaaDoorW.PrintMore
open Go.Proofs.YtcbmccjbhfggjaaDoor.Gl Go.Proofs.YtcbmccjbhfggjaaDoor.Ext
attribute [local go_sem] max2_int min2_int max_two min_two max_three min_three max_four min_four   -- for this text's walks alone
set_option linter.unusedVariables false
set_option linter.unusedSimpArgs false

/-! ### impl_SplitSubtitle: function 30 -/
def impl_SplitSubtitle.f (k : Nat) (a0 : ByteArray) : Option (ByteArray × ByteArray × Bool) := (impl_IsValidTitle.f k a0).bind fun t266 => (if t266 = true then ((impl_splitSubtitle.f k a0).bind fun bt267 => (some (bt267.1, bt267.2.1, bt267.2.2))) else (some ((⟨#[]⟩ : ByteArray), (⟨#[]⟩ : ByteArray), false)))
theorem impl_SplitSubtitle.mono : ∀ a0 k, LeO (impl_SplitSubtitle.f k a0) (impl_SplitSubtitle.f (k + 1) a0) := by
  intro a0 k
  unfold impl_SplitSubtitle.f
  repeat' first
      | (with_reducible exact impl_IsValidTitle.mono _ _)
      | (with_reducible exact impl_splitSubtitle.mono _ _)
      | (with_reducible exact LeO.refl _)
      | (with_reducible exact LeO.none _)
      | (with_reducible refine LeO.ite ?_ ?_)
      | (with_reducible refine LeO.bind ?_ (fun _ => ?_))
      | exact impl_IsValidTitle.mono _ _
      | exact impl_splitSubtitle.mono _ _
      | exact LeO.none _
      | refine LeO.ite ?_ ?_
      | refine LeO.bind ?_ (fun _ => ?_)
set_option maxHeartbeats 8000000 in
set_option maxRecDepth 100000 in
theorem impl_SplitSubtitle.calls (k : Nat) (a0 : ByteArray) (r1 : ByteArray) (r2 : ByteArray) (r3 : Bool) (w : World) {gF1 gF2 gF3 : Bool} (hG : GL gF1 gF2 gF3 w) (h : impl_SplitSubtitle.f k a0 = some (r1, r2, r3)) :
    Calls Tryd.prog 30 #[.string a0] w fun e w' => e = .returned (.tuple #[.string r1, .string r2, .bool r3]) ∧ Below w.heap.size w w' := by
  have HG := Aside0.mk hG
  clear hG
  have HB := Aside0.mk (Below.refl w.heap.size w)
  have H : ((impl_IsValidTitle.f k a0).bind fun t266 => (if t266 = true then ((impl_splitSubtitle.f k a0).bind fun bt267 => (some (bt267.1, bt267.2.1, bt267.2.2))) else (some ((⟨#[]⟩ : ByteArray), (⟨#[]⟩ : ByteArray), false)))) = some (r1, r2, r3) := h
  clear h
  replace H := Option.bind_eq_some_iff.mp H
  obtain ⟨t266, A20, H⟩ := H
  replace H : (if t266 = true then ((impl_splitSubtitle.f k a0).bind fun bt267 => (some (bt267.1, bt267.2.1, bt267.2.2))) else (some ((⟨#[]⟩ : ByteArray), (⟨#[]⟩ : ByteArray), false))) = some (r1, r2, r3) := H
  have A2 := Aside0.mk A20
  clear A20
  by_cases c3 : t266 = true
  · subst c3
    have H1 : ((impl_splitSubtitle.f k a0).bind fun bt267 => (some (bt267.1, bt267.2.1, bt267.2.2))) = some (r1, r2, r3) := by rw [if_pos rfl] at H; exact H
    clear H
    have H := H1
    clear H1
    replace H := Option.bind_eq_some_iff.mp H
    obtain ⟨⟨t267, t268, t269⟩, A40, H⟩ := H
    replace H : (some (t267, t268, t269)) = some (r1, r2, r3) := H
    have A4 := Aside0.mk A40
    clear A40
    simp only [Option.some.injEq, Prod.mk.injEq] at H
    obtain ⟨rfl, rfl, rfl⟩ := H
    go_enter Tryd.func30, Tryd.ntmps30
    go_wp2_with (first | ((with_reducible refine gate_callee (f := 28) rfl ?_); refine goesL_ (some 6) rfl rfl Tryd.func28 (by kernel_rfl) rfl #[.string a0] rfl (by (try simp only [List.map_toArray, List.map_cons, List.map_nil]); first | done | rfl | (simp only [List.length_drop, List.length_take]; rfl)) ?_; (with_reducible refine (impl_IsValidTitle.calls (hG := (by first | exact HG.out | (refine HG.out.drawn ?_; (repeat (first | exact Drawn0.refl _ | apply Drawn0.step)); done) | (refine HG.out.below ?_; (repeat (first | (with_reducible first | exact HB.out | apply below_alloc | apply pw_below_drewN | apply below_drew1 | refine below_set ?_ (by first | assumption | exact Aside0.out (by assumption))) | exact HB.out)); done))) k a0 true _ A2.out).mono ?_); rintro e w5 ⟨rfl, hb⟩; refine ⟨_, rfl, ?_⟩; have n0_ := Aside0.mk (below_step (by repeat (first | (with_reducible first | exact HB.out | apply below_alloc | apply pw_below_drewN | apply below_drew1) | exact HB.out)) hb); clear HB; have HB := n0_; clear n0_; (try clear hb); (try clear hb2); (try clear hk); (try clear hi)) | ((with_reducible refine gate_callee (f := 77) rfl ?_); refine goesL_ (some 9) rfl rfl Tryd.func77 (by kernel_rfl) rfl #[.string a0] rfl (by (try simp only [List.map_toArray, List.map_cons, List.map_nil]); first | done | rfl | (simp only [List.length_drop, List.length_take]; rfl)) ?_; (with_reducible refine (impl_splitSubtitle.calls k a0 t267 t268 t269 _ A4.out).mono ?_); rintro e w6 ⟨rfl, hb⟩; refine ⟨_, rfl, ?_⟩; have n0_ := Aside0.mk (below_step (by repeat (first | (with_reducible first | exact HB.out | apply below_alloc | apply pw_below_drewN | apply below_drew1) | exact HB.out)) hb); clear HB; have HB := n0_; clear n0_; (try clear hb); (try clear hb2); (try clear hk); (try clear hi)))
    go_ret3
    exact ⟨by first | rfl | (simp [errW_none, errW_some] <;> rfl) | (simp [*, errW_none, errW_some] <;> rfl), by repeat (first | (with_reducible first | exact HB.out | apply below_alloc | apply pw_below_drewN | apply below_drew1) | exact HB.out)⟩
  · replace c3 := Bool.eq_false_iff.mpr c3
    subst c3
    have H1 : (some ((⟨#[]⟩ : ByteArray), (⟨#[]⟩ : ByteArray), false)) = some (r1, r2, r3) := by rw [if_neg (show ¬ (false = true) by decide)] at H; exact H
    clear H
    have H := H1
    clear H1
    simp only [Option.some.injEq, Prod.mk.injEq] at H
    obtain ⟨rfl, rfl, rfl⟩ := H
    go_enter Tryd.func30, Tryd.ntmps30
    go_wp2_with (first | ((with_reducible refine gate_callee (f := 28) rfl ?_); refine goesL_ (some 6) rfl rfl Tryd.func28 (by kernel_rfl) rfl #[.string a0] rfl (by (try simp only [List.map_toArray, List.map_cons, List.map_nil]); first | done | rfl | (simp only [List.length_drop, List.length_take]; rfl)) ?_; (with_reducible refine (impl_IsValidTitle.calls (hG := (by first | exact HG.out | (refine HG.out.drawn ?_; (repeat (first | exact Drawn0.refl _ | apply Drawn0.step)); done) | (refine HG.out.below ?_; (repeat (first | (with_reducible first | exact HB.out | apply below_alloc | apply pw_below_drewN | apply below_drew1 | refine below_set ?_ (by first | assumption | exact Aside0.out (by assumption))) | exact HB.out)); done))) k a0 false _ A2.out).mono ?_); rintro e w7 ⟨rfl, hb⟩; refine ⟨_, rfl, ?_⟩; have n0_ := Aside0.mk (below_step (by repeat (first | (with_reducible first | exact HB.out | apply below_alloc | apply pw_below_drewN | apply below_drew1) | exact HB.out)) hb); clear HB; have HB := n0_; clear n0_; (try clear hb); (try clear hb2); (try clear hk); (try clear hi)))
    go_ret3
    exact ⟨by first | rfl | (simp [errW_none, errW_some] <;> rfl) | (simp [*, errW_none, errW_some] <;> rfl), by repeat (first | (with_reducible first | exact HB.out | apply below_alloc | apply pw_below_drewN | apply below_drew1) | exact HB.out)⟩

end Go.Proofs.YtcbmccjbhfggjaaDoor.G

namespace Go.Proofs.YtcbmccjbhfggjaaDoor.G
open Go.RowKit Go.Proofs.YtcbmccjbhfggjaaDoorW.PrintWords Go.Proofs.YtcbmccjbhfggjaaDoorW.PrintLast Go.Proofs.YtcbmccjbhfggjaaDoorW.PrintMore
open Go.Proofs.YtcbmccjbhfggjaaDoor.Gl Go.Proofs.YtcbmccjbhfggjaaDoor.Ext
attribute [local go_sem] max2_int min2_int max_two min_two max_three min_three max_four min_four   -- for this text's walks alone
set_option linter.unusedVariables false
set_option linter.unusedSimpArgs false

/-! ### laws_FnExactSplitSubtitle: function 9 -/
def laws_FnExactSplitSubtitle.f (k : Nat) (a0 : ByteArray) : Option (Bool) := if (a0.size : Int) > 1048576 then (some true) else ((spec_SplitSubtitle.f k a0).bind fun bt270 => ((impl_SplitSubtitle.f k a0).bind fun bt273 => (if bt273.1.toList = bt270.1.toList then (if bt273.2.1.toList = bt270.2.1.toList then (if (bt273.2.2 != bt270.2.2) = true then (some false) else (some true)) else (some false)) else (some false))))
theorem laws_FnExactSplitSubtitle.mono : ∀ a0 k, LeO (laws_FnExactSplitSubtitle.f k a0) (laws_FnExactSplitSubtitle.f (k + 1) a0) := by
  intro a0 k
  unfold laws_FnExactSplitSubtitle.f
  repeat' first
      | (with_reducible exact impl_SplitSubtitle.mono _ _)
      | (with_reducible exact spec_SplitSubtitle.mono _ _)
      | (with_reducible exact LeO.refl _)
      | (with_reducible exact LeO.none _)
      | (with_reducible refine LeO.ite ?_ ?_)
      | (with_reducible refine LeO.bind ?_ (fun _ => ?_))
      | exact impl_SplitSubtitle.mono _ _
      | exact spec_SplitSubtitle.mono _ _
      | exact LeO.none _
      | refine LeO.ite ?_ ?_
      | refine LeO.bind ?_ (fun _ => ?_)
set_option maxHeartbeats 8000000 in
set_option maxRecDepth 100000 in
theorem laws_FnExactSplitSubtitle.calls (k : Nat) (a0 : ByteArray) (r : Bool) (w : World) {gF1 gF2 gF3 : Bool} (hG : GL gF1 gF2 gF3 w) (h : laws_FnExactSplitSubtitle.f k a0 = some r) :
    Calls Tryd.prog 9 #[.string a0] w fun e w' => e = .returned (.bool r) ∧ Below w.heap.size w w' := by
  have HG := Aside0.mk hG
  clear hG
  have HB := Aside0.mk (Below.refl w.heap.size w)
  have H : (if (a0.size : Int) > 1048576 then (some true) else ((spec_SplitSubtitle.f k a0).bind fun bt270 => ((impl_SplitSubtitle.f k a0).bind fun bt273 => (if bt273.1.toList = bt270.1.toList then (if bt273.2.1.toList = bt270.2.1.toList then (if (bt273.2.2 != bt270.2.2) = true then (some false) else (some true)) else (some false)) else (some false))))) = some r := h
  clear h
  by_cases c2 : (a0.size : Int) > 1048576
  · rw [if_pos c2] at H
    have c2b0 : decide (1048576 < (a0.size : Int)) = true := decide_eq_true c2
    have c2b1 : decide (1048576 < a0.size) = true := decide_eq_true (by omega)
    clear c2
    obtain rfl := Option.some.inj H
    go_enter Tryd.func9, Tryd.ntmps9
    go_wp2
    go_ret
    exact ⟨by first | rfl | (simp [errW_none, errW_some] <;> rfl) | (simp [*, errW_none, errW_some] <;> rfl), by repeat (first | (with_reducible first | exact HB.out | apply below_alloc | apply pw_below_drewN | apply below_drew1) | exact HB.out)⟩
  · rw [if_neg c2] at H
    have c2b0 : decide (1048576 < (a0.size : Int)) = false := decide_eq_false c2
    have c2b1 : decide (1048576 < a0.size) = false := decide_eq_false (by omega)
    clear c2
    replace H := Option.bind_eq_some_iff.mp H
    obtain ⟨⟨t270, t271, t272⟩, A30, H⟩ := H
    replace H : ((impl_SplitSubtitle.f k a0).bind fun bt273 => (if bt273.1.toList = t270.toList then (if bt273.2.1.toList = t271.toList then (if (bt273.2.2 != t272) = true then (some false) else (some true)) else (some false)) else (some false))) = some r := H
    have A3 := Aside0.mk A30
    clear A30
    replace H := Option.bind_eq_some_iff.mp H
    obtain ⟨⟨t273, t274, t275⟩, A40, H⟩ := H
    replace H : (if t273.toList = t270.toList then (if t274.toList = t271.toList then (if (t275 != t272) = true then (some false) else (some true)) else (some false)) else (some false)) = some r := H
    have A4 := Aside0.mk A40
    clear A40
    by_cases c5 : t273.toList = t270.toList
    · rw [if_pos c5] at H
      have c5b0 : (t273.toList == t270.toList) = true := beq_iff_eq.mpr c5
      have c5b1 : (t273.toList != t270.toList) = false := bne_eq_false_iff_eq.mpr c5
      clear c5
      by_cases c6 : t274.toList = t271.toList
      · rw [if_pos c6] at H
        have c6b0 : (t274.toList == t271.toList) = true := beq_iff_eq.mpr c6
        have c6b1 : (t274.toList != t271.toList) = false := bne_eq_false_iff_eq.mpr c6
        clear c6
        by_cases c7 : (t275 != t272) = true
        · rw [if_pos c7] at H
          have c7b0 : (t275 != t272) = true := c7
          (try (have c7b1 : decide (t275 = t272) = false := by simpa using c7))
          (try (have c7b2 : (t275 == t272) = false := by simpa using c7))
          (try (have c7b3 : ¬ (t275 = t272) := by simpa using c7))
          clear c7
          obtain rfl := Option.some.inj H
          go_enter Tryd.func9, Tryd.ntmps9
          go_wp2_with (first | ((with_reducible refine gate_callee (f := 29) rfl ?_); refine goesL_ (some 14) rfl rfl Tryd.func29 (by kernel_rfl) rfl #[.string a0] rfl (by (try simp only [List.map_toArray, List.map_cons, List.map_nil]); first | done | rfl | (simp only [List.length_drop, List.length_take]; rfl)) ?_; (with_reducible refine (spec_SplitSubtitle.calls k a0 t270 t271 t272 _ A3.out).mono ?_); rintro e w' ⟨rfl, ⟨nd, rfl⟩⟩; refine ⟨_, rfl, ?_⟩) | ((with_reducible refine gate_callee (f := 30) rfl ?_); refine goesL_ (some 20) rfl rfl Tryd.func30 (by kernel_rfl) rfl #[.string a0] rfl (by (try simp only [List.map_toArray, List.map_cons, List.map_nil]); first | done | rfl | (simp only [List.length_drop, List.length_take]; rfl)) ?_; (with_reducible refine (impl_SplitSubtitle.calls (hG := (by first | exact HG.out | (refine HG.out.drawn ?_; (repeat (first | exact Drawn0.refl _ | apply Drawn0.step)); done) | (refine HG.out.below ?_; (repeat (first | (with_reducible first | exact HB.out | apply below_alloc | apply pw_below_drewN | apply below_drew1 | refine below_set ?_ (by first | assumption | exact Aside0.out (by assumption))) | exact HB.out)); done))) k a0 t273 t274 t275 _ A4.out).mono ?_); rintro e w8 ⟨rfl, hb⟩; refine ⟨_, rfl, ?_⟩; have n0_ := Aside0.mk (below_step (by repeat (first | (with_reducible first | exact HB.out | apply below_alloc | apply pw_below_drewN | apply below_drew1) | exact HB.out)) hb); clear HB; have HB := n0_; clear n0_; (try clear hb); (try clear hb2); (try clear hk); (try clear hi)))
          go_ret
          exact ⟨by first | rfl | (simp [errW_none, errW_some] <;> rfl) | (simp [*, errW_none, errW_some] <;> rfl), by repeat (first | (with_reducible first | exact HB.out | apply below_alloc | apply pw_below_drewN | apply below_drew1) | exact HB.out)⟩
        · rw [if_neg c7] at H
          have c7b0 : (t275 != t272) = false := by simpa using c7
          (try (have c7b1 : decide (t275 = t272) = true := by simpa using c7))
          (try (have c7b2 : (t275 == t272) = true := by simpa using c7))
          clear c7
          obtain rfl := Option.some.inj H
          go_enter Tryd.func9, Tryd.ntmps9
          go_wp2_with (first | ((with_reducible refine gate_callee (f := 29) rfl ?_); refine goesL_ (some 14) rfl rfl Tryd.func29 (by kernel_rfl) rfl #[.string a0] rfl (by (try simp only [List.map_toArray, List.map_cons, List.map_nil]); first | done | rfl | (simp only [List.length_drop, List.length_take]; rfl)) ?_; (with_reducible refine (spec_SplitSubtitle.calls k a0 t270 t271 t272 _ A3.out).mono ?_); rintro e w' ⟨rfl, ⟨nd, rfl⟩⟩; refine ⟨_, rfl, ?_⟩) | ((with_reducible refine gate_callee (f := 30) rfl ?_); refine goesL_ (some 20) rfl rfl Tryd.func30 (by kernel_rfl) rfl #[.string a0] rfl (by (try simp only [List.map_toArray, List.map_cons, List.map_nil]); first | done | rfl | (simp only [List.length_drop, List.length_take]; rfl)) ?_; (with_reducible refine (impl_SplitSubtitle.calls (hG := (by first | exact HG.out | (refine HG.out.drawn ?_; (repeat (first | exact Drawn0.refl _ | apply Drawn0.step)); done) | (refine HG.out.below ?_; (repeat (first | (with_reducible first | exact HB.out | apply below_alloc | apply pw_below_drewN | apply below_drew1 | refine below_set ?_ (by first | assumption | exact Aside0.out (by assumption))) | exact HB.out)); done))) k a0 t273 t274 t275 _ A4.out).mono ?_); rintro e w9 ⟨rfl, hb⟩; refine ⟨_, rfl, ?_⟩; have n0_ := Aside0.mk (below_step (by repeat (first | (with_reducible first | exact HB.out | apply below_alloc | apply pw_below_drewN | apply below_drew1) | exact HB.out)) hb); clear HB; have HB := n0_; clear n0_; (try clear hb); (try clear hb2); (try clear hk); (try clear hi)))
          go_ret
          exact ⟨by first | rfl | (simp [errW_none, errW_some] <;> rfl) | (simp [*, errW_none, errW_some] <;> rfl), by repeat (first | (with_reducible first | exact HB.out | apply below_alloc | apply pw_below_drewN | apply below_drew1) | exact HB.out)⟩
      · rw [if_neg c6] at H
        have c6b0 : (t274.toList == t271.toList) = false := beq_eq_false_iff_ne.mpr c6
        have c6b1 : (t274.toList != t271.toList) = true := bne_iff_ne.mpr c6
        obtain rfl := Option.some.inj H
        go_enter Tryd.func9, Tryd.ntmps9
        go_wp2_with (first | ((with_reducible refine gate_callee (f := 29) rfl ?_); refine goesL_ (some 14) rfl rfl Tryd.func29 (by kernel_rfl) rfl #[.string a0] rfl (by (try simp only [List.map_toArray, List.map_cons, List.map_nil]); first | done | rfl | (simp only [List.length_drop, List.length_take]; rfl)) ?_; (with_reducible refine (spec_SplitSubtitle.calls k a0 t270 t271 t272 _ A3.out).mono ?_); rintro e w' ⟨rfl, ⟨nd, rfl⟩⟩; refine ⟨_, rfl, ?_⟩) | ((with_reducible refine gate_callee (f := 30) rfl ?_); refine goesL_ (some 20) rfl rfl Tryd.func30 (by kernel_rfl) rfl #[.string a0] rfl (by (try simp only [List.map_toArray, List.map_cons, List.map_nil]); first | done | rfl | (simp only [List.length_drop, List.length_take]; rfl)) ?_; (with_reducible refine (impl_SplitSubtitle.calls (hG := (by first | exact HG.out | (refine HG.out.drawn ?_; (repeat (first | exact Drawn0.refl _ | apply Drawn0.step)); done) | (refine HG.out.below ?_; (repeat (first | (with_reducible first | exact HB.out | apply below_alloc | apply pw_below_drewN | apply below_drew1 | refine below_set ?_ (by first | assumption | exact Aside0.out (by assumption))) | exact HB.out)); done))) k a0 t273 t274 t275 _ A4.out).mono ?_); rintro e w10 ⟨rfl, hb⟩; refine ⟨_, rfl, ?_⟩; have n0_ := Aside0.mk (below_step (by repeat (first | (with_reducible first | exact HB.out | apply below_alloc | apply pw_below_drewN | apply below_drew1) | exact HB.out)) hb); clear HB; have HB := n0_; clear n0_; (try clear hb); (try clear hb2); (try clear hk); (try clear hi)))
        go_ret
        exact ⟨by first | rfl | (simp [errW_none, errW_some] <;> rfl) | (simp [*, errW_none, errW_some] <;> rfl), by repeat (first | (with_reducible first | exact HB.out | apply below_alloc | apply pw_below_drewN | apply below_drew1) | exact HB.out)⟩
    · rw [if_neg c5] at H
      have c5b0 : (t273.toList == t270.toList) = false := beq_eq_false_iff_ne.mpr c5
      have c5b1 : (t273.toList != t270.toList) = true := bne_iff_ne.mpr c5
      obtain rfl := Option.some.inj H
      go_enter Tryd.func9, Tryd.ntmps9
      go_wp2_with (first | ((with_reducible refine gate_callee (f := 29) rfl ?_); refine goesL_ (some 14) rfl rfl Tryd.func29 (by kernel_rfl) rfl #[.string a0] rfl (by (try simp only [List.map_toArray, List.map_cons, List.map_nil]); first | done | rfl | (simp only [List.length_drop, List.length_take]; rfl)) ?_; (with_reducible refine (spec_SplitSubtitle.calls k a0 t270 t271 t272 _ A3.out).mono ?_); rintro e w' ⟨rfl, ⟨nd, rfl⟩⟩; refine ⟨_, rfl, ?_⟩) | ((with_reducible refine gate_callee (f := 30) rfl ?_); refine goesL_ (some 20) rfl rfl Tryd.func30 (by kernel_rfl) rfl #[.string a0] rfl (by (try simp only [List.map_toArray, List.map_cons, List.map_nil]); first | done | rfl | (simp only [List.length_drop, List.length_take]; rfl)) ?_; (with_reducible refine (impl_SplitSubtitle.calls (hG := (by first | exact HG.out | (refine HG.out.drawn ?_; (repeat (first | exact Drawn0.refl _ | apply Drawn0.step)); done) | (refine HG.out.below ?_; (repeat (first | (with_reducible first | exact HB.out | apply below_alloc | apply pw_below_drewN | apply below_drew1 | refine below_set ?_ (by first | assumption | exact Aside0.out (by assumption))) | exact HB.out)); done))) k a0 t273 t274 t275 _ A4.out).mono ?_); rintro e w11 ⟨rfl, hb⟩; refine ⟨_, rfl, ?_⟩; have n0_ := Aside0.mk (below_step (by repeat (first | (with_reducible first | exact HB.out | apply below_alloc | apply pw_below_drewN | apply below_drew1) | exact HB.out)) hb); clear HB; have HB := n0_; clear n0_; (try clear hb); (try clear hb2); (try clear hk); (try clear hi)))
      go_ret
      exact ⟨by first | rfl | (simp [errW_none, errW_some] <;> rfl) | (simp [*, errW_none, errW_some] <;> rfl), by repeat (first | (with_reducible first | exact HB.out | apply below_alloc | apply pw_below_drewN | apply below_drew1) | exact HB.out)⟩



end Go.Proofs.YtcbmccjbhfggjaaDoor.G

namespace Go.Proofs.YtcbmccjbhfggjaaDoor.Opn
open Go.RowKit Go.Proofs.YtcbmccjbhfggjaaDoorW.PrintWords
set_option linter.unusedVariables false
set_option linter.unusedSimpArgs false
variable {H : Type} {enc : TypeId × Value → H} {P : Program} {w : World} {base : Nat} {spare : Nat → Bool} {held : Bool}
def okInt (k : IntKind) (n : Int) : Prop := (Lit.int k n).wf = true
def okBool (_ : Bool) : Prop := True
def okStr (s : ByteArray) : Prop := s.size ≤ 9223372036854775807
def okList {α : Type} (p : α → Prop) (xs : List α) : Prop := xs.length ≤ 9223372036854775807 ∧ ∀ x ∈ xs, p x
theorem of_int {t : TypeId} {k : IntKind} {fuel : Nat} {cs : List Value} {x : DataW H × List MemPlace} (ht : P.underlying t = some (.int k)) (h : DataW.trod enc P w base spare held fuel t cs = some x) :
    ∃ n, (Kd.int k).K w n cs ∧ okInt k n := by
  obtain ⟨n, rfl, rfl, hw⟩ := DataW.trod_int ht h
  exact ⟨n, rfl, hw⟩
theorem of_bool {t : TypeId} {fuel : Nat} {cs : List Value} {x : DataW H × List MemPlace} (ht : P.underlying t = some .bool) (h : DataW.trod enc P w base spare held fuel t cs = some x) :
    ∃ n, Kd.bool.K w n cs ∧ okBool n := by
  cases fuel with
  | zero => simp [DataW.trod] at h
  | succ fuel =>
    match cs with
    | [] => simp [DataW.trod, ht] at h
    | [v] => cases v <;> simp [DataW.trod, ht] at h; exact ⟨_, rfl, trivial⟩
    | _ :: _ :: _ => simp [DataW.trod, ht] at h
theorem of_string {t : TypeId} {fuel : Nat} {cs : List Value} {x : DataW H × List MemPlace} (ht : P.underlying t = some .string) (h : DataW.trod enc P w base spare held fuel t cs = some x) :
    ∃ n, Kd.string.K w n cs ∧ okStr n := by
  cases fuel with
  | zero => simp [DataW.trod] at h
  | succ fuel =>
    match cs with
    | [] => simp [DataW.trod, ht] at h
    | [v] => cases v <;> simp [DataW.trod, ht] at h; exact ⟨_, rfl, h.1⟩
    | _ :: _ :: _ => simp [DataW.trod, ht] at h
theorem add_add (a : Addr) (k i : Nat) : (a.add k).add i = a.add (k + i) := by
  unfold Addr.add
  by_cases hk : k = 0 <;> by_cases hi : i = 0 <;> simp [hk, hi, Nat.add_assoc]
theorem of_slice {α : Type} {d : Kd α} {ok : α → Prop} {t e : TypeId} {fuel : Nat} {cs : List Value} {x : DataW H × List MemPlace} (ht : P.underlying t = some (.slice e)) (hc : P.cellsOf e = d.sz)
    (ih : ∀ n cs x, DataW.trod enc P w base spare held n e cs = some x → ∃ y, d.K w y cs ∧ ok y) (h : DataW.trod enc P w base spare held fuel t cs = some x) :
    ∃ ys, (Kd.slice e d).K w ys cs ∧ okList ok ys := by
  rcases Go.Deep.open_slice ht h with ⟨rfl, _⟩ | ⟨a, len, cap, m, n, D, Pl, rfl, hb, hl, hm, hmm, hxe, hel⟩
  · exact ⟨[], ⟨none, 0, rfl, by simp, rfl, by simp, fun h => absurd h (by simp)⟩, by simp, fun x hx => by simp at hx⟩
  · have hlm : len ≤ m := by rw [hmm]; split <;> omega
    have hm' : len ≤ 9223372036854775807 := by unfold maxLen at hm; omega
    have key : ∀ i, i < len → ∃ cs' y, w.cells? base (a.add (i * P.cellsOf e)) (P.cellsOf e) = some cs' ∧ d.K w y cs' ∧ ok y := by
      intro i hi
      obtain ⟨cs', h1, h2⟩ := hel i (by omega)
      obtain ⟨y, hy, ho⟩ := ih _ _ _ h2
      exact ⟨cs', y, h1, hy, ho⟩
    obtain ⟨ys, hlen, hys⟩ : ∃ ys : List α, ys.length = len ∧ ∀ i (hi : i < ys.length), ∃ cs', w.cells? base (a.add (i * P.cellsOf e)) (P.cellsOf e) = some cs' ∧ d.K w ys[i] cs' ∧ ok ys[i] := by
      clear h hxe hel hmm hlm hl hm hm'
      induction len with
      | zero => exact ⟨[], rfl, fun i hi => by simp at hi⟩
      | succ len ihl =>
        obtain ⟨ys, h1, h2⟩ := ihl (fun i hi => key i (by omega))
        obtain ⟨cs', y, h3, h4, h5⟩ := key len (by omega)
        refine ⟨ys ++ [y], by simp [h1], fun i hi => ?_⟩
        by_cases hi' : i < ys.length
        · rw [List.getElem_append_left hi']; exact h2 i hi'
        · have : i = len := by simp at hi; omega
          subst this
          refine ⟨cs', h3, ?_, ?_⟩ <;> rw [List.getElem_append_right (by omega)] <;> simpa [h1]
    refine ⟨ys, ⟨some a, cap, by rw [hlen], by omega, rfl, by omega, fun _ => ⟨a, rfl, fun j p hj => ?_⟩⟩, by omega, fun y hy => ?_⟩
    · obtain ⟨hj', rfl⟩ := List.getElem?_eq_some_iff.1 hj
      obtain ⟨cs', h1, h2, _⟩ := hys j hj'
      rw [hc] at h1
      refine ⟨cs', d.K_len h2, h2, fun i u hu => ?_⟩
      obtain ⟨_, hl', hcell⟩ := World.cells?_some h1
      have hi : i < d.sz := by have := (List.getElem?_eq_some_iff.1 hu).1; omega
      have := hcell i hi
      rw [hu, add_add] at this
      exact this
    · obtain ⟨i, hi, rfl⟩ := List.getElem_of_mem hy
      obtain ⟨_, _, _, h3⟩ := hys i hi
      exact h3
theorem mapM_all {α β : Type} {f : α → Option β} : ∀ {l : List α} {ys : List β}, l.mapM f = some ys → ∀ x ∈ l, ∃ y, f x = some y
  | [], _, _, x, hx => by simp at hx
  | a :: l, ys, h, x, hx => by
    rw [List.mapM_cons] at h
    simp only [Option.bind_eq_bind, Option.bind_eq_some_iff] at h
    obtain ⟨y, h1, ys', h2, _⟩ := h
    rcases List.mem_cons.1 hx with rfl | hx
    · exact ⟨y, h1⟩
    · exact mapM_all h2 x hx
theorem of_fields {t : TypeId} {fs : Array Field} {fuel : Nat} {cs : List Value} {x : DataW H × List MemPlace} (ht : P.underlying t = some (.struct fs)) (h : DataW.trod enc P w base spare held fuel t cs = some x) :
    cs.length = P.cellsOf t ∧ ∃ n, ∀ f ∈ fs.toList, ∃ y, DataW.trod enc P w base spare held n f.type ((cs.drop f.offset).take (P.cellsOf f.type)) = some y := by
  cases fuel with
  | zero => simp [DataW.trod] at h
  | succ fuel =>
    simp only [DataW.trod, ht] at h
    split at h
    · rename_i hl
      refine ⟨hl, fuel, ?_⟩
      simp only [Option.map_eq_some_iff] at h
      obtain ⟨ys, h1, _⟩ := h
      exact mapM_all h1
    · simp at h
theorem pair_K {α β : Type} {a : Kd α} {b : Kd β} {x : α} {y : β} {cs : List Value} {n : Nat} (off : Nat) (hn : a.sz = n) (h0 : a.K w x ((cs.drop off).take n)) (h1 : b.K w y (cs.drop (off + n))) : (Kd.pair a b).K w (x, y) (cs.drop off) :=
  ⟨_, _, by rw [← List.drop_drop]; exact (List.take_append_drop n (cs.drop off)).symm, h0, h1⟩
theorem last_K {α : Type} {a : Kd α} {x : α} {cs : List Value} {n : Nat} (off : Nat) (hl : cs.length = off + n) (h0 : a.K w x ((cs.drop off).take n)) : a.K w x (cs.drop off) := by
  rwa [List.take_of_length_le (by rw [List.length_drop]; omega)] at h0
end Go.Proofs.YtcbmccjbhfggjaaDoor.Opn

namespace Go.Proofs.YtcbmccjbhfggjaaDoor.G
open Go.Proofs.YtcbmccjbhfggjaaDoor.Opn
open Go.RowKit Go.Proofs.YtcbmccjbhfggjaaDoorW.PrintWords Go.Proofs.YtcbmccjbhfggjaaDoorW.PrintLast Go.Proofs.YtcbmccjbhfggjaaDoorW.PrintMore
open Go.Proofs.YtcbmccjbhfggjaaDoor.Gl Go.Proofs.YtcbmccjbhfggjaaDoor.Ext
attribute [local go_sem] max2_int min2_int max_two min_two max_three min_three max_four min_four   -- for this text's walks alone
set_option linter.unusedVariables false
set_option linter.unusedSimpArgs false

theorem cells3 : Tryd.prog.cellsOf 3 = 1 := by kernel_rfl
theorem cells4 : Tryd.prog.cellsOf 4 = 1 := by kernel_rfl
theorem cells26 : Tryd.prog.cellsOf 26 = 4 := by kernel_rfl
def ok26 (y : S26) : Prop := okInt .i64 y.f0 ∧ okInt .i64 y.f1 ∧ okInt .i64 y.f2 ∧ okBool y.f3
theorem of_T26 {H : Type} {enc : TypeId × Value → H} {w : World} {base : Nat} {spare : Nat → Bool} {held : Bool} {fuel : Nat} {cs : List Value} {x : DataW H × List MemPlace} (h : DataW.trod enc Tryd.prog w base spare held fuel 26 cs = some x) : ∃ y : S26, k26.K w y cs ∧ ok26 y := by
  obtain ⟨hl, n, hf⟩ := of_fields Tryd.underlying26 h
  rw [cells26] at hl
  simp only [List.mem_cons, List.not_mem_nil, or_false, forall_eq_or_imp, forall_eq] at hf
  obtain ⟨⟨y0, f0⟩, ⟨y1, f1⟩, ⟨y2, f2⟩, ⟨y3, f3⟩⟩ := hf
  rw [cells3] at f0
  obtain ⟨x0, g0, b0⟩ := of_int Tryd.underlying3 f0
  rw [cells3] at f1
  obtain ⟨x1, g1, b1⟩ := of_int Tryd.underlying3 f1
  rw [cells3] at f2
  obtain ⟨x2, g2, b2⟩ := of_int Tryd.underlying3 f2
  rw [cells4] at f3
  obtain ⟨x3, g3, b3⟩ := of_bool Tryd.underlying4 f3
  exact ⟨⟨x0, x1, x2, x3⟩, (pair_K (n := 1) 0 rfl g0 (pair_K (n := 1) 1 rfl g1 (pair_K (n := 1) 2 rfl g2 (last_K (n := 1) 3 hl g3)))), ⟨b0, b1, b2, b3⟩⟩
end Go.Proofs.YtcbmccjbhfggjaaDoor.G

namespace Go.Proofs.YtcbmccjbhfggjaaDoor.G
open Go.Proofs.YtcbmccjbhfggjaaDoor.Opn
open Go.RowKit Go.Proofs.YtcbmccjbhfggjaaDoorW.PrintWords Go.Proofs.YtcbmccjbhfggjaaDoorW.PrintLast Go.Proofs.YtcbmccjbhfggjaaDoorW.PrintMore
open Go.Proofs.YtcbmccjbhfggjaaDoor.Gl Go.Proofs.YtcbmccjbhfggjaaDoor.Ext
attribute [local go_sem] max2_int min2_int max_two min_two max_three min_three max_four min_four   -- for this text's walks alone
set_option linter.unusedVariables false
set_option linter.unusedSimpArgs false

def laws_FnExactSplitSubtitle.Pur : Prop := ∀ (a0 : ByteArray), okStr a0 → ∃ k, laws_FnExactSplitSubtitle.f k a0 = some true
theorem laws_FnExactSplitSubtitle.wlk (P : laws_FnExactSplitSubtitle.Pur) (a0 : ByteArray) (w : World)  {gF1 gF2 gF3 : Bool} (hG : GL gF1 gF2 gF3 w) (ba0 : okStr a0) :
    Calls Tryd.prog 9 #[.string a0] w fun e w' => e = .returned (.bool true) ∧ Below w.heap.size w w' := by
  obtain ⟨k, h⟩ := P a0 ba0
  refine (laws_FnExactSplitSubtitle.calls k a0 true w hG  h).mono ?_
  rintro e w' ⟨rfl, hd⟩
  exact ⟨rfl, hd⟩

end Go.Proofs.YtcbmccjbhfggjaaDoor.G

namespace Go.Proofs.YtcbmccjbhfggjaaDoor.B
open Go.RowKit Go.Proofs.YtcbmccjbhfggjaaDoorW.PrintWords Go.Proofs.YtcbmccjbhfggjaaDoorW.PrintLast
set_option linter.unusedVariables false
set_option linter.unusedSimpArgs false
theorem w64 {x : Int} (h : -9223372036854775808 ≤ x) (h' : x ≤ 9223372036854775807) : wrap64 x = x := by unfold wrap64; omega
theorem ev_pos {α : Type} {c : Prop} [Decidable c] {g f : Nat → Option α} {r : α} (h : c) (e : Ev g r) : Ev (fun k => if c then g k else f k) r := Ev.congr (fun _ => if_pos h) e
theorem ev_neg {α : Type} {c : Prop} [Decidable c] {g f : Nat → Option α} {r : α} (h : ¬ c) (e : Ev f r) : Ev (fun k => if c then g k else f k) r := Ev.congr (fun _ => if_neg h) e
theorem ev_ite {α : Type} {c : Prop} [Decidable c] {g f : Nat → Option α} {a b : α} (h : c → Ev g a) (h' : ¬ c → Ev f b) : Ev (fun k => if c then g k else f k) (if c then a else b) := by
  by_cases hc : c
  · rw [if_pos hc]; exact ev_pos hc (h hc)
  · rw [if_neg hc]; exact ev_neg hc (h' hc)
theorem ev_bind0 {α β : Type} {o : Option α} {f : Nat → α → Option β} {a : α} {r : β} (h : o = some a) (k : Ev (fun n => f n a) r) : Ev (fun n => o.bind (f n)) r := Ev.congr (fun _ => by rw [h]; rfl) k
theorem ev_uniq {α : Type} {g : Nat → Option α} {a b : α} (h : Ev g a) (h' : Ev g b) : a = b := by
  obtain ⟨K, h⟩ := h
  obtain ⟨K', h'⟩ := h'
  exact Option.some.inj ((h _ (Nat.le_max_left K K')).symm.trans (h' _ (Nat.le_max_right K K')))
theorem ev_eq {α : Type} {g : Nat → Option α} {a b : α} (h : Ev g a) (e : a = b) : Ev g b := e ▸ h
abbrev L (s : ByteArray) : List UInt8 := s.data.toList
def mkB (l : List UInt8) : ByteArray := ⟨l.toArray⟩
theorem L_mk (l : List UInt8) : L (mkB l) = l := by simp [mkB]
theorem mk_L (s : ByteArray) : mkB (L s) = s := by cases s; simp [mkB, L]
theorem L_inj {a b : ByteArray} (h : L a = L b) : a = b := by rw [← mk_L a, h, mk_L]
theorem L_iff {a b : ByteArray} : a = b ↔ L a = L b := ⟨fun h => by rw [h], L_inj⟩
theorem L_len (s : ByteArray) : (L s).length = s.size := (Lib.size_eq s).symm
theorem size_mk (l : List UInt8) : (mkB l).size = l.length := by rw [← L_len, L_mk]
theorem toList_L (s : ByteArray) : s.toList = L s := Lib.toList_data s
theorem L_extract (s : ByteArray) (a b : Nat) : L (s.extract a b) = ((L s).drop a).take (b - a) := Lib.extract_data s a b
theorem L_append (a b : ByteArray) : L (a ++ b) = L a ++ L b := by simp [L, ByteArray.data_append]
theorem size_append (a b : ByteArray) : (a ++ b).size = a.size + b.size := by rw [← L_len, L_append, List.length_append, L_len, L_len]
theorem mk_append (a b : List UInt8) : mkB a ++ mkB b = mkB (a ++ b) := L_inj (by rw [L_append, L_mk, L_mk, L_mk])
theorem bt_get (s : ByteArray) (i : Nat) (h : i < s.size) : bt s (i : Int) = (((L s)[i]'(by rw [L_len]; exact h)).toNat : Int) := by
  unfold bt
  simp only [Int.toNat_natCast, h, dif_pos]
  rfl
theorem bt_getD (s : ByteArray) (i : Nat) (h : i < s.size) : bt s (i : Int) = (((L s).getD i 0).toNat : Int) := by
  rw [bt_get s i h, List.getD_eq_getElem?_getD, List.getElem?_eq_getElem (by rw [L_len]; exact h)]; rfl
theorem size_pos_iff (s : ByteArray) : s.size = 0 ↔ L s = [] := by rw [← L_len, List.length_eq_zero_iff]
theorem u8_inj {a b : UInt8} (h : (a.toNat : Int) = (b.toNat : Int)) : a = b := UInt8.toNat_inj.1 (by omega)
theorem toList_eq_iff {a b : ByteArray} : a.toList = b.toList ↔ a = b := by rw [toList_L, toList_L, L_iff]
theorem mk_eq_iff {a b : List UInt8} : mkB a = mkB b ↔ a = b := ⟨fun h => by have := congrArg L h; rwa [L_mk, L_mk] at this, fun h => by rw [h]⟩
end Go.Proofs.YtcbmccjbhfggjaaDoor.B

namespace Go.Proofs.YtcbmccjbhfggjaaDoor.B
open Go.RowKit Go.Proofs.YtcbmccjbhfggjaaDoorW.PrintWords Go.Proofs.YtcbmccjbhfggjaaDoorW.PrintLast
set_option linter.unusedVariables false
set_option linter.unusedSimpArgs false
/-- What stands ahd of the first part. -/
def ahd (seg : List UInt8) : List (List UInt8) → List (List UInt8)
  | [] => [seg]
  | h :: t => (seg ++ h) :: t
/-- The parts of a list between bytes b. -/
def spl (b : UInt8) : List UInt8 → List (List UInt8)
  | [] => [[]]
  | c :: cs => if c = b then [] :: spl b cs else ahd [c] (spl b cs)
theorem spl_nil (b : UInt8) : spl b [] = [[]] := rfl
theorem spl_cons (b c : UInt8) (cs : List UInt8) : spl b (c :: cs) = if c = b then [] :: spl b cs else ahd [c] (spl b cs) := rfl
theorem spl_ne (b : UInt8) (l : List UInt8) : spl b l ≠ [] := by
  cases l with
  | nil => simp [spl]
  | cons c cs => unfold spl; split <;> simp; unfold ahd; split <;> simp
theorem ahd_nil (p : List (List UInt8)) (h : p ≠ []) : ahd [] p = p := by cases p <;> simp_all [ahd]
theorem ahd_ahd (a b : List UInt8) (p : List (List UInt8)) : ahd a (ahd b p) = ahd (a ++ b) p := by cases p <;> simp [ahd]
theorem spl_length (b : UInt8) (l : List UInt8) : (spl b l).length ≤ l.length + 1 := by
  induction l with
  | nil => simp [spl]
  | cons c cs ih =>
    unfold spl
    split
    · simp; omega
    · cases h : spl b cs with
      | nil => exact absurd h (spl_ne b cs)
      | cons p q => rw [h] at ih; simp [ahd] at ih ⊢; omega
theorem spl_step (b : UInt8) (l : List UInt8) (from_ i : Nat) (hi : i < l.length) (hf : from_ ≤ i) :
    ahd ((l.drop from_).take (i - from_)) (spl b (l.drop i)) =
      if l[i] = b then ((l.drop from_).take (i - from_)) :: spl b (l.drop (i + 1)) else ahd ((l.drop from_).take (i + 1 - from_)) (spl b (l.drop (i + 1))) := by
  rw [List.drop_eq_getElem_cons hi, spl_cons]
  by_cases h : l[i] = b
  · rw [if_pos h, if_pos h]
    simp [ahd]
  · rw [if_neg h, if_neg h]
    have e : (l.drop from_).take (i + 1 - from_) = (l.drop from_).take (i - from_) ++ [l[i]] := by
      rw [show i + 1 - from_ = (i - from_) + 1 by omega, List.take_succ_eq_append_getElem (by rw [List.length_drop]; omega)]
      congr 2
      rw [List.getElem_drop]
      congr 1
      omega
    rw [e]
    exact ahd_ahd _ _ _
end Go.Proofs.YtcbmccjbhfggjaaDoor.B

namespace Go.Proofs.YtcbmccjbhfggjaaDoor.B
open Go.RowKit Go.Proofs.YtcbmccjbhfggjaaDoorW.PrintWords Go.Proofs.YtcbmccjbhfggjaaDoorW.PrintLast
set_option linter.unusedVariables false
set_option linter.unusedSimpArgs false
theorem spl_none (c : UInt8) : ∀ l : List UInt8, (∀ k : Nat, l[k]? ≠ some c) → spl c l = [l]
  | [], _ => rfl
  | a :: l, h => by
    have h0 : a ≠ c := fun e => h 0 (by simp [e])
    rw [spl_cons, if_neg h0, spl_none c l (fun k => by simpa using h (k + 1))]; rfl
theorem spl_first (c : UInt8) : ∀ (i : Nat) (l : List UInt8), l[i]? = some c → (∀ k : Nat, k < i → l[k]? ≠ some c) → spl c l = l.take i :: spl c (l.drop (i + 1))
  | 0, [], h, _ => by simp at h
  | 0, a :: l, h, _ => by
    have h0 : a = c := by simpa using h
    rw [spl_cons, if_pos h0]; rfl
  | i + 1, [], h, _ => by simp at h
  | i + 1, a :: l, h, hk => by
    have h0 : a ≠ c := fun e => hk 0 (by omega) (by simp [e])
    rw [spl_cons, if_neg h0, spl_first c i l (by simpa using h) (fun k hk' => by simpa using hk (k + 1) (by omega))]
    rfl
theorem indexB_one (s : ByteArray) (c : UInt8) : Lib.indexB s (mkB [c]) = Lib.indexByte (L s) c := by
  unfold Lib.indexB
  have : (mkB [c]).data.toList = [c] := L_mk [c]
  rw [this]
  exact Lib.index_one _ _
theorem splitB_spl (c : UInt8) (n : Nat) : ∀ s : ByteArray, s.size ≤ n → (Lib.splitB (mkB [c]) 0 (Lib.countB s (mkB [c])) s).map L = spl c (L s) := by
  have h1 : (mkB [c]).size = 1 := by rw [size_mk]; rfl
  induction n with
  | zero =>
    intro s hs
    rcases Lib.indexB_cases s (mkB [c]) with hm | ⟨i, hi, hr⟩
    · rw [Lib.splitB_miss _ _ _ _ hm]
      have := Lib.indexByte_none (by rw [← indexB_one]; exact hm : Lib.indexByte (L s) c = -1)
      rw [spl_none c (L s) this]; rfl
    · omega
  | succ n ih =>
    intro s hs
    rcases Lib.indexB_cases s (mkB [c]) with hm | ⟨i, hi, hr⟩
    · rw [Lib.splitB_miss _ _ _ _ hm]
      have := Lib.indexByte_none (by rw [← indexB_one]; exact hm : Lib.indexByte (L s) c = -1)
      rw [spl_none c (L s) this]; rfl
    · rw [h1] at hr
      have hc := Lib.countB_hit s (mkB [c]) i (by omega) hi
      rw [h1] at hc
      rw [hc, Nat.add_comm 1, Lib.splitB_hit _ _ _ _ i hi, h1, List.map_cons, ih (s.extract (i + 1) s.size) (by rw [ByteArray.size_extract]; omega)]
      obtain ⟨a, b⟩ := Lib.indexByte_some (by rw [← indexB_one]; exact hi : Lib.indexByte (L s) c = i)
      rw [spl_first c i (L s) a b, L_extract, L_extract]
      congr 1
      congr 1
      rw [List.take_of_length_le (by rw [List.length_drop, L_len]; omega)]
theorem splitB_eq (c : UInt8) (s : ByteArray) : Lib.splitB (mkB [c]) 0 (Lib.countB s (mkB [c])) s = (spl c (L s)).map mkB := by
  rw [← splitB_spl c s.size s (Nat.le_refl _), List.map_map]
  have : (mkB ∘ L) = id := by funext x; exact mk_L x
  rw [this, List.map_id]
end Go.Proofs.YtcbmccjbhfggjaaDoor.B

namespace Go.Proofs.YtcbmccjbhfggjaaDoor.B
open Go.RowKit Go.Proofs.YtcbmccjbhfggjaaDoorW.PrintWords Go.Proofs.YtcbmccjbhfggjaaDoorW.PrintLast
set_option linter.unusedVariables false
set_option linter.unusedSimpArgs false
theorem ix_nn (l : List UInt8) (b : UInt8) : 0 ≤ Lib.indexByte l b ↔ b ∈ l := by
  have h := Lib.indexByte_ge l b
  by_cases e : Lib.indexByte l b = -1
  · have n := Lib.indexByte_none e
    refine ⟨fun h => by omega, fun h => ?_⟩
    obtain ⟨i, hi, rfl⟩ := List.getElem_of_mem h
    exact absurd (List.getElem?_eq_getElem hi) (n i)
  · obtain ⟨o, ho⟩ : ∃ o : Nat, Lib.indexByte l b = o := ⟨(Lib.indexByte l b).toNat, by omega⟩
    obtain ⟨h1, _⟩ := Lib.indexByte_some ho
    exact ⟨fun _ => List.mem_of_getElem? h1, fun _ => by omega⟩
theorem contains_one (l : List UInt8) (b : UInt8) : Lib.contains l [b] = decide (b ∈ l) := by
  unfold Lib.contains
  rw [Lib.index_one, decide_eq_decide]
  exact ix_nn l b
theorem cut_miss (l : List UInt8) (b : UInt8) (h : b ∉ l) : Lib.cut l [b] = (l, [], false) := by
  unfold Lib.cut
  rw [Lib.index_one, if_neg (fun e => h ((ix_nn l b).1 e))]
/-- At a byte that stands there: the first part, and what follows. -/
theorem cut_hit (l : List UInt8) (b : UInt8) (h : b ∈ l) : ∃ i : Nat, i < l.length ∧ Lib.cut l [b] = (l.take i, l.drop (i + 1), true) ∧ spl b l = l.take i :: spl b (l.drop (i + 1)) ∧ b ∉ l.take i ∧ l = l.take i ++ b :: l.drop (i + 1) := by
  have hn := (ix_nn l b).2 h
  obtain ⟨o, ho⟩ : ∃ o : Nat, Lib.indexByte l b = o := ⟨(Lib.indexByte l b).toNat, by omega⟩
  obtain ⟨h1, h2⟩ := Lib.indexByte_some ho
  have hlt : o < l.length := by
    by_cases c : o < l.length
    · exact c
    · rw [List.getElem?_eq_none (by omega)] at h1; cases h1
  refine ⟨o, hlt, ?_, spl_first b o l h1 h2, ?_, ?_⟩
  · unfold Lib.cut
    rw [Lib.index_one, ho, if_pos (by omega)]; simp
  · intro hm
    obtain ⟨i, hi, e⟩ := List.getElem_of_mem hm
    rw [List.length_take] at hi
    refine h2 i (by omega) ?_
    rw [List.getElem_take] at e
    rw [List.getElem?_eq_getElem (by omega), e]
  · rw [List.getElem?_eq_getElem hlt] at h1
    have e : l[o] = b := Option.some.inj h1
    rw [← e, ← List.drop_eq_getElem_cons hlt, List.take_append_drop]
theorem spl_miss (l : List UInt8) (b : UInt8) (h : b ∉ l) : spl b l = [l] := spl_none b l (fun k e => h (List.mem_of_getElem? e))
end Go.Proofs.YtcbmccjbhfggjaaDoor.B

namespace Go.Proofs.YtcbmccjbhfggjaaDoor.G
open Go.RowKit Go.Proofs.YtcbmccjbhfggjaaDoorW.PrintWords Go.Proofs.YtcbmccjbhfggjaaDoorW.PrintLast Go.Proofs.YtcbmccjbhfggjaaDoorW.PrintMore
open Go.Proofs.YtcbmccjbhfggjaaDoor.Gl Go.Proofs.YtcbmccjbhfggjaaDoor.Ext
attribute [local go_sem] max2_int min2_int max_two min_two max_three min_three max_four min_four   -- for this text's walks alone
set_option linter.unusedVariables false
set_option linter.unusedSimpArgs false

/-! ### spec_IsValidTitle: function 27 -/
def spec_IsValidTitle.f (k : Nat) (a0 : ByteArray) : Option (Bool) := (spec_l6Good.f k a0).bind fun t226 => (some t226)
theorem spec_IsValidTitle.mono : ∀ a0 k, LeO (spec_IsValidTitle.f k a0) (spec_IsValidTitle.f (k + 1) a0) := by
  intro a0 k
  unfold spec_IsValidTitle.f
  repeat' first
      | (with_reducible exact spec_l6Good.mono _ _)
      | (with_reducible exact LeO.refl _)
      | (with_reducible exact LeO.none _)
      | (with_reducible refine LeO.ite ?_ ?_)
      | (with_reducible refine LeO.bind ?_ (fun _ => ?_))
      | exact spec_l6Good.mono _ _
      | exact LeO.none _
      | refine LeO.ite ?_ ?_
      | refine LeO.bind ?_ (fun _ => ?_)
set_option maxHeartbeats 8000000 in
set_option maxRecDepth 100000 in
theorem spec_IsValidTitle.calls (k : Nat) (a0 : ByteArray) (r : Bool) (w : World) (h : spec_IsValidTitle.f k a0 = some r) :
    Calls Tryd.prog 27 #[.string a0] w fun e w' => e = .returned (.bool r) ∧ Drawn0 w w' := by
  have H : ((spec_l6Good.f k a0).bind fun t226 => (some t226)) = some r := h
  clear h
  replace H := Option.bind_eq_some_iff.mp H
  obtain ⟨t226, A20, H⟩ := H
  replace H : (some t226) = some r := H
  have A2 := Aside0.mk A20
  clear A20
  obtain rfl := Option.some.inj H
  go_enter Tryd.func27, Tryd.ntmps27
  go_wp2_with (first | ((with_reducible refine gate_callee (f := 72) rfl ?_); refine goesL_ (some 4) rfl rfl Tryd.func72 (by kernel_rfl) rfl #[.string a0] rfl (by (try simp only [List.map_toArray, List.map_cons, List.map_nil]); first | done | rfl | (simp only [List.length_drop, List.length_take]; rfl)) ?_; (with_reducible refine (spec_l6Good.calls k a0 t226 _ A2.out).mono ?_); rintro e w' ⟨rfl, ⟨nd, rfl⟩⟩; refine ⟨_, rfl, ?_⟩))
  go_ret
  exact ⟨by first | rfl | (simp; done) | (simp [*]; done), by repeat (first | exact Drawn0.refl _ | apply Drawn0.step)⟩

end Go.Proofs.YtcbmccjbhfggjaaDoor.G

namespace Go.Proofs.YtcbmccjbhfggjaaDoor.G
open Go.RowKit Go.Proofs.YtcbmccjbhfggjaaDoorW.PrintWords Go.Proofs.YtcbmccjbhfggjaaDoorW.PrintLast Go.Proofs.YtcbmccjbhfggjaaDoor.B
set_option linter.unusedVariables false
set_option linter.unusedSimpArgs false
def rngD (c : Int) : Bool := decide (32 ≤ c) && decide (c ≤ 126)
def inT (n : Nat) : Bool := decide (1 ≤ n) && decide (n ≤ 100)
theorem inT_iff {n : Nat} : inT n = true ↔ 1 ≤ n ∧ n ≤ 100 := by simp [inT]
theorem in100 (n : Nat) : (if (n : Int) ≥ 1 then some (decide ((n : Int) ≤ 100)) else some false) = some (inT n) := by
  unfold inT
  by_cases h : 1 ≤ n
  · rw [if_pos (by omega)]
    congr 1
    rw [decide_eq_true h, Bool.true_and, decide_eq_decide]; omega
  · rw [if_neg (by omega)]; simp [h]
def rngF (s : ByteArray) : Nat → Nat → Bool
  | 0, _ => true
  | d + 1, i => rngD (bt s (i : Int)) && rngF s d (i + 1)
def dblAt (s : ByteArray) (i : Nat) : Bool := decide (0 < i) && (decide (bt s (i : Int) = 32) && decide (bt s ((i : Int) - 1) = 32))
def dblF (s : ByteArray) : Nat → Nat → Bool
  | 0, _ => true
  | d + 1, i => !dblAt s i && dblF s d (i + 1)
def brcF (s : ByteArray) : Nat → Nat → Int → Bool
  | 0, _, op => decide (op < 0)
  | d + 1, i, op =>
    if bt s (i : Int) = 123 then (if op ≥ 0 then false else brcF s d (i + 1) (i : Int))
    else if bt s (i : Int) = 125 then (if op < 0 then false else if op = (i : Int) - 1 then false else brcF s d (i + 1) (-1))
    else brcF s d (i + 1) op
theorem spec_step (s : ByteArray) (i k : Nat) (op : Int) (hi : i < s.size) (hs : s.size ≤ 100) :
    spec_l6Good.l0 (k + 3) s op (i : Int) = if rngD (bt s (i : Int)) = true then (if dblAt s i = true then some false else
      (if bt s (i : Int) = 123 then (if op ≥ 0 then some false else spec_l6Good.l0 k s (i : Int) ((i + 1 : Nat) : Int))
      else if bt s (i : Int) = 125 then (if op < 0 then some false else if op = (i : Int) - 1 then some false else spec_l6Good.l0 k s (-1) ((i + 1 : Nat) : Int))
      else spec_l6Good.l0 k s op ((i + 1 : Nat) : Int))) else some false := by
  have hw : wrap64 ((i : Int) + 1) = ((i + 1 : Nat) : Int) := by rw [w64 (by omega) (by omega)]; rfl
  have hw' : wrap64 ((i : Int) - 1) = (i : Int) - 1 := w64 (by omega) (by omega)
  have a1 : (i : Int) < (s.size : Int) := by omega
  have a2 : (0 : Int) ≤ (i : Int) := by omega
  have j3 : ∀ b, spec_l6Good.j3 (k + 1) s op (i : Int) b = if b = true then some false else
      (if bt s (i : Int) = 123 then (if op ≥ 0 then some false else spec_l6Good.l0 k s (i : Int) ((i + 1 : Nat) : Int))
      else if bt s (i : Int) = 125 then (if op < 0 then some false else if op = (i : Int) - 1 then some false else spec_l6Good.l0 k s (-1) ((i + 1 : Nat) : Int))
      else spec_l6Good.l0 k s op ((i + 1 : Nat) : Int)) := by
    intro b
    simp only [spec_l6Good.j3, if_pos a1, if_pos a2, hw, hw']
  have j2 : ∀ b, spec_l6Good.j2 (k + 2) s op (i : Int) b = if b = true then some false else spec_l6Good.j3 (k + 1) s op (i : Int) (dblAt s i) := by
    intro b
    simp only [spec_l6Good.j2, if_pos a1, if_pos a2, hw']
    cases b with
    | true => simp
    | false =>
      have nf : ¬ (false = true) := by simp
      rw [if_neg nf, if_neg nf]
      unfold dblAt
      by_cases c : 0 < i
      · have b1 : (0 : Int) ≤ (i : Int) - 1 := by omega
        have b2 : (i : Int) - 1 < (s.size : Int) := by omega
        rw [if_pos (show (i : Int) > 0 by omega), if_pos b1, if_pos b2]
        by_cases e : bt s (i : Int) = 32
        · rw [if_pos e]; congr 1; simp [c, e]; rfl
        · rw [if_neg e]; congr 1; simp [e]
      · rw [if_neg (show ¬ (i : Int) > 0 by omega)]; congr 1; simp [c]
  simp only [spec_l6Good.l0, if_pos a1, if_pos a2]
  unfold rngD
  have nf : ¬ (false = true) := by simp
  by_cases c1 : bt s (i : Int) < 32
  · have e : (decide (32 ≤ bt s (i : Int)) && decide (bt s (i : Int) ≤ 126)) = false := by rw [decide_eq_false (show ¬ 32 ≤ bt s (i : Int) by omega)]; rfl
    rw [if_pos c1, j2, if_pos rfl, e, if_neg nf]
  · rw [if_neg c1]
    by_cases c2 : bt s (i : Int) > 126
    · have e : (decide (32 ≤ bt s (i : Int)) && decide (bt s (i : Int) ≤ 126)) = false := by rw [decide_eq_false (show ¬ bt s (i : Int) ≤ 126 by omega)]; simp
      rw [decide_eq_true c2, j2, if_pos rfl, e, if_neg nf]
    · have e : (decide (32 ≤ bt s (i : Int)) && decide (bt s (i : Int) ≤ 126)) = true := by rw [decide_eq_true (show 32 ≤ bt s (i : Int) by omega), decide_eq_true (show bt s (i : Int) ≤ 126 by omega)]; rfl
      rw [decide_eq_false c2, j2, if_neg nf, j3, e, if_pos rfl]
theorem spec_title_loop (s : ByteArray) (hs : s.size ≤ 100) (d : Nat) : ∀ (i : Nat) (op : Int), i ≤ s.size → s.size - i = d →
    Ev (fun k => spec_l6Good.l0 k s op (i : Int)) (rngF s d i && (dblF s d i && brcF s d i op)) := by
  induction d with
  | zero =>
    intro i op h1 hd
    refine Ev.step (f := fun _ => some (decide (op < 0))) (fun k => ?_) (ev_eq (Ev.now _) (by simp [rngF, dblF, brcF]))
    simp only [spec_l6Good.l0]; rw [if_neg (by omega)]
  | succ d ih =>
    intro i op h1 hd
    have hi : i < s.size := by omega
    have st : ∀ v, Ev (fun k => if rngD (bt s (i : Int)) = true then (if dblAt s i = true then some false else
      (if bt s (i : Int) = 123 then (if op ≥ 0 then some false else spec_l6Good.l0 k s (i : Int) ((i + 1 : Nat) : Int))
      else if bt s (i : Int) = 125 then (if op < 0 then some false else if op = (i : Int) - 1 then some false else spec_l6Good.l0 k s (-1) ((i + 1 : Nat) : Int))
      else spec_l6Good.l0 k s op ((i + 1 : Nat) : Int))) else some false) v → Ev (fun k => spec_l6Good.l0 k s op (i : Int)) v := by
      rintro v ⟨K, hK⟩
      refine ⟨K + 3, fun k hk => ?_⟩
      obtain ⟨k', rfl⟩ : ∃ k', k = k' + 3 := ⟨k - 3, by omega⟩
      exact (spec_step s i k' op hi hs).trans (hK k' (by omega))
    refine st _ ?_
    show Ev _ ((rngD (bt s (i : Int)) && rngF s d (i + 1)) && ((!dblAt s i && dblF s d (i + 1)) && brcF s (d + 1) i op))
    cases r : rngD (bt s (i : Int)) with
    | false => exact ev_neg (by simp) (ev_eq (Ev.now _) (by simp))
    | true =>
      refine ev_pos rfl ?_
      cases b : dblAt s i with
      | true => exact ev_pos rfl (ev_eq (Ev.now _) (by simp))
      | false =>
        refine ev_neg (by simp) ?_
        unfold brcF
        by_cases c1 : bt s (i : Int) = 123
        · rw [if_pos c1]
          refine ev_pos c1 ?_
          by_cases c2 : op ≥ 0
          · rw [if_pos c2]; exact ev_pos c2 (ev_eq (Ev.now _) (by simp))
          · rw [if_neg c2]; exact ev_neg c2 (ev_eq (ih (i + 1) (i : Int) (by omega) (by omega)) (by simp))
        · rw [if_neg c1]
          refine ev_neg c1 ?_
          by_cases c3 : bt s (i : Int) = 125
          · rw [if_pos c3]
            refine ev_pos c3 ?_
            by_cases c4 : op < 0
            · rw [if_pos c4]; exact ev_pos c4 (ev_eq (Ev.now _) (by simp))
            · rw [if_neg c4]
              refine ev_neg c4 ?_
              by_cases c5 : op = (i : Int) - 1
              · rw [if_pos c5]; exact ev_pos c5 (ev_eq (Ev.now _) (by simp))
              · rw [if_neg c5]; exact ev_neg c5 (ev_eq (ih (i + 1) (-1) (by omega) (by omega)) (by simp))
          · rw [if_neg c3]
            exact ev_neg c3 (ev_eq (ih (i + 1) op (by omega) (by omega)) (by simp))
def edgeD (s : ByteArray) : Bool := !decide (bt s 0 = 32) && !decide (bt s ((s.size : Int) - 1) = 32)
def titleD (s : ByteArray) : Bool := inT s.size && (edgeD s && (rngF s s.size 0 && (dblF s s.size 0 && brcF s s.size 0 (-1))))
theorem spec_title (s : ByteArray) : Ev (fun k => spec_l6Good.f k s) (titleD s) := by
  have hj1 : Ev (fun k => spec_l6Good.j0 k s true) false := Ev.step (f := fun _ => some false) (fun k => by simp [spec_l6Good.j0]) (Ev.now _)
  unfold spec_l6Good.f spec_l1In.f titleD
  rw [in100]
  refine Ev.bind (a := inT s.size) (Ev.now _) ?_
  cases h : inT s.size with
  | false => exact ev_neg (by simp) (ev_eq hj1 (by simp))
  | true =>
    obtain ⟨h1, h2⟩ := inT_iff.1 h
    have hw : wrap64 ((s.size : Int) - 1) = (s.size : Int) - 1 := w64 (by omega) (by omega)
    refine ev_pos rfl (ev_pos (by omega) ?_)
    unfold edgeD
    by_cases c : bt s 0 = 32
    · exact ev_pos c (ev_eq hj1 (by simp [c]))
    · refine ev_neg c ?_
      rw [hw]
      refine ev_pos (by omega) (ev_pos (by omega) ?_)
      by_cases e : bt s ((s.size : Int) - 1) = 32
      · have : (bt s ((s.size : Int) - 1) == 32) = true := beq_iff_eq.2 e
        rw [this]; exact ev_eq hj1 (by simp [e])
      · have : (bt s ((s.size : Int) - 1) == 32) = false := beq_eq_false_iff_ne.2 e
        rw [this]
        refine Ev.step (f := fun k => spec_l6Good.l0 k s (-1) ((0 : Nat) : Int)) (fun k => by simp [spec_l6Good.j0]) (ev_eq (spec_title_loop s h2 _ 0 (-1) (by omega) rfl) (by simp [c, e]))
theorem trimR (n : Nat) : ∀ s : ByteArray, s.size = n → n ≤ 4611686018427387904 → ∃ t, Ev (fun k => strings_trimRightByte.f k s 32) t ∧ t.size ≤ n ∧ (1 ≤ n → bt s ((n : Int) - 1) = 32 → t.size < n) ∧ ((n = 0 ∨ bt s ((n : Int) - 1) ≠ 32) → t = s) := by
  induction n with
  | zero =>
    intro s hs hb
    refine ⟨s, Ev.step (f := fun _ => some s) (fun k => ?_) (Ev.now _), by omega, fun h => by omega, fun _ => rfl⟩
    simp only [strings_trimRightByte.f, strings_trimRightByte.l0]; rw [if_neg (by omega)]
  | succ n ih =>
    intro s hs hb
    have hw : wrap64 ((s.size : Int) - 1) = (n : Int) := by rw [w64 (by omega) (by omega)]; omega
    have e0 : ((n + 1 : Nat) : Int) - 1 = (n : Int) := by omega
    rw [e0]
    by_cases c : bt s (n : Int) = 32
    · have hs' : (s.extract 0 n).size = n := by rw [ByteArray.size_extract]; omega
      obtain ⟨t, ht, h1, _, _⟩ := ih (s.extract 0 n) hs' (by omega)
      refine ⟨t, Ev.step (f := fun k => strings_trimRightByte.f k (s.extract 0 n) 32) (fun k => ?_) ht, by omega, fun _ _ => by omega, fun h => ?_⟩
      · simp only [strings_trimRightByte.f, strings_trimRightByte.l0, hw]
        rw [if_pos (by omega), if_pos (by omega), if_pos (by omega), if_pos c, if_pos (by omega), Int.toNat_natCast]
      · rcases h with h | h
        · omega
        · exact absurd c h
    · refine ⟨s, Ev.step (f := fun _ => some s) (fun k => ?_) (Ev.now _), by omega, fun _ h => absurd h c, fun _ => rfl⟩
      simp only [strings_trimRightByte.f, strings_trimRightByte.l0, hw]
      rw [if_pos (by omega), if_pos (by omega), if_pos (by omega), if_neg c]
theorem trimL (n : Nat) : ∀ s : ByteArray, s.size = n → n ≤ 4611686018427387904 → ∃ t, Ev (fun k => strings_trimLeftByte.f k s 32) t ∧ t.size ≤ n ∧ (1 ≤ n → bt s 0 = 32 → t.size < n) ∧ ((n = 0 ∨ bt s 0 ≠ 32) → t = s) := by
  induction n with
  | zero =>
    intro s hs hb
    refine ⟨s, Ev.step (f := fun _ => some s) (fun k => ?_) (Ev.now _), by omega, fun h => by omega, fun _ => rfl⟩
    simp only [strings_trimLeftByte.f, strings_trimLeftByte.l0]; rw [if_neg (by omega)]
  | succ n ih =>
    intro s hs hb
    by_cases c : bt s 0 = 32
    · have hs' : (s.extract 1 s.size).size = n := by rw [ByteArray.size_extract]; omega
      obtain ⟨t, ht, h1, _, _⟩ := ih (s.extract 1 s.size) hs' (by omega)
      refine ⟨t, Ev.step (f := fun k => strings_trimLeftByte.f k (s.extract 1 s.size) 32) (fun k => ?_) ht, by omega, fun _ _ => by omega, fun h => ?_⟩
      · simp only [strings_trimLeftByte.f, strings_trimLeftByte.l0]
        rw [if_pos (by omega), if_pos (by omega), if_pos c, if_pos (by omega)]
      · rcases h with h | h
        · omega
        · exact absurd c h
    · refine ⟨s, Ev.step (f := fun _ => some s) (fun k => ?_) (Ev.now _), by omega, fun _ h => absurd h c, fun _ => rfl⟩
      simp only [strings_trimLeftByte.f, strings_trimLeftByte.l0]
      rw [if_pos (by omega), if_pos (by omega), if_neg c]
theorem trim_ev (s : ByteArray) (h1 : 1 ≤ s.size) (h2 : s.size ≤ 4611686018427387904) : ∃ t, Ev (fun k => strings_Trim.f k s (⟨#[32]⟩ : ByteArray)) t ∧ (t.toList == s.toList) = edgeD s := by
  obtain ⟨t1, ht1, ha, hb, hc⟩ := trimR s.size s rfl h2
  obtain ⟨t2, ht2, ha', hb', hc'⟩ := trimL t1.size t1 rfl (by omega)
  refine ⟨t2, ?_, ?_⟩
  · unfold strings_Trim.f
    have hz : ¬ s.toList = ([] : List UInt8) := fun e => by rw [toList_L] at e; have := (size_pos_iff s).2 e; omega
    refine ev_neg hz ?_
    have e1 : ((⟨#[32]⟩ : ByteArray).toList == ([] : List UInt8)) = false := by rw [toList_L]; rfl
    have e2 : ((⟨#[32]⟩ : ByteArray).size : Int) = 1 := rfl
    have e3 : bt (⟨#[32]⟩ : ByteArray) 0 = 32 := rfl
    rw [e1]
    refine Ev.step (f := fun k => strings_Trim.j1 k s (⟨#[32]⟩ : ByteArray) true) (fun k => ?_) (Ev.step (f := fun k => (strings_trimRightByte.f k s 32).bind fun t => (strings_trimLeftByte.f k t 32).bind fun u => some u) (fun k => ?_) (Ev.bind ht1 (Ev.bind ht2 (Ev.now _))))
    · simp only [strings_Trim.j0]
      rw [if_neg (by simp), e2, if_pos rfl, if_pos (by omega), e3]; rfl
    · simp only [strings_Trim.j1]
      rw [if_pos trivial, e2, if_pos (by omega), e3]
  · unfold edgeD
    by_cases c : bt s ((s.size : Int) - 1) = 32
    · have : t2.size < s.size := by have := hb h1 c; omega
      have ne : ¬ t2.toList = s.toList := fun e => by have := toList_eq_iff.1 e; subst this; omega
      rw [show (t2.toList == s.toList) = false by simpa using ne]; simp [c]
    · have e := hc (Or.inr c)
      subst e
      by_cases c0 : bt t1 0 = 32
      · have h3 := hb' h1 c0
        have ne : ¬ t2.toList = t1.toList := fun e => by have := toList_eq_iff.1 e; subst this; omega
        rw [show (t2.toList == t1.toList) = false by simpa using ne]; simp [c0]
      · have e := hc' (Or.inr c0)
        subst e
        simp [c, c0]
theorem print_loop (s : ByteArray) (h1 : 1 ≤ s.size) (h2 : s.size ≤ 100) (d : Nat) : ∀ i : Nat, i ≤ s.size → s.size - i = d →
    Ev (fun k => impl_isPrintable.l0 k s (i : Int)) (rngF s d i && edgeD s) := by
  induction d with
  | zero =>
    intro i hi hd
    obtain ⟨t, ht, e⟩ := trim_ev s h1 (by omega)
    refine Ev.step (f := fun k => (strings_Trim.f k s (⟨#[32]⟩ : ByteArray)).bind fun t231 => (some (t231.toList == s.toList))) (fun k => ?_) (Ev.bind ht (ev_eq (Ev.now _) (by rw [e]; simp [rngF])))
    simp only [impl_isPrintable.l0]; rw [if_neg (by omega)]
  | succ d ih =>
    intro i hi hd
    have hw : wrap64 ((i : Int) + 1) = ((i + 1 : Nat) : Int) := by rw [w64 (by omega) (by omega)]; rfl
    refine Ev.step (f := fun k => if rngD (bt s (i : Int)) = true then impl_isPrintable.l0 k s ((i + 1 : Nat) : Int) else some false) (fun k => ?_) ?_
    · simp only [impl_isPrintable.l0]
      rw [if_pos (by omega), if_pos (by omega), hw]
      unfold rngD
      by_cases c1 : bt s (i : Int) < 32
      · rw [if_pos c1, if_neg (by simp; omega)]
      · rw [if_neg c1]
        by_cases c2 : bt s (i : Int) > 126
        · rw [if_pos c2, if_neg (by simp; omega)]
        · rw [if_neg c2, if_pos (by simp; omega)]
    · unfold rngF
      cases h : rngD (bt s (i : Int)) with
      | true => exact ev_pos rfl (ev_eq (ih (i + 1) (by omega) (by omega)) (by simp))
      | false => exact ev_neg (by simp) (ev_eq (Ev.now _) (by simp))
theorem prot_loop (s : ByteArray) (h2 : s.size ≤ 100) (d : Nat) : ∀ (i : Nat) (op : Int) (out : List Bool), out.length = s.size → i ≤ s.size → s.size - i = d →
    ∃ r, Ev (fun k => impl_protected.l0 k s out op (i : Int)) (r, brcF s d i op) := by
  induction d with
  | zero =>
    intro i op out ho hi hd
    refine ⟨out, Ev.step (f := fun _ => some (out, decide (op < 0))) (fun k => ?_) (Ev.now _)⟩
    simp only [impl_protected.l0]; rw [if_neg (by omega)]
  | succ d ih =>
    intro i op out ho hi hd
    have hw : wrap64 ((i : Int) + 1) = ((i + 1 : Nat) : Int) := by rw [w64 (by omega) (by omega)]; rfl
    have hw' : wrap64 ((i : Int) - 1) = (i : Int) - 1 := w64 (by omega) (by omega)
    have a1 : (i : Int) < (s.size : Int) := by omega
    have a2 : (0 : Int) ≤ (i : Int) := by omega
    have a3 : (i : Int) < (out.length : Int) := by omega
    unfold brcF
    by_cases c1 : bt s (i : Int) = 123
    · by_cases c2 : op ≥ 0
      · refine ⟨[], Ev.step (f := fun _ => some ([], false)) (fun k => ?_) (ev_eq (Ev.now _) (by rw [if_pos c1, if_pos c2]))⟩
        simp only [impl_protected.l0, if_pos a1, if_pos a2, if_pos c1, if_pos c2]
      · rw [if_pos c1, if_neg c2]
        by_cases c3 : rdOf false out (i : Int) = true
        · obtain ⟨r, hr⟩ := ih (i + 1) (i : Int) (out.set i true) (by simpa using ho) (by omega) (by omega)
          refine ⟨r, Ev.step (fun k => ?_) hr⟩
          simp only [impl_protected.l0, if_pos a1, if_pos a2, if_pos a3, if_pos c1, if_neg c2, if_pos c3, hw, Int.toNat_natCast]
        · obtain ⟨r, hr⟩ := ih (i + 1) (i : Int) (out.set i (decide ((i : Int) ≥ 0))) (by simpa using ho) (by omega) (by omega)
          refine ⟨r, Ev.step (fun k => ?_) hr⟩
          simp only [impl_protected.l0, if_pos a1, if_pos a2, if_pos a3, if_pos c1, if_neg c2, if_neg c3, hw, Int.toNat_natCast]
    · rw [if_neg c1]
      by_cases c3 : bt s (i : Int) = 125
      · rw [if_pos c3]
        by_cases c4 : op < 0
        · refine ⟨[], Ev.step (f := fun _ => some ([], false)) (fun k => ?_) (ev_eq (Ev.now _) (by rw [if_pos c4]))⟩
          simp only [impl_protected.l0, if_pos a1, if_pos a2, if_neg c1, if_pos c3, if_pos c4]
        · rw [if_neg c4]
          by_cases c5 : op = (i : Int) - 1
          · refine ⟨[], Ev.step (f := fun _ => some ([], false)) (fun k => ?_) (ev_eq (Ev.now _) (by rw [if_pos c5]))⟩
            simp only [impl_protected.l0, if_pos a1, if_pos a2, if_neg c1, if_pos c3, if_neg c4, hw', if_pos c5]
          · rw [if_neg c5]
            have hl : (out.set i true).length = s.size := by simpa using ho
            by_cases c6 : rdOf false (out.set i true) (i : Int) = true
            · obtain ⟨r, hr⟩ := ih (i + 1) (-1) ((out.set i true).set i true) (by simpa using ho) (by omega) (by omega)
              refine ⟨r, Ev.step (fun k => ?_) hr⟩
              simp only [impl_protected.l0, if_pos a1, if_pos a2, if_pos a3, if_neg c1, if_pos c3, if_neg c4, hw', if_neg c5, Option.bind_some, Int.toNat_natCast, if_pos c6, hw]
            · obtain ⟨r, hr⟩ := ih (i + 1) (-1) ((out.set i true).set i (decide ((-1 : Int) ≥ 0))) (by simpa using ho) (by omega) (by omega)
              refine ⟨r, Ev.step (fun k => ?_) hr⟩
              simp only [impl_protected.l0, if_pos a1, if_pos a2, if_pos a3, if_neg c1, if_pos c3, if_neg c4, hw', if_neg c5, Option.bind_some, Int.toNat_natCast, if_neg c6, hw]
      · rw [if_neg c3]
        by_cases c7 : rdOf false out (i : Int) = true
        · obtain ⟨r, hr⟩ := ih (i + 1) op (out.set i true) (by simpa using ho) (by omega) (by omega)
          refine ⟨r, Ev.step (fun k => ?_) hr⟩
          simp only [impl_protected.l0, if_pos a1, if_pos a2, if_pos a3, if_neg c1, if_neg c3, if_pos c7, hw, Int.toNat_natCast]
        · obtain ⟨r, hr⟩ := ih (i + 1) op (out.set i (decide (op ≥ 0))) (by simpa using ho) (by omega) (by omega)
          refine ⟨r, Ev.step (fun k => ?_) hr⟩
          simp only [impl_protected.l0, if_pos a1, if_pos a2, if_pos a3, if_neg c1, if_neg c3, if_neg c7, hw, Int.toNat_natCast]
theorem prot_ev (s : ByteArray) (h2 : s.size ≤ 100) : ∃ r, Ev (fun k => impl_protected.f k s) (r, brcF s s.size 0 (-1)) := by
  obtain ⟨r, hr⟩ := prot_loop s h2 _ 0 (-1) (List.replicate s.size false) (by simp) (by omega) rfl
  refine ⟨r, ?_⟩
  unfold impl_protected.f
  exact ev_pos (by omega) (ev_pos (by omega) hr)
theorem dbl_iff (s : ByteArray) (d : Nat) : ∀ i, dblF s d i = true ↔ ∀ j, i ≤ j → j < i + d → dblAt s j = false := by
  induction d with
  | zero => intro i; simp [dblF]; omega
  | succ d ih =>
    intro i
    unfold dblF
    rw [Bool.and_eq_true, ih (i + 1)]
    constructor
    · rintro ⟨h1, h2⟩ j hj hj'
      by_cases e : j = i
      · subst e; simpa using h1
      · exact h2 j (by omega) (by omega)
    · intro h
      exact ⟨by simpa using h i (Nat.le_refl _) (by omega), fun j hj hj' => h j (by omega) (by omega)⟩
end Go.Proofs.YtcbmccjbhfggjaaDoor.G

namespace Go.Proofs.YtcbmccjbhfggjaaDoor.G
open Go.RowKit Go.Proofs.YtcbmccjbhfggjaaDoorW.PrintWords Go.Proofs.YtcbmccjbhfggjaaDoorW.PrintLast Go.Proofs.YtcbmccjbhfggjaaDoor.B
set_option linter.unusedVariables false
set_option linter.unusedSimpArgs false
theorem occ2 (l : List UInt8) (i : Nat) : Lib.occAt l [32, 32] i = true ↔ l[i]? = some 32 ∧ l[i + 1]? = some 32 := by
  have e0 : l[i]? = (l.drop i)[0]? := by rw [List.getElem?_drop]; rfl
  have e1 : l[i + 1]? = (l.drop i)[1]? := by rw [List.getElem?_drop]
  rw [e0, e1]
  unfold Lib.occAt
  generalize l.drop i = m
  match m with
  | [] => simp
  | [x] => simp [List.isPrefixOf]
  | x :: y :: t =>
    simp [List.isPrefixOf]
    exact ⟨fun h => ⟨h.1.symm, h.2.symm⟩, fun h => ⟨h.1.symm, h.2.symm⟩⟩
theorem bt32 (s : ByteArray) (j : Nat) (h : j < s.size) : bt s (j : Int) = 32 ↔ (L s)[j]? = some 32 := by
  have hl : j < (L s).length := by rw [L_len]; exact h
  rw [bt_get s j h, List.getElem?_eq_getElem hl, Option.some.injEq]
  constructor
  · intro e; exact UInt8.toNat_inj.1 (by show _ = 32; omega)
  · intro e; rw [e]; rfl
theorem contains_dbl (s : ByteArray) : Lib.contains (L s) [32, 32] = !dblF s s.size 0 := by
  have hl : (L s).length = s.size := L_len s
  unfold Lib.contains
  rcases Lib.index_spec (L s) [32, 32] with ⟨h1, h2⟩ | ⟨i, h1, h2, h3, _⟩
  · rw [h1, decide_eq_false (by omega)]
    have : dblF s s.size 0 = true := by
      rw [dbl_iff]
      intro j _ hj
      cases e : dblAt s j with
      | false => rfl
      | true =>
        unfold dblAt at e
        simp only [Bool.and_eq_true, decide_eq_true_eq] at e
        obtain ⟨j0, e1, e2⟩ := e
        obtain ⟨m, rfl⟩ : ∃ m, j = m + 1 := ⟨j - 1, by omega⟩
        have e2' : bt s (m : Int) = 32 := by rw [show ((m + 1 : Nat) : Int) - 1 = (m : Int) by omega] at e2; exact e2
        have := (occ2 (L s) m).2 ⟨(bt32 s m (by omega)).1 e2', (bt32 s (m + 1) (by omega)).1 e1⟩
        rw [h2 m (by omega)] at this; cases this
    rw [this]; rfl
  · rw [h1, decide_eq_true (by omega)]
    obtain ⟨a, b⟩ := (occ2 (L s) i).1 h3
    have hi : i + 1 < s.size := by
      by_cases c : i + 1 < s.size
      · exact c
      · rw [List.getElem?_eq_none (by omega)] at b; cases b
    cases e : dblF s s.size 0 with
    | false => rfl
    | true =>
      have := (dbl_iff s s.size 0).1 e (i + 1) (by omega) (by omega)
      unfold dblAt at this
      rw [(bt32 s (i + 1) hi).2 b, show ((i + 1 : Nat) : Int) - 1 = (i : Int) by omega, (bt32 s i (by omega)).2 a] at this
      simp at this
theorem impl_title (s : ByteArray) : Ev (fun k => impl_IsValidTitle.f k s) (titleD s) := by
  unfold impl_IsValidTitle.f impl_inside.f titleD
  rw [in100]
  refine Ev.bind (a := inT s.size) (Ev.now _) ?_
  cases h : inT s.size with
  | false => exact ev_neg (by simp) (ev_eq (Ev.now _) (by simp))
  | true =>
    obtain ⟨h1, h2⟩ := inT_iff.1 h
    refine ev_pos rfl (Ev.bind (print_loop s h1 h2 _ 0 (by omega) rfl) ?_)
    cases hr : rngF s s.size 0 with
    | false => exact ev_neg (by simp) (ev_eq (Ev.now _) (by simp))
    | true =>
      cases he : edgeD s with
      | false => exact ev_neg (by simp) (ev_eq (Ev.now _) (by simp))
      | true =>
        refine ev_pos rfl ?_
        have hc : strings_Contains.f s (⟨#[32, 32]⟩ : ByteArray) = some (!dblF s s.size 0) := by
          unfold strings_Contains.f
          rw [if_pos (by omega)]
          exact congrArg some (contains_dbl s)
        refine ev_bind0 hc ?_
        cases hd : dblF s s.size 0 with
        | false => exact ev_pos rfl (ev_eq (Ev.now _) (by simp))
        | true =>
          obtain ⟨r, hp⟩ := prot_ev s h2
          exact ev_neg (by simp) (Ev.bind hp (ev_eq (Ev.now _) (by simp)))
theorem title_size {s : ByteArray} (h : titleD s = true) : 1 ≤ s.size ∧ s.size ≤ 100 := by
  unfold titleD at h
  cases hi : inT s.size with
  | true => exact inT_iff.1 hi
  | false => rw [hi] at h; simp at h
end Go.Proofs.YtcbmccjbhfggjaaDoor.G

namespace Go.Proofs.YtcbmccjbhfggjaaDoor.G
open Go.RowKit Go.Proofs.YtcbmccjbhfggjaaDoorW.PrintWords Go.Proofs.YtcbmccjbhfggjaaDoorW.PrintLast Go.Proofs.YtcbmccjbhfggjaaDoor.B
set_option linter.unusedVariables false
set_option linter.unusedSimpArgs false
/-- Where the open brace stands ahead of byte i, or -1. -/
def opnAt (s : ByteArray) : Nat → Int
  | 0 => -1
  | i + 1 => if bt s (i : Int) = 123 then (i : Int) else if bt s (i : Int) = 125 then -1 else opnAt s i
def flagD (s : ByteArray) (j : Nat) : Bool := decide (bt s (j : Int) = 125) || decide (opnAt s (j + 1) ≥ 0)
theorem rdb {out : List Bool} {i : Nat} {b : Bool} (h : out[i]? = some b) : rdOf false out (i : Int) = b := by simp [rdOf, List.getD, h]
theorem set_at {out : List Bool} {i n : Nat} (h : out.length = n) (hi : i < n) (b : Bool) : (out.set i b)[i]? = some b := by
  rw [List.getElem?_set]; simp; omega
theorem set_ne {out : List Bool} {i j : Nat} (h : i ≠ j) (b : Bool) : (out.set i b)[j]? = out[j]? := by
  rw [List.getElem?_set, if_neg h]
theorem prot_loop2 (s : ByteArray) (h2 : s.size ≤ 100) (d : Nat) : ∀ (i : Nat) (out : List Bool), out.length = s.size → i ≤ s.size → s.size - i = d →
    (∀ j, j < i → out[j]? = some (flagD s j)) → (∀ j, i ≤ j → j < s.size → out[j]? = some false) → brcF s d i (opnAt s i) = true →
    ∃ r, Ev (fun k => impl_protected.l0 k s out (opnAt s i) (i : Int)) (r, true) ∧ r.length = s.size ∧ ∀ j, j < s.size → r[j]? = some (flagD s j) := by
  induction d with
  | zero =>
    intro i out ho hi hd hA hB hbr
    have e : i = s.size := by omega
    refine ⟨out, Ev.step (f := fun _ => some (out, true)) (fun k => ?_) (Ev.now _), ho, fun j hj => hA j (by omega)⟩
    have hop : opnAt s i < 0 := by simpa [brcF] using hbr
    simp only [impl_protected.l0]; rw [if_neg (by omega), decide_eq_true hop]
  | succ d ih =>
    intro i out ho hi hd hA hB hbr
    have hlt : i < s.size := by omega
    have hw : wrap64 ((i : Int) + 1) = ((i + 1 : Nat) : Int) := by rw [w64 (by omega) (by omega)]; rfl
    have hw' : wrap64 ((i : Int) - 1) = (i : Int) - 1 := w64 (by omega) (by omega)
    have a1 : (i : Int) < (s.size : Int) := by omega
    have a2 : (0 : Int) ≤ (i : Int) := by omega
    have a3 : (i : Int) < (out.length : Int) := by omega
    have r0 := rdb (hB i (Nat.le_refl _) hlt)
    have n0 : ¬ rdOf false out (i : Int) = true := by rw [r0]; simp
    have next : ∀ (b : Bool) (o : Int), opnAt s (i + 1) = o → b = flagD s i → brcF s d (i + 1) o = true → ∀ g : Nat → Option (List Bool × Bool),
        (∀ k, g (k + 1) = impl_protected.l0 k s (out.set i b) o ((i + 1 : Nat) : Int)) → ∃ r, Ev g (r, true) ∧ r.length = s.size ∧ ∀ j, j < s.size → r[j]? = some (flagD s j) := by
      intro b o ho1 hb1 hbr1 g hg
      obtain ⟨r, hr, h3, h4⟩ := ih (i + 1) (out.set i b) (by simpa using ho) (by omega) (by omega) (fun j hj => by
        by_cases c : i = j
        · subst c; rw [set_at ho hlt, hb1]
        · rw [set_ne c]; exact hA j (by omega)) (fun j hj hj' => by rw [set_ne (by omega)]; exact hB j (by omega) hj') (by rw [ho1]; exact hbr1)
      rw [ho1] at hr
      exact ⟨r, Ev.step hg hr, h3, h4⟩
    unfold brcF at hbr
    by_cases c1 : bt s (i : Int) = 123
    · rw [if_pos c1] at hbr
      by_cases c2 : opnAt s i ≥ 0
      · rw [if_pos c2] at hbr; cases hbr
      · rw [if_neg c2] at hbr
        have eo : opnAt s (i + 1) = (i : Int) := if_pos c1
        refine next (decide ((i : Int) ≥ 0)) (i : Int) eo ?_ hbr _ (fun k => ?_)
        · unfold flagD; rw [eo]; simp [c1]
        · simp only [impl_protected.l0, if_pos a1, if_pos a2, if_pos a3, if_pos c1, if_neg c2, if_neg n0, hw, Int.toNat_natCast]
    · rw [if_neg c1] at hbr
      by_cases c3 : bt s (i : Int) = 125
      · rw [if_pos c3] at hbr
        by_cases c4 : opnAt s i < 0
        · rw [if_pos c4] at hbr; cases hbr
        · rw [if_neg c4] at hbr
          by_cases c5 : opnAt s i = (i : Int) - 1
          · rw [if_pos c5] at hbr; cases hbr
          · rw [if_neg c5] at hbr
            have eo : opnAt s (i + 1) = -1 := (if_neg c1).trans (if_pos c3)
            have r1 : rdOf false (out.set i true) (i : Int) = true := rdb (set_at ho hlt true)
            refine next true (-1) eo ?_ hbr _ (fun k => ?_)
            · unfold flagD; simp [c3]
            · simp only [impl_protected.l0, if_pos a1, if_pos a2, if_pos a3, if_neg c1, if_pos c3, if_neg c4, hw', if_neg c5, Option.bind_some, Int.toNat_natCast, if_pos r1, hw, List.set_set]
      · rw [if_neg c3] at hbr
        have eo : opnAt s (i + 1) = opnAt s i := (if_neg c1).trans (if_neg c3)
        refine next (decide (opnAt s i ≥ 0)) (opnAt s i) eo ?_ hbr _ (fun k => ?_)
        · unfold flagD; rw [eo]; simp [c3]
        · simp only [impl_protected.l0, if_pos a1, if_pos a2, if_pos a3, if_neg c1, if_neg c3, if_neg n0, hw, Int.toNat_natCast]
theorem prot_ev2 (s : ByteArray) (h : titleD s = true) : ∃ r, Ev (fun k => impl_protected.f k s) (r, true) ∧ r.length = s.size ∧ ∀ j, j < s.size → r[j]? = some (flagD s j) := by
  have h2 := (title_size h).2
  have hb : brcF s s.size 0 (-1) = true := by
    unfold titleD at h
    simp only [Bool.and_eq_true] at h
    exact h.2.2.2.2
  obtain ⟨r, hr, h3, h4⟩ := prot_loop2 s h2 _ 0 (List.replicate s.size false) (by simp) (by omega) rfl (fun j hj => by omega) (fun j _ hj => by rw [List.getElem?_replicate, if_pos hj]) hb
  refine ⟨r, ?_, h3, h4⟩
  unfold impl_protected.f
  exact ev_pos (by omega) (ev_pos (by omega) hr)
theorem flag_plain (s : ByteArray) (j : Nat) (h1 : bt s (j : Int) ≠ 123) (h2 : bt s (j : Int) ≠ 125) : flagD s j = decide (opnAt s j ≥ 0) := by
  unfold flagD
  have : opnAt s (j + 1) = opnAt s j := (if_neg h1).trans (if_neg h2)
  rw [this]; simp [h2]
end Go.Proofs.YtcbmccjbhfggjaaDoor.G

namespace Go.Proofs.YtcbmccjbhfggjaaDoor.Pure
open Go.RowKit Go.Proofs.YtcbmccjbhfggjaaDoor.G Go.Proofs.YtcbmccjbhfggjaaDoorW.PrintWords Go.Proofs.YtcbmccjbhfggjaaDoorW.PrintLast Go.Proofs.YtcbmccjbhfggjaaDoor.B Go.Proofs.YtcbmccjbhfggjaaDoor.Opn
set_option linter.unusedVariables false
set_option linter.unusedSimpArgs false
/-- Where a subtitle begins, from byte i on; -1 if nowhere. -/
def subT (s : ByteArray) : Nat → Nat → Int
  | 0, _ => -1
  | d + 1, i => if bt s (i : Int) = 58 ∧ bt s ((i + 1 : Nat) : Int) = 32 ∧ ¬ opnAt s i ≥ 0 then (i : Int) else subT s d (i + 1)
def partT (t : ByteArray) : Bool := decide (1 ≤ t.size) && edgeD t
theorem spec_part (t : ByteArray) (ht : t.size ≤ 4611686018427387904) : spec_l6Part.f t = some (partT t) := by
  unfold spec_l6Part.f partT edgeD
  by_cases h : t.size = 0
  · have e : t.toList = ([] : List UInt8) := by rw [toList_L]; exact (size_pos_iff t).1 h
    rw [if_pos e]; simp [h]
  · have e : ¬ t.toList = ([] : List UInt8) := fun e => h (by rw [toList_L] at e; exact (size_pos_iff t).2 e)
    have hw : wrap64 ((t.size : Int) - 1) = (t.size : Int) - 1 := w64 (by omega) (by omega)
    have a1 : (0 : Int) < (t.size : Int) := by omega
    have a2 : (0 : Int) ≤ (t.size : Int) - 1 := by omega
    have a3 : (t.size : Int) - 1 < (t.size : Int) := by omega
    have a4 : 1 ≤ t.size := by omega
    rw [if_neg e, if_pos a1, hw, if_pos a2, if_pos a3, decide_eq_true a4]
    by_cases c : bt t 0 = 32
    · rw [if_pos c]; simp [c]
    · rw [if_neg c, decide_eq_false c]
      by_cases c2 : bt t ((t.size : Int) - 1) = 32
      · rw [decide_eq_true c2]; simp [c2]
      · rw [decide_eq_false c2]; simp [c2]
theorem spec_sub (s : ByteArray) (h1 : 1 ≤ s.size) (hs : s.size ≤ 100) (d : Nat) : ∀ i : Nat, i + 1 ≤ s.size → s.size - 1 - i = d →
    Ev (fun k => spec_l6Split.l0 k s (decide (opnAt s i ≥ 0)) (i : Int)) (subT s d i) := by
  induction d with
  | zero =>
    intro i hi hd
    have hw : wrap64 ((i : Int) + 1) = ((i + 1 : Nat) : Int) := by rw [w64 (by omega) (by omega)]; rfl
    refine Ev.step (f := fun _ => some (-1)) (fun k => ?_) (Ev.now _)
    simp only [spec_l6Split.l0, hw]
    rw [if_neg (by omega)]
  | succ d ih =>
    intro i hi hd
    have hw : wrap64 ((i : Int) + 1) = ((i + 1 : Nat) : Int) := by rw [w64 (by omega) (by omega)]; rfl
    have a0 : ((i + 1 : Nat) : Int) < (s.size : Int) := by omega
    have a1 : (i : Int) < (s.size : Int) := by omega
    have a2 : (0 : Int) ≤ (i : Int) := by omega
    have a3 : (0 : Int) ≤ ((i + 1 : Nat) : Int) := by omega
    have hq := ih (i + 1) (by omega) (by omega)
    have q0 : ∀ b : Bool, (b = true ↔ (bt s (i : Int) = 123 ∨ bt s (i : Int) = 125)) → ∀ v, Ev (fun k => spec_l6Split.j1 k s (decide (opnAt s i ≥ 0)) (i : Int) b) v → Ev (fun k => spec_l6Split.l0 k s (decide (opnAt s i ≥ 0)) (i : Int)) v := by
      intro b hb v hv
      refine Ev.step (fun k => ?_) hv
      simp only [spec_l6Split.l0, hw, if_pos a0, if_pos a1, if_pos a2]
      by_cases c1 : bt s (i : Int) = 123
      · rw [if_pos c1, hb.2 (Or.inl c1)]
      · rw [if_neg c1]
        congr 1
        by_cases c3 : bt s (i : Int) = 125
        · rw [hb.2 (Or.inr c3)]; simp [c3]
        · cases b with
          | true => exact absurd (hb.1 rfl) (fun h => h.elim c1 c3)
          | false => simp [c3]
    unfold subT
    by_cases c1 : bt s (i : Int) = 123
    · have eo : opnAt s (i + 1) = (i : Int) := if_pos c1
      rw [eo, decide_eq_true (show (i : Int) ≥ 0 by omega)] at hq
      rw [if_neg (fun h => by rw [c1] at h; exact absurd h.1 (by decide))]
      refine q0 true ⟨fun _ => Or.inl c1, fun _ => rfl⟩ _ (Ev.step (fun k => ?_) hq)
      have e : (bt s (i : Int) == 123) = true := beq_iff_eq.2 c1
      simp only [spec_l6Split.j1, if_pos a1, if_pos a2, if_pos c1, hw, e]
      rw [if_pos trivial]
    · by_cases c3 : bt s (i : Int) = 125
      · have eo : opnAt s (i + 1) = -1 := (if_neg c1).trans (if_pos c3)
        rw [eo, decide_eq_false (show ¬ (-1 : Int) ≥ 0 by omega)] at hq
        have c5 : ¬ bt s (i : Int) = 58 := by rw [c3]; decide
        rw [if_neg (fun h => c5 h.1)]
        refine q0 true ⟨fun _ => Or.inr c3, fun _ => rfl⟩ _ (Ev.step (fun k => ?_) hq)
        have e : (bt s (i : Int) == 123) = false := beq_eq_false_iff_ne.2 c1
        simp only [spec_l6Split.j1, if_pos a1, if_pos a2, if_neg c1, if_neg c5, hw, e]
        rw [if_pos trivial]
      · have eo : opnAt s (i + 1) = opnAt s i := (if_neg c1).trans (if_neg c3)
        rw [eo] at hq
        refine q0 false ⟨fun h => absurd h (by simp), fun h => h.elim (fun h => absurd h c1) (fun h => absurd h c3)⟩ _ ?_
        have nf : ¬ (false = true) := by simp
        by_cases c6 : opnAt s i ≥ 0
        · rw [if_neg (fun h => h.2.2 c6)]
          rw [decide_eq_true c6] at hq ⊢
          refine Ev.step (fun k => ?_) hq
          simp only [spec_l6Split.j1, hw]
          rw [if_neg nf, if_pos trivial]
        · rw [decide_eq_false c6] at hq ⊢
          by_cases c5 : bt s (i : Int) = 58
          · by_cases c7 : bt s ((i + 1 : Nat) : Int) = 32
            · rw [if_pos ⟨c5, c7, c6⟩]
              refine Ev.step (f := fun _ => some (i : Int)) (fun k => ?_) (Ev.now _)
              simp only [spec_l6Split.j1, hw, if_pos a0, if_pos a1, if_pos a2, if_pos a3, if_pos c5, if_pos c7]
              rw [if_neg nf, if_neg nf]
            · rw [if_neg (fun h => c7 h.2.1)]
              refine Ev.step (fun k => ?_) hq
              simp only [spec_l6Split.j1, hw, if_pos a0, if_pos a1, if_pos a2, if_pos a3, if_pos c5, if_neg c7]
              rw [if_neg nf, if_neg nf]
          · rw [if_neg (fun h => c5 h.1)]
            refine Ev.step (fun k => ?_) hq
            simp only [spec_l6Split.j1, hw, if_pos a1, if_pos a2, if_neg c5]
            rw [if_neg nf, if_neg nf]
def noT : ByteArray × ByteArray × Bool := ((⟨#[]⟩ : ByteArray), (⟨#[]⟩ : ByteArray), false)
/-- The answer, where the subtitle begins at i. -/
def ansT (s : ByteArray) (i : Int) : ByteArray × ByteArray × Bool :=
  if i < 0 then (s, (⟨#[]⟩ : ByteArray), true) else if partT (s.extract 0 i.toNat) = true ∧ partT (s.extract (i.toNat + 2) s.size) = true then (s.extract 0 i.toNat, s.extract (i.toNat + 2) s.size, true) else noT
theorem trim_part (t : ByteArray) (h1 : 1 ≤ t.size) (h2 : t.size ≤ 100) : ∃ u, Ev (fun k => strings_Trim.f k t (⟨#[32]⟩ : ByteArray)) u ∧ (u.toList = t.toList ↔ partT t = true) := by
  obtain ⟨u, hu, he⟩ := trim_ev t h1 (by omega)
  refine ⟨u, hu, ?_⟩
  unfold partT
  rw [decide_eq_true h1, Bool.true_and, ← he]
  simp
theorem impl_found (s : ByteArray) (r : List Bool) (hs : s.size ≤ 100) (i : Nat) (hi : i + 1 < s.size) : Ev (fun k => impl_splitSubtitle.j1 k s r (i : Int) false) (ansT s (i : Int)) := by
  have hw2 : wrap64 ((i : Int) + 2) = ((i + 2 : Nat) : Int) := by rw [w64 (by omega) (by omega)]; rfl
  have a1 : (0 : Int) ≤ (i : Int) := by omega
  have a2 : (i : Int) ≤ (s.size : Int) := by omega
  have a3 : (0 : Int) ≤ ((i + 2 : Nat) : Int) := by omega
  have a4 : ((i + 2 : Nat) : Int) ≤ (s.size : Int) := by omega
  have nf : ¬ (false = true) := by simp
  unfold ansT
  rw [if_neg (show ¬ (i : Int) < 0 by omega), Int.toNat_natCast]
  refine Ev.step (f := fun k => if (s.extract 0 i).toList = ([] : List UInt8) then (some ((⟨#[]⟩ : ByteArray), (⟨#[]⟩ : ByteArray), false)) else (if (s.extract (i + 2) s.size).toList = ([] : List UInt8) then (some ((⟨#[]⟩ : ByteArray), (⟨#[]⟩ : ByteArray), false)) else ((strings_Trim.f k (s.extract 0 i) (⟨#[32]⟩ : ByteArray)).bind fun t264 => (if t264.toList = (s.extract 0 i).toList then ((strings_Trim.f k (s.extract (i + 2) s.size) (⟨#[32]⟩ : ByteArray)).bind fun t265 => (if t265.toList = (s.extract (i + 2) s.size).toList then (some (s.extract 0 i, s.extract (i + 2) s.size, true)) else (some ((⟨#[]⟩ : ByteArray), (⟨#[]⟩ : ByteArray), false)))) else (some ((⟨#[]⟩ : ByteArray), (⟨#[]⟩ : ByteArray), false)))))) (fun k => ?_) ?_
  · simp only [impl_splitSubtitle.j1, hw2, if_pos a1, if_pos a2, if_pos a3, if_pos a4, Int.toNat_natCast]
    rw [if_neg nf]
  have z1 : (s.extract 0 i).size = i := by rw [ByteArray.size_extract]; omega
  have z2 : (s.extract (i + 2) s.size).size = s.size - (i + 2) := by rw [ByteArray.size_extract]; omega
  generalize s.extract 0 i = A at z1 ⊢
  generalize s.extract (i + 2) s.size = C at z2 ⊢
  have nil0 : ∀ t : ByteArray, t.toList = ([] : List UInt8) ↔ t.size = 0 := fun t => by rw [toList_L, size_pos_iff]
  have np : ∀ t : ByteArray, t.size = 0 → ¬ partT t = true := fun t h => by unfold partT; rw [h]; simp
  by_cases c1 : A.size = 0
  · rw [if_neg (fun h => np A c1 h.1)]; exact ev_pos ((nil0 A).2 c1) (Ev.now _)
  · refine ev_neg (fun h => c1 ((nil0 A).1 h)) ?_
    by_cases c2 : C.size = 0
    · rw [if_neg (fun h => np C c2 h.2)]; exact ev_pos ((nil0 C).2 c2) (Ev.now _)
    · refine ev_neg (fun h => c2 ((nil0 C).1 h)) ?_
      obtain ⟨u, hu, eu⟩ := trim_part A (by omega) (by omega)
      obtain ⟨v, hv, ev⟩ := trim_part C (by omega) (by omega)
      refine Ev.bind hu ?_
      by_cases d1 : partT A = true
      · refine ev_pos (eu.2 d1) (Ev.bind hv ?_)
        by_cases d2 : partT C = true
        · exact ev_eq (ev_pos (ev.2 d2) (Ev.now _)) (if_pos ⟨d1, d2⟩).symm
        · exact ev_eq (ev_neg (fun h => d2 (ev.1 h)) (Ev.now _)) (if_neg (fun h => d2 h.2)).symm
      · exact ev_eq (ev_neg (fun h => d1 (eu.1 h)) (Ev.now _)) (if_neg (fun h => d1 h.1)).symm
theorem impl_sub (s : ByteArray) (h1 : 1 ≤ s.size) (hs : s.size ≤ 100) (r : List Bool) (hr : r.length = s.size) (hf : ∀ j, j < s.size → r[j]? = some (flagD s j)) (d : Nat) : ∀ i : Nat, i + 1 ≤ s.size → s.size - 1 - i = d →
    Ev (fun k => impl_splitSubtitle.l0 k s r (i : Int)) (ansT s (subT s d i)) := by
  induction d with
  | zero =>
    intro i hi hd
    have hw : wrap64 ((i : Int) + 1) = ((i + 1 : Nat) : Int) := by rw [w64 (by omega) (by omega)]; rfl
    refine Ev.step (f := fun _ => some (s, (⟨#[]⟩ : ByteArray), true)) (fun k => ?_) (ev_eq (Ev.now _) ?_)
    · simp only [impl_splitSubtitle.l0, hw]; rw [if_neg (by omega)]
    · unfold subT ansT; rw [if_pos (by omega)]
  | succ d ih =>
    intro i hi hd
    have hw : wrap64 ((i : Int) + 1) = ((i + 1 : Nat) : Int) := by rw [w64 (by omega) (by omega)]; rfl
    have a0 : ((i + 1 : Nat) : Int) < (s.size : Int) := by omega
    have a1 : (i : Int) < (s.size : Int) := by omega
    have a2 : (0 : Int) ≤ (i : Int) := by omega
    have a3 : (0 : Int) ≤ ((i + 1 : Nat) : Int) := by omega
    have a4 : (i : Int) < (r.length : Int) := by omega
    have a5 : ((i + 1 : Nat) : Int) < (r.length : Int) := by omega
    have hq := ih (i + 1) (by omega) (by omega)
    have go : Ev (fun k => impl_splitSubtitle.j1 k s r (i : Int) true) (ansT s (subT s d (i + 1))) := by
      refine Ev.step (fun k => ?_) hq
      simp only [impl_splitSubtitle.j1, hw]
      rw [if_pos trivial]
    unfold subT
    by_cases c5 : bt s (i : Int) = 58
    · by_cases c7 : bt s ((i + 1 : Nat) : Int) = 32
      · have f1 := flag_plain s i (by rw [c5]; decide) (by rw [c5]; decide)
        have f2 := flag_plain s (i + 1) (by rw [c7]; decide) (by rw [c7]; decide)
        have eo : opnAt s (i + 1) = opnAt s i := (if_neg (by rw [c5]; decide)).trans (if_neg (by rw [c5]; decide))
        rw [eo] at f2
        have r1 := rdb (hf i (by omega))
        have r2 := rdb (hf (i + 1) (by omega))
        rw [f1] at r1
        rw [f2] at r2
        by_cases c6 : opnAt s i ≥ 0
        · rw [decide_eq_true c6] at r1
          rw [if_neg (fun h => h.2.2 c6)]
          refine Ev.step (fun k => ?_) go
          simp only [impl_splitSubtitle.l0, hw, if_pos a0, if_pos a1, if_pos a2, if_pos a3, if_pos a4, if_pos c5, if_pos c7, r1]
          rw [if_pos trivial]
        · rw [decide_eq_false c6] at r1 r2
          rw [if_pos ⟨c5, c7, c6⟩]
          refine Ev.step (fun k => ?_) (impl_found s r hs i (by omega))
          simp only [impl_splitSubtitle.l0, hw, if_pos a0, if_pos a1, if_pos a2, if_pos a3, if_pos a4, if_pos a5, if_pos c5, if_pos c7, r1, r2]
          rw [if_neg (by simp)]
      · rw [if_neg (fun h => c7 h.2.1)]
        refine Ev.step (fun k => ?_) go
        simp only [impl_splitSubtitle.l0, hw, if_pos a0, if_pos a1, if_pos a2, if_pos a3, if_pos c5, if_neg c7]
    · rw [if_neg (fun h => c5 h.1)]
      refine Ev.step (fun k => ?_) go
      simp only [impl_splitSubtitle.l0, hw, if_pos a0, if_pos a1, if_pos a2, if_neg c5]
theorem subT_bd (s : ByteArray) (d : Nat) : ∀ i, subT s d i = -1 ∨ (∃ j : Nat, subT s d i = j ∧ j < i + d) := by
  induction d with
  | zero => intro i; exact Or.inl rfl
  | succ d ih =>
    intro i
    unfold subT
    split
    · exact Or.inr ⟨i, rfl, by omega⟩
    · rcases ih (i + 1) with h | ⟨j, h, h2⟩
      · exact Or.inl h
      · exact Or.inr ⟨j, h, by omega⟩
def stD (s : ByteArray) : ByteArray × ByteArray × Bool := if titleD s = true then ansT s (subT s (s.size - 1) 0) else noT
theorem spec_st (s : ByteArray) : Ev (fun k => spec_SplitSubtitle.f k s) (stD s) := by
  unfold spec_SplitSubtitle.f stD
  refine Ev.bind (spec_title s) ?_
  by_cases h : titleD s = true
  · rw [if_pos h]
    have hz := title_size h
    have hq := spec_sub s hz.1 hz.2 _ 0 (by omega) rfl
    refine ev_pos h (Ev.bind (g := fun k => spec_l6Split.f k s) hq ?_)
    show Ev _ (ansT s (subT s (s.size - 1) 0))
    rcases subT_bd s (s.size - 1) 0 with e | ⟨j, e, hj⟩
    · have e' : subT s (s.size - 1 - 0) 0 = -1 := e
      rw [e', e]
      exact ev_pos (by omega) (ev_eq (Ev.now _) (by unfold ansT; rw [if_pos (by omega)]))
    · have e' : subT s (s.size - 1 - 0) 0 = (j : Int) := e
      have hw2 : wrap64 ((j : Int) + 2) = ((j + 2 : Nat) : Int) := by rw [w64 (by omega) (by omega)]; rfl
      rw [e', e]
      refine ev_neg (by omega) (ev_pos (by omega) (ev_pos (by omega) ?_))
      rw [Int.toNat_natCast, hw2, Int.toNat_natCast]
      have z1 : (s.extract 0 j).size ≤ 100 := by rw [ByteArray.size_extract]; omega
      have z2 : (s.extract (j + 2) s.size).size ≤ 100 := by rw [ByteArray.size_extract]; omega
      refine ev_bind0 (spec_part _ (by omega)) ?_
      unfold ansT
      rw [if_neg (show ¬ (j : Int) < 0 by omega), Int.toNat_natCast]
      by_cases d1 : partT (s.extract 0 j) = true
      · refine ev_pos d1 (ev_pos (by omega) (ev_pos (by omega) (ev_bind0 (spec_part _ (by omega)) ?_)))
        by_cases d2 : partT (s.extract (j + 2) s.size) = true
        · exact ev_eq (ev_pos d2 (Ev.now _)) (if_pos ⟨d1, d2⟩).symm
        · exact ev_eq (ev_neg d2 (Ev.now _)) (if_neg (fun h => d2 h.2)).symm
      · exact ev_eq (ev_neg d1 (Ev.now _)) (if_neg (fun h => d1 h.1)).symm
  · rw [if_neg h]; exact ev_neg h (Ev.now _)
theorem impl_st (s : ByteArray) : Ev (fun k => impl_SplitSubtitle.f k s) (stD s) := by
  unfold impl_SplitSubtitle.f stD
  refine Ev.bind (impl_title s) ?_
  by_cases h : titleD s = true
  · rw [if_pos h]
    have hz := title_size h
    obtain ⟨r, hr, h3, h4⟩ := prot_ev2 s h
    have hq := impl_sub s hz.1 hz.2 r h3 h4 _ 0 (by omega) rfl
    refine ev_pos h (Ev.bind (g := fun k => impl_splitSubtitle.f k s) (a := ansT s (subT s (s.size - 1) 0)) ?_ (Ev.now _))
    unfold impl_splitSubtitle.f
    exact Ev.bind hr hq
  · rw [if_neg h]; exact ev_neg h (Ev.now _)
theorem FnExactSplitSubtitle : laws_FnExactSplitSubtitle.Pur := by
  intro s _
  apply Ev.rounds
  unfold laws_FnExactSplitSubtitle.f
  by_cases g : (s.size : Int) > 1048576
  · exact ev_pos g (Ev.now _)
  exact ev_neg g (Ev.bind (spec_st s) (Ev.bind (impl_st s) (ev_pos rfl (ev_pos rfl (ev_neg (by simp) (Ev.now _))))))
end Go.Proofs.YtcbmccjbhfggjaaDoor.Pure
