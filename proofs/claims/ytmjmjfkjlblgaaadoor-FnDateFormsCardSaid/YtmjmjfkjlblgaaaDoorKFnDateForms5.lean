/- Texts of this session for the law FnDateForms, put together by a program (merge.py): each ends with its namespace; conditions stand with each theorem. -/
import Derived.Test.YtmjmjfkjlblgaaaDoorKFnDateForms2
import Derived.Test.YtmjmjfkjlblgaaaDoorKFnDateForms3
namespace Go.Proofs.YtmjmjfkjlblgaaaDoor.G
open Go.RowKit Go.Proofs.YtmjmjfkjlblgaaaDoorW.PrintWords Go.Proofs.YtmjmjfkjlblgaaaDoorW.PrintLast Go.Proofs.YtmjmjfkjlblgaaaDoorW.PrintMore
open Go.Proofs.YtmjmjfkjlblgaaaDoor.Gl Go.Proofs.YtmjmjfkjlblgaaaDoor.Ext
attribute [local go_sem] max2_int min2_int max_two min_two max_three min_three max_four min_four   -- for this text's walks alone
set_option linter.unusedVariables false
set_option linter.unusedSimpArgs false

/-! ### spec_l3Compare: function 58 -/
def spec_l3Compare.j0 : Nat → Int → Bool → Int → Int → Int → Bool → Int → Int → Int → Bool → Option (Int)
 | 0, _, _, _, _, _, _, _, _, _, _ => none
 | k + 1, x5, x27, x448000, x448001, x448002, x448003, x449000, x449001, x449002, x449003 => if x27 = true then (some (-1)) else (if x5 > 0 then (some 1) else (if x448003 = true then (if x449003 = true then (some 0) else (some 1)) else (some 0)))
def spec_l3Compare.f (k : Nat) (a0_0 : Int) (a0_1 : Int) (a0_2 : Int) (a0_3 : Bool) (a1_0 : Int) (a1_1 : Int) (a1_2 : Int) (a1_3 : Bool) : Option (Int) := if (wrap64 ((wrap64 ((wrap64 ((wrap64 ((wrap64 ((wrap64 (a0_0 * 13)) + a0_1)) * 32)) + a0_2)) - (wrap64 ((wrap64 ((wrap64 (a1_0 * 13)) + a1_1)) * 32)))) - a1_2)) < 0 then (spec_l3Compare.j0 k (wrap64 ((wrap64 ((wrap64 ((wrap64 ((wrap64 ((wrap64 (a0_0 * 13)) + a0_1)) * 32)) + a0_2)) - (wrap64 ((wrap64 ((wrap64 (a1_0 * 13)) + a1_1)) * 32)))) - a1_2)) true a0_0 a0_1 a0_2 a0_3 a1_0 a1_1 a1_2 a1_3) else (if (wrap64 ((wrap64 ((wrap64 ((wrap64 ((wrap64 ((wrap64 (a0_0 * 13)) + a0_1)) * 32)) + a0_2)) - (wrap64 ((wrap64 ((wrap64 (a1_0 * 13)) + a1_1)) * 32)))) - a1_2)) = 0 then (if a0_3 = true then (spec_l3Compare.j0 k (wrap64 ((wrap64 ((wrap64 ((wrap64 ((wrap64 ((wrap64 (a0_0 * 13)) + a0_1)) * 32)) + a0_2)) - (wrap64 ((wrap64 ((wrap64 (a1_0 * 13)) + a1_1)) * 32)))) - a1_2)) false a0_0 a0_1 a0_2 a0_3 a1_0 a1_1 a1_2 a1_3) else (spec_l3Compare.j0 k (wrap64 ((wrap64 ((wrap64 ((wrap64 ((wrap64 ((wrap64 (a0_0 * 13)) + a0_1)) * 32)) + a0_2)) - (wrap64 ((wrap64 ((wrap64 (a1_0 * 13)) + a1_1)) * 32)))) - a1_2)) a1_3 a0_0 a0_1 a0_2 a0_3 a1_0 a1_1 a1_2 a1_3)) else (spec_l3Compare.j0 k (wrap64 ((wrap64 ((wrap64 ((wrap64 ((wrap64 ((wrap64 (a0_0 * 13)) + a0_1)) * 32)) + a0_2)) - (wrap64 ((wrap64 ((wrap64 (a1_0 * 13)) + a1_1)) * 32)))) - a1_2)) false a0_0 a0_1 a0_2 a0_3 a1_0 a1_1 a1_2 a1_3))
theorem spec_l3Compare.mono_l : ∀ k, (∀ y0 y1 y2 y3 y4 y5 y6 y7 y8 y9, LeO (spec_l3Compare.j0 k y0 y1 y2 y3 y4 y5 y6 y7 y8 y9) (spec_l3Compare.j0 (k + 1) y0 y1 y2 y3 y4 y5 y6 y7 y8 y9))
 | 0 => fun _ _ _ _ _ _ _ _ _ _ r h => by simp [spec_l3Compare.j0] at h
 | k + 1 => by
  have ih0 := spec_l3Compare.mono_l k
  ·
   intro y0 y1 y2 y3 y4 y5 y6 y7 y8 y9
   unfold spec_l3Compare.j0
   repeat' first
   | (with_reducible exact ih0 _ _ _ _ _ _ _ _ _ _)
   | (with_reducible exact LeO.refl _)
   | (with_reducible exact LeO.none _)
   | (with_reducible refine LeO.ite ?_ ?_)
   | (with_reducible refine LeO.bind ?_ (fun _ => ?_))
   | exact ih0 _ _ _ _ _ _ _ _ _ _
   | exact LeO.none _
   | refine LeO.ite ?_ ?_
   | refine LeO.bind ?_ (fun _ => ?_)
theorem spec_l3Compare.mono : ∀ a0 a1 a2 a3 a4 a5 a6 a7 k, LeO (spec_l3Compare.f k a0 a1 a2 a3 a4 a5 a6 a7) (spec_l3Compare.f (k + 1) a0 a1 a2 a3 a4 a5 a6 a7) := by
 intro a0 a1 a2 a3 a4 a5 a6 a7 k
 have ih0 := spec_l3Compare.mono_l k
 unfold spec_l3Compare.f
 repeat' first
   | (with_reducible exact ih0 _ _ _ _ _ _ _ _ _ _)
   | (with_reducible exact LeO.refl _)
   | (with_reducible exact LeO.none _)
   | (with_reducible refine LeO.ite ?_ ?_)
   | (with_reducible refine LeO.bind ?_ (fun _ => ?_))
   | exact ih0 _ _ _ _ _ _ _ _ _ _
   | exact LeO.none _
   | refine LeO.ite ?_ ?_
   | refine LeO.bind ?_ (fun _ => ?_)
set_option maxRecDepth 100000 in
theorem spec_l3Compare.L0 {P : Prop} (h : P := by
  go_wp2
  go_meet
  case rel => first | (exact ⟨_, (false), au153, H', ⟨by first | omega | exact Nat.le_refl _⟩, ⟨by (with_reducible repeat (first | refine blk_drewN ?_ _ | refine blk_drew ?_ | refine blk_alloc ?_ _)); exact BK447.out⟩, ⟨by (with_reducible repeat (first | refine blk_drewN ?_ _ | refine blk_drew ?_ | refine blk_alloc ?_ _)); exact BK448.out⟩, ⟨by repeat (first | (with_reducible first | exact HB.out | apply below_alloc | apply pw_below_drewN | apply below_drew1 | refine below_set ?_ GE447.out | refine below_set ?_ GE448.out) | exact HB.out)⟩⟩) | (exact ⟨_, (true), au153, H', ⟨by first | omega | exact Nat.le_refl _⟩, ⟨by (with_reducible repeat (first | refine blk_drewN ?_ _ | refine blk_drew ?_ | refine blk_alloc ?_ _)); exact BK447.out⟩, ⟨by (with_reducible repeat (first | refine blk_drewN ?_ _ | refine blk_drew ?_ | refine blk_alloc ?_ _)); exact BK448.out⟩, ⟨by repeat (first | (with_reducible first | exact HB.out | apply below_alloc | apply pw_below_drewN | apply below_drew1 | refine below_set ?_ GE447.out | refine below_set ?_ GE448.out) | exact HB.out)⟩⟩) | (exact ⟨_, (a1_3), au153, H', ⟨by first | omega | exact Nat.le_refl _⟩, ⟨by (with_reducible repeat (first | refine blk_drewN ?_ _ | refine blk_drew ?_ | refine blk_alloc ?_ _)); exact BK447.out⟩, ⟨by (with_reducible repeat (first | refine blk_drewN ?_ _ | refine blk_drew ?_ | refine blk_alloc ?_ _)); exact BK448.out⟩, ⟨by repeat (first | (with_reducible first | exact HB.out | apply below_alloc | apply pw_below_drewN | apply below_drew1 | refine below_set ?_ GE447.out | refine below_set ?_ GE448.out) | exact HB.out)⟩⟩)) : P := h
set_option maxHeartbeats 8000000 in
set_option maxRecDepth 100000 in
theorem spec_l3Compare.calls (k : Nat) (a0_0 : Int) (a0_1 : Int) (a0_2 : Int) (a0_3 : Bool) (a1_0 : Int) (a1_1 : Int) (a1_2 : Int) (a1_3 : Bool) (r : Int) (w : World) (h : spec_l3Compare.f k a0_0 a0_1 a0_2 a0_3 a1_0 a1_1 a1_2 a1_3 = some r) :
  Calls Tryd.prog 58 #[.agg #[.int .i64 a0_0, .int .i64 a0_1, .int .i64 a0_2, .bool a0_3], .agg #[.int .i64 a1_0, .int .i64 a1_1, .int .i64 a1_2, .bool a1_3]] w fun e w' => e = .returned (.int .i64 r) ∧ Below w.heap.size w w' := by
 have hu33 := Tryd.underlying33
 have HB := Aside0.mk (Below.refl w.heap.size w)
 have H : (if (wrap64 ((wrap64 ((wrap64 ((wrap64 ((wrap64 ((wrap64 (a0_0 * 13)) + a0_1)) * 32)) + a0_2)) - (wrap64 ((wrap64 ((wrap64 (a1_0 * 13)) + a1_1)) * 32)))) - a1_2)) < 0 then (spec_l3Compare.j0 k (wrap64 ((wrap64 ((wrap64 ((wrap64 ((wrap64 ((wrap64 (a0_0 * 13)) + a0_1)) * 32)) + a0_2)) - (wrap64 ((wrap64 ((wrap64 (a1_0 * 13)) + a1_1)) * 32)))) - a1_2)) true a0_0 a0_1 a0_2 a0_3 a1_0 a1_1 a1_2 a1_3) else (if (wrap64 ((wrap64 ((wrap64 ((wrap64 ((wrap64 ((wrap64 (a0_0 * 13)) + a0_1)) * 32)) + a0_2)) - (wrap64 ((wrap64 ((wrap64 (a1_0 * 13)) + a1_1)) * 32)))) - a1_2)) = 0 then (if a0_3 = true then (spec_l3Compare.j0 k (wrap64 ((wrap64 ((wrap64 ((wrap64 ((wrap64 ((wrap64 (a0_0 * 13)) + a0_1)) * 32)) + a0_2)) - (wrap64 ((wrap64 ((wrap64 (a1_0 * 13)) + a1_1)) * 32)))) - a1_2)) false a0_0 a0_1 a0_2 a0_3 a1_0 a1_1 a1_2 a1_3) else (spec_l3Compare.j0 k (wrap64 ((wrap64 ((wrap64 ((wrap64 ((wrap64 ((wrap64 (a0_0 * 13)) + a0_1)) * 32)) + a0_2)) - (wrap64 ((wrap64 ((wrap64 (a1_0 * 13)) + a1_1)) * 32)))) - a1_2)) a1_3 a0_0 a0_1 a0_2 a0_3 a1_0 a1_1 a1_2 a1_3)) else (spec_l3Compare.j0 k (wrap64 ((wrap64 ((wrap64 ((wrap64 ((wrap64 ((wrap64 (a0_0 * 13)) + a0_1)) * 32)) + a0_2)) - (wrap64 ((wrap64 ((wrap64 (a1_0 * 13)) + a1_1)) * 32)))) - a1_2)) false a0_0 a0_1 a0_2 a0_3 a1_0 a1_1 a1_2 a1_3))) = some r := h
 clear h
 have HC3 := Aside0.mk H
 clear H
 go_enter Tryd.func58, Tryd.ntmps58
 go_upto_region 2 with (first | ((with_reducible refine gate_dst (N := 2) rfl ?_); refine box_event ?hg (N := 2) ?hd (cs := #[.int .i64 a0_0, .int .i64 a0_1, .int .i64 a0_2, .bool a0_3]) (t := 33) ?hr ?_; (case hd => rfl); (case hg => rfl); (case hr => first | (go_simp; done) | (go_simp; rfl)); intro gb447 hg w4 hbox hb; have BK447 := Aside0.mk (hbox); have GW447 := Aside0.mk (bsz hg au101); have GE447 := Aside0.mk (bsz hg au101); replace HB := Aside0.mk (below_step au101 hb); clear hb hbox hg) | ((with_reducible refine gate_dst (N := 3) rfl ?_); refine box_event ?hg (N := 3) ?hd (cs := #[.int .i64 a1_0, .int .i64 a1_1, .int .i64 a1_2, .bool a1_3]) (t := 33) ?hr ?_; (case hd => rfl); (case hg => rfl); (case hr => first | (go_simp; done) | (go_simp; rfl)); intro gb448 hg w5 hbox hb; have BK448 := Aside0.mk (hbox); have GW448 := Aside0.mk (bsz hg au92); have GE448 := Aside0.mk (bsz hg au92); replace HB := Aside0.mk (below_step au92 hb); have NB447_448 := Aside0.mk (bne (g := gb447) hg au125); have NB448_447 := Aside0.mk (ben (g := gb447) hg au125); replace BK447 := Aside0.mk (blk_below (g := gb447) au125 hb); clear hb hbox hg; have hnb6 := NB447_448.out; have hnc6 := NB448_447.out; obtain ⟨hcz7_0, hcz7_1, hcz7_2, hcz7_3, hfz7_0, hfz7_1, hfz7_2, hfz7_3⟩ := blkc4 BK447.out; obtain ⟨hcz8_0, hcz8_1, hcz8_2, hcz8_3, hfz8_0, hfz8_1, hfz8_2, hfz8_3⟩ := blkc4 BK448.out))
 (try simp only [Act.put, List.setIfInBounds_toArray, List.set_cons_zero, List.set_cons_succ])
 go_cut [27] (fun v27 wc => ∃ (kq : Nat) (x27_2 : Bool), v27 = .bool x27_2 ∧ Aside0 (spec_l3Compare.j0 kq (wrap64 ((wrap64 ((wrap64 ((wrap64 ((wrap64 ((wrap64 (a0_0 * 13)) + a0_1)) * 32)) + a0_2)) - (wrap64 ((wrap64 ((wrap64 (a1_0 * 13)) + a1_1)) * 32)))) - a1_2)) x27_2 a0_0 a0_1 a0_2 a0_3 a1_0 a1_1 a1_2 a1_3 = some r) ∧ Aside0 (kq ≤ k) ∧ Aside0 (wc.heap[gb447]? = some (.cells #[.int .i64 a0_0, .int .i64 a0_1, .int .i64 a0_2, .bool a0_3] 33 (0, 0))) ∧ Aside0 (wc.heap[gb448]? = some (.cells #[.int .i64 a1_0, .int .i64 a1_1, .int .i64 a1_2, .bool a1_3] 33 (0, 0))) ∧ Aside0 (Below w.heap.size w wc))
 case first =>
  have H := HC3.out
  clear HC3
  by_cases c9 : (wrap64 ((wrap64 ((wrap64 ((wrap64 ((wrap64 ((wrap64 (a0_0 * 13)) + a0_1)) * 32)) + a0_2)) - (wrap64 ((wrap64 ((wrap64 (a1_0 * 13)) + a1_1)) * 32)))) - a1_2)) < 0
  ·
   rw [if_pos c9] at H
   have c9b0 : decide ((wrap64 ((wrap64 ((wrap64 ((wrap64 ((wrap64 ((wrap64 (a0_0 * 13)) + a0_1)) * 32)) + a0_2)) - (wrap64 ((wrap64 ((wrap64 (a1_0 * 13)) + a1_1)) * 32)))) - a1_2)) < 0) = true := decide_eq_true c9
   clear c9
   (first | rw [c9b0] | (simp only [i64_w, i32_w]; rw [c9b0]) | skip)
   have H' := Aside0.mk H
   clear H
   exact spec_l3Compare.L0
  ·
   rw [if_neg c9] at H
   have c9b0 : decide ((wrap64 ((wrap64 ((wrap64 ((wrap64 ((wrap64 ((wrap64 (a0_0 * 13)) + a0_1)) * 32)) + a0_2)) - (wrap64 ((wrap64 ((wrap64 (a1_0 * 13)) + a1_1)) * 32)))) - a1_2)) < 0) = false := decide_eq_false c9
   clear c9
   (first | rw [c9b0] | (simp only [i64_w, i32_w]; rw [c9b0]) | skip)
   by_cases c10 : (wrap64 ((wrap64 ((wrap64 ((wrap64 ((wrap64 ((wrap64 (a0_0 * 13)) + a0_1)) * 32)) + a0_2)) - (wrap64 ((wrap64 ((wrap64 (a1_0 * 13)) + a1_1)) * 32)))) - a1_2)) = 0
   ·
    rw [if_pos c10] at H
    have c10b0 : ((wrap64 ((wrap64 ((wrap64 ((wrap64 ((wrap64 ((wrap64 (a0_0 * 13)) + a0_1)) * 32)) + a0_2)) - (wrap64 ((wrap64 ((wrap64 (a1_0 * 13)) + a1_1)) * 32)))) - a1_2)) == 0) = true := beq_iff_eq.mpr c10
    have c10b1 : ((wrap64 ((wrap64 ((wrap64 ((wrap64 ((wrap64 ((wrap64 (a0_0 * 13)) + a0_1)) * 32)) + a0_2)) - (wrap64 ((wrap64 ((wrap64 (a1_0 * 13)) + a1_1)) * 32)))) - a1_2)) != 0) = false := bne_eq_false_iff_eq.mpr c10
    clear c10
    by_cases c11 : a0_3 = true
    ·
     subst c11
     replace H := (if_pos rfl).symm.trans H
     have H' := Aside0.mk H
     clear H
     have hnb12 := NB447_448.out
     have hnc12 := NB448_447.out
     obtain ⟨hcz13_0, hcz13_1, hcz13_2, hcz13_3, hfz13_0, hfz13_1, hfz13_2, hfz13_3⟩ := blkc4 BK447.out
     exact spec_l3Compare.L0
    ·
     replace c11 := Bool.eq_false_iff.mpr c11
     subst c11
     replace H := (if_neg (show ¬ (false = true) by decide)).symm.trans H
     have H' := Aside0.mk H
     clear H
     have hnb14 := NB447_448.out
     have hnc14 := NB448_447.out
     obtain ⟨hcz15_0, hcz15_1, hcz15_2, hcz15_3, hfz15_0, hfz15_1, hfz15_2, hfz15_3⟩ := blkc4 BK447.out
     obtain ⟨hcz16_0, hcz16_1, hcz16_2, hcz16_3, hfz16_0, hfz16_1, hfz16_2, hfz16_3⟩ := blkc4 BK448.out
     exact spec_l3Compare.L0
   ·
    rw [if_neg c10] at H
    have c10b0 : ((wrap64 ((wrap64 ((wrap64 ((wrap64 ((wrap64 ((wrap64 (a0_0 * 13)) + a0_1)) * 32)) + a0_2)) - (wrap64 ((wrap64 ((wrap64 (a1_0 * 13)) + a1_1)) * 32)))) - a1_2)) == 0) = false := beq_eq_false_iff_ne.mpr c10
    have c10b1 : ((wrap64 ((wrap64 ((wrap64 ((wrap64 ((wrap64 ((wrap64 (a0_0 * 13)) + a0_1)) * 32)) + a0_2)) - (wrap64 ((wrap64 ((wrap64 (a1_0 * 13)) + a1_1)) * 32)))) - a1_2)) != 0) = true := bne_iff_ne.mpr c10
    have H' := Aside0.mk H
    clear H
    exact spec_l3Compare.L0
 case rest =>
  clear HC3
  try clear c1
  try clear p2
  try clear c5
  try clear c6
  try clear p6
  try clear c9
  try clear c9b0
  try clear c10
  try clear c10b0
  try clear c10b1
  try clear c11
  try clear c12
  try clear c14
  try clear hcz13_0
  try clear hcz13_1
  try clear hcz13_2
  try clear hcz13_3
  try clear hcz15_0
  try clear hcz15_1
  try clear hcz15_2
  try clear hcz15_3
  try clear hcz16_0
  try clear hcz16_1
  try clear hcz16_2
  try clear hcz16_3
  try clear hcz7_0
  try clear hcz7_1
  try clear hcz7_2
  try clear hcz7_3
  try clear hcz8_0
  try clear hcz8_1
  try clear hcz8_2
  try clear hcz8_3
  try clear hfz13_0
  try clear hfz13_1
  try clear hfz13_2
  try clear hfz13_3
  try clear hfz15_0
  try clear hfz15_1
  try clear hfz15_2
  try clear hfz15_3
  try clear hfz16_0
  try clear hfz16_1
  try clear hfz16_2
  try clear hfz16_3
  try clear hfz7_0
  try clear hfz7_1
  try clear hfz7_2
  try clear hfz7_3
  try clear hfz8_0
  try clear hfz8_1
  try clear hfz8_2
  try clear hfz8_3
  obtain ⟨kq, x27_2, rfl, HA, HJ2, BK447, BK448, HB⟩ := hcut
  cases kq with
  | zero => exact absurd HA.out (by simp [spec_l3Compare.j0])
  | succ kj2 =>
   have H := HA.out
   clear HA
   simp only [spec_l3Compare.j0] at H
   by_cases c17 : x27_2 = true
   ·
    subst c17
    replace H := (if_pos rfl).symm.trans H
    obtain rfl := Option.some.inj H
    go_wp2
    go_ret
    exact ax14
   ·
    replace c17 := Bool.eq_false_iff.mpr c17
    subst c17
    replace H := (if_neg (show ¬ (false = true) by decide)).symm.trans H
    by_cases c18 : (wrap64 ((wrap64 ((wrap64 ((wrap64 ((wrap64 ((wrap64 (a0_0 * 13)) + a0_1)) * 32)) + a0_2)) - (wrap64 ((wrap64 ((wrap64 (a1_0 * 13)) + a1_1)) * 32)))) - a1_2)) > 0
    ·
     rw [if_pos c18] at H
     have c18b0 : decide (0 < (wrap64 ((wrap64 ((wrap64 ((wrap64 ((wrap64 ((wrap64 (a0_0 * 13)) + a0_1)) * 32)) + a0_2)) - (wrap64 ((wrap64 ((wrap64 (a1_0 * 13)) + a1_1)) * 32)))) - a1_2))) = true := decide_eq_true c18
     clear c18
     obtain rfl := Option.some.inj H
     go_wp2
     go_ret
     exact ax14
    ·
     rw [if_neg c18] at H
     have c18b0 : decide (0 < (wrap64 ((wrap64 ((wrap64 ((wrap64 ((wrap64 ((wrap64 (a0_0 * 13)) + a0_1)) * 32)) + a0_2)) - (wrap64 ((wrap64 ((wrap64 (a1_0 * 13)) + a1_1)) * 32)))) - a1_2))) = false := decide_eq_false c18
     clear c18
     by_cases c19 : a0_3 = true
     ·
      subst c19
      replace H := (if_pos rfl).symm.trans H
      by_cases c20 : a1_3 = true
      ·
       subst c20
       replace H := (if_pos rfl).symm.trans H
       obtain rfl := Option.some.inj H
       have hnb21 := NB447_448.out
       have hnc21 := NB448_447.out
       obtain ⟨hcz22_0, hcz22_1, hcz22_2, hcz22_3, hfz22_0, hfz22_1, hfz22_2, hfz22_3⟩ := blkc4 BK447.out
       obtain ⟨hcz23_0, hcz23_1, hcz23_2, hcz23_3, hfz23_0, hfz23_1, hfz23_2, hfz23_3⟩ := blkc4 BK448.out
       go_wp2
       go_ret
       exact ax14
      ·
       replace c20 := Bool.eq_false_iff.mpr c20
       subst c20
       replace H := (if_neg (show ¬ (false = true) by decide)).symm.trans H
       obtain rfl := Option.some.inj H
       have hnb24 := NB447_448.out
       have hnc24 := NB448_447.out
       obtain ⟨hcz25_0, hcz25_1, hcz25_2, hcz25_3, hfz25_0, hfz25_1, hfz25_2, hfz25_3⟩ := blkc4 BK447.out
       obtain ⟨hcz26_0, hcz26_1, hcz26_2, hcz26_3, hfz26_0, hfz26_1, hfz26_2, hfz26_3⟩ := blkc4 BK448.out
       go_wp2
       go_ret
       exact ax14
     ·
      replace c19 := Bool.eq_false_iff.mpr c19
      subst c19
      replace H := (if_neg (show ¬ (false = true) by decide)).symm.trans H
      obtain rfl := Option.some.inj H
      have hnb27 := NB447_448.out
      have hnc27 := NB448_447.out
      obtain ⟨hcz28_0, hcz28_1, hcz28_2, hcz28_3, hfz28_0, hfz28_1, hfz28_2, hfz28_3⟩ := blkc4 BK447.out
      go_wp2
      go_ret
      exact ax14


/-! ### spec_CompareDates: function 27 -/
def spec_CompareDates.f (k : Nat) (a0_0 : Int) (a0_1 : Int) (a0_2 : Int) (a0_3 : Bool) (a1_0 : Int) (a1_1 : Int) (a1_2 : Int) (a1_3 : Bool) : Option (Int × Bool) := (spec_l3Good.f k a0_0 a0_1 a0_2 a0_3).bind fun t451 => (if t451 = true then ((spec_l3Good.f k a1_0 a1_1 a1_2 a1_3).bind fun t452 => (if t452 = true then ((spec_l3Compare.f k a0_0 a0_1 a0_2 a0_3 a1_0 a1_1 a1_2 a1_3).bind fun t453 => (some (t453, true))) else (some (0, false)))) else (some (0, false)))
theorem spec_CompareDates.mono : ∀ a0 a1 a2 a3 a4 a5 a6 a7 k, LeO (spec_CompareDates.f k a0 a1 a2 a3 a4 a5 a6 a7) (spec_CompareDates.f (k + 1) a0 a1 a2 a3 a4 a5 a6 a7) := by
 intro a0 a1 a2 a3 a4 a5 a6 a7 k
 unfold spec_CompareDates.f
 repeat' first
   | (with_reducible exact spec_l3Compare.mono _ _ _ _ _ _ _ _ _)
   | (with_reducible exact spec_l3Good.mono _ _ _ _ _)
   | (with_reducible exact LeO.refl _)
   | (with_reducible exact LeO.none _)
   | (with_reducible refine LeO.ite ?_ ?_)
   | (with_reducible refine LeO.bind ?_ (fun _ => ?_))
   | exact spec_l3Compare.mono _ _ _ _ _ _ _ _ _
   | exact spec_l3Good.mono _ _ _ _ _
   | exact LeO.none _
   | refine LeO.ite ?_ ?_
   | refine LeO.bind ?_ (fun _ => ?_)
set_option maxHeartbeats 8000000 in
set_option maxRecDepth 100000 in
theorem spec_CompareDates.calls (k : Nat) (a0_0 : Int) (a0_1 : Int) (a0_2 : Int) (a0_3 : Bool) (a1_0 : Int) (a1_1 : Int) (a1_2 : Int) (a1_3 : Bool) (r1 : Int) (r2 : Bool) (w : World) (h : spec_CompareDates.f k a0_0 a0_1 a0_2 a0_3 a1_0 a1_1 a1_2 a1_3 = some (r1, r2)) :
  Calls Tryd.prog 27 #[.agg #[.int .i64 a0_0, .int .i64 a0_1, .int .i64 a0_2, .bool a0_3], .agg #[.int .i64 a1_0, .int .i64 a1_1, .int .i64 a1_2, .bool a1_3]] w fun e w' => e = .returned (.tuple #[.int .i64 r1, .bool r2]) ∧ Below w.heap.size w w' := by
 have hu33 := Tryd.underlying33
 have HB := Aside0.mk (Below.refl w.heap.size w)
 have H : ((spec_l3Good.f k a0_0 a0_1 a0_2 a0_3).bind fun t451 => (if t451 = true then ((spec_l3Good.f k a1_0 a1_1 a1_2 a1_3).bind fun t452 => (if t452 = true then ((spec_l3Compare.f k a0_0 a0_1 a0_2 a0_3 a1_0 a1_1 a1_2 a1_3).bind fun t453 => (some (t453, true))) else (some (0, false)))) else (some (0, false)))) = some (r1, r2) := h
 clear h
 replace H := Option.bind_eq_some_iff.mp H
 obtain ⟨t451, A30, H⟩ := H
 try dsimp only at H
 have A3 := Aside0.mk A30
 clear A30
 by_cases c4 : t451 = true
 ·
  subst c4
  replace H := (if_pos rfl).symm.trans H
  replace H := Option.bind_eq_some_iff.mp H
  obtain ⟨t452, A50, H⟩ := H
  try dsimp only at H
  have A5 := Aside0.mk A50
  clear A50
  by_cases c6 : t452 = true
  ·
   subst c6
   replace H := (if_pos rfl).symm.trans H
   replace H := Option.bind_eq_some_iff.mp H
   obtain ⟨t453, A70, H⟩ := H
   try dsimp only at H
   have A7 := Aside0.mk A70
   clear A70
   simp only [Option.some.injEq, Prod.mk.injEq] at H
   obtain ⟨rfl, rfl⟩ := H
   go_enter Tryd.func27, Tryd.ntmps27
   go_wp2_with (first | ((with_reducible refine gate_dst (N := 2) rfl ?_); refine box_event ?hg (N := 2) ?hd (cs := #[.int .i64 a0_0, .int .i64 a0_1, .int .i64 a0_2, .bool a0_3]) (t := 33) ?hr ?_; (case hd => rfl); (case hg => rfl); (case hr => first | (go_simp; done) | (go_simp; rfl)); intro gb449 hg w8 hbox hb; have BK449 := Aside0.mk (hbox); have GW449 := Aside0.mk (bsz hg au101); have GE449 := Aside0.mk (bsz hg au101); replace HB := Aside0.mk (below_step au101 hb); clear hb hbox hg) | ((with_reducible refine gate_dst (N := 3) rfl ?_); refine box_event ?hg (N := 3) ?hd (cs := #[.int .i64 a1_0, .int .i64 a1_1, .int .i64 a1_2, .bool a1_3]) (t := 33) ?hr ?_; (case hd => rfl); (case hg => rfl); (case hr => first | (go_simp; done) | (go_simp; rfl)); intro gb450 hg w9 hbox hb; have BK450 := Aside0.mk (hbox); have GW450 := Aside0.mk (bsz hg au93); have GE450 := Aside0.mk (bsz hg au93); replace HB := Aside0.mk (below_step au93 hb); have NB449_450 := Aside0.mk (bne (g := gb449) hg au126); have NB450_449 := Aside0.mk (ben (g := gb449) hg au126); replace BK449 := Aside0.mk (blk_below (g := gb449) au126 hb); clear hb hbox hg; have hnb10 := NB449_450.out; have hnc10 := NB450_449.out; obtain ⟨hcz11_0, hcz11_1, hcz11_2, hcz11_3, hfz11_0, hfz11_1, hfz11_2, hfz11_3⟩ := blkc4 BK449.out) | ((with_reducible refine gate_callee (f := 52) rfl ?_); refine goesL_ (some 7) rfl rfl Tryd.func52 (by kernel_rfl) rfl #[.agg #[.int .i64 a0_0, .int .i64 a0_1, .int .i64 a0_2, .bool a0_3]] rfl au100 ?_; (with_reducible refine (spec_l3Good.calls k a0_0 a0_1 a0_2 a0_3 true _ A3.out).mono ?_); rintro e w12 ⟨rfl, hb⟩; refine ⟨_, rfl, ?_⟩; replace BK449 := Aside0.mk (blk_below (g := gb449) au126 hb); replace BK450 := Aside0.mk (blk_below (g := gb450) au127 hb); replace HB := Aside0.mk (below_step au72 hb); (try clear hb); obtain ⟨hcz13_0, hcz13_1, hcz13_2, hcz13_3, hfz13_0, hfz13_1, hfz13_2, hfz13_3⟩ := blkc4 BK450.out) | (go_at_call 52; (with_reducible refine (spec_l3Good.calls k a1_0 a1_1 a1_2 a1_3 true _ A5.out).mono ?_); rintro e w14 ⟨rfl, hb⟩; replace BK449 := Aside0.mk (blk_below (g := gb449) au126 hb); replace BK450 := Aside0.mk (blk_below (g := gb450) au127 hb); replace HB := Aside0.mk (below_step au72 hb); (try clear hb); obtain ⟨hcz15_0, hcz15_1, hcz15_2, hcz15_3, hfz15_0, hfz15_1, hfz15_2, hfz15_3⟩ := blkc4 BK449.out; obtain ⟨hcz16_0, hcz16_1, hcz16_2, hcz16_3, hfz16_0, hfz16_1, hfz16_2, hfz16_3⟩ := blkc4 BK450.out) | ((with_reducible refine gate_callee (f := 58) rfl ?_); refine goesL_ (some 16) rfl rfl Tryd.func58 (by kernel_rfl) rfl #[.agg #[.int .i64 a0_0, .int .i64 a0_1, .int .i64 a0_2, .bool a0_3], .agg #[.int .i64 a1_0, .int .i64 a1_1, .int .i64 a1_2, .bool a1_3]] rfl au100 ?_; (with_reducible refine (spec_l3Compare.calls k a0_0 a0_1 a0_2 a0_3 a1_0 a1_1 a1_2 a1_3 t453 _ A7.out).mono ?_); rintro e w17 ⟨rfl, hb⟩; refine ⟨_, rfl, ?_⟩; replace BK449 := Aside0.mk (blk_below (g := gb449) au126 hb); replace BK450 := Aside0.mk (blk_below (g := gb450) au127 hb); replace HB := Aside0.mk (below_step au72 hb); (try clear hb)))
   go_ret2
   exact ax15
  ·
   replace c6 := Bool.eq_false_iff.mpr c6
   subst c6
   replace H := (if_neg (show ¬ (false = true) by decide)).symm.trans H
   simp only [Option.some.injEq, Prod.mk.injEq] at H
   obtain ⟨rfl, rfl⟩ := H
   go_enter Tryd.func27, Tryd.ntmps27
   go_wp2_with (first | ((with_reducible refine gate_dst (N := 2) rfl ?_); refine box_event ?hg (N := 2) ?hd (cs := #[.int .i64 a0_0, .int .i64 a0_1, .int .i64 a0_2, .bool a0_3]) (t := 33) ?hr ?_; (case hd => rfl); (case hg => rfl); (case hr => first | (go_simp; done) | (go_simp; rfl)); intro gb449 hg w18 hbox hb; have BK449 := Aside0.mk (hbox); have GW449 := Aside0.mk (bsz hg au101); have GE449 := Aside0.mk (bsz hg au101); replace HB := Aside0.mk (below_step au101 hb); clear hb hbox hg) | ((with_reducible refine gate_dst (N := 3) rfl ?_); refine box_event ?hg (N := 3) ?hd (cs := #[.int .i64 a1_0, .int .i64 a1_1, .int .i64 a1_2, .bool a1_3]) (t := 33) ?hr ?_; (case hd => rfl); (case hg => rfl); (case hr => first | (go_simp; done) | (go_simp; rfl)); intro gb450 hg w19 hbox hb; have BK450 := Aside0.mk (hbox); have GW450 := Aside0.mk (bsz hg au93); have GE450 := Aside0.mk (bsz hg au93); replace HB := Aside0.mk (below_step au93 hb); have NB449_450 := Aside0.mk (bne (g := gb449) hg au126); have NB450_449 := Aside0.mk (ben (g := gb449) hg au126); replace BK449 := Aside0.mk (blk_below (g := gb449) au126 hb); clear hb hbox hg; have hnb20 := NB449_450.out; have hnc20 := NB450_449.out; obtain ⟨hcz21_0, hcz21_1, hcz21_2, hcz21_3, hfz21_0, hfz21_1, hfz21_2, hfz21_3⟩ := blkc4 BK449.out) | ((with_reducible refine gate_callee (f := 52) rfl ?_); refine goesL_ (some 7) rfl rfl Tryd.func52 (by kernel_rfl) rfl #[.agg #[.int .i64 a0_0, .int .i64 a0_1, .int .i64 a0_2, .bool a0_3]] rfl au100 ?_; (with_reducible refine (spec_l3Good.calls k a0_0 a0_1 a0_2 a0_3 true _ A3.out).mono ?_); rintro e w22 ⟨rfl, hb⟩; refine ⟨_, rfl, ?_⟩; replace BK449 := Aside0.mk (blk_below (g := gb449) au126 hb); replace BK450 := Aside0.mk (blk_below (g := gb450) au127 hb); replace HB := Aside0.mk (below_step au72 hb); (try clear hb); obtain ⟨hcz23_0, hcz23_1, hcz23_2, hcz23_3, hfz23_0, hfz23_1, hfz23_2, hfz23_3⟩ := blkc4 BK450.out) | (go_at_call 52; (with_reducible refine (spec_l3Good.calls k a1_0 a1_1 a1_2 a1_3 false _ A5.out).mono ?_); rintro e w24 ⟨rfl, hb⟩; replace BK449 := Aside0.mk (blk_below (g := gb449) au126 hb); replace BK450 := Aside0.mk (blk_below (g := gb450) au127 hb); replace HB := Aside0.mk (below_step au72 hb); (try clear hb)))
   go_ret2
   exact ax15
 ·
  replace c4 := Bool.eq_false_iff.mpr c4
  subst c4
  replace H := (if_neg (show ¬ (false = true) by decide)).symm.trans H
  simp only [Option.some.injEq, Prod.mk.injEq] at H
  obtain ⟨rfl, rfl⟩ := H
  go_enter Tryd.func27, Tryd.ntmps27
  go_wp2_with (first | ((with_reducible refine gate_dst (N := 2) rfl ?_); refine box_event ?hg (N := 2) ?hd (cs := #[.int .i64 a0_0, .int .i64 a0_1, .int .i64 a0_2, .bool a0_3]) (t := 33) ?hr ?_; (case hd => rfl); (case hg => rfl); (case hr => first | (go_simp; done) | (go_simp; rfl)); intro gb449 hg w25 hbox hb; have BK449 := Aside0.mk (hbox); have GW449 := Aside0.mk (bsz hg au101); have GE449 := Aside0.mk (bsz hg au101); replace HB := Aside0.mk (below_step au101 hb); clear hb hbox hg) | ((with_reducible refine gate_dst (N := 3) rfl ?_); refine box_event ?hg (N := 3) ?hd (cs := #[.int .i64 a1_0, .int .i64 a1_1, .int .i64 a1_2, .bool a1_3]) (t := 33) ?hr ?_; (case hd => rfl); (case hg => rfl); (case hr => first | (go_simp; done) | (go_simp; rfl)); intro gb450 hg w26 hbox hb; have BK450 := Aside0.mk (hbox); have GW450 := Aside0.mk (bsz hg au93); have GE450 := Aside0.mk (bsz hg au93); replace HB := Aside0.mk (below_step au93 hb); have NB449_450 := Aside0.mk (bne (g := gb449) hg au126); have NB450_449 := Aside0.mk (ben (g := gb449) hg au126); replace BK449 := Aside0.mk (blk_below (g := gb449) au126 hb); clear hb hbox hg; have hnb27 := NB449_450.out; have hnc27 := NB450_449.out; obtain ⟨hcz28_0, hcz28_1, hcz28_2, hcz28_3, hfz28_0, hfz28_1, hfz28_2, hfz28_3⟩ := blkc4 BK449.out) | ((with_reducible refine gate_callee (f := 52) rfl ?_); refine goesL_ (some 7) rfl rfl Tryd.func52 (by kernel_rfl) rfl #[.agg #[.int .i64 a0_0, .int .i64 a0_1, .int .i64 a0_2, .bool a0_3]] rfl au100 ?_; (with_reducible refine (spec_l3Good.calls k a0_0 a0_1 a0_2 a0_3 false _ A3.out).mono ?_); rintro e w29 ⟨rfl, hb⟩; refine ⟨_, rfl, ?_⟩; replace BK449 := Aside0.mk (blk_below (g := gb449) au126 hb); replace BK450 := Aside0.mk (blk_below (g := gb450) au127 hb); replace HB := Aside0.mk (below_step au72 hb); (try clear hb)))
  go_ret2
  exact ax15


/-! ### impl_refines: function 59 -/
def impl_refines.f (a0_0 : Int) (a0_1 : Int) (a0_2 : Int) (a0_3 : Bool) (a1_0 : Int) (a1_1 : Int) (a1_2 : Int) (a1_3 : Bool) : Option (Bool) := if a1_0 = 0 then (some true) else (if a0_0 = a1_0 then (if a1_1 = 0 then (if a1_2 = 0 then (if a0_3 = true then (some a1_3) else (some true)) else (if a0_2 = a1_2 then (if a0_3 = true then (some a1_3) else (some true)) else (some false))) else (if a0_1 = a1_1 then (if a1_2 = 0 then (if a0_3 = true then (some a1_3) else (some true)) else (if a0_2 = a1_2 then (if a0_3 = true then (some a1_3) else (some true)) else (some false))) else (some false))) else (some false))
set_option maxRecDepth 100000 in
theorem impl_refines.L0 {P : Prop} (h : P := by
  go_enter Tryd.func59, Tryd.ntmps59
  go_wp2_with (first | ((with_reducible refine gate_dst (N := 2) rfl ?_); refine box_event ?hg (N := 2) ?hd (cs := #[.int .i64 a0_0, .int .i64 a0_1, .int .i64 a0_2, .bool false]) (t := 33) ?hr ?_; (case hd => rfl); (case hg => rfl); (case hr => first | (go_simp; done) | (go_simp; rfl)); intro gb454 hg w17 hbox hb; have BK454 := Aside0.mk (hbox); have GW454 := Aside0.mk (bsz hg au101); have GE454 := Aside0.mk (bsz hg au101); replace HB := Aside0.mk (below_step au101 hb); clear hb hbox hg) | ((with_reducible refine gate_dst (N := 3) rfl ?_); refine box_event ?hg (N := 3) ?hd (cs := #[.int .i64 a1_0, .int .i64 a1_1, .int .i64 a1_2, .bool a1_3]) (t := 33) ?hr ?_; (case hd => rfl); (case hg => rfl); (case hr => first | (go_simp; done) | (go_simp; rfl)); intro gb455 hg w18 hbox hb; have BK455 := Aside0.mk (hbox); have GW455 := Aside0.mk (bsz hg au94); have GE455 := Aside0.mk (bsz hg au94); replace HB := Aside0.mk (below_step au94 hb); have NB454_455 := Aside0.mk (bne (g := gb454) hg au128); have NB455_454 := Aside0.mk (ben (g := gb454) hg au128); replace BK454 := Aside0.mk (blk_below (g := gb454) au128 hb); clear hb hbox hg; have hnb19 := NB455_454.out; have hnc19 := NB454_455.out; obtain ⟨hcz20_0, hcz20_1, hcz20_2, hcz20_3, hfz20_0, hfz20_1, hfz20_2, hfz20_3⟩ := blkc4 BK455.out; obtain ⟨hcz21_0, hcz21_1, hcz21_2, hcz21_3, hfz21_0, hfz21_1, hfz21_2, hfz21_3⟩ := blkc4 BK454.out))
  go_ret
  exact ⟨by first | rfl | (simp [errW_none, errW_some] <;> rfl) | (simp [*, errW_none, errW_some] <;> rfl), by repeat (first | (with_reducible first | exact HB.out | apply below_alloc | apply pw_below_drewN | apply below_drew1 | refine below_set ?_ GE454.out | refine below_set ?_ GE455.out) | exact HB.out)⟩) : P := h
set_option maxRecDepth 100000 in
theorem impl_refines.L1 {P : Prop} (h : P := by
  go_enter Tryd.func59, Tryd.ntmps59
  go_wp2_with (first | ((with_reducible refine gate_dst (N := 2) rfl ?_); refine box_event ?hg (N := 2) ?hd (cs := #[.int .i64 a0_0, .int .i64 a0_1, .int .i64 a0_2, .bool true]) (t := 33) ?hr ?_; (case hd => rfl); (case hg => rfl); (case hr => first | (go_simp; done) | (go_simp; rfl)); intro gb454 hg w12 hbox hb; have BK454 := Aside0.mk (hbox); have GW454 := Aside0.mk (bsz hg au101); have GE454 := Aside0.mk (bsz hg au101); replace HB := Aside0.mk (below_step au101 hb); clear hb hbox hg) | ((with_reducible refine gate_dst (N := 3) rfl ?_); refine box_event ?hg (N := 3) ?hd (cs := #[.int .i64 a1_0, .int .i64 a1_1, .int .i64 a1_2, .bool a1_3]) (t := 33) ?hr ?_; (case hd => rfl); (case hg => rfl); (case hr => first | (go_simp; done) | (go_simp; rfl)); intro gb455 hg w13 hbox hb; have BK455 := Aside0.mk (hbox); have GW455 := Aside0.mk (bsz hg au94); have GE455 := Aside0.mk (bsz hg au94); replace HB := Aside0.mk (below_step au94 hb); have NB454_455 := Aside0.mk (bne (g := gb454) hg au128); have NB455_454 := Aside0.mk (ben (g := gb454) hg au128); replace BK454 := Aside0.mk (blk_below (g := gb454) au128 hb); clear hb hbox hg; have hnb14 := NB455_454.out; have hnc14 := NB454_455.out; obtain ⟨hcz15_0, hcz15_1, hcz15_2, hcz15_3, hfz15_0, hfz15_1, hfz15_2, hfz15_3⟩ := blkc4 BK455.out; obtain ⟨hcz16_0, hcz16_1, hcz16_2, hcz16_3, hfz16_0, hfz16_1, hfz16_2, hfz16_3⟩ := blkc4 BK454.out))
  go_ret
  exact ⟨by first | rfl | (simp [errW_none, errW_some] <;> rfl) | (simp [*, errW_none, errW_some] <;> rfl), by repeat (first | (with_reducible first | exact HB.out | apply below_alloc | apply pw_below_drewN | apply below_drew1 | refine below_set ?_ GE454.out | refine below_set ?_ GE455.out) | exact HB.out)⟩) : P := h
set_option maxRecDepth 100000 in
theorem impl_refines.L2 {P : Prop} (h : P := by
  go_enter Tryd.func59, Tryd.ntmps59
  go_wp2_with (first | ((with_reducible refine gate_dst (N := 2) rfl ?_); refine box_event ?hg (N := 2) ?hd (cs := #[.int .i64 a0_0, .int .i64 a0_1, .int .i64 a0_2, .bool a0_3]) (t := 33) ?hr ?_; (case hd => rfl); (case hg => rfl); (case hr => first | (go_simp; done) | (go_simp; rfl)); intro gb454 hg w34 hbox hb; have BK454 := Aside0.mk (hbox); have GW454 := Aside0.mk (bsz hg au101); have GE454 := Aside0.mk (bsz hg au101); replace HB := Aside0.mk (below_step au101 hb); clear hb hbox hg) | ((with_reducible refine gate_dst (N := 3) rfl ?_); refine box_event ?hg (N := 3) ?hd (cs := #[.int .i64 a1_0, .int .i64 a1_1, .int .i64 a1_2, .bool a1_3]) (t := 33) ?hr ?_; (case hd => rfl); (case hg => rfl); (case hr => first | (go_simp; done) | (go_simp; rfl)); intro gb455 hg w35 hbox hb; have BK455 := Aside0.mk (hbox); have GW455 := Aside0.mk (bsz hg au94); have GE455 := Aside0.mk (bsz hg au94); replace HB := Aside0.mk (below_step au94 hb); have NB454_455 := Aside0.mk (bne (g := gb454) hg au128); have NB455_454 := Aside0.mk (ben (g := gb454) hg au128); replace BK454 := Aside0.mk (blk_below (g := gb454) au128 hb); clear hb hbox hg; have hnb36 := NB455_454.out; have hnc36 := NB454_455.out; obtain ⟨hcz37_0, hcz37_1, hcz37_2, hcz37_3, hfz37_0, hfz37_1, hfz37_2, hfz37_3⟩ := blkc4 BK455.out; obtain ⟨hcz38_0, hcz38_1, hcz38_2, hcz38_3, hfz38_0, hfz38_1, hfz38_2, hfz38_3⟩ := blkc4 BK454.out))
  go_ret
  exact ⟨by first | rfl | (simp [errW_none, errW_some] <;> rfl) | (simp [*, errW_none, errW_some] <;> rfl), by repeat (first | (with_reducible first | exact HB.out | apply below_alloc | apply pw_below_drewN | apply below_drew1 | refine below_set ?_ GE454.out | refine below_set ?_ GE455.out) | exact HB.out)⟩) : P := h
set_option maxHeartbeats 8000000 in
set_option maxRecDepth 100000 in
theorem impl_refines.calls (a0_0 : Int) (a0_1 : Int) (a0_2 : Int) (a0_3 : Bool) (a1_0 : Int) (a1_1 : Int) (a1_2 : Int) (a1_3 : Bool) (r : Bool) (w : World) (h : impl_refines.f a0_0 a0_1 a0_2 a0_3 a1_0 a1_1 a1_2 a1_3 = some r) :
  Calls Tryd.prog 59 #[.agg #[.int .i64 a0_0, .int .i64 a0_1, .int .i64 a0_2, .bool a0_3], .agg #[.int .i64 a1_0, .int .i64 a1_1, .int .i64 a1_2, .bool a1_3]] w fun e w' => e = .returned (.bool r) ∧ Below w.heap.size w w' := by
 have hu33 := Tryd.underlying33
 have HB := Aside0.mk (Below.refl w.heap.size w)
 have H : (if a1_0 = 0 then (some true) else (if a0_0 = a1_0 then (if a1_1 = 0 then (if a1_2 = 0 then (if a0_3 = true then (some a1_3) else (some true)) else (if a0_2 = a1_2 then (if a0_3 = true then (some a1_3) else (some true)) else (some false))) else (if a0_1 = a1_1 then (if a1_2 = 0 then (if a0_3 = true then (some a1_3) else (some true)) else (if a0_2 = a1_2 then (if a0_3 = true then (some a1_3) else (some true)) else (some false))) else (some false))) else (some false))) = some r := h
 clear h
 by_cases c3 : a1_0 = 0
 ·
  rw [if_pos c3] at H
  have c3b0 : (a1_0 == 0) = true := beq_iff_eq.mpr c3
  have c3b1 : (a1_0 != 0) = false := bne_eq_false_iff_eq.mpr c3
  clear c3
  obtain rfl := Option.some.inj H
  go_enter Tryd.func59, Tryd.ntmps59
  go_wp2_with (first | ((with_reducible refine gate_dst (N := 2) rfl ?_); refine box_event ?hg (N := 2) ?hd (cs := #[.int .i64 a0_0, .int .i64 a0_1, .int .i64 a0_2, .bool a0_3]) (t := 33) ?hr ?_; (case hd => rfl); (case hg => rfl); (case hr => first | (go_simp; done) | (go_simp; rfl)); intro gb454 hg w4 hbox hb; have BK454 := Aside0.mk (hbox); have GW454 := Aside0.mk (bsz hg au101); have GE454 := Aside0.mk (bsz hg au101); replace HB := Aside0.mk (below_step au101 hb); clear hb hbox hg) | ((with_reducible refine gate_dst (N := 3) rfl ?_); refine box_event ?hg (N := 3) ?hd (cs := #[.int .i64 a1_0, .int .i64 a1_1, .int .i64 a1_2, .bool a1_3]) (t := 33) ?hr ?_; (case hd => rfl); (case hg => rfl); (case hr => first | (go_simp; done) | (go_simp; rfl)); intro gb455 hg w5 hbox hb; have BK455 := Aside0.mk (hbox); have GW455 := Aside0.mk (bsz hg au94); have GE455 := Aside0.mk (bsz hg au94); replace HB := Aside0.mk (below_step au94 hb); have NB454_455 := Aside0.mk (bne (g := gb454) hg au128); have NB455_454 := Aside0.mk (ben (g := gb454) hg au128); replace BK454 := Aside0.mk (blk_below (g := gb454) au128 hb); clear hb hbox hg; have hnb6 := NB455_454.out; have hnc6 := NB454_455.out; obtain ⟨hcz7_0, hcz7_1, hcz7_2, hcz7_3, hfz7_0, hfz7_1, hfz7_2, hfz7_3⟩ := blkc4 BK455.out))
  go_ret
  exact ⟨by first | rfl | (simp [errW_none, errW_some] <;> rfl) | (simp [*, errW_none, errW_some] <;> rfl), by repeat (first | (with_reducible first | exact HB.out | apply below_alloc | apply pw_below_drewN | apply below_drew1 | refine below_set ?_ GE454.out | refine below_set ?_ GE455.out) | exact HB.out)⟩
 ·
  rw [if_neg c3] at H
  have c3b0 : (a1_0 == 0) = false := beq_eq_false_iff_ne.mpr c3
  have c3b1 : (a1_0 != 0) = true := bne_iff_ne.mpr c3
  by_cases c8 : a0_0 = a1_0
  ·
   rw [if_pos c8] at H
   have c8b0 : (a0_0 == a1_0) = true := beq_iff_eq.mpr c8
   have c8b1 : (a0_0 != a1_0) = false := bne_eq_false_iff_eq.mpr c8
   clear c8
   by_cases c9 : a1_1 = 0
   ·
    rw [if_pos c9] at H
    have c9b0 : (a1_1 == 0) = true := beq_iff_eq.mpr c9
    have c9b1 : (a1_1 != 0) = false := bne_eq_false_iff_eq.mpr c9
    clear c9
    by_cases c10 : a1_2 = 0
    ·
     rw [if_pos c10] at H
     have c10b0 : (a1_2 == 0) = true := beq_iff_eq.mpr c10
     have c10b1 : (a1_2 != 0) = false := bne_eq_false_iff_eq.mpr c10
     clear c10
     by_cases c11 : a0_3 = true
     ·
      subst c11
      replace H := (if_pos rfl).symm.trans H
      obtain rfl := Option.some.inj H
      exact impl_refines.L1
     ·
      replace c11 := Bool.eq_false_iff.mpr c11
      subst c11
      replace H := (if_neg (show ¬ (false = true) by decide)).symm.trans H
      obtain rfl := Option.some.inj H
      exact impl_refines.L0
    ·
     rw [if_neg c10] at H
     have c10b0 : (a1_2 == 0) = false := beq_eq_false_iff_ne.mpr c10
     have c10b1 : (a1_2 != 0) = true := bne_iff_ne.mpr c10
     by_cases c22 : a0_2 = a1_2
     ·
      rw [if_pos c22] at H
      have c22b0 : (a0_2 == a1_2) = true := beq_iff_eq.mpr c22
      have c22b1 : (a0_2 != a1_2) = false := bne_eq_false_iff_eq.mpr c22
      clear c22
      by_cases c23 : a0_3 = true
      ·
       subst c23
       replace H := (if_pos rfl).symm.trans H
       obtain rfl := Option.some.inj H
       exact impl_refines.L1
      ·
       replace c23 := Bool.eq_false_iff.mpr c23
       subst c23
       replace H := (if_neg (show ¬ (false = true) by decide)).symm.trans H
       obtain rfl := Option.some.inj H
       exact impl_refines.L0
     ·
      rw [if_neg c22] at H
      have c22b0 : (a0_2 == a1_2) = false := beq_eq_false_iff_ne.mpr c22
      have c22b1 : (a0_2 != a1_2) = true := bne_iff_ne.mpr c22
      obtain rfl := Option.some.inj H
      exact impl_refines.L2
   ·
    rw [if_neg c9] at H
    have c9b0 : (a1_1 == 0) = false := beq_eq_false_iff_ne.mpr c9
    have c9b1 : (a1_1 != 0) = true := bne_iff_ne.mpr c9
    by_cases c39 : a0_1 = a1_1
    ·
     rw [if_pos c39] at H
     have c39b0 : (a0_1 == a1_1) = true := beq_iff_eq.mpr c39
     have c39b1 : (a0_1 != a1_1) = false := bne_eq_false_iff_eq.mpr c39
     clear c39
     by_cases c40 : a1_2 = 0
     ·
      rw [if_pos c40] at H
      have c40b0 : (a1_2 == 0) = true := beq_iff_eq.mpr c40
      have c40b1 : (a1_2 != 0) = false := bne_eq_false_iff_eq.mpr c40
      clear c40
      by_cases c41 : a0_3 = true
      ·
       subst c41
       replace H := (if_pos rfl).symm.trans H
       obtain rfl := Option.some.inj H
       exact impl_refines.L1
      ·
       replace c41 := Bool.eq_false_iff.mpr c41
       subst c41
       replace H := (if_neg (show ¬ (false = true) by decide)).symm.trans H
       obtain rfl := Option.some.inj H
       exact impl_refines.L0
     ·
      rw [if_neg c40] at H
      have c40b0 : (a1_2 == 0) = false := beq_eq_false_iff_ne.mpr c40
      have c40b1 : (a1_2 != 0) = true := bne_iff_ne.mpr c40
      by_cases c52 : a0_2 = a1_2
      ·
       rw [if_pos c52] at H
       have c52b0 : (a0_2 == a1_2) = true := beq_iff_eq.mpr c52
       have c52b1 : (a0_2 != a1_2) = false := bne_eq_false_iff_eq.mpr c52
       clear c52
       by_cases c53 : a0_3 = true
       ·
        subst c53
        replace H := (if_pos rfl).symm.trans H
        obtain rfl := Option.some.inj H
        exact impl_refines.L1
       ·
        replace c53 := Bool.eq_false_iff.mpr c53
        subst c53
        replace H := (if_neg (show ¬ (false = true) by decide)).symm.trans H
        obtain rfl := Option.some.inj H
        exact impl_refines.L0
      ·
       rw [if_neg c52] at H
       have c52b0 : (a0_2 == a1_2) = false := beq_eq_false_iff_ne.mpr c52
       have c52b1 : (a0_2 != a1_2) = true := bne_iff_ne.mpr c52
       obtain rfl := Option.some.inj H
       exact impl_refines.L2
    ·
     rw [if_neg c39] at H
     have c39b0 : (a0_1 == a1_1) = false := beq_eq_false_iff_ne.mpr c39
     have c39b1 : (a0_1 != a1_1) = true := bne_iff_ne.mpr c39
     obtain rfl := Option.some.inj H
     exact impl_refines.L2
  ·
   rw [if_neg c8] at H
   have c8b0 : (a0_0 == a1_0) = false := beq_eq_false_iff_ne.mpr c8
   have c8b1 : (a0_0 != a1_0) = true := bne_iff_ne.mpr c8
   obtain rfl := Option.some.inj H
   exact impl_refines.L2


/-! ### impl_Refines: function 28 -/
def impl_Refines.f (k : Nat) (a0_0 : Int) (a0_1 : Int) (a0_2 : Int) (a0_3 : Bool) (a1_0 : Int) (a1_1 : Int) (a1_2 : Int) (a1_3 : Bool) : Option (Bool × Bool) := (impl_IsValidDate.f k a0_0 a0_1 a0_2 a0_3).bind fun t458 => (if t458 = true then ((impl_IsValidDate.f k a1_0 a1_1 a1_2 a1_3).bind fun t459 => (if t459 = true then ((impl_refines.f a0_0 a0_1 a0_2 a0_3 a1_0 a1_1 a1_2 a1_3).bind fun t460 => (some (t460, true))) else (some (false, false)))) else (some (false, false)))
theorem impl_Refines.mono : ∀ a0 a1 a2 a3 a4 a5 a6 a7 k, LeO (impl_Refines.f k a0 a1 a2 a3 a4 a5 a6 a7) (impl_Refines.f (k + 1) a0 a1 a2 a3 a4 a5 a6 a7) := by
 intro a0 a1 a2 a3 a4 a5 a6 a7 k
 unfold impl_Refines.f
 repeat' first
   | (with_reducible exact impl_IsValidDate.mono _ _ _ _ _)
   | (with_reducible exact LeO.refl _)
   | (with_reducible exact LeO.none _)
   | (with_reducible refine LeO.ite ?_ ?_)
   | (with_reducible refine LeO.bind ?_ (fun _ => ?_))
   | exact impl_IsValidDate.mono _ _ _ _ _
   | exact LeO.none _
   | refine LeO.ite ?_ ?_
   | refine LeO.bind ?_ (fun _ => ?_)
set_option maxHeartbeats 8000000 in
set_option maxRecDepth 100000 in
theorem impl_Refines.calls (k : Nat) (a0_0 : Int) (a0_1 : Int) (a0_2 : Int) (a0_3 : Bool) (a1_0 : Int) (a1_1 : Int) (a1_2 : Int) (a1_3 : Bool) (r1 : Bool) (r2 : Bool) (w : World) (h : impl_Refines.f k a0_0 a0_1 a0_2 a0_3 a1_0 a1_1 a1_2 a1_3 = some (r1, r2)) :
  Calls Tryd.prog 28 #[.agg #[.int .i64 a0_0, .int .i64 a0_1, .int .i64 a0_2, .bool a0_3], .agg #[.int .i64 a1_0, .int .i64 a1_1, .int .i64 a1_2, .bool a1_3]] w fun e w' => e = .returned (.tuple #[.bool r1, .bool r2]) ∧ Below w.heap.size w w' := by
 have hu33 := Tryd.underlying33
 have HB := Aside0.mk (Below.refl w.heap.size w)
 have H : ((impl_IsValidDate.f k a0_0 a0_1 a0_2 a0_3).bind fun t458 => (if t458 = true then ((impl_IsValidDate.f k a1_0 a1_1 a1_2 a1_3).bind fun t459 => (if t459 = true then ((impl_refines.f a0_0 a0_1 a0_2 a0_3 a1_0 a1_1 a1_2 a1_3).bind fun t460 => (some (t460, true))) else (some (false, false)))) else (some (false, false)))) = some (r1, r2) := h
 clear h
 replace H := Option.bind_eq_some_iff.mp H
 obtain ⟨t458, A30, H⟩ := H
 try dsimp only at H
 have A3 := Aside0.mk A30
 clear A30
 by_cases c4 : t458 = true
 ·
  subst c4
  replace H := (if_pos rfl).symm.trans H
  replace H := Option.bind_eq_some_iff.mp H
  obtain ⟨t459, A50, H⟩ := H
  try dsimp only at H
  have A5 := Aside0.mk A50
  clear A50
  by_cases c6 : t459 = true
  ·
   subst c6
   replace H := (if_pos rfl).symm.trans H
   replace H := Option.bind_eq_some_iff.mp H
   obtain ⟨t460, A70, H⟩ := H
   try dsimp only at H
   have A7 := Aside0.mk A70
   clear A70
   simp only [Option.some.injEq, Prod.mk.injEq] at H
   obtain ⟨rfl, rfl⟩ := H
   go_enter Tryd.func28, Tryd.ntmps28
   go_wp2_with (first | ((with_reducible refine gate_dst (N := 2) rfl ?_); refine box_event ?hg (N := 2) ?hd (cs := #[.int .i64 a0_0, .int .i64 a0_1, .int .i64 a0_2, .bool a0_3]) (t := 33) ?hr ?_; (case hd => rfl); (case hg => rfl); (case hr => first | (go_simp; done) | (go_simp; rfl)); intro gb456 hg w8 hbox hb; have BK456 := Aside0.mk (hbox); have GW456 := Aside0.mk (bsz hg au101); have GE456 := Aside0.mk (bsz hg au101); replace HB := Aside0.mk (below_step au101 hb); clear hb hbox hg) | ((with_reducible refine gate_dst (N := 3) rfl ?_); refine box_event ?hg (N := 3) ?hd (cs := #[.int .i64 a1_0, .int .i64 a1_1, .int .i64 a1_2, .bool a1_3]) (t := 33) ?hr ?_; (case hd => rfl); (case hg => rfl); (case hr => first | (go_simp; done) | (go_simp; rfl)); intro gb457 hg w9 hbox hb; have BK457 := Aside0.mk (hbox); have GW457 := Aside0.mk (bsz hg au95); have GE457 := Aside0.mk (bsz hg au95); replace HB := Aside0.mk (below_step au95 hb); have NB456_457 := Aside0.mk (bne (g := gb456) hg au129); have NB457_456 := Aside0.mk (ben (g := gb456) hg au129); replace BK456 := Aside0.mk (blk_below (g := gb456) au129 hb); clear hb hbox hg; have hnb10 := NB456_457.out; have hnc10 := NB457_456.out; obtain ⟨hcz11_0, hcz11_1, hcz11_2, hcz11_3, hfz11_0, hfz11_1, hfz11_2, hfz11_3⟩ := blkc4 BK456.out) | ((with_reducible refine gate_callee (f := 49) rfl ?_); refine goesL_ (some 7) rfl rfl Tryd.func49 (by kernel_rfl) rfl #[.agg #[.int .i64 a0_0, .int .i64 a0_1, .int .i64 a0_2, .bool a0_3]] rfl au100 ?_; (with_reducible refine (impl_IsValidDate.calls k a0_0 a0_1 a0_2 a0_3 true _ A3.out).mono ?_); rintro e w12 ⟨rfl, hb⟩; refine ⟨_, rfl, ?_⟩; replace BK456 := Aside0.mk (blk_below (g := gb456) au129 hb); replace BK457 := Aside0.mk (blk_below (g := gb457) au130 hb); replace HB := Aside0.mk (below_step au73 hb); (try clear hb); obtain ⟨hcz13_0, hcz13_1, hcz13_2, hcz13_3, hfz13_0, hfz13_1, hfz13_2, hfz13_3⟩ := blkc4 BK457.out) | (go_at_call 49; (with_reducible refine (impl_IsValidDate.calls k a1_0 a1_1 a1_2 a1_3 true _ A5.out).mono ?_); rintro e w14 ⟨rfl, hb⟩; replace BK456 := Aside0.mk (blk_below (g := gb456) au129 hb); replace BK457 := Aside0.mk (blk_below (g := gb457) au130 hb); replace HB := Aside0.mk (below_step au73 hb); (try clear hb); obtain ⟨hcz15_0, hcz15_1, hcz15_2, hcz15_3, hfz15_0, hfz15_1, hfz15_2, hfz15_3⟩ := blkc4 BK456.out; obtain ⟨hcz16_0, hcz16_1, hcz16_2, hcz16_3, hfz16_0, hfz16_1, hfz16_2, hfz16_3⟩ := blkc4 BK457.out) | ((with_reducible refine gate_callee (f := 59) rfl ?_); refine goesL_ (some 16) rfl rfl Tryd.func59 (by kernel_rfl) rfl #[.agg #[.int .i64 a0_0, .int .i64 a0_1, .int .i64 a0_2, .bool a0_3], .agg #[.int .i64 a1_0, .int .i64 a1_1, .int .i64 a1_2, .bool a1_3]] rfl au100 ?_; (with_reducible refine (impl_refines.calls a0_0 a0_1 a0_2 a0_3 a1_0 a1_1 a1_2 a1_3 t460 _ A7.out).mono ?_); rintro e w17 ⟨rfl, hb⟩; refine ⟨_, rfl, ?_⟩; replace BK456 := Aside0.mk (blk_below (g := gb456) au129 hb); replace BK457 := Aside0.mk (blk_below (g := gb457) au130 hb); replace HB := Aside0.mk (below_step au73 hb); (try clear hb)))
   go_ret2
   exact ax16
  ·
   replace c6 := Bool.eq_false_iff.mpr c6
   subst c6
   replace H := (if_neg (show ¬ (false = true) by decide)).symm.trans H
   simp only [Option.some.injEq, Prod.mk.injEq] at H
   obtain ⟨rfl, rfl⟩ := H
   go_enter Tryd.func28, Tryd.ntmps28
   go_wp2_with (first | ((with_reducible refine gate_dst (N := 2) rfl ?_); refine box_event ?hg (N := 2) ?hd (cs := #[.int .i64 a0_0, .int .i64 a0_1, .int .i64 a0_2, .bool a0_3]) (t := 33) ?hr ?_; (case hd => rfl); (case hg => rfl); (case hr => first | (go_simp; done) | (go_simp; rfl)); intro gb456 hg w18 hbox hb; have BK456 := Aside0.mk (hbox); have GW456 := Aside0.mk (bsz hg au101); have GE456 := Aside0.mk (bsz hg au101); replace HB := Aside0.mk (below_step au101 hb); clear hb hbox hg) | ((with_reducible refine gate_dst (N := 3) rfl ?_); refine box_event ?hg (N := 3) ?hd (cs := #[.int .i64 a1_0, .int .i64 a1_1, .int .i64 a1_2, .bool a1_3]) (t := 33) ?hr ?_; (case hd => rfl); (case hg => rfl); (case hr => first | (go_simp; done) | (go_simp; rfl)); intro gb457 hg w19 hbox hb; have BK457 := Aside0.mk (hbox); have GW457 := Aside0.mk (bsz hg au95); have GE457 := Aside0.mk (bsz hg au95); replace HB := Aside0.mk (below_step au95 hb); have NB456_457 := Aside0.mk (bne (g := gb456) hg au129); have NB457_456 := Aside0.mk (ben (g := gb456) hg au129); replace BK456 := Aside0.mk (blk_below (g := gb456) au129 hb); clear hb hbox hg; have hnb20 := NB456_457.out; have hnc20 := NB457_456.out; obtain ⟨hcz21_0, hcz21_1, hcz21_2, hcz21_3, hfz21_0, hfz21_1, hfz21_2, hfz21_3⟩ := blkc4 BK456.out) | ((with_reducible refine gate_callee (f := 49) rfl ?_); refine goesL_ (some 7) rfl rfl Tryd.func49 (by kernel_rfl) rfl #[.agg #[.int .i64 a0_0, .int .i64 a0_1, .int .i64 a0_2, .bool a0_3]] rfl au100 ?_; (with_reducible refine (impl_IsValidDate.calls k a0_0 a0_1 a0_2 a0_3 true _ A3.out).mono ?_); rintro e w22 ⟨rfl, hb⟩; refine ⟨_, rfl, ?_⟩; replace BK456 := Aside0.mk (blk_below (g := gb456) au129 hb); replace BK457 := Aside0.mk (blk_below (g := gb457) au130 hb); replace HB := Aside0.mk (below_step au73 hb); (try clear hb); obtain ⟨hcz23_0, hcz23_1, hcz23_2, hcz23_3, hfz23_0, hfz23_1, hfz23_2, hfz23_3⟩ := blkc4 BK457.out) | (go_at_call 49; (with_reducible refine (impl_IsValidDate.calls k a1_0 a1_1 a1_2 a1_3 false _ A5.out).mono ?_); rintro e w24 ⟨rfl, hb⟩; replace BK456 := Aside0.mk (blk_below (g := gb456) au129 hb); replace BK457 := Aside0.mk (blk_below (g := gb457) au130 hb); replace HB := Aside0.mk (below_step au73 hb); (try clear hb)))
   go_ret2
   exact ax16
 ·
  replace c4 := Bool.eq_false_iff.mpr c4
  subst c4
  replace H := (if_neg (show ¬ (false = true) by decide)).symm.trans H
  simp only [Option.some.injEq, Prod.mk.injEq] at H
  obtain ⟨rfl, rfl⟩ := H
  go_enter Tryd.func28, Tryd.ntmps28
  go_wp2_with (first | ((with_reducible refine gate_dst (N := 2) rfl ?_); refine box_event ?hg (N := 2) ?hd (cs := #[.int .i64 a0_0, .int .i64 a0_1, .int .i64 a0_2, .bool a0_3]) (t := 33) ?hr ?_; (case hd => rfl); (case hg => rfl); (case hr => first | (go_simp; done) | (go_simp; rfl)); intro gb456 hg w25 hbox hb; have BK456 := Aside0.mk (hbox); have GW456 := Aside0.mk (bsz hg au101); have GE456 := Aside0.mk (bsz hg au101); replace HB := Aside0.mk (below_step au101 hb); clear hb hbox hg) | ((with_reducible refine gate_dst (N := 3) rfl ?_); refine box_event ?hg (N := 3) ?hd (cs := #[.int .i64 a1_0, .int .i64 a1_1, .int .i64 a1_2, .bool a1_3]) (t := 33) ?hr ?_; (case hd => rfl); (case hg => rfl); (case hr => first | (go_simp; done) | (go_simp; rfl)); intro gb457 hg w26 hbox hb; have BK457 := Aside0.mk (hbox); have GW457 := Aside0.mk (bsz hg au95); have GE457 := Aside0.mk (bsz hg au95); replace HB := Aside0.mk (below_step au95 hb); have NB456_457 := Aside0.mk (bne (g := gb456) hg au129); have NB457_456 := Aside0.mk (ben (g := gb456) hg au129); replace BK456 := Aside0.mk (blk_below (g := gb456) au129 hb); clear hb hbox hg; have hnb27 := NB456_457.out; have hnc27 := NB457_456.out; obtain ⟨hcz28_0, hcz28_1, hcz28_2, hcz28_3, hfz28_0, hfz28_1, hfz28_2, hfz28_3⟩ := blkc4 BK456.out) | ((with_reducible refine gate_callee (f := 49) rfl ?_); refine goesL_ (some 7) rfl rfl Tryd.func49 (by kernel_rfl) rfl #[.agg #[.int .i64 a0_0, .int .i64 a0_1, .int .i64 a0_2, .bool a0_3]] rfl au100 ?_; (with_reducible refine (impl_IsValidDate.calls k a0_0 a0_1 a0_2 a0_3 false _ A3.out).mono ?_); rintro e w29 ⟨rfl, hb⟩; refine ⟨_, rfl, ?_⟩; replace BK456 := Aside0.mk (blk_below (g := gb456) au129 hb); replace BK457 := Aside0.mk (blk_below (g := gb457) au130 hb); replace HB := Aside0.mk (below_step au73 hb); (try clear hb)))
  go_ret2
  exact ax16


/-! ### impl_DateBounds: function 29 -/
def impl_DateBounds.j0 : Nat → Bool → Int → Int → Int → Bool → Option (Int × Int × Int × Bool × Int × Int × Int × Bool × Bool)
 | 0, _, _, _, _, _ => none
 | k + 1, x18, x462000, x462001, x462002, x462003 => if x18 = true then (some (0, 0, 0, false, 0, 0, 0, false, false)) else (if x462001 = 0 then (if x462002 = 0 then ((impl_daysInMonth.f x462000 12).bind fun t467 => (some (x462000, 1, 1, x462003, x462000, 12, t467, x462003, true))) else (some (x462000, 1, x462002, x462003, x462000, 12, x462002, x462003, true))) else (if x462002 = 0 then ((impl_daysInMonth.f x462000 x462001).bind fun t468 => (some (x462000, x462001, 1, x462003, x462000, x462001, t468, x462003, true))) else (some (x462000, x462001, x462002, x462003, x462000, x462001, x462002, x462003, true))))
def impl_DateBounds.f (k : Nat) (a0_0 : Int) (a0_1 : Int) (a0_2 : Int) (a0_3 : Bool) : Option (Int × Int × Int × Bool × Int × Int × Int × Bool × Bool) := (impl_IsValidDate.f k a0_0 a0_1 a0_2 a0_3).bind fun t464 => (if t464 = true then (if a0_0 = 0 then (impl_DateBounds.j0 k true a0_0 a0_1 a0_2 a0_3) else (impl_DateBounds.j0 k a0_3 a0_0 a0_1 a0_2 a0_3)) else (impl_DateBounds.j0 k true a0_0 a0_1 a0_2 a0_3))
theorem impl_DateBounds.mono_l : ∀ k, (∀ y0 y1 y2 y3 y4, LeO (impl_DateBounds.j0 k y0 y1 y2 y3 y4) (impl_DateBounds.j0 (k + 1) y0 y1 y2 y3 y4))
 | 0 => fun _ _ _ _ _ r h => by simp [impl_DateBounds.j0] at h
 | k + 1 => by
  have ih0 := impl_DateBounds.mono_l k
  ·
   intro y0 y1 y2 y3 y4
   unfold impl_DateBounds.j0
   repeat' first
   | (with_reducible exact ih0 _ _ _ _ _)
   | (with_reducible exact impl_IsValidDate.mono _ _ _ _ _)
   | (with_reducible exact LeO.refl _)
   | (with_reducible exact LeO.none _)
   | (with_reducible refine LeO.ite ?_ ?_)
   | (with_reducible refine LeO.bind ?_ (fun _ => ?_))
   | exact ih0 _ _ _ _ _
   | exact impl_IsValidDate.mono _ _ _ _ _
   | exact LeO.none _
   | refine LeO.ite ?_ ?_
   | refine LeO.bind ?_ (fun _ => ?_)
theorem impl_DateBounds.mono : ∀ a0 a1 a2 a3 k, LeO (impl_DateBounds.f k a0 a1 a2 a3) (impl_DateBounds.f (k + 1) a0 a1 a2 a3) := by
 intro a0 a1 a2 a3 k
 have ih0 := impl_DateBounds.mono_l k
 unfold impl_DateBounds.f
 repeat' first
   | (with_reducible exact ih0 _ _ _ _ _)
   | (with_reducible exact impl_IsValidDate.mono _ _ _ _ _)
   | (with_reducible exact LeO.refl _)
   | (with_reducible exact LeO.none _)
   | (with_reducible refine LeO.ite ?_ ?_)
   | (with_reducible refine LeO.bind ?_ (fun _ => ?_))
   | exact ih0 _ _ _ _ _
   | exact impl_IsValidDate.mono _ _ _ _ _
   | exact LeO.none _
   | refine LeO.ite ?_ ?_
   | refine LeO.bind ?_ (fun _ => ?_)
set_option maxRecDepth 100000 in
theorem impl_DateBounds.L0 {P : Prop} (h : P := by
  try go_wp2
  replace BK461 := Aside0.mk (blk_drew BK461.out)
  replace BK462 := Aside0.mk (blk_drew BK462.out)
  replace BK463 := Aside0.mk (blk_drew BK463.out)
  replace HB := Aside0.mk (below_drew1 HB.out)
  refine start_ (n := 6) (S := fun w' => w'.cell? ⟨gb461, 0, none⟩ = some (.int .i64 a0_0) ∧ w'.cell? ⟨gb461, 1, none⟩ = some (.int .i64 a0_1) ∧ w'.cell? ⟨gb461, 2, none⟩ = some (.int .i64 a0_2) ∧ w'.cell? ⟨gb461, 3, none⟩ = some (.bool a0_3)) (ds := []) #[false, false, false, false, false, false] (by kernel_rfl) rfl rfl ⟨(blk_cell BK461.out 0).trans rfl, (blk_cell BK461.out 1).trans rfl, (blk_cell BK461.out 2).trans rfl, (blk_cell BK461.out 3).trans rfl⟩ (fun hHeld => ?_)
  generalize wc.drew = w32 at BK461 BK462 BK463 HB hHeld ⊢
  refine take_ (i := 0) (N := some 21) (v := ?_) (a' := ?_) #[true, false, false, false, false, false] rfl rfl (by kernel_rfl) (fun _ _ _ h => h) (Or.inl ⟨by rfl, ?_⟩) hHeld ?_ ?_
  rotate_left
  ·
   rintro w' ⟨s0, s1, s2, s3⟩
   go_simp
   with_reducible rfl
  rotate_left
  ·
   simp only [Act.put, List.setIfInBounds_toArray, List.set_cons_zero, List.set_cons_succ, i64_w, i32_w]
   rfl
  refine take_ (i := 1) (N := some 22) (v := ?_) (a' := ?_) #[true, true, false, false, false, false] rfl rfl (by kernel_rfl) (fun _ _ _ h => h) (Or.inl ⟨by rfl, ?_⟩) hHeld ?_ ?_
  rotate_left
  ·
   rintro w' ⟨s0, s1, s2, s3⟩
   go_simp
   with_reducible rfl
  rotate_left
  ·
   simp only [Act.put, List.setIfInBounds_toArray, List.set_cons_zero, List.set_cons_succ, i64_w, i32_w]
   rfl
  refine join_ (σ := Nat × Nat) 2 #[true, true, true, true, false, false] (fun s_ => [(5, .pointer (some ⟨s_.1, 0, none⟩)), (6, .pointer (some ⟨s_.2, 0, none⟩))]) (fun s_ w' => (w'.cell? ⟨gb461, 0, none⟩ = some (.int .i64 a0_0) ∧ w'.cell? ⟨gb461, 1, none⟩ = some (.int .i64 a0_1) ∧ w'.cell? ⟨gb461, 2, none⟩ = some (.int .i64 a0_2) ∧ w'.cell? ⟨gb461, 3, none⟩ = some (.bool a0_3)) ∧ (w'.heap[gb461]? = some (.cells #[.int .i64 a0_0, .int .i64 a0_1, .int .i64 a0_2, .bool a0_3] 33 (0, 0))) ∧ (w'.heap[gb462]? = some (.cells #[.int .i64 0, .int .i64 0, .int .i64 0, .bool false] 33 (0, 0))) ∧ (w'.heap[gb463]? = some (.cells #[.int .i64 0, .int .i64 0, .int .i64 0, .bool false] 33 (0, 0))) ∧ (w'.heap[s_.1]? = some (.cells #[.int .i64 0, .int .i64 0, .int .i64 0, .bool false] 33 (0, 0))) ∧ (w'.heap[s_.2]? = some (.cells #[.int .i64 0, .int .i64 0, .int .i64 0, .bool false] 33 (0, 0))) ∧ (w.heap.size ≤ s_.1) ∧ (w.heap.size ≤ s_.1) ∧ (gb461 ≠ s_.1) ∧ (s_.1 ≠ gb461) ∧ (gb462 ≠ s_.1) ∧ (s_.1 ≠ gb462) ∧ (gb463 ≠ s_.1) ∧ (s_.1 ≠ gb463) ∧ (s_.2 ≠ s_.1) ∧ (s_.1 ≠ s_.2) ∧ (w.heap.size ≤ s_.2) ∧ (w.heap.size ≤ s_.2) ∧ (gb461 ≠ s_.2) ∧ (s_.2 ≠ gb461) ∧ (gb462 ≠ s_.2) ∧ (s_.2 ≠ gb462) ∧ (gb463 ≠ s_.2) ∧ (s_.2 ≠ gb463) ∧ (Below w.heap.size w w')) ?_ ?_
  rotate_left
  ·
   intro hCont
   refine two_ (i := 2) (j := 3) (Ni := some 5) (Nj := some 6) #[true, true, true, false, false, false] #[true, true, false, true, false, false] rfl rfl rfl rfl (by kernel_rfl) (by decide) (by decide) (fun K hK => ?_) (fun K hK => ?_)
   ·
    skip
    refine box_step ?hg (N := 5) ?hd (cs := #[.int .i64 0, .int .i64 0, .int .i64 0, .bool false]) (t := 33) ?hr ?_; (case hd => rfl); (case hg => rfl); (case hr => first | (go_simp; done) | (go_simp; rfl))
    intro gb465 hg w33 hbox hb
    have BK465 := Aside0.mk (hbox)
    have GW465 := Aside0.mk (bsz hg au57)
    have GE465 := Aside0.mk (bsz hg au57)
    replace HB := Aside0.mk (below_step au57 hb)
    have NB461_465 := Aside0.mk (bne (g := gb461) hg au131)
    have NB465_461 := Aside0.mk (ben (g := gb461) hg au131)
    replace BK461 := Aside0.mk (blk_below (g := gb461) au131 hb)
    have NB462_465 := Aside0.mk (bne (g := gb462) hg au132)
    have NB465_462 := Aside0.mk (ben (g := gb462) hg au132)
    replace BK462 := Aside0.mk (blk_below (g := gb462) au132 hb)
    have NB463_465 := Aside0.mk (bne (g := gb463) hg au133)
    have NB465_463 := Aside0.mk (ben (g := gb463) hg au133)
    replace BK463 := Aside0.mk (blk_below (g := gb463) au133 hb)
    clear hb hbox hg
    refine hK.out _ _ ⟨(blk_cell BK461.out 0).trans rfl, (blk_cell BK461.out 1).trans rfl, (blk_cell BK461.out 2).trans rfl, (blk_cell BK461.out 3).trans rfl⟩ (fun hHeld => ?_)
    clear hK K
    refine no_ (some 5) ?_
    refine one_ (i := 3) (N := some 6) #[true, true, true, true, false, false] rfl rfl (by kernel_rfl) (by decide) (fun K hK => ?_)
    refine box_step ?hg (N := 6) ?hd (cs := #[.int .i64 0, .int .i64 0, .int .i64 0, .bool false]) (t := 33) ?hr ?_; (case hd => rfl); (case hg => rfl); (case hr => first | (go_simp; done) | (go_simp; rfl))
    intro gb466 hg w34 hbox hb
    have BK466 := Aside0.mk (hbox)
    have GW466 := Aside0.mk (bsz hg au49)
    have GE466 := Aside0.mk (bsz hg au49)
    replace HB := Aside0.mk (below_step au49 hb)
    have NB461_466 := Aside0.mk (bne (g := gb461) hg au131)
    have NB466_461 := Aside0.mk (ben (g := gb461) hg au131)
    replace BK461 := Aside0.mk (blk_below (g := gb461) au131 hb)
    have NB462_466 := Aside0.mk (bne (g := gb462) hg au132)
    have NB466_462 := Aside0.mk (ben (g := gb462) hg au132)
    replace BK462 := Aside0.mk (blk_below (g := gb462) au132 hb)
    have NB463_466 := Aside0.mk (bne (g := gb463) hg au133)
    have NB466_463 := Aside0.mk (ben (g := gb463) hg au133)
    replace BK463 := Aside0.mk (blk_below (g := gb463) au133 hb)
    have NB465_466 := Aside0.mk (bne (g := gb465) hg au134)
    have NB466_465 := Aside0.mk (ben (g := gb465) hg au134)
    replace BK465 := Aside0.mk (blk_below (g := gb465) au134 hb)
    clear hb hbox hg
    refine hK.out _ _ ⟨(blk_cell BK461.out 0).trans rfl, (blk_cell BK461.out 1).trans rfl, (blk_cell BK461.out 2).trans rfl, (blk_cell BK461.out 3).trans rfl⟩ (fun hHeld => ?_)
    clear hK K
    refine no_ (some 6) ?_
    exact norm_ au150 (hCont (gb465, gb466) _ ⟨hHeld, au131, au132, au133, au134, au135, GW465.out, GE465.out, NB461_465.out, NB465_461.out, NB462_465.out, NB465_462.out, NB463_465.out, NB465_463.out, NB466_465.out, NB465_466.out, GW466.out, GE466.out, NB461_466.out, NB466_461.out, NB462_466.out, NB466_462.out, NB463_466.out, NB466_463.out, au43⟩)
   ·
    skip
    refine box_step ?hg (N := 6) ?hd (cs := #[.int .i64 0, .int .i64 0, .int .i64 0, .bool false]) (t := 33) ?hr ?_; (case hd => rfl); (case hg => rfl); (case hr => first | (go_simp; done) | (go_simp; rfl))
    intro gb466 hg w33 hbox hb
    have BK466 := Aside0.mk (hbox)
    have GW466 := Aside0.mk (bsz hg au57)
    have GE466 := Aside0.mk (bsz hg au57)
    replace HB := Aside0.mk (below_step au57 hb)
    have NB461_466 := Aside0.mk (bne (g := gb461) hg au131)
    have NB466_461 := Aside0.mk (ben (g := gb461) hg au131)
    replace BK461 := Aside0.mk (blk_below (g := gb461) au131 hb)
    have NB462_466 := Aside0.mk (bne (g := gb462) hg au132)
    have NB466_462 := Aside0.mk (ben (g := gb462) hg au132)
    replace BK462 := Aside0.mk (blk_below (g := gb462) au132 hb)
    have NB463_466 := Aside0.mk (bne (g := gb463) hg au133)
    have NB466_463 := Aside0.mk (ben (g := gb463) hg au133)
    replace BK463 := Aside0.mk (blk_below (g := gb463) au133 hb)
    clear hb hbox hg
    refine hK.out _ _ ⟨(blk_cell BK461.out 0).trans rfl, (blk_cell BK461.out 1).trans rfl, (blk_cell BK461.out 2).trans rfl, (blk_cell BK461.out 3).trans rfl⟩ (fun hHeld => ?_)
    clear hK K
    refine no_ (some 6) ?_
    refine one_ (i := 2) (N := some 5) #[true, true, true, true, false, false] rfl rfl (by kernel_rfl) (by decide) (fun K hK => ?_)
    refine box_step ?hg (N := 5) ?hd (cs := #[.int .i64 0, .int .i64 0, .int .i64 0, .bool false]) (t := 33) ?hr ?_; (case hd => rfl); (case hg => rfl); (case hr => first | (go_simp; done) | (go_simp; rfl))
    intro gb465 hg w34 hbox hb
    have BK465 := Aside0.mk (hbox)
    have GW465 := Aside0.mk (bsz hg au50)
    have GE465 := Aside0.mk (bsz hg au50)
    replace HB := Aside0.mk (below_step au50 hb)
    have NB461_465 := Aside0.mk (bne (g := gb461) hg au131)
    have NB465_461 := Aside0.mk (ben (g := gb461) hg au131)
    replace BK461 := Aside0.mk (blk_below (g := gb461) au131 hb)
    have NB462_465 := Aside0.mk (bne (g := gb462) hg au132)
    have NB465_462 := Aside0.mk (ben (g := gb462) hg au132)
    replace BK462 := Aside0.mk (blk_below (g := gb462) au132 hb)
    have NB463_465 := Aside0.mk (bne (g := gb463) hg au133)
    have NB465_463 := Aside0.mk (ben (g := gb463) hg au133)
    replace BK463 := Aside0.mk (blk_below (g := gb463) au133 hb)
    have NB466_465 := Aside0.mk (bne (g := gb466) hg au135)
    have NB465_466 := Aside0.mk (ben (g := gb466) hg au135)
    replace BK466 := Aside0.mk (blk_below (g := gb466) au135 hb)
    clear hb hbox hg
    refine hK.out _ _ ⟨(blk_cell BK461.out 0).trans rfl, (blk_cell BK461.out 1).trans rfl, (blk_cell BK461.out 2).trans rfl, (blk_cell BK461.out 3).trans rfl⟩ (fun hHeld => ?_)
    clear hK K
    refine no_ (some 5) ?_
    exact norm_ au150 (hCont (gb465, gb466) _ ⟨hHeld, au131, au132, au133, au134, au135, GW465.out, GE465.out, NB461_465.out, NB465_461.out, NB462_465.out, NB465_462.out, NB463_465.out, NB465_463.out, NB466_465.out, NB465_466.out, GW466.out, GE466.out, NB461_466.out, NB466_461.out, NB462_466.out, NB466_462.out, NB463_466.out, NB466_463.out, au44⟩)
  rintro ⟨gb465, gb466⟩ w35 ⟨hS_, h0_, h1_, h2_, h3_, h4_, h5_, h6_, h7_, h8_, h9_, h10_, h11_, h12_, h13_, h14_, h15_, h16_, h17_, h18_, h19_, h20_, h21_, h22_, h23_⟩
  have n0_ : Aside0 (w35.heap[gb461]? = some (.cells #[.int .i64 a0_0, .int .i64 a0_1, .int .i64 a0_2, .bool a0_3] 33 (0, 0))) := ⟨h0_⟩
  have n1_ : Aside0 (w35.heap[gb462]? = some (.cells #[.int .i64 0, .int .i64 0, .int .i64 0, .bool false] 33 (0, 0))) := ⟨h1_⟩
  have n2_ : Aside0 (w35.heap[gb463]? = some (.cells #[.int .i64 0, .int .i64 0, .int .i64 0, .bool false] 33 (0, 0))) := ⟨h2_⟩
  have n3_ : Aside0 (w35.heap[gb465]? = some (.cells #[.int .i64 0, .int .i64 0, .int .i64 0, .bool false] 33 (0, 0))) := ⟨h3_⟩
  have n4_ : Aside0 (w35.heap[gb466]? = some (.cells #[.int .i64 0, .int .i64 0, .int .i64 0, .bool false] 33 (0, 0))) := ⟨h4_⟩
  have n5_ : Aside0 (w.heap.size ≤ gb465) := ⟨h5_⟩
  have n6_ : Aside0 (w.heap.size ≤ gb465) := ⟨h6_⟩
  have n7_ : Aside0 (gb461 ≠ gb465) := ⟨h7_⟩
  have n8_ : Aside0 (gb465 ≠ gb461) := ⟨h8_⟩
  have n9_ : Aside0 (gb462 ≠ gb465) := ⟨h9_⟩
  have n10_ : Aside0 (gb465 ≠ gb462) := ⟨h10_⟩
  have n11_ : Aside0 (gb463 ≠ gb465) := ⟨h11_⟩
  have n12_ : Aside0 (gb465 ≠ gb463) := ⟨h12_⟩
  have n13_ : Aside0 (gb466 ≠ gb465) := ⟨h13_⟩
  have n14_ : Aside0 (gb465 ≠ gb466) := ⟨h14_⟩
  have n15_ : Aside0 (w.heap.size ≤ gb466) := ⟨h15_⟩
  have n16_ : Aside0 (w.heap.size ≤ gb466) := ⟨h16_⟩
  have n17_ : Aside0 (gb461 ≠ gb466) := ⟨h17_⟩
  have n18_ : Aside0 (gb466 ≠ gb461) := ⟨h18_⟩
  have n19_ : Aside0 (gb462 ≠ gb466) := ⟨h19_⟩
  have n20_ : Aside0 (gb466 ≠ gb462) := ⟨h20_⟩
  have n21_ : Aside0 (gb463 ≠ gb466) := ⟨h21_⟩
  have n22_ : Aside0 (gb466 ≠ gb463) := ⟨h22_⟩
  have n23_ : Aside0 (Below w.heap.size w w35) := ⟨h23_⟩
  clear BK461
  clear BK462
  clear BK463
  clear HB
  clear h0_ h1_ h2_ h3_ h4_ h5_ h6_ h7_ h8_ h9_ h10_ h11_ h12_ h13_ h14_ h15_ h16_ h17_ h18_ h19_ h20_ h21_ h22_ h23_
  have BK461 := n0_
  have BK462 := n1_
  have BK463 := n2_
  have BK465 := n3_
  have BK466 := n4_
  have GW465 := n5_
  have GE465 := n6_
  have NB461_465 := n7_
  have NB465_461 := n8_
  have NB462_465 := n9_
  have NB465_462 := n10_
  have NB463_465 := n11_
  have NB465_463 := n12_
  have NB466_465 := n13_
  have NB465_466 := n14_
  have GW466 := n15_
  have GE466 := n16_
  have NB461_466 := n17_
  have NB466_461 := n18_
  have NB462_466 := n19_
  have NB466_462 := n20_
  have NB463_466 := n21_
  have NB466_463 := n22_
  have HB := n23_
  clear n0_ n1_ n2_ n3_ n4_ n5_ n6_ n7_ n8_ n9_ n10_ n11_ n12_ n13_ n14_ n15_ n16_ n17_ n18_ n19_ n20_ n21_ n22_ n23_
  have hHeld : w35.cell? ⟨gb461, 0, none⟩ = some (.int .i64 a0_0) ∧ w35.cell? ⟨gb461, 1, none⟩ = some (.int .i64 a0_1) ∧ w35.cell? ⟨gb461, 2, none⟩ = some (.int .i64 a0_2) ∧ w35.cell? ⟨gb461, 3, none⟩ = some (.bool a0_3) := hS_
  refine norm_ (a' := ?_) ?_ ?_
  rotate_left
  ·
   simp only [putAll, Act.put, List.setIfInBounds_toArray, List.set_cons_zero, List.set_cons_succ]
   rfl
  refine one_ (i := 4) (N := none) #[true, true, true, true, true, false] rfl rfl (by kernel_rfl) (by decide) (fun K hK => ?_)
  have hs36 : w35.cell? ⟨gb465, 0, none⟩ = some (.int .i64 0) := (blk_cell BK465.out 0).trans rfl
  have hfs36 := blk_frozen BK465.out 0
  have hns36_0 := NB461_465.out
  have hns36_1 := NB462_465.out
  have hns36_2 := NB463_465.out
  have hns36_4 := NB466_465.out
  have hms36_0 := NB465_461.out
  have hms36_1 := NB465_462.out
  have hms36_2 := NB465_463.out
  have hms36_4 := NB465_466.out
  have hs37 : w35.cell? ⟨gb465, 1, none⟩ = some (.int .i64 0) := (blk_cell BK465.out 1).trans rfl
  have hfs37 := blk_frozen BK465.out 1
  have hns37_0 := NB461_465.out
  have hns37_1 := NB462_465.out
  have hns37_2 := NB463_465.out
  have hns37_4 := NB466_465.out
  have hms37_0 := NB465_461.out
  have hms37_1 := NB465_462.out
  have hms37_2 := NB465_463.out
  have hms37_4 := NB465_466.out
  have hs38 : w35.cell? ⟨gb465, 2, none⟩ = some (.int .i64 0) := (blk_cell BK465.out 2).trans rfl
  have hfs38 := blk_frozen BK465.out 2
  have hns38_0 := NB461_465.out
  have hns38_1 := NB462_465.out
  have hns38_2 := NB463_465.out
  have hns38_4 := NB466_465.out
  have hms38_0 := NB465_461.out
  have hms38_1 := NB465_462.out
  have hms38_2 := NB465_463.out
  have hms38_4 := NB465_466.out
  have hs39 : w35.cell? ⟨gb465, 3, none⟩ = some (.bool false) := (blk_cell BK465.out 3).trans rfl
  have hfs39 := blk_frozen BK465.out 3
  have hns39_0 := NB461_465.out
  have hns39_1 := NB462_465.out
  have hns39_2 := NB463_465.out
  have hns39_4 := NB466_465.out
  have hms39_0 := NB465_461.out
  have hms39_1 := NB465_462.out
  have hms39_2 := NB465_463.out
  have hms39_4 := NB465_466.out
  refine skip_ (w1 := ?_) (by rfl) rfl ?_ ?_
  rotate_left
  ·
   go_simp
   rfl
  refine hK.out _ _ ⟨((cell_far (p := ⟨gb465, _, none⟩) NB461_465.out _).trans (((cell_far (p := ⟨gb465, _, none⟩) NB461_465.out _).trans (((cell_far (p := ⟨gb465, _, none⟩) NB461_465.out _).trans (((cell_far (p := ⟨gb465, _, none⟩) NB461_465.out _).trans (hHeld.1)))))))), ((cell_far (p := ⟨gb465, _, none⟩) NB461_465.out _).trans (((cell_far (p := ⟨gb465, _, none⟩) NB461_465.out _).trans (((cell_far (p := ⟨gb465, _, none⟩) NB461_465.out _).trans (((cell_far (p := ⟨gb465, _, none⟩) NB461_465.out _).trans (hHeld.2.1)))))))), ((cell_far (p := ⟨gb465, _, none⟩) NB461_465.out _).trans (((cell_far (p := ⟨gb465, _, none⟩) NB461_465.out _).trans (((cell_far (p := ⟨gb465, _, none⟩) NB461_465.out _).trans (((cell_far (p := ⟨gb465, _, none⟩) NB461_465.out _).trans (hHeld.2.2.1)))))))), ((cell_far (p := ⟨gb465, _, none⟩) NB461_465.out _).trans (((cell_far (p := ⟨gb465, _, none⟩) NB461_465.out _).trans (((cell_far (p := ⟨gb465, _, none⟩) NB461_465.out _).trans (((cell_far (p := ⟨gb465, _, none⟩) NB461_465.out _).trans (hHeld.2.2.2))))))))⟩ (fun hHeld => ?_)
  clear hK K
  refine one_ (i := 5) (N := none) #[true, true, true, true, true, true] rfl rfl (by kernel_rfl) (by decide) (fun K hK => ?_)
  have hs40 : w35.cell? ⟨gb466, 0, none⟩ = some (.int .i64 0) := (blk_cell BK466.out 0).trans rfl
  have hfs40 := blk_frozen BK466.out 0
  have hns40_0 := NB461_466.out
  have hns40_1 := NB462_466.out
  have hns40_2 := NB463_466.out
  have hns40_3 := NB465_466.out
  have hms40_0 := NB466_461.out
  have hms40_1 := NB466_462.out
  have hms40_2 := NB466_463.out
  have hms40_3 := NB466_465.out
  have hs41 : w35.cell? ⟨gb466, 1, none⟩ = some (.int .i64 0) := (blk_cell BK466.out 1).trans rfl
  have hfs41 := blk_frozen BK466.out 1
  have hns41_0 := NB461_466.out
  have hns41_1 := NB462_466.out
  have hns41_2 := NB463_466.out
  have hns41_3 := NB465_466.out
  have hms41_0 := NB466_461.out
  have hms41_1 := NB466_462.out
  have hms41_2 := NB466_463.out
  have hms41_3 := NB466_465.out
  have hs42 : w35.cell? ⟨gb466, 2, none⟩ = some (.int .i64 0) := (blk_cell BK466.out 2).trans rfl
  have hfs42 := blk_frozen BK466.out 2
  have hns42_0 := NB461_466.out
  have hns42_1 := NB462_466.out
  have hns42_2 := NB463_466.out
  have hns42_3 := NB465_466.out
  have hms42_0 := NB466_461.out
  have hms42_1 := NB466_462.out
  have hms42_2 := NB466_463.out
  have hms42_3 := NB466_465.out
  have hs43 : w35.cell? ⟨gb466, 3, none⟩ = some (.bool false) := (blk_cell BK466.out 3).trans rfl
  have hfs43 := blk_frozen BK466.out 3
  have hns43_0 := NB461_466.out
  have hns43_1 := NB462_466.out
  have hns43_2 := NB463_466.out
  have hns43_3 := NB465_466.out
  have hms43_0 := NB466_461.out
  have hms43_1 := NB466_462.out
  have hms43_2 := NB466_463.out
  have hms43_3 := NB466_465.out
  refine skip_ (w1 := ?_) (by rfl) rfl ?_ ?_
  rotate_left
  ·
   go_simp
   rfl
  refine hK.out _ _ ⟨((cell_far (p := ⟨gb466, _, none⟩) NB461_466.out _).trans (((cell_far (p := ⟨gb466, _, none⟩) NB461_466.out _).trans (((cell_far (p := ⟨gb466, _, none⟩) NB461_466.out _).trans (((cell_far (p := ⟨gb466, _, none⟩) NB461_466.out _).trans (hHeld.1)))))))), ((cell_far (p := ⟨gb466, _, none⟩) NB461_466.out _).trans (((cell_far (p := ⟨gb466, _, none⟩) NB461_466.out _).trans (((cell_far (p := ⟨gb466, _, none⟩) NB461_466.out _).trans (((cell_far (p := ⟨gb466, _, none⟩) NB461_466.out _).trans (hHeld.2.1)))))))), ((cell_far (p := ⟨gb466, _, none⟩) NB461_466.out _).trans (((cell_far (p := ⟨gb466, _, none⟩) NB461_466.out _).trans (((cell_far (p := ⟨gb466, _, none⟩) NB461_466.out _).trans (((cell_far (p := ⟨gb466, _, none⟩) NB461_466.out _).trans (hHeld.2.2.1)))))))), ((cell_far (p := ⟨gb466, _, none⟩) NB461_466.out _).trans (((cell_far (p := ⟨gb466, _, none⟩) NB461_466.out _).trans (((cell_far (p := ⟨gb466, _, none⟩) NB461_466.out _).trans (((cell_far (p := ⟨gb466, _, none⟩) NB461_466.out _).trans (hHeld.2.2.2))))))))⟩ (fun hHeld => ?_)
  clear hK K
  refine done_ (by kernel_rfl) ?_
  have n0_ : Aside0 (((((((((w35.setCell ⟨gb465, 0, none⟩ (.int .i64 a0_0)).setCell ⟨gb465, 1, none⟩ (.int .i64 a0_1)).setCell ⟨gb465, 2, none⟩ (.int .i64 a0_2)).setCell ⟨gb465, 3, none⟩ (.bool a0_3)).setCell ⟨gb466, 0, none⟩ (.int .i64 a0_0)).setCell ⟨gb466, 1, none⟩ (.int .i64 a0_1)).setCell ⟨gb466, 2, none⟩ (.int .i64 a0_2)).setCell ⟨gb466, 3, none⟩ (.bool a0_3)).heap[gb461]? = some (.cells #[.int .i64 a0_0, .int .i64 a0_1, .int .i64 a0_2, .bool a0_3] 33 (0, 0))) := ⟨by (with_reducible repeat (first | refine blk_drewN ?_ _ | refine blk_drew ?_ | refine blk_alloc ?_ _)); refine blk_far ?_ NB461_466.out _; (with_reducible repeat (first | refine blk_drewN ?_ _ | refine blk_drew ?_ | refine blk_alloc ?_ _)); refine blk_far ?_ NB461_466.out _; (with_reducible repeat (first | refine blk_drewN ?_ _ | refine blk_drew ?_ | refine blk_alloc ?_ _)); refine blk_far ?_ NB461_466.out _; (with_reducible repeat (first | refine blk_drewN ?_ _ | refine blk_drew ?_ | refine blk_alloc ?_ _)); refine blk_far ?_ NB461_466.out _; (with_reducible repeat (first | refine blk_drewN ?_ _ | refine blk_drew ?_ | refine blk_alloc ?_ _)); refine blk_far ?_ NB461_465.out _; (with_reducible repeat (first | refine blk_drewN ?_ _ | refine blk_drew ?_ | refine blk_alloc ?_ _)); refine blk_far ?_ NB461_465.out _; (with_reducible repeat (first | refine blk_drewN ?_ _ | refine blk_drew ?_ | refine blk_alloc ?_ _)); refine blk_far ?_ NB461_465.out _; (with_reducible repeat (first | refine blk_drewN ?_ _ | refine blk_drew ?_ | refine blk_alloc ?_ _)); refine blk_far ?_ NB461_465.out _; (with_reducible repeat (first | refine blk_drewN ?_ _ | refine blk_drew ?_ | refine blk_alloc ?_ _)); exact BK461.out⟩
  have n1_ : Aside0 (((((((((w35.setCell ⟨gb465, 0, none⟩ (.int .i64 a0_0)).setCell ⟨gb465, 1, none⟩ (.int .i64 a0_1)).setCell ⟨gb465, 2, none⟩ (.int .i64 a0_2)).setCell ⟨gb465, 3, none⟩ (.bool a0_3)).setCell ⟨gb466, 0, none⟩ (.int .i64 a0_0)).setCell ⟨gb466, 1, none⟩ (.int .i64 a0_1)).setCell ⟨gb466, 2, none⟩ (.int .i64 a0_2)).setCell ⟨gb466, 3, none⟩ (.bool a0_3)).heap[gb462]? = some (.cells #[.int .i64 0, .int .i64 0, .int .i64 0, .bool false] 33 (0, 0))) := ⟨by (with_reducible repeat (first | refine blk_drewN ?_ _ | refine blk_drew ?_ | refine blk_alloc ?_ _)); refine blk_far ?_ NB462_466.out _; (with_reducible repeat (first | refine blk_drewN ?_ _ | refine blk_drew ?_ | refine blk_alloc ?_ _)); refine blk_far ?_ NB462_466.out _; (with_reducible repeat (first | refine blk_drewN ?_ _ | refine blk_drew ?_ | refine blk_alloc ?_ _)); refine blk_far ?_ NB462_466.out _; (with_reducible repeat (first | refine blk_drewN ?_ _ | refine blk_drew ?_ | refine blk_alloc ?_ _)); refine blk_far ?_ NB462_466.out _; (with_reducible repeat (first | refine blk_drewN ?_ _ | refine blk_drew ?_ | refine blk_alloc ?_ _)); refine blk_far ?_ NB462_465.out _; (with_reducible repeat (first | refine blk_drewN ?_ _ | refine blk_drew ?_ | refine blk_alloc ?_ _)); refine blk_far ?_ NB462_465.out _; (with_reducible repeat (first | refine blk_drewN ?_ _ | refine blk_drew ?_ | refine blk_alloc ?_ _)); refine blk_far ?_ NB462_465.out _; (with_reducible repeat (first | refine blk_drewN ?_ _ | refine blk_drew ?_ | refine blk_alloc ?_ _)); refine blk_far ?_ NB462_465.out _; (with_reducible repeat (first | refine blk_drewN ?_ _ | refine blk_drew ?_ | refine blk_alloc ?_ _)); exact BK462.out⟩
  have n2_ : Aside0 (((((((((w35.setCell ⟨gb465, 0, none⟩ (.int .i64 a0_0)).setCell ⟨gb465, 1, none⟩ (.int .i64 a0_1)).setCell ⟨gb465, 2, none⟩ (.int .i64 a0_2)).setCell ⟨gb465, 3, none⟩ (.bool a0_3)).setCell ⟨gb466, 0, none⟩ (.int .i64 a0_0)).setCell ⟨gb466, 1, none⟩ (.int .i64 a0_1)).setCell ⟨gb466, 2, none⟩ (.int .i64 a0_2)).setCell ⟨gb466, 3, none⟩ (.bool a0_3)).heap[gb463]? = some (.cells #[.int .i64 0, .int .i64 0, .int .i64 0, .bool false] 33 (0, 0))) := ⟨by (with_reducible repeat (first | refine blk_drewN ?_ _ | refine blk_drew ?_ | refine blk_alloc ?_ _)); refine blk_far ?_ NB463_466.out _; (with_reducible repeat (first | refine blk_drewN ?_ _ | refine blk_drew ?_ | refine blk_alloc ?_ _)); refine blk_far ?_ NB463_466.out _; (with_reducible repeat (first | refine blk_drewN ?_ _ | refine blk_drew ?_ | refine blk_alloc ?_ _)); refine blk_far ?_ NB463_466.out _; (with_reducible repeat (first | refine blk_drewN ?_ _ | refine blk_drew ?_ | refine blk_alloc ?_ _)); refine blk_far ?_ NB463_466.out _; (with_reducible repeat (first | refine blk_drewN ?_ _ | refine blk_drew ?_ | refine blk_alloc ?_ _)); refine blk_far ?_ NB463_465.out _; (with_reducible repeat (first | refine blk_drewN ?_ _ | refine blk_drew ?_ | refine blk_alloc ?_ _)); refine blk_far ?_ NB463_465.out _; (with_reducible repeat (first | refine blk_drewN ?_ _ | refine blk_drew ?_ | refine blk_alloc ?_ _)); refine blk_far ?_ NB463_465.out _; (with_reducible repeat (first | refine blk_drewN ?_ _ | refine blk_drew ?_ | refine blk_alloc ?_ _)); refine blk_far ?_ NB463_465.out _; (with_reducible repeat (first | refine blk_drewN ?_ _ | refine blk_drew ?_ | refine blk_alloc ?_ _)); exact BK463.out⟩
  have n3_ : Aside0 (((((((((w35.setCell ⟨gb465, 0, none⟩ (.int .i64 a0_0)).setCell ⟨gb465, 1, none⟩ (.int .i64 a0_1)).setCell ⟨gb465, 2, none⟩ (.int .i64 a0_2)).setCell ⟨gb465, 3, none⟩ (.bool a0_3)).setCell ⟨gb466, 0, none⟩ (.int .i64 a0_0)).setCell ⟨gb466, 1, none⟩ (.int .i64 a0_1)).setCell ⟨gb466, 2, none⟩ (.int .i64 a0_2)).setCell ⟨gb466, 3, none⟩ (.bool a0_3)).heap[gb465]? = some (.cells #[.int .i64 a0_0, .int .i64 a0_1, .int .i64 a0_2, .bool a0_3] 33 (0, 0))) := ⟨by (with_reducible repeat (first | refine blk_drewN ?_ _ | refine blk_drew ?_ | refine blk_alloc ?_ _)); refine blk_far ?_ NB465_466.out _; (with_reducible repeat (first | refine blk_drewN ?_ _ | refine blk_drew ?_ | refine blk_alloc ?_ _)); refine blk_far ?_ NB465_466.out _; (with_reducible repeat (first | refine blk_drewN ?_ _ | refine blk_drew ?_ | refine blk_alloc ?_ _)); refine blk_far ?_ NB465_466.out _; (with_reducible repeat (first | refine blk_drewN ?_ _ | refine blk_drew ?_ | refine blk_alloc ?_ _)); refine blk_far ?_ NB465_466.out _; (with_reducible repeat (first | refine blk_drewN ?_ _ | refine blk_drew ?_ | refine blk_alloc ?_ _)); refine blk_put (cs := #[.int .i64 a0_0, .int .i64 a0_1, .int .i64 a0_2, .bool false]) ?_ 3 _ rfl; (with_reducible repeat (first | refine blk_drewN ?_ _ | refine blk_drew ?_ | refine blk_alloc ?_ _)); refine blk_put (cs := #[.int .i64 a0_0, .int .i64 a0_1, .int .i64 0, .bool false]) ?_ 2 _ rfl; (with_reducible repeat (first | refine blk_drewN ?_ _ | refine blk_drew ?_ | refine blk_alloc ?_ _)); refine blk_put (cs := #[.int .i64 a0_0, .int .i64 0, .int .i64 0, .bool false]) ?_ 1 _ rfl; (with_reducible repeat (first | refine blk_drewN ?_ _ | refine blk_drew ?_ | refine blk_alloc ?_ _)); refine blk_put (cs := #[.int .i64 0, .int .i64 0, .int .i64 0, .bool false]) ?_ 0 _ rfl; (with_reducible repeat (first | refine blk_drewN ?_ _ | refine blk_drew ?_ | refine blk_alloc ?_ _)); exact BK465.out⟩
  have n4_ : Aside0 (((((((((w35.setCell ⟨gb465, 0, none⟩ (.int .i64 a0_0)).setCell ⟨gb465, 1, none⟩ (.int .i64 a0_1)).setCell ⟨gb465, 2, none⟩ (.int .i64 a0_2)).setCell ⟨gb465, 3, none⟩ (.bool a0_3)).setCell ⟨gb466, 0, none⟩ (.int .i64 a0_0)).setCell ⟨gb466, 1, none⟩ (.int .i64 a0_1)).setCell ⟨gb466, 2, none⟩ (.int .i64 a0_2)).setCell ⟨gb466, 3, none⟩ (.bool a0_3)).heap[gb466]? = some (.cells #[.int .i64 a0_0, .int .i64 a0_1, .int .i64 a0_2, .bool a0_3] 33 (0, 0))) := ⟨by (with_reducible repeat (first | refine blk_drewN ?_ _ | refine blk_drew ?_ | refine blk_alloc ?_ _)); refine blk_put (cs := #[.int .i64 a0_0, .int .i64 a0_1, .int .i64 a0_2, .bool false]) ?_ 3 _ rfl; (with_reducible repeat (first | refine blk_drewN ?_ _ | refine blk_drew ?_ | refine blk_alloc ?_ _)); refine blk_put (cs := #[.int .i64 a0_0, .int .i64 a0_1, .int .i64 0, .bool false]) ?_ 2 _ rfl; (with_reducible repeat (first | refine blk_drewN ?_ _ | refine blk_drew ?_ | refine blk_alloc ?_ _)); refine blk_put (cs := #[.int .i64 a0_0, .int .i64 0, .int .i64 0, .bool false]) ?_ 1 _ rfl; (with_reducible repeat (first | refine blk_drewN ?_ _ | refine blk_drew ?_ | refine blk_alloc ?_ _)); refine blk_put (cs := #[.int .i64 0, .int .i64 0, .int .i64 0, .bool false]) ?_ 0 _ rfl; (with_reducible repeat (first | refine blk_drewN ?_ _ | refine blk_drew ?_ | refine blk_alloc ?_ _)); refine blk_far ?_ NB466_465.out _; (with_reducible repeat (first | refine blk_drewN ?_ _ | refine blk_drew ?_ | refine blk_alloc ?_ _)); refine blk_far ?_ NB466_465.out _; (with_reducible repeat (first | refine blk_drewN ?_ _ | refine blk_drew ?_ | refine blk_alloc ?_ _)); refine blk_far ?_ NB466_465.out _; (with_reducible repeat (first | refine blk_drewN ?_ _ | refine blk_drew ?_ | refine blk_alloc ?_ _)); refine blk_far ?_ NB466_465.out _; (with_reducible repeat (first | refine blk_drewN ?_ _ | refine blk_drew ?_ | refine blk_alloc ?_ _)); exact BK466.out⟩
  have n5_ : Aside0 (Below w.heap.size w ((((((((w35.setCell ⟨gb465, 0, none⟩ (.int .i64 a0_0)).setCell ⟨gb465, 1, none⟩ (.int .i64 a0_1)).setCell ⟨gb465, 2, none⟩ (.int .i64 a0_2)).setCell ⟨gb465, 3, none⟩ (.bool a0_3)).setCell ⟨gb466, 0, none⟩ (.int .i64 a0_0)).setCell ⟨gb466, 1, none⟩ (.int .i64 a0_1)).setCell ⟨gb466, 2, none⟩ (.int .i64 a0_2)).setCell ⟨gb466, 3, none⟩ (.bool a0_3))) := ⟨by repeat (first | (with_reducible first | exact HB.out | apply below_alloc | apply pw_below_drewN | apply below_drew1 | refine below_set ?_ GE461.out | refine below_set ?_ GE462.out | refine below_set ?_ GE463.out | refine below_set ?_ GE465.out | refine below_set ?_ GE466.out) | exact HB.out)⟩
  (try clear BK461)
  (try clear BK462)
  (try clear BK463)
  (try clear BK465)
  (try clear BK466)
  (try clear HB)
  generalize ((((((((w35.setCell ⟨gb465, 0, none⟩ (.int .i64 a0_0)).setCell ⟨gb465, 1, none⟩ (.int .i64 a0_1)).setCell ⟨gb465, 2, none⟩ (.int .i64 a0_2)).setCell ⟨gb465, 3, none⟩ (.bool a0_3)).setCell ⟨gb466, 0, none⟩ (.int .i64 a0_0)).setCell ⟨gb466, 1, none⟩ (.int .i64 a0_1)).setCell ⟨gb466, 2, none⟩ (.int .i64 a0_2)).setCell ⟨gb466, 3, none⟩ (.bool a0_3)) = w35g at n0_ n1_ n2_ n3_ n4_ n5_ ⊢
  have BK461 := n0_
  have BK462 := n1_
  have BK463 := n2_
  have BK465 := n3_
  have BK466 := n4_
  have HB := n5_
  clear n0_ n1_ n2_ n3_ n4_ n5_
  have hnb44 := NB461_462.out
  have hnc44 := NB462_461.out
  have hnb45 := NB461_463.out
  have hnc45 := NB463_461.out
  have hnb46 := NB461_465.out
  have hnc46 := NB465_461.out
  have hnb47 := NB461_466.out
  have hnc47 := NB466_461.out
  obtain ⟨hcz48_0, hcz48_1, hcz48_2, hcz48_3, hfz48_0, hfz48_1, hfz48_2, hfz48_3⟩ := blkc4 BK461.out
  first
  |
   have g_ : (a0_2 == 0) = true := c30b0
   clear g_
   have hnb49 := NB465_462.out
   have hnc49 := NB462_465.out
   have hnb50 := NB465_463.out
   have hnc50 := NB463_465.out
   have hnb51 := NB465_466.out
   have hnc51 := NB466_465.out
   obtain ⟨hcz52_0, hcz52_1, hcz52_2, hcz52_3, hfz52_0, hfz52_1, hfz52_2, hfz52_3⟩ := blkc4 BK465.out
   have hnb53 := NB466_462.out
   have hnc53 := NB462_466.out
   have hnb54 := NB466_463.out
   have hnc54 := NB463_466.out
   obtain ⟨hcz55_0, hcz55_1, hcz55_2, hcz55_3, hfz55_0, hfz55_1, hfz55_2, hfz55_3⟩ := blkc4 BK466.out
   try go_wp2_with (first | ((with_reducible refine gate_callee (f := 60) rfl ?_); refine goesL_ (some 35) rfl rfl Tryd.func60 (by kernel_rfl) rfl #[.int .i64 a0_0, .int .i64 12] rfl au100 ?_; (with_reducible refine (impl_daysInMonth.calls a0_0 12 t467 _ A31.out).mono ?_); rintro e w' ⟨rfl, ⟨nd, rfl⟩⟩; refine ⟨_, rfl, ?_⟩))
   have n0_ : Aside0 ((((((w35g.setCell ⟨gb465, 1, none⟩ (.int .i64 1)).setCell ⟨gb466, 1, none⟩ (.int .i64 12)).drewN nd).setCell ⟨gb465, 2, none⟩ (.int .i64 1)).setCell ⟨gb466, 2, none⟩ (.int .i64 t467)).heap[gb461]? = some (.cells #[.int .i64 a0_0, .int .i64 a0_1, .int .i64 a0_2, .bool a0_3] 33 (0, 0))) := ⟨by (with_reducible repeat (first | refine blk_drewN ?_ _ | refine blk_drew ?_ | refine blk_alloc ?_ _)); refine blk_far ?_ NB461_466.out _; (with_reducible repeat (first | refine blk_drewN ?_ _ | refine blk_drew ?_ | refine blk_alloc ?_ _)); refine blk_far ?_ NB461_465.out _; (with_reducible repeat (first | refine blk_drewN ?_ _ | refine blk_drew ?_ | refine blk_alloc ?_ _)); refine blk_far ?_ NB461_466.out _; (with_reducible repeat (first | refine blk_drewN ?_ _ | refine blk_drew ?_ | refine blk_alloc ?_ _)); refine blk_far ?_ NB461_465.out _; (with_reducible repeat (first | refine blk_drewN ?_ _ | refine blk_drew ?_ | refine blk_alloc ?_ _)); exact BK461.out⟩
   have n1_ : Aside0 ((((((w35g.setCell ⟨gb465, 1, none⟩ (.int .i64 1)).setCell ⟨gb466, 1, none⟩ (.int .i64 12)).drewN nd).setCell ⟨gb465, 2, none⟩ (.int .i64 1)).setCell ⟨gb466, 2, none⟩ (.int .i64 t467)).heap[gb462]? = some (.cells #[.int .i64 0, .int .i64 0, .int .i64 0, .bool false] 33 (0, 0))) := ⟨by (with_reducible repeat (first | refine blk_drewN ?_ _ | refine blk_drew ?_ | refine blk_alloc ?_ _)); refine blk_far ?_ NB462_466.out _; (with_reducible repeat (first | refine blk_drewN ?_ _ | refine blk_drew ?_ | refine blk_alloc ?_ _)); refine blk_far ?_ NB462_465.out _; (with_reducible repeat (first | refine blk_drewN ?_ _ | refine blk_drew ?_ | refine blk_alloc ?_ _)); refine blk_far ?_ NB462_466.out _; (with_reducible repeat (first | refine blk_drewN ?_ _ | refine blk_drew ?_ | refine blk_alloc ?_ _)); refine blk_far ?_ NB462_465.out _; (with_reducible repeat (first | refine blk_drewN ?_ _ | refine blk_drew ?_ | refine blk_alloc ?_ _)); exact BK462.out⟩
   have n2_ : Aside0 ((((((w35g.setCell ⟨gb465, 1, none⟩ (.int .i64 1)).setCell ⟨gb466, 1, none⟩ (.int .i64 12)).drewN nd).setCell ⟨gb465, 2, none⟩ (.int .i64 1)).setCell ⟨gb466, 2, none⟩ (.int .i64 t467)).heap[gb463]? = some (.cells #[.int .i64 0, .int .i64 0, .int .i64 0, .bool false] 33 (0, 0))) := ⟨by (with_reducible repeat (first | refine blk_drewN ?_ _ | refine blk_drew ?_ | refine blk_alloc ?_ _)); refine blk_far ?_ NB463_466.out _; (with_reducible repeat (first | refine blk_drewN ?_ _ | refine blk_drew ?_ | refine blk_alloc ?_ _)); refine blk_far ?_ NB463_465.out _; (with_reducible repeat (first | refine blk_drewN ?_ _ | refine blk_drew ?_ | refine blk_alloc ?_ _)); refine blk_far ?_ NB463_466.out _; (with_reducible repeat (first | refine blk_drewN ?_ _ | refine blk_drew ?_ | refine blk_alloc ?_ _)); refine blk_far ?_ NB463_465.out _; (with_reducible repeat (first | refine blk_drewN ?_ _ | refine blk_drew ?_ | refine blk_alloc ?_ _)); exact BK463.out⟩
   have n3_ : Aside0 ((((((w35g.setCell ⟨gb465, 1, none⟩ (.int .i64 1)).setCell ⟨gb466, 1, none⟩ (.int .i64 12)).drewN nd).setCell ⟨gb465, 2, none⟩ (.int .i64 1)).setCell ⟨gb466, 2, none⟩ (.int .i64 t467)).heap[gb465]? = some (.cells #[.int .i64 a0_0, .int .i64 1, .int .i64 1, .bool a0_3] 33 (0, 0))) := ⟨by (with_reducible repeat (first | refine blk_drewN ?_ _ | refine blk_drew ?_ | refine blk_alloc ?_ _)); refine blk_far ?_ NB465_466.out _; (with_reducible repeat (first | refine blk_drewN ?_ _ | refine blk_drew ?_ | refine blk_alloc ?_ _)); refine blk_put (cs := #[.int .i64 a0_0, .int .i64 1, .int .i64 a0_2, .bool a0_3]) ?_ 2 _ rfl; (with_reducible repeat (first | refine blk_drewN ?_ _ | refine blk_drew ?_ | refine blk_alloc ?_ _)); refine blk_far ?_ NB465_466.out _; (with_reducible repeat (first | refine blk_drewN ?_ _ | refine blk_drew ?_ | refine blk_alloc ?_ _)); refine blk_put (cs := #[.int .i64 a0_0, .int .i64 a0_1, .int .i64 a0_2, .bool a0_3]) ?_ 1 _ rfl; (with_reducible repeat (first | refine blk_drewN ?_ _ | refine blk_drew ?_ | refine blk_alloc ?_ _)); exact BK465.out⟩
   have n4_ : Aside0 ((((((w35g.setCell ⟨gb465, 1, none⟩ (.int .i64 1)).setCell ⟨gb466, 1, none⟩ (.int .i64 12)).drewN nd).setCell ⟨gb465, 2, none⟩ (.int .i64 1)).setCell ⟨gb466, 2, none⟩ (.int .i64 t467)).heap[gb466]? = some (.cells #[.int .i64 a0_0, .int .i64 12, .int .i64 t467, .bool a0_3] 33 (0, 0))) := ⟨by (with_reducible repeat (first | refine blk_drewN ?_ _ | refine blk_drew ?_ | refine blk_alloc ?_ _)); refine blk_put (cs := #[.int .i64 a0_0, .int .i64 12, .int .i64 a0_2, .bool a0_3]) ?_ 2 _ rfl; (with_reducible repeat (first | refine blk_drewN ?_ _ | refine blk_drew ?_ | refine blk_alloc ?_ _)); refine blk_far ?_ NB466_465.out _; (with_reducible repeat (first | refine blk_drewN ?_ _ | refine blk_drew ?_ | refine blk_alloc ?_ _)); refine blk_put (cs := #[.int .i64 a0_0, .int .i64 a0_1, .int .i64 a0_2, .bool a0_3]) ?_ 1 _ rfl; (with_reducible repeat (first | refine blk_drewN ?_ _ | refine blk_drew ?_ | refine blk_alloc ?_ _)); refine blk_far ?_ NB466_465.out _; (with_reducible repeat (first | refine blk_drewN ?_ _ | refine blk_drew ?_ | refine blk_alloc ?_ _)); exact BK466.out⟩
   have n5_ : Aside0 (Below w.heap.size w (((((w35g.setCell ⟨gb465, 1, none⟩ (.int .i64 1)).setCell ⟨gb466, 1, none⟩ (.int .i64 12)).drewN nd).setCell ⟨gb465, 2, none⟩ (.int .i64 1)).setCell ⟨gb466, 2, none⟩ (.int .i64 t467))) := ⟨by repeat (first | (with_reducible first | exact HB.out | apply below_alloc | apply pw_below_drewN | apply below_drew1 | refine below_set ?_ GE461.out | refine below_set ?_ GE462.out | refine below_set ?_ GE463.out | refine below_set ?_ GE465.out | refine below_set ?_ GE466.out) | exact HB.out)⟩
   (try clear BK461)
   (try clear BK462)
   (try clear BK463)
   (try clear BK465)
   (try clear BK466)
   (try clear HB)
   generalize (((((w35g.setCell ⟨gb465, 1, none⟩ (.int .i64 1)).setCell ⟨gb466, 1, none⟩ (.int .i64 12)).drewN nd).setCell ⟨gb465, 2, none⟩ (.int .i64 1)).setCell ⟨gb466, 2, none⟩ (.int .i64 t467)) = w56 at n0_ n1_ n2_ n3_ n4_ n5_ ⊢
   have BK461 := n0_
   have BK462 := n1_
   have BK463 := n2_
   have BK465 := n3_
   have BK466 := n4_
   have HB := n5_
   clear n0_ n1_ n2_ n3_ n4_ n5_
   (try (rw [drewN_self w56]; generalize hq_ : World.drewN w56 _ = w56; have n0_ : Aside0 (w56.heap[gb461]? = some (.cells #[.int .i64 a0_0, .int .i64 a0_1, .int .i64 a0_2, .bool a0_3] 33 (0, 0))) := ⟨by rw [← hq_]; exact au131⟩; have n1_ : Aside0 (w56.heap[gb462]? = some (.cells #[.int .i64 0, .int .i64 0, .int .i64 0, .bool false] 33 (0, 0))) := ⟨by rw [← hq_]; exact au132⟩; have n2_ : Aside0 (w56.heap[gb463]? = some (.cells #[.int .i64 0, .int .i64 0, .int .i64 0, .bool false] 33 (0, 0))) := ⟨by rw [← hq_]; exact au133⟩; have n3_ : Aside0 (w56.heap[gb465]? = some (.cells #[.int .i64 a0_0, .int .i64 1, .int .i64 1, .bool a0_3] 33 (0, 0))) := ⟨by rw [← hq_]; exact au134⟩; have n4_ : Aside0 (w56.heap[gb466]? = some (.cells #[.int .i64 a0_0, .int .i64 12, .int .i64 t467, .bool a0_3] 33 (0, 0))) := ⟨by rw [← hq_]; exact au135⟩; have n5_ : Aside0 (Below w.heap.size w w56) := ⟨by rw [← hq_]; exact au43⟩; clear BK461 BK462 BK463 BK465 BK466 HB hq_; have BK461 := n0_; have BK462 := n1_; have BK463 := n2_; have BK465 := n3_; have BK466 := n4_; have HB := n5_; clear n0_ n1_ n2_ n3_ n4_ n5_))
   replace BK461 := Aside0.mk (blk_drew BK461.out)
   replace BK462 := Aside0.mk (blk_drew BK462.out)
   replace BK463 := Aside0.mk (blk_drew BK463.out)
   replace BK465 := Aside0.mk (blk_drew BK465.out)
   replace BK466 := Aside0.mk (blk_drew BK466.out)
   replace HB := Aside0.mk (below_drew1 HB.out)
   refine start_ (n := 5) (S := fun w' => w'.cell? ⟨gb465, 0, none⟩ = some (.int .i64 a0_0) ∧ w'.cell? ⟨gb465, 1, none⟩ = some (.int .i64 1) ∧ w'.cell? ⟨gb465, 2, none⟩ = some (.int .i64 1) ∧ w'.cell? ⟨gb465, 3, none⟩ = some (.bool a0_3) ∧ w'.cell? ⟨gb466, 0, none⟩ = some (.int .i64 a0_0) ∧ w'.cell? ⟨gb466, 1, none⟩ = some (.int .i64 12) ∧ w'.cell? ⟨gb466, 2, none⟩ = some (.int .i64 t467) ∧ w'.cell? ⟨gb466, 3, none⟩ = some (.bool a0_3)) (ds := []) #[false, false, false, false, false] (by kernel_rfl) rfl rfl ⟨(blk_cell BK465.out 0).trans rfl, (blk_cell BK465.out 1).trans rfl, (blk_cell BK465.out 2).trans rfl, (blk_cell BK465.out 3).trans rfl, (blk_cell BK466.out 0).trans rfl, (blk_cell BK466.out 1).trans rfl, (blk_cell BK466.out 2).trans rfl, (blk_cell BK466.out 3).trans rfl⟩ (fun hHeld => ?_)
   generalize w56.drew = w57 at BK461 BK462 BK463 BK465 BK466 HB hHeld ⊢
   refine take_ (i := 0) (N := some 38) (v := ?_) (a' := ?_) #[true, false, false, false, false] rfl rfl (by kernel_rfl) (fun _ _ _ h => h) (Or.inl ⟨by rfl, ?_⟩) hHeld ?_ ?_
   rotate_left
   ·
    rintro w' ⟨s0, s1, s2, s3, s4, s5, s6, s7⟩
    go_simp
    with_reducible rfl
   rotate_left
   ·
    simp only [Act.put, List.setIfInBounds_toArray, List.set_cons_zero, List.set_cons_succ, i64_w, i32_w]
    rfl
   refine take_ (i := 1) (N := some 39) (v := ?_) (a' := ?_) #[true, true, false, false, false] rfl rfl (by kernel_rfl) (fun _ _ _ h => h) (Or.inl ⟨by rfl, ?_⟩) hHeld ?_ ?_
   rotate_left
   ·
    rintro w' ⟨s0, s1, s2, s3, s4, s5, s6, s7⟩
    go_simp
    with_reducible rfl
   rotate_left
   ·
    simp only [Act.put, List.setIfInBounds_toArray, List.set_cons_zero, List.set_cons_succ, i64_w, i32_w]
    rfl
   refine one_ (i := 2) (N := none) #[true, true, true, false, false] rfl rfl (by kernel_rfl) (by decide) (fun K hK => ?_)
   have hs58 : w57.cell? ⟨gb462, 0, none⟩ = some (.int .i64 0) := (blk_cell BK462.out 0).trans rfl
   have hfs58 := blk_frozen BK462.out 0
   have hns58_0 := NB461_462.out
   have hns58_2 := NB463_462.out
   have hns58_3 := NB465_462.out
   have hns58_4 := NB466_462.out
   have hms58_0 := NB462_461.out
   have hms58_2 := NB462_463.out
   have hms58_3 := NB462_465.out
   have hms58_4 := NB462_466.out
   have hs59 : w57.cell? ⟨gb462, 1, none⟩ = some (.int .i64 0) := (blk_cell BK462.out 1).trans rfl
   have hfs59 := blk_frozen BK462.out 1
   have hns59_0 := NB461_462.out
   have hns59_2 := NB463_462.out
   have hns59_3 := NB465_462.out
   have hns59_4 := NB466_462.out
   have hms59_0 := NB462_461.out
   have hms59_2 := NB462_463.out
   have hms59_3 := NB462_465.out
   have hms59_4 := NB462_466.out
   have hs60 : w57.cell? ⟨gb462, 2, none⟩ = some (.int .i64 0) := (blk_cell BK462.out 2).trans rfl
   have hfs60 := blk_frozen BK462.out 2
   have hns60_0 := NB461_462.out
   have hns60_2 := NB463_462.out
   have hns60_3 := NB465_462.out
   have hns60_4 := NB466_462.out
   have hms60_0 := NB462_461.out
   have hms60_2 := NB462_463.out
   have hms60_3 := NB462_465.out
   have hms60_4 := NB462_466.out
   have hs61 : w57.cell? ⟨gb462, 3, none⟩ = some (.bool false) := (blk_cell BK462.out 3).trans rfl
   have hfs61 := blk_frozen BK462.out 3
   have hns61_0 := NB461_462.out
   have hns61_2 := NB463_462.out
   have hns61_3 := NB465_462.out
   have hns61_4 := NB466_462.out
   have hms61_0 := NB462_461.out
   have hms61_2 := NB462_463.out
   have hms61_3 := NB462_465.out
   have hms61_4 := NB462_466.out
   refine skip_ (w1 := ?_) (by rfl) rfl ?_ ?_
   rotate_left
   ·
    go_simp
    rfl
   refine hK.out _ _ ⟨((cell_far (p := ⟨gb462, _, none⟩) NB465_462.out _).trans (((cell_far (p := ⟨gb462, _, none⟩) NB465_462.out _).trans (((cell_far (p := ⟨gb462, _, none⟩) NB465_462.out _).trans (((cell_far (p := ⟨gb462, _, none⟩) NB465_462.out _).trans (hHeld.1)))))))), ((cell_far (p := ⟨gb462, _, none⟩) NB465_462.out _).trans (((cell_far (p := ⟨gb462, _, none⟩) NB465_462.out _).trans (((cell_far (p := ⟨gb462, _, none⟩) NB465_462.out _).trans (((cell_far (p := ⟨gb462, _, none⟩) NB465_462.out _).trans (hHeld.2.1)))))))), ((cell_far (p := ⟨gb462, _, none⟩) NB465_462.out _).trans (((cell_far (p := ⟨gb462, _, none⟩) NB465_462.out _).trans (((cell_far (p := ⟨gb462, _, none⟩) NB465_462.out _).trans (((cell_far (p := ⟨gb462, _, none⟩) NB465_462.out _).trans (hHeld.2.2.1)))))))), ((cell_far (p := ⟨gb462, _, none⟩) NB465_462.out _).trans (((cell_far (p := ⟨gb462, _, none⟩) NB465_462.out _).trans (((cell_far (p := ⟨gb462, _, none⟩) NB465_462.out _).trans (((cell_far (p := ⟨gb462, _, none⟩) NB465_462.out _).trans (hHeld.2.2.2.1)))))))), ((cell_far (p := ⟨gb462, _, none⟩) NB466_462.out _).trans (((cell_far (p := ⟨gb462, _, none⟩) NB466_462.out _).trans (((cell_far (p := ⟨gb462, _, none⟩) NB466_462.out _).trans (((cell_far (p := ⟨gb462, _, none⟩) NB466_462.out _).trans (hHeld.2.2.2.2.1)))))))), ((cell_far (p := ⟨gb462, _, none⟩) NB466_462.out _).trans (((cell_far (p := ⟨gb462, _, none⟩) NB466_462.out _).trans (((cell_far (p := ⟨gb462, _, none⟩) NB466_462.out _).trans (((cell_far (p := ⟨gb462, _, none⟩) NB466_462.out _).trans (hHeld.2.2.2.2.2.1)))))))), ((cell_far (p := ⟨gb462, _, none⟩) NB466_462.out _).trans (((cell_far (p := ⟨gb462, _, none⟩) NB466_462.out _).trans (((cell_far (p := ⟨gb462, _, none⟩) NB466_462.out _).trans (((cell_far (p := ⟨gb462, _, none⟩) NB466_462.out _).trans (hHeld.2.2.2.2.2.2.1)))))))), ((cell_far (p := ⟨gb462, _, none⟩) NB466_462.out _).trans (((cell_far (p := ⟨gb462, _, none⟩) NB466_462.out _).trans (((cell_far (p := ⟨gb462, _, none⟩) NB466_462.out _).trans (((cell_far (p := ⟨gb462, _, none⟩) NB466_462.out _).trans (hHeld.2.2.2.2.2.2.2))))))))⟩ (fun hHeld => ?_)
   clear hK K
   refine one_ (i := 3) (N := none) #[true, true, true, true, false] rfl rfl (by kernel_rfl) (by decide) (fun K hK => ?_)
   have hs62 : w57.cell? ⟨gb463, 0, none⟩ = some (.int .i64 0) := (blk_cell BK463.out 0).trans rfl
   have hfs62 := blk_frozen BK463.out 0
   have hns62_0 := NB461_463.out
   have hns62_1 := NB462_463.out
   have hns62_3 := NB465_463.out
   have hns62_4 := NB466_463.out
   have hms62_0 := NB463_461.out
   have hms62_1 := NB463_462.out
   have hms62_3 := NB463_465.out
   have hms62_4 := NB463_466.out
   have hs63 : w57.cell? ⟨gb463, 1, none⟩ = some (.int .i64 0) := (blk_cell BK463.out 1).trans rfl
   have hfs63 := blk_frozen BK463.out 1
   have hns63_0 := NB461_463.out
   have hns63_1 := NB462_463.out
   have hns63_3 := NB465_463.out
   have hns63_4 := NB466_463.out
   have hms63_0 := NB463_461.out
   have hms63_1 := NB463_462.out
   have hms63_3 := NB463_465.out
   have hms63_4 := NB463_466.out
   have hs64 : w57.cell? ⟨gb463, 2, none⟩ = some (.int .i64 0) := (blk_cell BK463.out 2).trans rfl
   have hfs64 := blk_frozen BK463.out 2
   have hns64_0 := NB461_463.out
   have hns64_1 := NB462_463.out
   have hns64_3 := NB465_463.out
   have hns64_4 := NB466_463.out
   have hms64_0 := NB463_461.out
   have hms64_1 := NB463_462.out
   have hms64_3 := NB463_465.out
   have hms64_4 := NB463_466.out
   have hs65 : w57.cell? ⟨gb463, 3, none⟩ = some (.bool false) := (blk_cell BK463.out 3).trans rfl
   have hfs65 := blk_frozen BK463.out 3
   have hns65_0 := NB461_463.out
   have hns65_1 := NB462_463.out
   have hns65_3 := NB465_463.out
   have hns65_4 := NB466_463.out
   have hms65_0 := NB463_461.out
   have hms65_1 := NB463_462.out
   have hms65_3 := NB463_465.out
   have hms65_4 := NB463_466.out
   refine skip_ (w1 := ?_) (by rfl) rfl ?_ ?_
   rotate_left
   ·
    go_simp
    rfl
   refine hK.out _ _ ⟨((cell_far (p := ⟨gb463, _, none⟩) NB465_463.out _).trans (((cell_far (p := ⟨gb463, _, none⟩) NB465_463.out _).trans (((cell_far (p := ⟨gb463, _, none⟩) NB465_463.out _).trans (((cell_far (p := ⟨gb463, _, none⟩) NB465_463.out _).trans (hHeld.1)))))))), ((cell_far (p := ⟨gb463, _, none⟩) NB465_463.out _).trans (((cell_far (p := ⟨gb463, _, none⟩) NB465_463.out _).trans (((cell_far (p := ⟨gb463, _, none⟩) NB465_463.out _).trans (((cell_far (p := ⟨gb463, _, none⟩) NB465_463.out _).trans (hHeld.2.1)))))))), ((cell_far (p := ⟨gb463, _, none⟩) NB465_463.out _).trans (((cell_far (p := ⟨gb463, _, none⟩) NB465_463.out _).trans (((cell_far (p := ⟨gb463, _, none⟩) NB465_463.out _).trans (((cell_far (p := ⟨gb463, _, none⟩) NB465_463.out _).trans (hHeld.2.2.1)))))))), ((cell_far (p := ⟨gb463, _, none⟩) NB465_463.out _).trans (((cell_far (p := ⟨gb463, _, none⟩) NB465_463.out _).trans (((cell_far (p := ⟨gb463, _, none⟩) NB465_463.out _).trans (((cell_far (p := ⟨gb463, _, none⟩) NB465_463.out _).trans (hHeld.2.2.2.1)))))))), ((cell_far (p := ⟨gb463, _, none⟩) NB466_463.out _).trans (((cell_far (p := ⟨gb463, _, none⟩) NB466_463.out _).trans (((cell_far (p := ⟨gb463, _, none⟩) NB466_463.out _).trans (((cell_far (p := ⟨gb463, _, none⟩) NB466_463.out _).trans (hHeld.2.2.2.2.1)))))))), ((cell_far (p := ⟨gb463, _, none⟩) NB466_463.out _).trans (((cell_far (p := ⟨gb463, _, none⟩) NB466_463.out _).trans (((cell_far (p := ⟨gb463, _, none⟩) NB466_463.out _).trans (((cell_far (p := ⟨gb463, _, none⟩) NB466_463.out _).trans (hHeld.2.2.2.2.2.1)))))))), ((cell_far (p := ⟨gb463, _, none⟩) NB466_463.out _).trans (((cell_far (p := ⟨gb463, _, none⟩) NB466_463.out _).trans (((cell_far (p := ⟨gb463, _, none⟩) NB466_463.out _).trans (((cell_far (p := ⟨gb463, _, none⟩) NB466_463.out _).trans (hHeld.2.2.2.2.2.2.1)))))))), ((cell_far (p := ⟨gb463, _, none⟩) NB466_463.out _).trans (((cell_far (p := ⟨gb463, _, none⟩) NB466_463.out _).trans (((cell_far (p := ⟨gb463, _, none⟩) NB466_463.out _).trans (((cell_far (p := ⟨gb463, _, none⟩) NB466_463.out _).trans (hHeld.2.2.2.2.2.2.2))))))))⟩ (fun hHeld => ?_)
   clear hK K
   refine pure_ (i := 4) (N := some 4) (v := ?_) (a' := ?_) #[true, true, true, true, true] rfl rfl (by kernel_rfl) (fun _ _ _ h => h) (Or.inl ⟨by rfl, ?_⟩) ?_ ?_
   rotate_left
   ·
    intro w'
    go_simp
    with_reducible rfl
   rotate_left
   ·
    simp only [Act.put, List.setIfInBounds_toArray, List.set_cons_zero, List.set_cons_succ, i64_w, i32_w]
    rfl
   refine done_ (by kernel_rfl) ?_
   try go_wp2
   refine bodyPost_ret (results_list (rs := [.cell 2 33, .cell 3 33, .tmp 4]) rfl (by simp) (.cell gb462 33 #[.int .i64 a0_0, .int .i64 1, .int .i64 1, .bool a0_3] (0, 0) _ rfl (by (with_reducible repeat (first | refine blk_drewN ?_ _ | refine blk_drew ?_ | refine blk_alloc ?_ _)); refine blk_far ?_ NB462_463.out _; (with_reducible repeat (first | refine blk_drewN ?_ _ | refine blk_drew ?_ | refine blk_alloc ?_ _)); refine blk_far ?_ NB462_463.out _; (with_reducible repeat (first | refine blk_drewN ?_ _ | refine blk_drew ?_ | refine blk_alloc ?_ _)); refine blk_far ?_ NB462_463.out _; (with_reducible repeat (first | refine blk_drewN ?_ _ | refine blk_drew ?_ | refine blk_alloc ?_ _)); refine blk_far ?_ NB462_463.out _; (with_reducible repeat (first | refine blk_drewN ?_ _ | refine blk_drew ?_ | refine blk_alloc ?_ _)); refine blk_put (cs := #[.int .i64 a0_0, .int .i64 1, .int .i64 1, .bool false]) ?_ 3 _ rfl; (with_reducible repeat (first | refine blk_drewN ?_ _ | refine blk_drew ?_ | refine blk_alloc ?_ _)); refine blk_put (cs := #[.int .i64 a0_0, .int .i64 1, .int .i64 0, .bool false]) ?_ 2 _ rfl; (with_reducible repeat (first | refine blk_drewN ?_ _ | refine blk_drew ?_ | refine blk_alloc ?_ _)); refine blk_put (cs := #[.int .i64 a0_0, .int .i64 0, .int .i64 0, .bool false]) ?_ 1 _ rfl; (with_reducible repeat (first | refine blk_drewN ?_ _ | refine blk_drew ?_ | refine blk_alloc ?_ _)); refine blk_put (cs := #[.int .i64 0, .int .i64 0, .int .i64 0, .bool false]) ?_ 0 _ rfl; (with_reducible repeat (first | refine blk_drewN ?_ _ | refine blk_drew ?_ | refine blk_alloc ?_ _)); exact BK462.out) Tryd.underlying33 rfl (by kernel_rfl) (.cell gb463 33 #[.int .i64 a0_0, .int .i64 12, .int .i64 t467, .bool a0_3] (0, 0) _ rfl (by (with_reducible repeat (first | refine blk_drewN ?_ _ | refine blk_drew ?_ | refine blk_alloc ?_ _)); refine blk_put (cs := #[.int .i64 a0_0, .int .i64 12, .int .i64 t467, .bool false]) ?_ 3 _ rfl; (with_reducible repeat (first | refine blk_drewN ?_ _ | refine blk_drew ?_ | refine blk_alloc ?_ _)); refine blk_put (cs := #[.int .i64 a0_0, .int .i64 12, .int .i64 0, .bool false]) ?_ 2 _ rfl; (with_reducible repeat (first | refine blk_drewN ?_ _ | refine blk_drew ?_ | refine blk_alloc ?_ _)); refine blk_put (cs := #[.int .i64 a0_0, .int .i64 0, .int .i64 0, .bool false]) ?_ 1 _ rfl; (with_reducible repeat (first | refine blk_drewN ?_ _ | refine blk_drew ?_ | refine blk_alloc ?_ _)); refine blk_put (cs := #[.int .i64 0, .int .i64 0, .int .i64 0, .bool false]) ?_ 0 _ rfl; (with_reducible repeat (first | refine blk_drewN ?_ _ | refine blk_drew ?_ | refine blk_alloc ?_ _)); refine blk_far ?_ NB463_462.out _; (with_reducible repeat (first | refine blk_drewN ?_ _ | refine blk_drew ?_ | refine blk_alloc ?_ _)); refine blk_far ?_ NB463_462.out _; (with_reducible repeat (first | refine blk_drewN ?_ _ | refine blk_drew ?_ | refine blk_alloc ?_ _)); refine blk_far ?_ NB463_462.out _; (with_reducible repeat (first | refine blk_drewN ?_ _ | refine blk_drew ?_ | refine blk_alloc ?_ _)); refine blk_far ?_ NB463_462.out _; (with_reducible repeat (first | refine blk_drewN ?_ _ | refine blk_drew ?_ | refine blk_alloc ?_ _)); exact BK463.out) Tryd.underlying33 rfl (by kernel_rfl) (.tmp .nil)))) rfl ?_
   exact ax17
  |
   have g_ : (a0_2 == 0) = true := c100b0
   clear g_
   have hnb119 := NB466_462.out
   have hnc119 := NB462_466.out
   have hnb120 := NB466_463.out
   have hnc120 := NB463_466.out
   have hnb121 := NB466_465.out
   have hnc121 := NB465_466.out
   obtain ⟨hcz122_0, hcz122_1, hcz122_2, hcz122_3, hfz122_0, hfz122_1, hfz122_2, hfz122_3⟩ := blkc4 BK466.out
   try go_wp2_with (first | ((with_reducible refine gate_callee (f := 60) rfl ?_); refine goesL_ (some 35) rfl rfl Tryd.func60 (by kernel_rfl) rfl #[.int .i64 a0_0, .int .i64 a0_1] rfl au100 ?_; (with_reducible refine (impl_daysInMonth.calls a0_0 a0_1 t468 _ A101.out).mono ?_); rintro e w' ⟨rfl, ⟨nd, rfl⟩⟩; refine ⟨_, rfl, ?_⟩; have hnb123 := NB465_462.out; have hnc123 := NB462_465.out; have hnb124 := NB465_463.out; have hnc124 := NB463_465.out; obtain ⟨hcz125_0, hcz125_1, hcz125_2, hcz125_3, hfz125_0, hfz125_1, hfz125_2, hfz125_3⟩ := blkc4 BK465.out))
   have n0_ : Aside0 ((((w35g.drewN nd).setCell ⟨gb465, 2, none⟩ (.int .i64 1)).setCell ⟨gb466, 2, none⟩ (.int .i64 t468)).heap[gb461]? = some (.cells #[.int .i64 a0_0, .int .i64 a0_1, .int .i64 a0_2, .bool a0_3] 33 (0, 0))) := ⟨by (with_reducible repeat (first | refine blk_drewN ?_ _ | refine blk_drew ?_ | refine blk_alloc ?_ _)); refine blk_far ?_ NB461_466.out _; (with_reducible repeat (first | refine blk_drewN ?_ _ | refine blk_drew ?_ | refine blk_alloc ?_ _)); refine blk_far ?_ NB461_465.out _; (with_reducible repeat (first | refine blk_drewN ?_ _ | refine blk_drew ?_ | refine blk_alloc ?_ _)); exact BK461.out⟩
   have n1_ : Aside0 ((((w35g.drewN nd).setCell ⟨gb465, 2, none⟩ (.int .i64 1)).setCell ⟨gb466, 2, none⟩ (.int .i64 t468)).heap[gb462]? = some (.cells #[.int .i64 0, .int .i64 0, .int .i64 0, .bool false] 33 (0, 0))) := ⟨by (with_reducible repeat (first | refine blk_drewN ?_ _ | refine blk_drew ?_ | refine blk_alloc ?_ _)); refine blk_far ?_ NB462_466.out _; (with_reducible repeat (first | refine blk_drewN ?_ _ | refine blk_drew ?_ | refine blk_alloc ?_ _)); refine blk_far ?_ NB462_465.out _; (with_reducible repeat (first | refine blk_drewN ?_ _ | refine blk_drew ?_ | refine blk_alloc ?_ _)); exact BK462.out⟩
   have n2_ : Aside0 ((((w35g.drewN nd).setCell ⟨gb465, 2, none⟩ (.int .i64 1)).setCell ⟨gb466, 2, none⟩ (.int .i64 t468)).heap[gb463]? = some (.cells #[.int .i64 0, .int .i64 0, .int .i64 0, .bool false] 33 (0, 0))) := ⟨by (with_reducible repeat (first | refine blk_drewN ?_ _ | refine blk_drew ?_ | refine blk_alloc ?_ _)); refine blk_far ?_ NB463_466.out _; (with_reducible repeat (first | refine blk_drewN ?_ _ | refine blk_drew ?_ | refine blk_alloc ?_ _)); refine blk_far ?_ NB463_465.out _; (with_reducible repeat (first | refine blk_drewN ?_ _ | refine blk_drew ?_ | refine blk_alloc ?_ _)); exact BK463.out⟩
   have n3_ : Aside0 ((((w35g.drewN nd).setCell ⟨gb465, 2, none⟩ (.int .i64 1)).setCell ⟨gb466, 2, none⟩ (.int .i64 t468)).heap[gb465]? = some (.cells #[.int .i64 a0_0, .int .i64 a0_1, .int .i64 1, .bool a0_3] 33 (0, 0))) := ⟨by (with_reducible repeat (first | refine blk_drewN ?_ _ | refine blk_drew ?_ | refine blk_alloc ?_ _)); refine blk_far ?_ NB465_466.out _; (with_reducible repeat (first | refine blk_drewN ?_ _ | refine blk_drew ?_ | refine blk_alloc ?_ _)); refine blk_put (cs := #[.int .i64 a0_0, .int .i64 a0_1, .int .i64 a0_2, .bool a0_3]) ?_ 2 _ rfl; (with_reducible repeat (first | refine blk_drewN ?_ _ | refine blk_drew ?_ | refine blk_alloc ?_ _)); exact BK465.out⟩
   have n4_ : Aside0 ((((w35g.drewN nd).setCell ⟨gb465, 2, none⟩ (.int .i64 1)).setCell ⟨gb466, 2, none⟩ (.int .i64 t468)).heap[gb466]? = some (.cells #[.int .i64 a0_0, .int .i64 a0_1, .int .i64 t468, .bool a0_3] 33 (0, 0))) := ⟨by (with_reducible repeat (first | refine blk_drewN ?_ _ | refine blk_drew ?_ | refine blk_alloc ?_ _)); refine blk_put (cs := #[.int .i64 a0_0, .int .i64 a0_1, .int .i64 a0_2, .bool a0_3]) ?_ 2 _ rfl; (with_reducible repeat (first | refine blk_drewN ?_ _ | refine blk_drew ?_ | refine blk_alloc ?_ _)); refine blk_far ?_ NB466_465.out _; (with_reducible repeat (first | refine blk_drewN ?_ _ | refine blk_drew ?_ | refine blk_alloc ?_ _)); exact BK466.out⟩
   have n5_ : Aside0 (Below w.heap.size w (((w35g.drewN nd).setCell ⟨gb465, 2, none⟩ (.int .i64 1)).setCell ⟨gb466, 2, none⟩ (.int .i64 t468))) := ⟨by repeat (first | (with_reducible first | exact HB.out | apply below_alloc | apply pw_below_drewN | apply below_drew1 | refine below_set ?_ GE461.out | refine below_set ?_ GE462.out | refine below_set ?_ GE463.out | refine below_set ?_ GE465.out | refine below_set ?_ GE466.out) | exact HB.out)⟩
   (try clear BK461)
   (try clear BK462)
   (try clear BK463)
   (try clear BK465)
   (try clear BK466)
   (try clear HB)
   generalize (((w35g.drewN nd).setCell ⟨gb465, 2, none⟩ (.int .i64 1)).setCell ⟨gb466, 2, none⟩ (.int .i64 t468)) = w126 at n0_ n1_ n2_ n3_ n4_ n5_ ⊢
   have BK461 := n0_
   have BK462 := n1_
   have BK463 := n2_
   have BK465 := n3_
   have BK466 := n4_
   have HB := n5_
   clear n0_ n1_ n2_ n3_ n4_ n5_
   (try (rw [drewN_self w126]; generalize hq_ : World.drewN w126 _ = w126; have n0_ : Aside0 (w126.heap[gb461]? = some (.cells #[.int .i64 a0_0, .int .i64 a0_1, .int .i64 a0_2, .bool a0_3] 33 (0, 0))) := ⟨by rw [← hq_]; exact au131⟩; have n1_ : Aside0 (w126.heap[gb462]? = some (.cells #[.int .i64 0, .int .i64 0, .int .i64 0, .bool false] 33 (0, 0))) := ⟨by rw [← hq_]; exact au132⟩; have n2_ : Aside0 (w126.heap[gb463]? = some (.cells #[.int .i64 0, .int .i64 0, .int .i64 0, .bool false] 33 (0, 0))) := ⟨by rw [← hq_]; exact au133⟩; have n3_ : Aside0 (w126.heap[gb465]? = some (.cells #[.int .i64 a0_0, .int .i64 a0_1, .int .i64 1, .bool a0_3] 33 (0, 0))) := ⟨by rw [← hq_]; exact au134⟩; have n4_ : Aside0 (w126.heap[gb466]? = some (.cells #[.int .i64 a0_0, .int .i64 a0_1, .int .i64 t468, .bool a0_3] 33 (0, 0))) := ⟨by rw [← hq_]; exact au135⟩; have n5_ : Aside0 (Below w.heap.size w w126) := ⟨by rw [← hq_]; exact au43⟩; clear BK461 BK462 BK463 BK465 BK466 HB hq_; have BK461 := n0_; have BK462 := n1_; have BK463 := n2_; have BK465 := n3_; have BK466 := n4_; have HB := n5_; clear n0_ n1_ n2_ n3_ n4_ n5_))
   replace BK461 := Aside0.mk (blk_drew BK461.out)
   replace BK462 := Aside0.mk (blk_drew BK462.out)
   replace BK463 := Aside0.mk (blk_drew BK463.out)
   replace BK465 := Aside0.mk (blk_drew BK465.out)
   replace BK466 := Aside0.mk (blk_drew BK466.out)
   replace HB := Aside0.mk (below_drew1 HB.out)
   refine start_ (n := 5) (S := fun w' => w'.cell? ⟨gb465, 0, none⟩ = some (.int .i64 a0_0) ∧ w'.cell? ⟨gb465, 1, none⟩ = some (.int .i64 a0_1) ∧ w'.cell? ⟨gb465, 2, none⟩ = some (.int .i64 1) ∧ w'.cell? ⟨gb465, 3, none⟩ = some (.bool a0_3) ∧ w'.cell? ⟨gb466, 0, none⟩ = some (.int .i64 a0_0) ∧ w'.cell? ⟨gb466, 1, none⟩ = some (.int .i64 a0_1) ∧ w'.cell? ⟨gb466, 2, none⟩ = some (.int .i64 t468) ∧ w'.cell? ⟨gb466, 3, none⟩ = some (.bool a0_3)) (ds := []) #[false, false, false, false, false] (by kernel_rfl) rfl rfl ⟨(blk_cell BK465.out 0).trans rfl, (blk_cell BK465.out 1).trans rfl, (blk_cell BK465.out 2).trans rfl, (blk_cell BK465.out 3).trans rfl, (blk_cell BK466.out 0).trans rfl, (blk_cell BK466.out 1).trans rfl, (blk_cell BK466.out 2).trans rfl, (blk_cell BK466.out 3).trans rfl⟩ (fun hHeld => ?_)
   generalize w126.drew = w127 at BK461 BK462 BK463 BK465 BK466 HB hHeld ⊢
   refine take_ (i := 0) (N := some 38) (v := ?_) (a' := ?_) #[true, false, false, false, false] rfl rfl (by kernel_rfl) (fun _ _ _ h => h) (Or.inl ⟨by rfl, ?_⟩) hHeld ?_ ?_
   rotate_left
   ·
    rintro w' ⟨s0, s1, s2, s3, s4, s5, s6, s7⟩
    go_simp
    with_reducible rfl
   rotate_left
   ·
    simp only [Act.put, List.setIfInBounds_toArray, List.set_cons_zero, List.set_cons_succ, i64_w, i32_w]
    rfl
   refine take_ (i := 1) (N := some 39) (v := ?_) (a' := ?_) #[true, true, false, false, false] rfl rfl (by kernel_rfl) (fun _ _ _ h => h) (Or.inl ⟨by rfl, ?_⟩) hHeld ?_ ?_
   rotate_left
   ·
    rintro w' ⟨s0, s1, s2, s3, s4, s5, s6, s7⟩
    go_simp
    with_reducible rfl
   rotate_left
   ·
    simp only [Act.put, List.setIfInBounds_toArray, List.set_cons_zero, List.set_cons_succ, i64_w, i32_w]
    rfl
   refine one_ (i := 2) (N := none) #[true, true, true, false, false] rfl rfl (by kernel_rfl) (by decide) (fun K hK => ?_)
   have hs128 : w127.cell? ⟨gb462, 0, none⟩ = some (.int .i64 0) := (blk_cell BK462.out 0).trans rfl
   have hfs128 := blk_frozen BK462.out 0
   have hns128_0 := NB461_462.out
   have hns128_2 := NB463_462.out
   have hns128_3 := NB465_462.out
   have hns128_4 := NB466_462.out
   have hms128_0 := NB462_461.out
   have hms128_2 := NB462_463.out
   have hms128_3 := NB462_465.out
   have hms128_4 := NB462_466.out
   have hs129 : w127.cell? ⟨gb462, 1, none⟩ = some (.int .i64 0) := (blk_cell BK462.out 1).trans rfl
   have hfs129 := blk_frozen BK462.out 1
   have hns129_0 := NB461_462.out
   have hns129_2 := NB463_462.out
   have hns129_3 := NB465_462.out
   have hns129_4 := NB466_462.out
   have hms129_0 := NB462_461.out
   have hms129_2 := NB462_463.out
   have hms129_3 := NB462_465.out
   have hms129_4 := NB462_466.out
   have hs130 : w127.cell? ⟨gb462, 2, none⟩ = some (.int .i64 0) := (blk_cell BK462.out 2).trans rfl
   have hfs130 := blk_frozen BK462.out 2
   have hns130_0 := NB461_462.out
   have hns130_2 := NB463_462.out
   have hns130_3 := NB465_462.out
   have hns130_4 := NB466_462.out
   have hms130_0 := NB462_461.out
   have hms130_2 := NB462_463.out
   have hms130_3 := NB462_465.out
   have hms130_4 := NB462_466.out
   have hs131 : w127.cell? ⟨gb462, 3, none⟩ = some (.bool false) := (blk_cell BK462.out 3).trans rfl
   have hfs131 := blk_frozen BK462.out 3
   have hns131_0 := NB461_462.out
   have hns131_2 := NB463_462.out
   have hns131_3 := NB465_462.out
   have hns131_4 := NB466_462.out
   have hms131_0 := NB462_461.out
   have hms131_2 := NB462_463.out
   have hms131_3 := NB462_465.out
   have hms131_4 := NB462_466.out
   refine skip_ (w1 := ?_) (by rfl) rfl ?_ ?_
   rotate_left
   ·
    go_simp
    rfl
   refine hK.out _ _ ⟨((cell_far (p := ⟨gb462, _, none⟩) NB465_462.out _).trans (((cell_far (p := ⟨gb462, _, none⟩) NB465_462.out _).trans (((cell_far (p := ⟨gb462, _, none⟩) NB465_462.out _).trans (((cell_far (p := ⟨gb462, _, none⟩) NB465_462.out _).trans (hHeld.1)))))))), ((cell_far (p := ⟨gb462, _, none⟩) NB465_462.out _).trans (((cell_far (p := ⟨gb462, _, none⟩) NB465_462.out _).trans (((cell_far (p := ⟨gb462, _, none⟩) NB465_462.out _).trans (((cell_far (p := ⟨gb462, _, none⟩) NB465_462.out _).trans (hHeld.2.1)))))))), ((cell_far (p := ⟨gb462, _, none⟩) NB465_462.out _).trans (((cell_far (p := ⟨gb462, _, none⟩) NB465_462.out _).trans (((cell_far (p := ⟨gb462, _, none⟩) NB465_462.out _).trans (((cell_far (p := ⟨gb462, _, none⟩) NB465_462.out _).trans (hHeld.2.2.1)))))))), ((cell_far (p := ⟨gb462, _, none⟩) NB465_462.out _).trans (((cell_far (p := ⟨gb462, _, none⟩) NB465_462.out _).trans (((cell_far (p := ⟨gb462, _, none⟩) NB465_462.out _).trans (((cell_far (p := ⟨gb462, _, none⟩) NB465_462.out _).trans (hHeld.2.2.2.1)))))))), ((cell_far (p := ⟨gb462, _, none⟩) NB466_462.out _).trans (((cell_far (p := ⟨gb462, _, none⟩) NB466_462.out _).trans (((cell_far (p := ⟨gb462, _, none⟩) NB466_462.out _).trans (((cell_far (p := ⟨gb462, _, none⟩) NB466_462.out _).trans (hHeld.2.2.2.2.1)))))))), ((cell_far (p := ⟨gb462, _, none⟩) NB466_462.out _).trans (((cell_far (p := ⟨gb462, _, none⟩) NB466_462.out _).trans (((cell_far (p := ⟨gb462, _, none⟩) NB466_462.out _).trans (((cell_far (p := ⟨gb462, _, none⟩) NB466_462.out _).trans (hHeld.2.2.2.2.2.1)))))))), ((cell_far (p := ⟨gb462, _, none⟩) NB466_462.out _).trans (((cell_far (p := ⟨gb462, _, none⟩) NB466_462.out _).trans (((cell_far (p := ⟨gb462, _, none⟩) NB466_462.out _).trans (((cell_far (p := ⟨gb462, _, none⟩) NB466_462.out _).trans (hHeld.2.2.2.2.2.2.1)))))))), ((cell_far (p := ⟨gb462, _, none⟩) NB466_462.out _).trans (((cell_far (p := ⟨gb462, _, none⟩) NB466_462.out _).trans (((cell_far (p := ⟨gb462, _, none⟩) NB466_462.out _).trans (((cell_far (p := ⟨gb462, _, none⟩) NB466_462.out _).trans (hHeld.2.2.2.2.2.2.2))))))))⟩ (fun hHeld => ?_)
   clear hK K
   refine one_ (i := 3) (N := none) #[true, true, true, true, false] rfl rfl (by kernel_rfl) (by decide) (fun K hK => ?_)
   have hs132 : w127.cell? ⟨gb463, 0, none⟩ = some (.int .i64 0) := (blk_cell BK463.out 0).trans rfl
   have hfs132 := blk_frozen BK463.out 0
   have hns132_0 := NB461_463.out
   have hns132_1 := NB462_463.out
   have hns132_3 := NB465_463.out
   have hns132_4 := NB466_463.out
   have hms132_0 := NB463_461.out
   have hms132_1 := NB463_462.out
   have hms132_3 := NB463_465.out
   have hms132_4 := NB463_466.out
   have hs133 : w127.cell? ⟨gb463, 1, none⟩ = some (.int .i64 0) := (blk_cell BK463.out 1).trans rfl
   have hfs133 := blk_frozen BK463.out 1
   have hns133_0 := NB461_463.out
   have hns133_1 := NB462_463.out
   have hns133_3 := NB465_463.out
   have hns133_4 := NB466_463.out
   have hms133_0 := NB463_461.out
   have hms133_1 := NB463_462.out
   have hms133_3 := NB463_465.out
   have hms133_4 := NB463_466.out
   have hs134 : w127.cell? ⟨gb463, 2, none⟩ = some (.int .i64 0) := (blk_cell BK463.out 2).trans rfl
   have hfs134 := blk_frozen BK463.out 2
   have hns134_0 := NB461_463.out
   have hns134_1 := NB462_463.out
   have hns134_3 := NB465_463.out
   have hns134_4 := NB466_463.out
   have hms134_0 := NB463_461.out
   have hms134_1 := NB463_462.out
   have hms134_3 := NB463_465.out
   have hms134_4 := NB463_466.out
   have hs135 : w127.cell? ⟨gb463, 3, none⟩ = some (.bool false) := (blk_cell BK463.out 3).trans rfl
   have hfs135 := blk_frozen BK463.out 3
   have hns135_0 := NB461_463.out
   have hns135_1 := NB462_463.out
   have hns135_3 := NB465_463.out
   have hns135_4 := NB466_463.out
   have hms135_0 := NB463_461.out
   have hms135_1 := NB463_462.out
   have hms135_3 := NB463_465.out
   have hms135_4 := NB463_466.out
   refine skip_ (w1 := ?_) (by rfl) rfl ?_ ?_
   rotate_left
   ·
    go_simp
    rfl
   refine hK.out _ _ ⟨((cell_far (p := ⟨gb463, _, none⟩) NB465_463.out _).trans (((cell_far (p := ⟨gb463, _, none⟩) NB465_463.out _).trans (((cell_far (p := ⟨gb463, _, none⟩) NB465_463.out _).trans (((cell_far (p := ⟨gb463, _, none⟩) NB465_463.out _).trans (hHeld.1)))))))), ((cell_far (p := ⟨gb463, _, none⟩) NB465_463.out _).trans (((cell_far (p := ⟨gb463, _, none⟩) NB465_463.out _).trans (((cell_far (p := ⟨gb463, _, none⟩) NB465_463.out _).trans (((cell_far (p := ⟨gb463, _, none⟩) NB465_463.out _).trans (hHeld.2.1)))))))), ((cell_far (p := ⟨gb463, _, none⟩) NB465_463.out _).trans (((cell_far (p := ⟨gb463, _, none⟩) NB465_463.out _).trans (((cell_far (p := ⟨gb463, _, none⟩) NB465_463.out _).trans (((cell_far (p := ⟨gb463, _, none⟩) NB465_463.out _).trans (hHeld.2.2.1)))))))), ((cell_far (p := ⟨gb463, _, none⟩) NB465_463.out _).trans (((cell_far (p := ⟨gb463, _, none⟩) NB465_463.out _).trans (((cell_far (p := ⟨gb463, _, none⟩) NB465_463.out _).trans (((cell_far (p := ⟨gb463, _, none⟩) NB465_463.out _).trans (hHeld.2.2.2.1)))))))), ((cell_far (p := ⟨gb463, _, none⟩) NB466_463.out _).trans (((cell_far (p := ⟨gb463, _, none⟩) NB466_463.out _).trans (((cell_far (p := ⟨gb463, _, none⟩) NB466_463.out _).trans (((cell_far (p := ⟨gb463, _, none⟩) NB466_463.out _).trans (hHeld.2.2.2.2.1)))))))), ((cell_far (p := ⟨gb463, _, none⟩) NB466_463.out _).trans (((cell_far (p := ⟨gb463, _, none⟩) NB466_463.out _).trans (((cell_far (p := ⟨gb463, _, none⟩) NB466_463.out _).trans (((cell_far (p := ⟨gb463, _, none⟩) NB466_463.out _).trans (hHeld.2.2.2.2.2.1)))))))), ((cell_far (p := ⟨gb463, _, none⟩) NB466_463.out _).trans (((cell_far (p := ⟨gb463, _, none⟩) NB466_463.out _).trans (((cell_far (p := ⟨gb463, _, none⟩) NB466_463.out _).trans (((cell_far (p := ⟨gb463, _, none⟩) NB466_463.out _).trans (hHeld.2.2.2.2.2.2.1)))))))), ((cell_far (p := ⟨gb463, _, none⟩) NB466_463.out _).trans (((cell_far (p := ⟨gb463, _, none⟩) NB466_463.out _).trans (((cell_far (p := ⟨gb463, _, none⟩) NB466_463.out _).trans (((cell_far (p := ⟨gb463, _, none⟩) NB466_463.out _).trans (hHeld.2.2.2.2.2.2.2))))))))⟩ (fun hHeld => ?_)
   clear hK K
   refine pure_ (i := 4) (N := some 4) (v := ?_) (a' := ?_) #[true, true, true, true, true] rfl rfl (by kernel_rfl) (fun _ _ _ h => h) (Or.inl ⟨by rfl, ?_⟩) ?_ ?_
   rotate_left
   ·
    intro w'
    go_simp
    with_reducible rfl
   rotate_left
   ·
    simp only [Act.put, List.setIfInBounds_toArray, List.set_cons_zero, List.set_cons_succ, i64_w, i32_w]
    rfl
   refine done_ (by kernel_rfl) ?_
   try go_wp2
   refine bodyPost_ret (results_list (rs := [.cell 2 33, .cell 3 33, .tmp 4]) rfl (by simp) (.cell gb462 33 #[.int .i64 a0_0, .int .i64 a0_1, .int .i64 1, .bool a0_3] (0, 0) _ rfl (by (with_reducible repeat (first | refine blk_drewN ?_ _ | refine blk_drew ?_ | refine blk_alloc ?_ _)); refine blk_far ?_ NB462_463.out _; (with_reducible repeat (first | refine blk_drewN ?_ _ | refine blk_drew ?_ | refine blk_alloc ?_ _)); refine blk_far ?_ NB462_463.out _; (with_reducible repeat (first | refine blk_drewN ?_ _ | refine blk_drew ?_ | refine blk_alloc ?_ _)); refine blk_far ?_ NB462_463.out _; (with_reducible repeat (first | refine blk_drewN ?_ _ | refine blk_drew ?_ | refine blk_alloc ?_ _)); refine blk_far ?_ NB462_463.out _; (with_reducible repeat (first | refine blk_drewN ?_ _ | refine blk_drew ?_ | refine blk_alloc ?_ _)); refine blk_put (cs := #[.int .i64 a0_0, .int .i64 a0_1, .int .i64 1, .bool false]) ?_ 3 _ rfl; (with_reducible repeat (first | refine blk_drewN ?_ _ | refine blk_drew ?_ | refine blk_alloc ?_ _)); refine blk_put (cs := #[.int .i64 a0_0, .int .i64 a0_1, .int .i64 0, .bool false]) ?_ 2 _ rfl; (with_reducible repeat (first | refine blk_drewN ?_ _ | refine blk_drew ?_ | refine blk_alloc ?_ _)); refine blk_put (cs := #[.int .i64 a0_0, .int .i64 0, .int .i64 0, .bool false]) ?_ 1 _ rfl; (with_reducible repeat (first | refine blk_drewN ?_ _ | refine blk_drew ?_ | refine blk_alloc ?_ _)); refine blk_put (cs := #[.int .i64 0, .int .i64 0, .int .i64 0, .bool false]) ?_ 0 _ rfl; (with_reducible repeat (first | refine blk_drewN ?_ _ | refine blk_drew ?_ | refine blk_alloc ?_ _)); exact BK462.out) Tryd.underlying33 rfl (by kernel_rfl) (.cell gb463 33 #[.int .i64 a0_0, .int .i64 a0_1, .int .i64 t468, .bool a0_3] (0, 0) _ rfl (by (with_reducible repeat (first | refine blk_drewN ?_ _ | refine blk_drew ?_ | refine blk_alloc ?_ _)); refine blk_put (cs := #[.int .i64 a0_0, .int .i64 a0_1, .int .i64 t468, .bool false]) ?_ 3 _ rfl; (with_reducible repeat (first | refine blk_drewN ?_ _ | refine blk_drew ?_ | refine blk_alloc ?_ _)); refine blk_put (cs := #[.int .i64 a0_0, .int .i64 a0_1, .int .i64 0, .bool false]) ?_ 2 _ rfl; (with_reducible repeat (first | refine blk_drewN ?_ _ | refine blk_drew ?_ | refine blk_alloc ?_ _)); refine blk_put (cs := #[.int .i64 a0_0, .int .i64 0, .int .i64 0, .bool false]) ?_ 1 _ rfl; (with_reducible repeat (first | refine blk_drewN ?_ _ | refine blk_drew ?_ | refine blk_alloc ?_ _)); refine blk_put (cs := #[.int .i64 0, .int .i64 0, .int .i64 0, .bool false]) ?_ 0 _ rfl; (with_reducible repeat (first | refine blk_drewN ?_ _ | refine blk_drew ?_ | refine blk_alloc ?_ _)); refine blk_far ?_ NB463_462.out _; (with_reducible repeat (first | refine blk_drewN ?_ _ | refine blk_drew ?_ | refine blk_alloc ?_ _)); refine blk_far ?_ NB463_462.out _; (with_reducible repeat (first | refine blk_drewN ?_ _ | refine blk_drew ?_ | refine blk_alloc ?_ _)); refine blk_far ?_ NB463_462.out _; (with_reducible repeat (first | refine blk_drewN ?_ _ | refine blk_drew ?_ | refine blk_alloc ?_ _)); refine blk_far ?_ NB463_462.out _; (with_reducible repeat (first | refine blk_drewN ?_ _ | refine blk_drew ?_ | refine blk_alloc ?_ _)); exact BK463.out) Tryd.underlying33 rfl (by kernel_rfl) (.tmp .nil)))) rfl ?_
   exact ax17) : P := h
set_option maxRecDepth 100000 in
theorem impl_DateBounds.L1 {P : Prop} (h : P := by
  try go_wp2
  replace BK461 := Aside0.mk (blk_drew BK461.out)
  replace BK462 := Aside0.mk (blk_drew BK462.out)
  replace BK463 := Aside0.mk (blk_drew BK463.out)
  replace HB := Aside0.mk (below_drew1 HB.out)
  refine start_ (n := 6) (S := fun w' => w'.cell? ⟨gb461, 0, none⟩ = some (.int .i64 a0_0) ∧ w'.cell? ⟨gb461, 1, none⟩ = some (.int .i64 a0_1) ∧ w'.cell? ⟨gb461, 2, none⟩ = some (.int .i64 a0_2) ∧ w'.cell? ⟨gb461, 3, none⟩ = some (.bool a0_3)) (ds := []) #[false, false, false, false, false, false] (by kernel_rfl) rfl rfl ⟨(blk_cell BK461.out 0).trans rfl, (blk_cell BK461.out 1).trans rfl, (blk_cell BK461.out 2).trans rfl, (blk_cell BK461.out 3).trans rfl⟩ (fun hHeld => ?_)
  generalize wc.drew = w66 at BK461 BK462 BK463 HB hHeld ⊢
  refine take_ (i := 0) (N := some 21) (v := ?_) (a' := ?_) #[true, false, false, false, false, false] rfl rfl (by kernel_rfl) (fun _ _ _ h => h) (Or.inl ⟨by rfl, ?_⟩) hHeld ?_ ?_
  rotate_left
  ·
   rintro w' ⟨s0, s1, s2, s3⟩
   go_simp
   with_reducible rfl
  rotate_left
  ·
   simp only [Act.put, List.setIfInBounds_toArray, List.set_cons_zero, List.set_cons_succ, i64_w, i32_w]
   rfl
  refine take_ (i := 1) (N := some 22) (v := ?_) (a' := ?_) #[true, true, false, false, false, false] rfl rfl (by kernel_rfl) (fun _ _ _ h => h) (Or.inl ⟨by rfl, ?_⟩) hHeld ?_ ?_
  rotate_left
  ·
   rintro w' ⟨s0, s1, s2, s3⟩
   go_simp
   with_reducible rfl
  rotate_left
  ·
   simp only [Act.put, List.setIfInBounds_toArray, List.set_cons_zero, List.set_cons_succ, i64_w, i32_w]
   rfl
  refine join_ (σ := Nat × Nat) 2 #[true, true, true, true, false, false] (fun s_ => [(5, .pointer (some ⟨s_.1, 0, none⟩)), (6, .pointer (some ⟨s_.2, 0, none⟩))]) (fun s_ w' => (w'.cell? ⟨gb461, 0, none⟩ = some (.int .i64 a0_0) ∧ w'.cell? ⟨gb461, 1, none⟩ = some (.int .i64 a0_1) ∧ w'.cell? ⟨gb461, 2, none⟩ = some (.int .i64 a0_2) ∧ w'.cell? ⟨gb461, 3, none⟩ = some (.bool a0_3)) ∧ (w'.heap[gb461]? = some (.cells #[.int .i64 a0_0, .int .i64 a0_1, .int .i64 a0_2, .bool a0_3] 33 (0, 0))) ∧ (w'.heap[gb462]? = some (.cells #[.int .i64 0, .int .i64 0, .int .i64 0, .bool false] 33 (0, 0))) ∧ (w'.heap[gb463]? = some (.cells #[.int .i64 0, .int .i64 0, .int .i64 0, .bool false] 33 (0, 0))) ∧ (w'.heap[s_.1]? = some (.cells #[.int .i64 0, .int .i64 0, .int .i64 0, .bool false] 33 (0, 0))) ∧ (w'.heap[s_.2]? = some (.cells #[.int .i64 0, .int .i64 0, .int .i64 0, .bool false] 33 (0, 0))) ∧ (w.heap.size ≤ s_.1) ∧ (w.heap.size ≤ s_.1) ∧ (gb461 ≠ s_.1) ∧ (s_.1 ≠ gb461) ∧ (gb462 ≠ s_.1) ∧ (s_.1 ≠ gb462) ∧ (gb463 ≠ s_.1) ∧ (s_.1 ≠ gb463) ∧ (s_.2 ≠ s_.1) ∧ (s_.1 ≠ s_.2) ∧ (w.heap.size ≤ s_.2) ∧ (w.heap.size ≤ s_.2) ∧ (gb461 ≠ s_.2) ∧ (s_.2 ≠ gb461) ∧ (gb462 ≠ s_.2) ∧ (s_.2 ≠ gb462) ∧ (gb463 ≠ s_.2) ∧ (s_.2 ≠ gb463) ∧ (Below w.heap.size w w')) ?_ ?_
  rotate_left
  ·
   intro hCont
   refine two_ (i := 2) (j := 3) (Ni := some 5) (Nj := some 6) #[true, true, true, false, false, false] #[true, true, false, true, false, false] rfl rfl rfl rfl (by kernel_rfl) (by decide) (by decide) (fun K hK => ?_) (fun K hK => ?_)
   ·
    skip
    refine box_step ?hg (N := 5) ?hd (cs := #[.int .i64 0, .int .i64 0, .int .i64 0, .bool false]) (t := 33) ?hr ?_; (case hd => rfl); (case hg => rfl); (case hr => first | (go_simp; done) | (go_simp; rfl))
    intro gb465 hg w67 hbox hb
    have BK465 := Aside0.mk (hbox)
    have GW465 := Aside0.mk (bsz hg au57)
    have GE465 := Aside0.mk (bsz hg au57)
    replace HB := Aside0.mk (below_step au57 hb)
    have NB461_465 := Aside0.mk (bne (g := gb461) hg au131)
    have NB465_461 := Aside0.mk (ben (g := gb461) hg au131)
    replace BK461 := Aside0.mk (blk_below (g := gb461) au131 hb)
    have NB462_465 := Aside0.mk (bne (g := gb462) hg au132)
    have NB465_462 := Aside0.mk (ben (g := gb462) hg au132)
    replace BK462 := Aside0.mk (blk_below (g := gb462) au132 hb)
    have NB463_465 := Aside0.mk (bne (g := gb463) hg au133)
    have NB465_463 := Aside0.mk (ben (g := gb463) hg au133)
    replace BK463 := Aside0.mk (blk_below (g := gb463) au133 hb)
    clear hb hbox hg
    refine hK.out _ _ ⟨(blk_cell BK461.out 0).trans rfl, (blk_cell BK461.out 1).trans rfl, (blk_cell BK461.out 2).trans rfl, (blk_cell BK461.out 3).trans rfl⟩ (fun hHeld => ?_)
    clear hK K
    refine no_ (some 5) ?_
    refine one_ (i := 3) (N := some 6) #[true, true, true, true, false, false] rfl rfl (by kernel_rfl) (by decide) (fun K hK => ?_)
    refine box_step ?hg (N := 6) ?hd (cs := #[.int .i64 0, .int .i64 0, .int .i64 0, .bool false]) (t := 33) ?hr ?_; (case hd => rfl); (case hg => rfl); (case hr => first | (go_simp; done) | (go_simp; rfl))
    intro gb466 hg w68 hbox hb
    have BK466 := Aside0.mk (hbox)
    have GW466 := Aside0.mk (bsz hg au49)
    have GE466 := Aside0.mk (bsz hg au49)
    replace HB := Aside0.mk (below_step au49 hb)
    have NB461_466 := Aside0.mk (bne (g := gb461) hg au131)
    have NB466_461 := Aside0.mk (ben (g := gb461) hg au131)
    replace BK461 := Aside0.mk (blk_below (g := gb461) au131 hb)
    have NB462_466 := Aside0.mk (bne (g := gb462) hg au132)
    have NB466_462 := Aside0.mk (ben (g := gb462) hg au132)
    replace BK462 := Aside0.mk (blk_below (g := gb462) au132 hb)
    have NB463_466 := Aside0.mk (bne (g := gb463) hg au133)
    have NB466_463 := Aside0.mk (ben (g := gb463) hg au133)
    replace BK463 := Aside0.mk (blk_below (g := gb463) au133 hb)
    have NB465_466 := Aside0.mk (bne (g := gb465) hg au134)
    have NB466_465 := Aside0.mk (ben (g := gb465) hg au134)
    replace BK465 := Aside0.mk (blk_below (g := gb465) au134 hb)
    clear hb hbox hg
    refine hK.out _ _ ⟨(blk_cell BK461.out 0).trans rfl, (blk_cell BK461.out 1).trans rfl, (blk_cell BK461.out 2).trans rfl, (blk_cell BK461.out 3).trans rfl⟩ (fun hHeld => ?_)
    clear hK K
    refine no_ (some 6) ?_
    exact norm_ au150 (hCont (gb465, gb466) _ ⟨hHeld, au131, au132, au133, au134, au135, GW465.out, GE465.out, NB461_465.out, NB465_461.out, NB462_465.out, NB465_462.out, NB463_465.out, NB465_463.out, NB466_465.out, NB465_466.out, GW466.out, GE466.out, NB461_466.out, NB466_461.out, NB462_466.out, NB466_462.out, NB463_466.out, NB466_463.out, au43⟩)
   ·
    skip
    refine box_step ?hg (N := 6) ?hd (cs := #[.int .i64 0, .int .i64 0, .int .i64 0, .bool false]) (t := 33) ?hr ?_; (case hd => rfl); (case hg => rfl); (case hr => first | (go_simp; done) | (go_simp; rfl))
    intro gb466 hg w67 hbox hb
    have BK466 := Aside0.mk (hbox)
    have GW466 := Aside0.mk (bsz hg au57)
    have GE466 := Aside0.mk (bsz hg au57)
    replace HB := Aside0.mk (below_step au57 hb)
    have NB461_466 := Aside0.mk (bne (g := gb461) hg au131)
    have NB466_461 := Aside0.mk (ben (g := gb461) hg au131)
    replace BK461 := Aside0.mk (blk_below (g := gb461) au131 hb)
    have NB462_466 := Aside0.mk (bne (g := gb462) hg au132)
    have NB466_462 := Aside0.mk (ben (g := gb462) hg au132)
    replace BK462 := Aside0.mk (blk_below (g := gb462) au132 hb)
    have NB463_466 := Aside0.mk (bne (g := gb463) hg au133)
    have NB466_463 := Aside0.mk (ben (g := gb463) hg au133)
    replace BK463 := Aside0.mk (blk_below (g := gb463) au133 hb)
    clear hb hbox hg
    refine hK.out _ _ ⟨(blk_cell BK461.out 0).trans rfl, (blk_cell BK461.out 1).trans rfl, (blk_cell BK461.out 2).trans rfl, (blk_cell BK461.out 3).trans rfl⟩ (fun hHeld => ?_)
    clear hK K
    refine no_ (some 6) ?_
    refine one_ (i := 2) (N := some 5) #[true, true, true, true, false, false] rfl rfl (by kernel_rfl) (by decide) (fun K hK => ?_)
    refine box_step ?hg (N := 5) ?hd (cs := #[.int .i64 0, .int .i64 0, .int .i64 0, .bool false]) (t := 33) ?hr ?_; (case hd => rfl); (case hg => rfl); (case hr => first | (go_simp; done) | (go_simp; rfl))
    intro gb465 hg w68 hbox hb
    have BK465 := Aside0.mk (hbox)
    have GW465 := Aside0.mk (bsz hg au50)
    have GE465 := Aside0.mk (bsz hg au50)
    replace HB := Aside0.mk (below_step au50 hb)
    have NB461_465 := Aside0.mk (bne (g := gb461) hg au131)
    have NB465_461 := Aside0.mk (ben (g := gb461) hg au131)
    replace BK461 := Aside0.mk (blk_below (g := gb461) au131 hb)
    have NB462_465 := Aside0.mk (bne (g := gb462) hg au132)
    have NB465_462 := Aside0.mk (ben (g := gb462) hg au132)
    replace BK462 := Aside0.mk (blk_below (g := gb462) au132 hb)
    have NB463_465 := Aside0.mk (bne (g := gb463) hg au133)
    have NB465_463 := Aside0.mk (ben (g := gb463) hg au133)
    replace BK463 := Aside0.mk (blk_below (g := gb463) au133 hb)
    have NB466_465 := Aside0.mk (bne (g := gb466) hg au135)
    have NB465_466 := Aside0.mk (ben (g := gb466) hg au135)
    replace BK466 := Aside0.mk (blk_below (g := gb466) au135 hb)
    clear hb hbox hg
    refine hK.out _ _ ⟨(blk_cell BK461.out 0).trans rfl, (blk_cell BK461.out 1).trans rfl, (blk_cell BK461.out 2).trans rfl, (blk_cell BK461.out 3).trans rfl⟩ (fun hHeld => ?_)
    clear hK K
    refine no_ (some 5) ?_
    exact norm_ au150 (hCont (gb465, gb466) _ ⟨hHeld, au131, au132, au133, au134, au135, GW465.out, GE465.out, NB461_465.out, NB465_461.out, NB462_465.out, NB465_462.out, NB463_465.out, NB465_463.out, NB466_465.out, NB465_466.out, GW466.out, GE466.out, NB461_466.out, NB466_461.out, NB462_466.out, NB466_462.out, NB463_466.out, NB466_463.out, au44⟩)
  rintro ⟨gb465, gb466⟩ w69 ⟨hS_, h0_, h1_, h2_, h3_, h4_, h5_, h6_, h7_, h8_, h9_, h10_, h11_, h12_, h13_, h14_, h15_, h16_, h17_, h18_, h19_, h20_, h21_, h22_, h23_⟩
  have n0_ : Aside0 (w69.heap[gb461]? = some (.cells #[.int .i64 a0_0, .int .i64 a0_1, .int .i64 a0_2, .bool a0_3] 33 (0, 0))) := ⟨h0_⟩
  have n1_ : Aside0 (w69.heap[gb462]? = some (.cells #[.int .i64 0, .int .i64 0, .int .i64 0, .bool false] 33 (0, 0))) := ⟨h1_⟩
  have n2_ : Aside0 (w69.heap[gb463]? = some (.cells #[.int .i64 0, .int .i64 0, .int .i64 0, .bool false] 33 (0, 0))) := ⟨h2_⟩
  have n3_ : Aside0 (w69.heap[gb465]? = some (.cells #[.int .i64 0, .int .i64 0, .int .i64 0, .bool false] 33 (0, 0))) := ⟨h3_⟩
  have n4_ : Aside0 (w69.heap[gb466]? = some (.cells #[.int .i64 0, .int .i64 0, .int .i64 0, .bool false] 33 (0, 0))) := ⟨h4_⟩
  have n5_ : Aside0 (w.heap.size ≤ gb465) := ⟨h5_⟩
  have n6_ : Aside0 (w.heap.size ≤ gb465) := ⟨h6_⟩
  have n7_ : Aside0 (gb461 ≠ gb465) := ⟨h7_⟩
  have n8_ : Aside0 (gb465 ≠ gb461) := ⟨h8_⟩
  have n9_ : Aside0 (gb462 ≠ gb465) := ⟨h9_⟩
  have n10_ : Aside0 (gb465 ≠ gb462) := ⟨h10_⟩
  have n11_ : Aside0 (gb463 ≠ gb465) := ⟨h11_⟩
  have n12_ : Aside0 (gb465 ≠ gb463) := ⟨h12_⟩
  have n13_ : Aside0 (gb466 ≠ gb465) := ⟨h13_⟩
  have n14_ : Aside0 (gb465 ≠ gb466) := ⟨h14_⟩
  have n15_ : Aside0 (w.heap.size ≤ gb466) := ⟨h15_⟩
  have n16_ : Aside0 (w.heap.size ≤ gb466) := ⟨h16_⟩
  have n17_ : Aside0 (gb461 ≠ gb466) := ⟨h17_⟩
  have n18_ : Aside0 (gb466 ≠ gb461) := ⟨h18_⟩
  have n19_ : Aside0 (gb462 ≠ gb466) := ⟨h19_⟩
  have n20_ : Aside0 (gb466 ≠ gb462) := ⟨h20_⟩
  have n21_ : Aside0 (gb463 ≠ gb466) := ⟨h21_⟩
  have n22_ : Aside0 (gb466 ≠ gb463) := ⟨h22_⟩
  have n23_ : Aside0 (Below w.heap.size w w69) := ⟨h23_⟩
  clear BK461
  clear BK462
  clear BK463
  clear HB
  clear h0_ h1_ h2_ h3_ h4_ h5_ h6_ h7_ h8_ h9_ h10_ h11_ h12_ h13_ h14_ h15_ h16_ h17_ h18_ h19_ h20_ h21_ h22_ h23_
  have BK461 := n0_
  have BK462 := n1_
  have BK463 := n2_
  have BK465 := n3_
  have BK466 := n4_
  have GW465 := n5_
  have GE465 := n6_
  have NB461_465 := n7_
  have NB465_461 := n8_
  have NB462_465 := n9_
  have NB465_462 := n10_
  have NB463_465 := n11_
  have NB465_463 := n12_
  have NB466_465 := n13_
  have NB465_466 := n14_
  have GW466 := n15_
  have GE466 := n16_
  have NB461_466 := n17_
  have NB466_461 := n18_
  have NB462_466 := n19_
  have NB466_462 := n20_
  have NB463_466 := n21_
  have NB466_463 := n22_
  have HB := n23_
  clear n0_ n1_ n2_ n3_ n4_ n5_ n6_ n7_ n8_ n9_ n10_ n11_ n12_ n13_ n14_ n15_ n16_ n17_ n18_ n19_ n20_ n21_ n22_ n23_
  have hHeld : w69.cell? ⟨gb461, 0, none⟩ = some (.int .i64 a0_0) ∧ w69.cell? ⟨gb461, 1, none⟩ = some (.int .i64 a0_1) ∧ w69.cell? ⟨gb461, 2, none⟩ = some (.int .i64 a0_2) ∧ w69.cell? ⟨gb461, 3, none⟩ = some (.bool a0_3) := hS_
  refine norm_ (a' := ?_) ?_ ?_
  rotate_left
  ·
   simp only [putAll, Act.put, List.setIfInBounds_toArray, List.set_cons_zero, List.set_cons_succ]
   rfl
  refine one_ (i := 4) (N := none) #[true, true, true, true, true, false] rfl rfl (by kernel_rfl) (by decide) (fun K hK => ?_)
  have hs70 : w69.cell? ⟨gb465, 0, none⟩ = some (.int .i64 0) := (blk_cell BK465.out 0).trans rfl
  have hfs70 := blk_frozen BK465.out 0
  have hns70_0 := NB461_465.out
  have hns70_1 := NB462_465.out
  have hns70_2 := NB463_465.out
  have hns70_4 := NB466_465.out
  have hms70_0 := NB465_461.out
  have hms70_1 := NB465_462.out
  have hms70_2 := NB465_463.out
  have hms70_4 := NB465_466.out
  have hs71 : w69.cell? ⟨gb465, 1, none⟩ = some (.int .i64 0) := (blk_cell BK465.out 1).trans rfl
  have hfs71 := blk_frozen BK465.out 1
  have hns71_0 := NB461_465.out
  have hns71_1 := NB462_465.out
  have hns71_2 := NB463_465.out
  have hns71_4 := NB466_465.out
  have hms71_0 := NB465_461.out
  have hms71_1 := NB465_462.out
  have hms71_2 := NB465_463.out
  have hms71_4 := NB465_466.out
  have hs72 : w69.cell? ⟨gb465, 2, none⟩ = some (.int .i64 0) := (blk_cell BK465.out 2).trans rfl
  have hfs72 := blk_frozen BK465.out 2
  have hns72_0 := NB461_465.out
  have hns72_1 := NB462_465.out
  have hns72_2 := NB463_465.out
  have hns72_4 := NB466_465.out
  have hms72_0 := NB465_461.out
  have hms72_1 := NB465_462.out
  have hms72_2 := NB465_463.out
  have hms72_4 := NB465_466.out
  have hs73 : w69.cell? ⟨gb465, 3, none⟩ = some (.bool false) := (blk_cell BK465.out 3).trans rfl
  have hfs73 := blk_frozen BK465.out 3
  have hns73_0 := NB461_465.out
  have hns73_1 := NB462_465.out
  have hns73_2 := NB463_465.out
  have hns73_4 := NB466_465.out
  have hms73_0 := NB465_461.out
  have hms73_1 := NB465_462.out
  have hms73_2 := NB465_463.out
  have hms73_4 := NB465_466.out
  refine skip_ (w1 := ?_) (by rfl) rfl ?_ ?_
  rotate_left
  ·
   go_simp
   rfl
  refine hK.out _ _ ⟨((cell_far (p := ⟨gb465, _, none⟩) NB461_465.out _).trans (((cell_far (p := ⟨gb465, _, none⟩) NB461_465.out _).trans (((cell_far (p := ⟨gb465, _, none⟩) NB461_465.out _).trans (((cell_far (p := ⟨gb465, _, none⟩) NB461_465.out _).trans (hHeld.1)))))))), ((cell_far (p := ⟨gb465, _, none⟩) NB461_465.out _).trans (((cell_far (p := ⟨gb465, _, none⟩) NB461_465.out _).trans (((cell_far (p := ⟨gb465, _, none⟩) NB461_465.out _).trans (((cell_far (p := ⟨gb465, _, none⟩) NB461_465.out _).trans (hHeld.2.1)))))))), ((cell_far (p := ⟨gb465, _, none⟩) NB461_465.out _).trans (((cell_far (p := ⟨gb465, _, none⟩) NB461_465.out _).trans (((cell_far (p := ⟨gb465, _, none⟩) NB461_465.out _).trans (((cell_far (p := ⟨gb465, _, none⟩) NB461_465.out _).trans (hHeld.2.2.1)))))))), ((cell_far (p := ⟨gb465, _, none⟩) NB461_465.out _).trans (((cell_far (p := ⟨gb465, _, none⟩) NB461_465.out _).trans (((cell_far (p := ⟨gb465, _, none⟩) NB461_465.out _).trans (((cell_far (p := ⟨gb465, _, none⟩) NB461_465.out _).trans (hHeld.2.2.2))))))))⟩ (fun hHeld => ?_)
  clear hK K
  refine one_ (i := 5) (N := none) #[true, true, true, true, true, true] rfl rfl (by kernel_rfl) (by decide) (fun K hK => ?_)
  have hs74 : w69.cell? ⟨gb466, 0, none⟩ = some (.int .i64 0) := (blk_cell BK466.out 0).trans rfl
  have hfs74 := blk_frozen BK466.out 0
  have hns74_0 := NB461_466.out
  have hns74_1 := NB462_466.out
  have hns74_2 := NB463_466.out
  have hns74_3 := NB465_466.out
  have hms74_0 := NB466_461.out
  have hms74_1 := NB466_462.out
  have hms74_2 := NB466_463.out
  have hms74_3 := NB466_465.out
  have hs75 : w69.cell? ⟨gb466, 1, none⟩ = some (.int .i64 0) := (blk_cell BK466.out 1).trans rfl
  have hfs75 := blk_frozen BK466.out 1
  have hns75_0 := NB461_466.out
  have hns75_1 := NB462_466.out
  have hns75_2 := NB463_466.out
  have hns75_3 := NB465_466.out
  have hms75_0 := NB466_461.out
  have hms75_1 := NB466_462.out
  have hms75_2 := NB466_463.out
  have hms75_3 := NB466_465.out
  have hs76 : w69.cell? ⟨gb466, 2, none⟩ = some (.int .i64 0) := (blk_cell BK466.out 2).trans rfl
  have hfs76 := blk_frozen BK466.out 2
  have hns76_0 := NB461_466.out
  have hns76_1 := NB462_466.out
  have hns76_2 := NB463_466.out
  have hns76_3 := NB465_466.out
  have hms76_0 := NB466_461.out
  have hms76_1 := NB466_462.out
  have hms76_2 := NB466_463.out
  have hms76_3 := NB466_465.out
  have hs77 : w69.cell? ⟨gb466, 3, none⟩ = some (.bool false) := (blk_cell BK466.out 3).trans rfl
  have hfs77 := blk_frozen BK466.out 3
  have hns77_0 := NB461_466.out
  have hns77_1 := NB462_466.out
  have hns77_2 := NB463_466.out
  have hns77_3 := NB465_466.out
  have hms77_0 := NB466_461.out
  have hms77_1 := NB466_462.out
  have hms77_2 := NB466_463.out
  have hms77_3 := NB466_465.out
  refine skip_ (w1 := ?_) (by rfl) rfl ?_ ?_
  rotate_left
  ·
   go_simp
   rfl
  refine hK.out _ _ ⟨((cell_far (p := ⟨gb466, _, none⟩) NB461_466.out _).trans (((cell_far (p := ⟨gb466, _, none⟩) NB461_466.out _).trans (((cell_far (p := ⟨gb466, _, none⟩) NB461_466.out _).trans (((cell_far (p := ⟨gb466, _, none⟩) NB461_466.out _).trans (hHeld.1)))))))), ((cell_far (p := ⟨gb466, _, none⟩) NB461_466.out _).trans (((cell_far (p := ⟨gb466, _, none⟩) NB461_466.out _).trans (((cell_far (p := ⟨gb466, _, none⟩) NB461_466.out _).trans (((cell_far (p := ⟨gb466, _, none⟩) NB461_466.out _).trans (hHeld.2.1)))))))), ((cell_far (p := ⟨gb466, _, none⟩) NB461_466.out _).trans (((cell_far (p := ⟨gb466, _, none⟩) NB461_466.out _).trans (((cell_far (p := ⟨gb466, _, none⟩) NB461_466.out _).trans (((cell_far (p := ⟨gb466, _, none⟩) NB461_466.out _).trans (hHeld.2.2.1)))))))), ((cell_far (p := ⟨gb466, _, none⟩) NB461_466.out _).trans (((cell_far (p := ⟨gb466, _, none⟩) NB461_466.out _).trans (((cell_far (p := ⟨gb466, _, none⟩) NB461_466.out _).trans (((cell_far (p := ⟨gb466, _, none⟩) NB461_466.out _).trans (hHeld.2.2.2))))))))⟩ (fun hHeld => ?_)
  clear hK K
  refine done_ (by kernel_rfl) ?_
  have hnb78 := NB461_462.out
  have hnc78 := NB462_461.out
  have hnb79 := NB461_463.out
  have hnc79 := NB463_461.out
  have hnb80 := NB461_465.out
  have hnc80 := NB465_461.out
  have hnb81 := NB461_466.out
  have hnc81 := NB466_461.out
  obtain ⟨hcz82_0, hcz82_1, hcz82_2, hcz82_3, hfz82_0, hfz82_1, hfz82_2, hfz82_3⟩ := blkc4 BK461.out
  first
  |
   have g_ : (a0_2 == 0) = false := c30b0
   clear g_
   have hnb83 := NB465_462.out
   have hnc83 := NB462_465.out
   have hnb84 := NB465_463.out
   have hnc84 := NB463_465.out
   have hnb85 := NB465_466.out
   have hnc85 := NB466_465.out
   obtain ⟨hcz86_0, hcz86_1, hcz86_2, hcz86_3, hfz86_0, hfz86_1, hfz86_2, hfz86_3⟩ := blkc4 BK465.out
   have hnb87 := NB466_462.out
   have hnc87 := NB462_466.out
   have hnb88 := NB466_463.out
   have hnc88 := NB463_466.out
   obtain ⟨hcz89_0, hcz89_1, hcz89_2, hcz89_3, hfz89_0, hfz89_1, hfz89_2, hfz89_3⟩ := blkc4 BK466.out
   try go_wp2
   have n0_ : Aside0 (((((((((((w69.setCell ⟨gb465, 0, none⟩ (.int .i64 a0_0)).setCell ⟨gb465, 1, none⟩ (.int .i64 a0_1)).setCell ⟨gb465, 2, none⟩ (.int .i64 a0_2)).setCell ⟨gb465, 3, none⟩ (.bool a0_3)).setCell ⟨gb466, 0, none⟩ (.int .i64 a0_0)).setCell ⟨gb466, 1, none⟩ (.int .i64 a0_1)).setCell ⟨gb466, 2, none⟩ (.int .i64 a0_2)).setCell ⟨gb466, 3, none⟩ (.bool a0_3)).setCell ⟨gb465, 1, none⟩ (.int .i64 1)).setCell ⟨gb466, 1, none⟩ (.int .i64 12)).heap[gb461]? = some (.cells #[.int .i64 a0_0, .int .i64 a0_1, .int .i64 a0_2, .bool a0_3] 33 (0, 0))) := ⟨by (with_reducible repeat (first | refine blk_drewN ?_ _ | refine blk_drew ?_ | refine blk_alloc ?_ _)); refine blk_far ?_ NB461_466.out _; (with_reducible repeat (first | refine blk_drewN ?_ _ | refine blk_drew ?_ | refine blk_alloc ?_ _)); refine blk_far ?_ NB461_465.out _; (with_reducible repeat (first | refine blk_drewN ?_ _ | refine blk_drew ?_ | refine blk_alloc ?_ _)); refine blk_far ?_ NB461_466.out _; (with_reducible repeat (first | refine blk_drewN ?_ _ | refine blk_drew ?_ | refine blk_alloc ?_ _)); refine blk_far ?_ NB461_466.out _; (with_reducible repeat (first | refine blk_drewN ?_ _ | refine blk_drew ?_ | refine blk_alloc ?_ _)); refine blk_far ?_ NB461_466.out _; (with_reducible repeat (first | refine blk_drewN ?_ _ | refine blk_drew ?_ | refine blk_alloc ?_ _)); refine blk_far ?_ NB461_466.out _; (with_reducible repeat (first | refine blk_drewN ?_ _ | refine blk_drew ?_ | refine blk_alloc ?_ _)); refine blk_far ?_ NB461_465.out _; (with_reducible repeat (first | refine blk_drewN ?_ _ | refine blk_drew ?_ | refine blk_alloc ?_ _)); refine blk_far ?_ NB461_465.out _; (with_reducible repeat (first | refine blk_drewN ?_ _ | refine blk_drew ?_ | refine blk_alloc ?_ _)); refine blk_far ?_ NB461_465.out _; (with_reducible repeat (first | refine blk_drewN ?_ _ | refine blk_drew ?_ | refine blk_alloc ?_ _)); refine blk_far ?_ NB461_465.out _; (with_reducible repeat (first | refine blk_drewN ?_ _ | refine blk_drew ?_ | refine blk_alloc ?_ _)); exact BK461.out⟩
   have n1_ : Aside0 (((((((((((w69.setCell ⟨gb465, 0, none⟩ (.int .i64 a0_0)).setCell ⟨gb465, 1, none⟩ (.int .i64 a0_1)).setCell ⟨gb465, 2, none⟩ (.int .i64 a0_2)).setCell ⟨gb465, 3, none⟩ (.bool a0_3)).setCell ⟨gb466, 0, none⟩ (.int .i64 a0_0)).setCell ⟨gb466, 1, none⟩ (.int .i64 a0_1)).setCell ⟨gb466, 2, none⟩ (.int .i64 a0_2)).setCell ⟨gb466, 3, none⟩ (.bool a0_3)).setCell ⟨gb465, 1, none⟩ (.int .i64 1)).setCell ⟨gb466, 1, none⟩ (.int .i64 12)).heap[gb462]? = some (.cells #[.int .i64 0, .int .i64 0, .int .i64 0, .bool false] 33 (0, 0))) := ⟨by (with_reducible repeat (first | refine blk_drewN ?_ _ | refine blk_drew ?_ | refine blk_alloc ?_ _)); refine blk_far ?_ NB462_466.out _; (with_reducible repeat (first | refine blk_drewN ?_ _ | refine blk_drew ?_ | refine blk_alloc ?_ _)); refine blk_far ?_ NB462_465.out _; (with_reducible repeat (first | refine blk_drewN ?_ _ | refine blk_drew ?_ | refine blk_alloc ?_ _)); refine blk_far ?_ NB462_466.out _; (with_reducible repeat (first | refine blk_drewN ?_ _ | refine blk_drew ?_ | refine blk_alloc ?_ _)); refine blk_far ?_ NB462_466.out _; (with_reducible repeat (first | refine blk_drewN ?_ _ | refine blk_drew ?_ | refine blk_alloc ?_ _)); refine blk_far ?_ NB462_466.out _; (with_reducible repeat (first | refine blk_drewN ?_ _ | refine blk_drew ?_ | refine blk_alloc ?_ _)); refine blk_far ?_ NB462_466.out _; (with_reducible repeat (first | refine blk_drewN ?_ _ | refine blk_drew ?_ | refine blk_alloc ?_ _)); refine blk_far ?_ NB462_465.out _; (with_reducible repeat (first | refine blk_drewN ?_ _ | refine blk_drew ?_ | refine blk_alloc ?_ _)); refine blk_far ?_ NB462_465.out _; (with_reducible repeat (first | refine blk_drewN ?_ _ | refine blk_drew ?_ | refine blk_alloc ?_ _)); refine blk_far ?_ NB462_465.out _; (with_reducible repeat (first | refine blk_drewN ?_ _ | refine blk_drew ?_ | refine blk_alloc ?_ _)); refine blk_far ?_ NB462_465.out _; (with_reducible repeat (first | refine blk_drewN ?_ _ | refine blk_drew ?_ | refine blk_alloc ?_ _)); exact BK462.out⟩
   have n2_ : Aside0 (((((((((((w69.setCell ⟨gb465, 0, none⟩ (.int .i64 a0_0)).setCell ⟨gb465, 1, none⟩ (.int .i64 a0_1)).setCell ⟨gb465, 2, none⟩ (.int .i64 a0_2)).setCell ⟨gb465, 3, none⟩ (.bool a0_3)).setCell ⟨gb466, 0, none⟩ (.int .i64 a0_0)).setCell ⟨gb466, 1, none⟩ (.int .i64 a0_1)).setCell ⟨gb466, 2, none⟩ (.int .i64 a0_2)).setCell ⟨gb466, 3, none⟩ (.bool a0_3)).setCell ⟨gb465, 1, none⟩ (.int .i64 1)).setCell ⟨gb466, 1, none⟩ (.int .i64 12)).heap[gb463]? = some (.cells #[.int .i64 0, .int .i64 0, .int .i64 0, .bool false] 33 (0, 0))) := ⟨by (with_reducible repeat (first | refine blk_drewN ?_ _ | refine blk_drew ?_ | refine blk_alloc ?_ _)); refine blk_far ?_ NB463_466.out _; (with_reducible repeat (first | refine blk_drewN ?_ _ | refine blk_drew ?_ | refine blk_alloc ?_ _)); refine blk_far ?_ NB463_465.out _; (with_reducible repeat (first | refine blk_drewN ?_ _ | refine blk_drew ?_ | refine blk_alloc ?_ _)); refine blk_far ?_ NB463_466.out _; (with_reducible repeat (first | refine blk_drewN ?_ _ | refine blk_drew ?_ | refine blk_alloc ?_ _)); refine blk_far ?_ NB463_466.out _; (with_reducible repeat (first | refine blk_drewN ?_ _ | refine blk_drew ?_ | refine blk_alloc ?_ _)); refine blk_far ?_ NB463_466.out _; (with_reducible repeat (first | refine blk_drewN ?_ _ | refine blk_drew ?_ | refine blk_alloc ?_ _)); refine blk_far ?_ NB463_466.out _; (with_reducible repeat (first | refine blk_drewN ?_ _ | refine blk_drew ?_ | refine blk_alloc ?_ _)); refine blk_far ?_ NB463_465.out _; (with_reducible repeat (first | refine blk_drewN ?_ _ | refine blk_drew ?_ | refine blk_alloc ?_ _)); refine blk_far ?_ NB463_465.out _; (with_reducible repeat (first | refine blk_drewN ?_ _ | refine blk_drew ?_ | refine blk_alloc ?_ _)); refine blk_far ?_ NB463_465.out _; (with_reducible repeat (first | refine blk_drewN ?_ _ | refine blk_drew ?_ | refine blk_alloc ?_ _)); refine blk_far ?_ NB463_465.out _; (with_reducible repeat (first | refine blk_drewN ?_ _ | refine blk_drew ?_ | refine blk_alloc ?_ _)); exact BK463.out⟩
   have n3_ : Aside0 (((((((((((w69.setCell ⟨gb465, 0, none⟩ (.int .i64 a0_0)).setCell ⟨gb465, 1, none⟩ (.int .i64 a0_1)).setCell ⟨gb465, 2, none⟩ (.int .i64 a0_2)).setCell ⟨gb465, 3, none⟩ (.bool a0_3)).setCell ⟨gb466, 0, none⟩ (.int .i64 a0_0)).setCell ⟨gb466, 1, none⟩ (.int .i64 a0_1)).setCell ⟨gb466, 2, none⟩ (.int .i64 a0_2)).setCell ⟨gb466, 3, none⟩ (.bool a0_3)).setCell ⟨gb465, 1, none⟩ (.int .i64 1)).setCell ⟨gb466, 1, none⟩ (.int .i64 12)).heap[gb465]? = some (.cells #[.int .i64 a0_0, .int .i64 1, .int .i64 a0_2, .bool a0_3] 33 (0, 0))) := ⟨by (with_reducible repeat (first | refine blk_drewN ?_ _ | refine blk_drew ?_ | refine blk_alloc ?_ _)); refine blk_far ?_ NB465_466.out _; (with_reducible repeat (first | refine blk_drewN ?_ _ | refine blk_drew ?_ | refine blk_alloc ?_ _)); refine blk_put (cs := #[.int .i64 a0_0, .int .i64 a0_1, .int .i64 a0_2, .bool a0_3]) ?_ 1 _ rfl; (with_reducible repeat (first | refine blk_drewN ?_ _ | refine blk_drew ?_ | refine blk_alloc ?_ _)); refine blk_far ?_ NB465_466.out _; (with_reducible repeat (first | refine blk_drewN ?_ _ | refine blk_drew ?_ | refine blk_alloc ?_ _)); refine blk_far ?_ NB465_466.out _; (with_reducible repeat (first | refine blk_drewN ?_ _ | refine blk_drew ?_ | refine blk_alloc ?_ _)); refine blk_far ?_ NB465_466.out _; (with_reducible repeat (first | refine blk_drewN ?_ _ | refine blk_drew ?_ | refine blk_alloc ?_ _)); refine blk_far ?_ NB465_466.out _; (with_reducible repeat (first | refine blk_drewN ?_ _ | refine blk_drew ?_ | refine blk_alloc ?_ _)); refine blk_put (cs := #[.int .i64 a0_0, .int .i64 a0_1, .int .i64 a0_2, .bool false]) ?_ 3 _ rfl; (with_reducible repeat (first | refine blk_drewN ?_ _ | refine blk_drew ?_ | refine blk_alloc ?_ _)); refine blk_put (cs := #[.int .i64 a0_0, .int .i64 a0_1, .int .i64 0, .bool false]) ?_ 2 _ rfl; (with_reducible repeat (first | refine blk_drewN ?_ _ | refine blk_drew ?_ | refine blk_alloc ?_ _)); refine blk_put (cs := #[.int .i64 a0_0, .int .i64 0, .int .i64 0, .bool false]) ?_ 1 _ rfl; (with_reducible repeat (first | refine blk_drewN ?_ _ | refine blk_drew ?_ | refine blk_alloc ?_ _)); refine blk_put (cs := #[.int .i64 0, .int .i64 0, .int .i64 0, .bool false]) ?_ 0 _ rfl; (with_reducible repeat (first | refine blk_drewN ?_ _ | refine blk_drew ?_ | refine blk_alloc ?_ _)); exact BK465.out⟩
   have n4_ : Aside0 (((((((((((w69.setCell ⟨gb465, 0, none⟩ (.int .i64 a0_0)).setCell ⟨gb465, 1, none⟩ (.int .i64 a0_1)).setCell ⟨gb465, 2, none⟩ (.int .i64 a0_2)).setCell ⟨gb465, 3, none⟩ (.bool a0_3)).setCell ⟨gb466, 0, none⟩ (.int .i64 a0_0)).setCell ⟨gb466, 1, none⟩ (.int .i64 a0_1)).setCell ⟨gb466, 2, none⟩ (.int .i64 a0_2)).setCell ⟨gb466, 3, none⟩ (.bool a0_3)).setCell ⟨gb465, 1, none⟩ (.int .i64 1)).setCell ⟨gb466, 1, none⟩ (.int .i64 12)).heap[gb466]? = some (.cells #[.int .i64 a0_0, .int .i64 12, .int .i64 a0_2, .bool a0_3] 33 (0, 0))) := ⟨by (with_reducible repeat (first | refine blk_drewN ?_ _ | refine blk_drew ?_ | refine blk_alloc ?_ _)); refine blk_put (cs := #[.int .i64 a0_0, .int .i64 a0_1, .int .i64 a0_2, .bool a0_3]) ?_ 1 _ rfl; (with_reducible repeat (first | refine blk_drewN ?_ _ | refine blk_drew ?_ | refine blk_alloc ?_ _)); refine blk_far ?_ NB466_465.out _; (with_reducible repeat (first | refine blk_drewN ?_ _ | refine blk_drew ?_ | refine blk_alloc ?_ _)); refine blk_put (cs := #[.int .i64 a0_0, .int .i64 a0_1, .int .i64 a0_2, .bool false]) ?_ 3 _ rfl; (with_reducible repeat (first | refine blk_drewN ?_ _ | refine blk_drew ?_ | refine blk_alloc ?_ _)); refine blk_put (cs := #[.int .i64 a0_0, .int .i64 a0_1, .int .i64 0, .bool false]) ?_ 2 _ rfl; (with_reducible repeat (first | refine blk_drewN ?_ _ | refine blk_drew ?_ | refine blk_alloc ?_ _)); refine blk_put (cs := #[.int .i64 a0_0, .int .i64 0, .int .i64 0, .bool false]) ?_ 1 _ rfl; (with_reducible repeat (first | refine blk_drewN ?_ _ | refine blk_drew ?_ | refine blk_alloc ?_ _)); refine blk_put (cs := #[.int .i64 0, .int .i64 0, .int .i64 0, .bool false]) ?_ 0 _ rfl; (with_reducible repeat (first | refine blk_drewN ?_ _ | refine blk_drew ?_ | refine blk_alloc ?_ _)); refine blk_far ?_ NB466_465.out _; (with_reducible repeat (first | refine blk_drewN ?_ _ | refine blk_drew ?_ | refine blk_alloc ?_ _)); refine blk_far ?_ NB466_465.out _; (with_reducible repeat (first | refine blk_drewN ?_ _ | refine blk_drew ?_ | refine blk_alloc ?_ _)); refine blk_far ?_ NB466_465.out _; (with_reducible repeat (first | refine blk_drewN ?_ _ | refine blk_drew ?_ | refine blk_alloc ?_ _)); refine blk_far ?_ NB466_465.out _; (with_reducible repeat (first | refine blk_drewN ?_ _ | refine blk_drew ?_ | refine blk_alloc ?_ _)); exact BK466.out⟩
   have n5_ : Aside0 (Below w.heap.size w ((((((((((w69.setCell ⟨gb465, 0, none⟩ (.int .i64 a0_0)).setCell ⟨gb465, 1, none⟩ (.int .i64 a0_1)).setCell ⟨gb465, 2, none⟩ (.int .i64 a0_2)).setCell ⟨gb465, 3, none⟩ (.bool a0_3)).setCell ⟨gb466, 0, none⟩ (.int .i64 a0_0)).setCell ⟨gb466, 1, none⟩ (.int .i64 a0_1)).setCell ⟨gb466, 2, none⟩ (.int .i64 a0_2)).setCell ⟨gb466, 3, none⟩ (.bool a0_3)).setCell ⟨gb465, 1, none⟩ (.int .i64 1)).setCell ⟨gb466, 1, none⟩ (.int .i64 12))) := ⟨by repeat (first | (with_reducible first | exact HB.out | apply below_alloc | apply pw_below_drewN | apply below_drew1 | refine below_set ?_ GE461.out | refine below_set ?_ GE462.out | refine below_set ?_ GE463.out | refine below_set ?_ GE465.out | refine below_set ?_ GE466.out) | exact HB.out)⟩
   (try clear BK461)
   (try clear BK462)
   (try clear BK463)
   (try clear BK465)
   (try clear BK466)
   (try clear HB)
   generalize ((((((((((w69.setCell ⟨gb465, 0, none⟩ (.int .i64 a0_0)).setCell ⟨gb465, 1, none⟩ (.int .i64 a0_1)).setCell ⟨gb465, 2, none⟩ (.int .i64 a0_2)).setCell ⟨gb465, 3, none⟩ (.bool a0_3)).setCell ⟨gb466, 0, none⟩ (.int .i64 a0_0)).setCell ⟨gb466, 1, none⟩ (.int .i64 a0_1)).setCell ⟨gb466, 2, none⟩ (.int .i64 a0_2)).setCell ⟨gb466, 3, none⟩ (.bool a0_3)).setCell ⟨gb465, 1, none⟩ (.int .i64 1)).setCell ⟨gb466, 1, none⟩ (.int .i64 12)) = w90 at n0_ n1_ n2_ n3_ n4_ n5_ ⊢
   have BK461 := n0_
   have BK462 := n1_
   have BK463 := n2_
   have BK465 := n3_
   have BK466 := n4_
   have HB := n5_
   clear n0_ n1_ n2_ n3_ n4_ n5_
   replace BK461 := Aside0.mk (blk_drew BK461.out)
   replace BK462 := Aside0.mk (blk_drew BK462.out)
   replace BK463 := Aside0.mk (blk_drew BK463.out)
   replace BK465 := Aside0.mk (blk_drew BK465.out)
   replace BK466 := Aside0.mk (blk_drew BK466.out)
   replace HB := Aside0.mk (below_drew1 HB.out)
   refine start_ (n := 5) (S := fun w' => w'.cell? ⟨gb465, 0, none⟩ = some (.int .i64 a0_0) ∧ w'.cell? ⟨gb465, 1, none⟩ = some (.int .i64 1) ∧ w'.cell? ⟨gb465, 2, none⟩ = some (.int .i64 a0_2) ∧ w'.cell? ⟨gb465, 3, none⟩ = some (.bool a0_3) ∧ w'.cell? ⟨gb466, 0, none⟩ = some (.int .i64 a0_0) ∧ w'.cell? ⟨gb466, 1, none⟩ = some (.int .i64 12) ∧ w'.cell? ⟨gb466, 2, none⟩ = some (.int .i64 a0_2) ∧ w'.cell? ⟨gb466, 3, none⟩ = some (.bool a0_3)) (ds := []) #[false, false, false, false, false] (by kernel_rfl) rfl rfl ⟨(blk_cell BK465.out 0).trans rfl, (blk_cell BK465.out 1).trans rfl, (blk_cell BK465.out 2).trans rfl, (blk_cell BK465.out 3).trans rfl, (blk_cell BK466.out 0).trans rfl, (blk_cell BK466.out 1).trans rfl, (blk_cell BK466.out 2).trans rfl, (blk_cell BK466.out 3).trans rfl⟩ (fun hHeld => ?_)
   generalize w90.drew = w91 at BK461 BK462 BK463 BK465 BK466 HB hHeld ⊢
   refine take_ (i := 0) (N := some 38) (v := ?_) (a' := ?_) #[true, false, false, false, false] rfl rfl (by kernel_rfl) (fun _ _ _ h => h) (Or.inl ⟨by rfl, ?_⟩) hHeld ?_ ?_
   rotate_left
   ·
    rintro w' ⟨s0, s1, s2, s3, s4, s5, s6, s7⟩
    go_simp
    with_reducible rfl
   rotate_left
   ·
    simp only [Act.put, List.setIfInBounds_toArray, List.set_cons_zero, List.set_cons_succ, i64_w, i32_w]
    rfl
   refine take_ (i := 1) (N := some 39) (v := ?_) (a' := ?_) #[true, true, false, false, false] rfl rfl (by kernel_rfl) (fun _ _ _ h => h) (Or.inl ⟨by rfl, ?_⟩) hHeld ?_ ?_
   rotate_left
   ·
    rintro w' ⟨s0, s1, s2, s3, s4, s5, s6, s7⟩
    go_simp
    with_reducible rfl
   rotate_left
   ·
    simp only [Act.put, List.setIfInBounds_toArray, List.set_cons_zero, List.set_cons_succ, i64_w, i32_w]
    rfl
   refine one_ (i := 2) (N := none) #[true, true, true, false, false] rfl rfl (by kernel_rfl) (by decide) (fun K hK => ?_)
   have hs92 : w91.cell? ⟨gb462, 0, none⟩ = some (.int .i64 0) := (blk_cell BK462.out 0).trans rfl
   have hfs92 := blk_frozen BK462.out 0
   have hns92_0 := NB461_462.out
   have hns92_2 := NB463_462.out
   have hns92_3 := NB465_462.out
   have hns92_4 := NB466_462.out
   have hms92_0 := NB462_461.out
   have hms92_2 := NB462_463.out
   have hms92_3 := NB462_465.out
   have hms92_4 := NB462_466.out
   have hs93 : w91.cell? ⟨gb462, 1, none⟩ = some (.int .i64 0) := (blk_cell BK462.out 1).trans rfl
   have hfs93 := blk_frozen BK462.out 1
   have hns93_0 := NB461_462.out
   have hns93_2 := NB463_462.out
   have hns93_3 := NB465_462.out
   have hns93_4 := NB466_462.out
   have hms93_0 := NB462_461.out
   have hms93_2 := NB462_463.out
   have hms93_3 := NB462_465.out
   have hms93_4 := NB462_466.out
   have hs94 : w91.cell? ⟨gb462, 2, none⟩ = some (.int .i64 0) := (blk_cell BK462.out 2).trans rfl
   have hfs94 := blk_frozen BK462.out 2
   have hns94_0 := NB461_462.out
   have hns94_2 := NB463_462.out
   have hns94_3 := NB465_462.out
   have hns94_4 := NB466_462.out
   have hms94_0 := NB462_461.out
   have hms94_2 := NB462_463.out
   have hms94_3 := NB462_465.out
   have hms94_4 := NB462_466.out
   have hs95 : w91.cell? ⟨gb462, 3, none⟩ = some (.bool false) := (blk_cell BK462.out 3).trans rfl
   have hfs95 := blk_frozen BK462.out 3
   have hns95_0 := NB461_462.out
   have hns95_2 := NB463_462.out
   have hns95_3 := NB465_462.out
   have hns95_4 := NB466_462.out
   have hms95_0 := NB462_461.out
   have hms95_2 := NB462_463.out
   have hms95_3 := NB462_465.out
   have hms95_4 := NB462_466.out
   refine skip_ (w1 := ?_) (by rfl) rfl ?_ ?_
   rotate_left
   ·
    go_simp
    rfl
   refine hK.out _ _ ⟨((cell_far (p := ⟨gb462, _, none⟩) NB465_462.out _).trans (((cell_far (p := ⟨gb462, _, none⟩) NB465_462.out _).trans (((cell_far (p := ⟨gb462, _, none⟩) NB465_462.out _).trans (((cell_far (p := ⟨gb462, _, none⟩) NB465_462.out _).trans (hHeld.1)))))))), ((cell_far (p := ⟨gb462, _, none⟩) NB465_462.out _).trans (((cell_far (p := ⟨gb462, _, none⟩) NB465_462.out _).trans (((cell_far (p := ⟨gb462, _, none⟩) NB465_462.out _).trans (((cell_far (p := ⟨gb462, _, none⟩) NB465_462.out _).trans (hHeld.2.1)))))))), ((cell_far (p := ⟨gb462, _, none⟩) NB465_462.out _).trans (((cell_far (p := ⟨gb462, _, none⟩) NB465_462.out _).trans (((cell_far (p := ⟨gb462, _, none⟩) NB465_462.out _).trans (((cell_far (p := ⟨gb462, _, none⟩) NB465_462.out _).trans (hHeld.2.2.1)))))))), ((cell_far (p := ⟨gb462, _, none⟩) NB465_462.out _).trans (((cell_far (p := ⟨gb462, _, none⟩) NB465_462.out _).trans (((cell_far (p := ⟨gb462, _, none⟩) NB465_462.out _).trans (((cell_far (p := ⟨gb462, _, none⟩) NB465_462.out _).trans (hHeld.2.2.2.1)))))))), ((cell_far (p := ⟨gb462, _, none⟩) NB466_462.out _).trans (((cell_far (p := ⟨gb462, _, none⟩) NB466_462.out _).trans (((cell_far (p := ⟨gb462, _, none⟩) NB466_462.out _).trans (((cell_far (p := ⟨gb462, _, none⟩) NB466_462.out _).trans (hHeld.2.2.2.2.1)))))))), ((cell_far (p := ⟨gb462, _, none⟩) NB466_462.out _).trans (((cell_far (p := ⟨gb462, _, none⟩) NB466_462.out _).trans (((cell_far (p := ⟨gb462, _, none⟩) NB466_462.out _).trans (((cell_far (p := ⟨gb462, _, none⟩) NB466_462.out _).trans (hHeld.2.2.2.2.2.1)))))))), ((cell_far (p := ⟨gb462, _, none⟩) NB466_462.out _).trans (((cell_far (p := ⟨gb462, _, none⟩) NB466_462.out _).trans (((cell_far (p := ⟨gb462, _, none⟩) NB466_462.out _).trans (((cell_far (p := ⟨gb462, _, none⟩) NB466_462.out _).trans (hHeld.2.2.2.2.2.2.1)))))))), ((cell_far (p := ⟨gb462, _, none⟩) NB466_462.out _).trans (((cell_far (p := ⟨gb462, _, none⟩) NB466_462.out _).trans (((cell_far (p := ⟨gb462, _, none⟩) NB466_462.out _).trans (((cell_far (p := ⟨gb462, _, none⟩) NB466_462.out _).trans (hHeld.2.2.2.2.2.2.2))))))))⟩ (fun hHeld => ?_)
   clear hK K
   refine one_ (i := 3) (N := none) #[true, true, true, true, false] rfl rfl (by kernel_rfl) (by decide) (fun K hK => ?_)
   have hs96 : w91.cell? ⟨gb463, 0, none⟩ = some (.int .i64 0) := (blk_cell BK463.out 0).trans rfl
   have hfs96 := blk_frozen BK463.out 0
   have hns96_0 := NB461_463.out
   have hns96_1 := NB462_463.out
   have hns96_3 := NB465_463.out
   have hns96_4 := NB466_463.out
   have hms96_0 := NB463_461.out
   have hms96_1 := NB463_462.out
   have hms96_3 := NB463_465.out
   have hms96_4 := NB463_466.out
   have hs97 : w91.cell? ⟨gb463, 1, none⟩ = some (.int .i64 0) := (blk_cell BK463.out 1).trans rfl
   have hfs97 := blk_frozen BK463.out 1
   have hns97_0 := NB461_463.out
   have hns97_1 := NB462_463.out
   have hns97_3 := NB465_463.out
   have hns97_4 := NB466_463.out
   have hms97_0 := NB463_461.out
   have hms97_1 := NB463_462.out
   have hms97_3 := NB463_465.out
   have hms97_4 := NB463_466.out
   have hs98 : w91.cell? ⟨gb463, 2, none⟩ = some (.int .i64 0) := (blk_cell BK463.out 2).trans rfl
   have hfs98 := blk_frozen BK463.out 2
   have hns98_0 := NB461_463.out
   have hns98_1 := NB462_463.out
   have hns98_3 := NB465_463.out
   have hns98_4 := NB466_463.out
   have hms98_0 := NB463_461.out
   have hms98_1 := NB463_462.out
   have hms98_3 := NB463_465.out
   have hms98_4 := NB463_466.out
   have hs99 : w91.cell? ⟨gb463, 3, none⟩ = some (.bool false) := (blk_cell BK463.out 3).trans rfl
   have hfs99 := blk_frozen BK463.out 3
   have hns99_0 := NB461_463.out
   have hns99_1 := NB462_463.out
   have hns99_3 := NB465_463.out
   have hns99_4 := NB466_463.out
   have hms99_0 := NB463_461.out
   have hms99_1 := NB463_462.out
   have hms99_3 := NB463_465.out
   have hms99_4 := NB463_466.out
   refine skip_ (w1 := ?_) (by rfl) rfl ?_ ?_
   rotate_left
   ·
    go_simp
    rfl
   refine hK.out _ _ ⟨((cell_far (p := ⟨gb463, _, none⟩) NB465_463.out _).trans (((cell_far (p := ⟨gb463, _, none⟩) NB465_463.out _).trans (((cell_far (p := ⟨gb463, _, none⟩) NB465_463.out _).trans (((cell_far (p := ⟨gb463, _, none⟩) NB465_463.out _).trans (hHeld.1)))))))), ((cell_far (p := ⟨gb463, _, none⟩) NB465_463.out _).trans (((cell_far (p := ⟨gb463, _, none⟩) NB465_463.out _).trans (((cell_far (p := ⟨gb463, _, none⟩) NB465_463.out _).trans (((cell_far (p := ⟨gb463, _, none⟩) NB465_463.out _).trans (hHeld.2.1)))))))), ((cell_far (p := ⟨gb463, _, none⟩) NB465_463.out _).trans (((cell_far (p := ⟨gb463, _, none⟩) NB465_463.out _).trans (((cell_far (p := ⟨gb463, _, none⟩) NB465_463.out _).trans (((cell_far (p := ⟨gb463, _, none⟩) NB465_463.out _).trans (hHeld.2.2.1)))))))), ((cell_far (p := ⟨gb463, _, none⟩) NB465_463.out _).trans (((cell_far (p := ⟨gb463, _, none⟩) NB465_463.out _).trans (((cell_far (p := ⟨gb463, _, none⟩) NB465_463.out _).trans (((cell_far (p := ⟨gb463, _, none⟩) NB465_463.out _).trans (hHeld.2.2.2.1)))))))), ((cell_far (p := ⟨gb463, _, none⟩) NB466_463.out _).trans (((cell_far (p := ⟨gb463, _, none⟩) NB466_463.out _).trans (((cell_far (p := ⟨gb463, _, none⟩) NB466_463.out _).trans (((cell_far (p := ⟨gb463, _, none⟩) NB466_463.out _).trans (hHeld.2.2.2.2.1)))))))), ((cell_far (p := ⟨gb463, _, none⟩) NB466_463.out _).trans (((cell_far (p := ⟨gb463, _, none⟩) NB466_463.out _).trans (((cell_far (p := ⟨gb463, _, none⟩) NB466_463.out _).trans (((cell_far (p := ⟨gb463, _, none⟩) NB466_463.out _).trans (hHeld.2.2.2.2.2.1)))))))), ((cell_far (p := ⟨gb463, _, none⟩) NB466_463.out _).trans (((cell_far (p := ⟨gb463, _, none⟩) NB466_463.out _).trans (((cell_far (p := ⟨gb463, _, none⟩) NB466_463.out _).trans (((cell_far (p := ⟨gb463, _, none⟩) NB466_463.out _).trans (hHeld.2.2.2.2.2.2.1)))))))), ((cell_far (p := ⟨gb463, _, none⟩) NB466_463.out _).trans (((cell_far (p := ⟨gb463, _, none⟩) NB466_463.out _).trans (((cell_far (p := ⟨gb463, _, none⟩) NB466_463.out _).trans (((cell_far (p := ⟨gb463, _, none⟩) NB466_463.out _).trans (hHeld.2.2.2.2.2.2.2))))))))⟩ (fun hHeld => ?_)
   clear hK K
   refine pure_ (i := 4) (N := some 4) (v := ?_) (a' := ?_) #[true, true, true, true, true] rfl rfl (by kernel_rfl) (fun _ _ _ h => h) (Or.inl ⟨by rfl, ?_⟩) ?_ ?_
   rotate_left
   ·
    intro w'
    go_simp
    with_reducible rfl
   rotate_left
   ·
    simp only [Act.put, List.setIfInBounds_toArray, List.set_cons_zero, List.set_cons_succ, i64_w, i32_w]
    rfl
   refine done_ (by kernel_rfl) ?_
   try go_wp2
   refine bodyPost_ret (results_list (rs := [.cell 2 33, .cell 3 33, .tmp 4]) rfl (by simp) (.cell gb462 33 #[.int .i64 a0_0, .int .i64 1, .int .i64 a0_2, .bool a0_3] (0, 0) _ rfl (by (with_reducible repeat (first | refine blk_drewN ?_ _ | refine blk_drew ?_ | refine blk_alloc ?_ _)); refine blk_far ?_ NB462_463.out _; (with_reducible repeat (first | refine blk_drewN ?_ _ | refine blk_drew ?_ | refine blk_alloc ?_ _)); refine blk_far ?_ NB462_463.out _; (with_reducible repeat (first | refine blk_drewN ?_ _ | refine blk_drew ?_ | refine blk_alloc ?_ _)); refine blk_far ?_ NB462_463.out _; (with_reducible repeat (first | refine blk_drewN ?_ _ | refine blk_drew ?_ | refine blk_alloc ?_ _)); refine blk_far ?_ NB462_463.out _; (with_reducible repeat (first | refine blk_drewN ?_ _ | refine blk_drew ?_ | refine blk_alloc ?_ _)); refine blk_put (cs := #[.int .i64 a0_0, .int .i64 1, .int .i64 a0_2, .bool false]) ?_ 3 _ rfl; (with_reducible repeat (first | refine blk_drewN ?_ _ | refine blk_drew ?_ | refine blk_alloc ?_ _)); refine blk_put (cs := #[.int .i64 a0_0, .int .i64 1, .int .i64 0, .bool false]) ?_ 2 _ rfl; (with_reducible repeat (first | refine blk_drewN ?_ _ | refine blk_drew ?_ | refine blk_alloc ?_ _)); refine blk_put (cs := #[.int .i64 a0_0, .int .i64 0, .int .i64 0, .bool false]) ?_ 1 _ rfl; (with_reducible repeat (first | refine blk_drewN ?_ _ | refine blk_drew ?_ | refine blk_alloc ?_ _)); refine blk_put (cs := #[.int .i64 0, .int .i64 0, .int .i64 0, .bool false]) ?_ 0 _ rfl; (with_reducible repeat (first | refine blk_drewN ?_ _ | refine blk_drew ?_ | refine blk_alloc ?_ _)); exact BK462.out) Tryd.underlying33 rfl (by kernel_rfl) (.cell gb463 33 #[.int .i64 a0_0, .int .i64 12, .int .i64 a0_2, .bool a0_3] (0, 0) _ rfl (by (with_reducible repeat (first | refine blk_drewN ?_ _ | refine blk_drew ?_ | refine blk_alloc ?_ _)); refine blk_put (cs := #[.int .i64 a0_0, .int .i64 12, .int .i64 a0_2, .bool false]) ?_ 3 _ rfl; (with_reducible repeat (first | refine blk_drewN ?_ _ | refine blk_drew ?_ | refine blk_alloc ?_ _)); refine blk_put (cs := #[.int .i64 a0_0, .int .i64 12, .int .i64 0, .bool false]) ?_ 2 _ rfl; (with_reducible repeat (first | refine blk_drewN ?_ _ | refine blk_drew ?_ | refine blk_alloc ?_ _)); refine blk_put (cs := #[.int .i64 a0_0, .int .i64 0, .int .i64 0, .bool false]) ?_ 1 _ rfl; (with_reducible repeat (first | refine blk_drewN ?_ _ | refine blk_drew ?_ | refine blk_alloc ?_ _)); refine blk_put (cs := #[.int .i64 0, .int .i64 0, .int .i64 0, .bool false]) ?_ 0 _ rfl; (with_reducible repeat (first | refine blk_drewN ?_ _ | refine blk_drew ?_ | refine blk_alloc ?_ _)); refine blk_far ?_ NB463_462.out _; (with_reducible repeat (first | refine blk_drewN ?_ _ | refine blk_drew ?_ | refine blk_alloc ?_ _)); refine blk_far ?_ NB463_462.out _; (with_reducible repeat (first | refine blk_drewN ?_ _ | refine blk_drew ?_ | refine blk_alloc ?_ _)); refine blk_far ?_ NB463_462.out _; (with_reducible repeat (first | refine blk_drewN ?_ _ | refine blk_drew ?_ | refine blk_alloc ?_ _)); refine blk_far ?_ NB463_462.out _; (with_reducible repeat (first | refine blk_drewN ?_ _ | refine blk_drew ?_ | refine blk_alloc ?_ _)); exact BK463.out) Tryd.underlying33 rfl (by kernel_rfl) (.tmp .nil)))) rfl ?_
   exact ax17
  |
   have g_ : (a0_2 == 0) = false := c100b0
   clear g_
   try go_wp2
   have n0_ : Aside0 (((((((((w69.setCell ⟨gb465, 0, none⟩ (.int .i64 a0_0)).setCell ⟨gb465, 1, none⟩ (.int .i64 a0_1)).setCell ⟨gb465, 2, none⟩ (.int .i64 a0_2)).setCell ⟨gb465, 3, none⟩ (.bool a0_3)).setCell ⟨gb466, 0, none⟩ (.int .i64 a0_0)).setCell ⟨gb466, 1, none⟩ (.int .i64 a0_1)).setCell ⟨gb466, 2, none⟩ (.int .i64 a0_2)).setCell ⟨gb466, 3, none⟩ (.bool a0_3)).heap[gb461]? = some (.cells #[.int .i64 a0_0, .int .i64 a0_1, .int .i64 a0_2, .bool a0_3] 33 (0, 0))) := ⟨by (with_reducible repeat (first | refine blk_drewN ?_ _ | refine blk_drew ?_ | refine blk_alloc ?_ _)); refine blk_far ?_ NB461_466.out _; (with_reducible repeat (first | refine blk_drewN ?_ _ | refine blk_drew ?_ | refine blk_alloc ?_ _)); refine blk_far ?_ NB461_466.out _; (with_reducible repeat (first | refine blk_drewN ?_ _ | refine blk_drew ?_ | refine blk_alloc ?_ _)); refine blk_far ?_ NB461_466.out _; (with_reducible repeat (first | refine blk_drewN ?_ _ | refine blk_drew ?_ | refine blk_alloc ?_ _)); refine blk_far ?_ NB461_466.out _; (with_reducible repeat (first | refine blk_drewN ?_ _ | refine blk_drew ?_ | refine blk_alloc ?_ _)); refine blk_far ?_ NB461_465.out _; (with_reducible repeat (first | refine blk_drewN ?_ _ | refine blk_drew ?_ | refine blk_alloc ?_ _)); refine blk_far ?_ NB461_465.out _; (with_reducible repeat (first | refine blk_drewN ?_ _ | refine blk_drew ?_ | refine blk_alloc ?_ _)); refine blk_far ?_ NB461_465.out _; (with_reducible repeat (first | refine blk_drewN ?_ _ | refine blk_drew ?_ | refine blk_alloc ?_ _)); refine blk_far ?_ NB461_465.out _; (with_reducible repeat (first | refine blk_drewN ?_ _ | refine blk_drew ?_ | refine blk_alloc ?_ _)); exact BK461.out⟩
   have n1_ : Aside0 (((((((((w69.setCell ⟨gb465, 0, none⟩ (.int .i64 a0_0)).setCell ⟨gb465, 1, none⟩ (.int .i64 a0_1)).setCell ⟨gb465, 2, none⟩ (.int .i64 a0_2)).setCell ⟨gb465, 3, none⟩ (.bool a0_3)).setCell ⟨gb466, 0, none⟩ (.int .i64 a0_0)).setCell ⟨gb466, 1, none⟩ (.int .i64 a0_1)).setCell ⟨gb466, 2, none⟩ (.int .i64 a0_2)).setCell ⟨gb466, 3, none⟩ (.bool a0_3)).heap[gb462]? = some (.cells #[.int .i64 0, .int .i64 0, .int .i64 0, .bool false] 33 (0, 0))) := ⟨by (with_reducible repeat (first | refine blk_drewN ?_ _ | refine blk_drew ?_ | refine blk_alloc ?_ _)); refine blk_far ?_ NB462_466.out _; (with_reducible repeat (first | refine blk_drewN ?_ _ | refine blk_drew ?_ | refine blk_alloc ?_ _)); refine blk_far ?_ NB462_466.out _; (with_reducible repeat (first | refine blk_drewN ?_ _ | refine blk_drew ?_ | refine blk_alloc ?_ _)); refine blk_far ?_ NB462_466.out _; (with_reducible repeat (first | refine blk_drewN ?_ _ | refine blk_drew ?_ | refine blk_alloc ?_ _)); refine blk_far ?_ NB462_466.out _; (with_reducible repeat (first | refine blk_drewN ?_ _ | refine blk_drew ?_ | refine blk_alloc ?_ _)); refine blk_far ?_ NB462_465.out _; (with_reducible repeat (first | refine blk_drewN ?_ _ | refine blk_drew ?_ | refine blk_alloc ?_ _)); refine blk_far ?_ NB462_465.out _; (with_reducible repeat (first | refine blk_drewN ?_ _ | refine blk_drew ?_ | refine blk_alloc ?_ _)); refine blk_far ?_ NB462_465.out _; (with_reducible repeat (first | refine blk_drewN ?_ _ | refine blk_drew ?_ | refine blk_alloc ?_ _)); refine blk_far ?_ NB462_465.out _; (with_reducible repeat (first | refine blk_drewN ?_ _ | refine blk_drew ?_ | refine blk_alloc ?_ _)); exact BK462.out⟩
   have n2_ : Aside0 (((((((((w69.setCell ⟨gb465, 0, none⟩ (.int .i64 a0_0)).setCell ⟨gb465, 1, none⟩ (.int .i64 a0_1)).setCell ⟨gb465, 2, none⟩ (.int .i64 a0_2)).setCell ⟨gb465, 3, none⟩ (.bool a0_3)).setCell ⟨gb466, 0, none⟩ (.int .i64 a0_0)).setCell ⟨gb466, 1, none⟩ (.int .i64 a0_1)).setCell ⟨gb466, 2, none⟩ (.int .i64 a0_2)).setCell ⟨gb466, 3, none⟩ (.bool a0_3)).heap[gb463]? = some (.cells #[.int .i64 0, .int .i64 0, .int .i64 0, .bool false] 33 (0, 0))) := ⟨by (with_reducible repeat (first | refine blk_drewN ?_ _ | refine blk_drew ?_ | refine blk_alloc ?_ _)); refine blk_far ?_ NB463_466.out _; (with_reducible repeat (first | refine blk_drewN ?_ _ | refine blk_drew ?_ | refine blk_alloc ?_ _)); refine blk_far ?_ NB463_466.out _; (with_reducible repeat (first | refine blk_drewN ?_ _ | refine blk_drew ?_ | refine blk_alloc ?_ _)); refine blk_far ?_ NB463_466.out _; (with_reducible repeat (first | refine blk_drewN ?_ _ | refine blk_drew ?_ | refine blk_alloc ?_ _)); refine blk_far ?_ NB463_466.out _; (with_reducible repeat (first | refine blk_drewN ?_ _ | refine blk_drew ?_ | refine blk_alloc ?_ _)); refine blk_far ?_ NB463_465.out _; (with_reducible repeat (first | refine blk_drewN ?_ _ | refine blk_drew ?_ | refine blk_alloc ?_ _)); refine blk_far ?_ NB463_465.out _; (with_reducible repeat (first | refine blk_drewN ?_ _ | refine blk_drew ?_ | refine blk_alloc ?_ _)); refine blk_far ?_ NB463_465.out _; (with_reducible repeat (first | refine blk_drewN ?_ _ | refine blk_drew ?_ | refine blk_alloc ?_ _)); refine blk_far ?_ NB463_465.out _; (with_reducible repeat (first | refine blk_drewN ?_ _ | refine blk_drew ?_ | refine blk_alloc ?_ _)); exact BK463.out⟩
   have n3_ : Aside0 (((((((((w69.setCell ⟨gb465, 0, none⟩ (.int .i64 a0_0)).setCell ⟨gb465, 1, none⟩ (.int .i64 a0_1)).setCell ⟨gb465, 2, none⟩ (.int .i64 a0_2)).setCell ⟨gb465, 3, none⟩ (.bool a0_3)).setCell ⟨gb466, 0, none⟩ (.int .i64 a0_0)).setCell ⟨gb466, 1, none⟩ (.int .i64 a0_1)).setCell ⟨gb466, 2, none⟩ (.int .i64 a0_2)).setCell ⟨gb466, 3, none⟩ (.bool a0_3)).heap[gb465]? = some (.cells #[.int .i64 a0_0, .int .i64 a0_1, .int .i64 a0_2, .bool a0_3] 33 (0, 0))) := ⟨by (with_reducible repeat (first | refine blk_drewN ?_ _ | refine blk_drew ?_ | refine blk_alloc ?_ _)); refine blk_far ?_ NB465_466.out _; (with_reducible repeat (first | refine blk_drewN ?_ _ | refine blk_drew ?_ | refine blk_alloc ?_ _)); refine blk_far ?_ NB465_466.out _; (with_reducible repeat (first | refine blk_drewN ?_ _ | refine blk_drew ?_ | refine blk_alloc ?_ _)); refine blk_far ?_ NB465_466.out _; (with_reducible repeat (first | refine blk_drewN ?_ _ | refine blk_drew ?_ | refine blk_alloc ?_ _)); refine blk_far ?_ NB465_466.out _; (with_reducible repeat (first | refine blk_drewN ?_ _ | refine blk_drew ?_ | refine blk_alloc ?_ _)); refine blk_put (cs := #[.int .i64 a0_0, .int .i64 a0_1, .int .i64 a0_2, .bool false]) ?_ 3 _ rfl; (with_reducible repeat (first | refine blk_drewN ?_ _ | refine blk_drew ?_ | refine blk_alloc ?_ _)); refine blk_put (cs := #[.int .i64 a0_0, .int .i64 a0_1, .int .i64 0, .bool false]) ?_ 2 _ rfl; (with_reducible repeat (first | refine blk_drewN ?_ _ | refine blk_drew ?_ | refine blk_alloc ?_ _)); refine blk_put (cs := #[.int .i64 a0_0, .int .i64 0, .int .i64 0, .bool false]) ?_ 1 _ rfl; (with_reducible repeat (first | refine blk_drewN ?_ _ | refine blk_drew ?_ | refine blk_alloc ?_ _)); refine blk_put (cs := #[.int .i64 0, .int .i64 0, .int .i64 0, .bool false]) ?_ 0 _ rfl; (with_reducible repeat (first | refine blk_drewN ?_ _ | refine blk_drew ?_ | refine blk_alloc ?_ _)); exact BK465.out⟩
   have n4_ : Aside0 (((((((((w69.setCell ⟨gb465, 0, none⟩ (.int .i64 a0_0)).setCell ⟨gb465, 1, none⟩ (.int .i64 a0_1)).setCell ⟨gb465, 2, none⟩ (.int .i64 a0_2)).setCell ⟨gb465, 3, none⟩ (.bool a0_3)).setCell ⟨gb466, 0, none⟩ (.int .i64 a0_0)).setCell ⟨gb466, 1, none⟩ (.int .i64 a0_1)).setCell ⟨gb466, 2, none⟩ (.int .i64 a0_2)).setCell ⟨gb466, 3, none⟩ (.bool a0_3)).heap[gb466]? = some (.cells #[.int .i64 a0_0, .int .i64 a0_1, .int .i64 a0_2, .bool a0_3] 33 (0, 0))) := ⟨by (with_reducible repeat (first | refine blk_drewN ?_ _ | refine blk_drew ?_ | refine blk_alloc ?_ _)); refine blk_put (cs := #[.int .i64 a0_0, .int .i64 a0_1, .int .i64 a0_2, .bool false]) ?_ 3 _ rfl; (with_reducible repeat (first | refine blk_drewN ?_ _ | refine blk_drew ?_ | refine blk_alloc ?_ _)); refine blk_put (cs := #[.int .i64 a0_0, .int .i64 a0_1, .int .i64 0, .bool false]) ?_ 2 _ rfl; (with_reducible repeat (first | refine blk_drewN ?_ _ | refine blk_drew ?_ | refine blk_alloc ?_ _)); refine blk_put (cs := #[.int .i64 a0_0, .int .i64 0, .int .i64 0, .bool false]) ?_ 1 _ rfl; (with_reducible repeat (first | refine blk_drewN ?_ _ | refine blk_drew ?_ | refine blk_alloc ?_ _)); refine blk_put (cs := #[.int .i64 0, .int .i64 0, .int .i64 0, .bool false]) ?_ 0 _ rfl; (with_reducible repeat (first | refine blk_drewN ?_ _ | refine blk_drew ?_ | refine blk_alloc ?_ _)); refine blk_far ?_ NB466_465.out _; (with_reducible repeat (first | refine blk_drewN ?_ _ | refine blk_drew ?_ | refine blk_alloc ?_ _)); refine blk_far ?_ NB466_465.out _; (with_reducible repeat (first | refine blk_drewN ?_ _ | refine blk_drew ?_ | refine blk_alloc ?_ _)); refine blk_far ?_ NB466_465.out _; (with_reducible repeat (first | refine blk_drewN ?_ _ | refine blk_drew ?_ | refine blk_alloc ?_ _)); refine blk_far ?_ NB466_465.out _; (with_reducible repeat (first | refine blk_drewN ?_ _ | refine blk_drew ?_ | refine blk_alloc ?_ _)); exact BK466.out⟩
   have n5_ : Aside0 (Below w.heap.size w ((((((((w69.setCell ⟨gb465, 0, none⟩ (.int .i64 a0_0)).setCell ⟨gb465, 1, none⟩ (.int .i64 a0_1)).setCell ⟨gb465, 2, none⟩ (.int .i64 a0_2)).setCell ⟨gb465, 3, none⟩ (.bool a0_3)).setCell ⟨gb466, 0, none⟩ (.int .i64 a0_0)).setCell ⟨gb466, 1, none⟩ (.int .i64 a0_1)).setCell ⟨gb466, 2, none⟩ (.int .i64 a0_2)).setCell ⟨gb466, 3, none⟩ (.bool a0_3))) := ⟨by repeat (first | (with_reducible first | exact HB.out | apply below_alloc | apply pw_below_drewN | apply below_drew1 | refine below_set ?_ GE461.out | refine below_set ?_ GE462.out | refine below_set ?_ GE463.out | refine below_set ?_ GE465.out | refine below_set ?_ GE466.out) | exact HB.out)⟩
   (try clear BK461)
   (try clear BK462)
   (try clear BK463)
   (try clear BK465)
   (try clear BK466)
   (try clear HB)
   generalize ((((((((w69.setCell ⟨gb465, 0, none⟩ (.int .i64 a0_0)).setCell ⟨gb465, 1, none⟩ (.int .i64 a0_1)).setCell ⟨gb465, 2, none⟩ (.int .i64 a0_2)).setCell ⟨gb465, 3, none⟩ (.bool a0_3)).setCell ⟨gb466, 0, none⟩ (.int .i64 a0_0)).setCell ⟨gb466, 1, none⟩ (.int .i64 a0_1)).setCell ⟨gb466, 2, none⟩ (.int .i64 a0_2)).setCell ⟨gb466, 3, none⟩ (.bool a0_3)) = w153 at n0_ n1_ n2_ n3_ n4_ n5_ ⊢
   have BK461 := n0_
   have BK462 := n1_
   have BK463 := n2_
   have BK465 := n3_
   have BK466 := n4_
   have HB := n5_
   clear n0_ n1_ n2_ n3_ n4_ n5_
   replace BK461 := Aside0.mk (blk_drew BK461.out)
   replace BK462 := Aside0.mk (blk_drew BK462.out)
   replace BK463 := Aside0.mk (blk_drew BK463.out)
   replace BK465 := Aside0.mk (blk_drew BK465.out)
   replace BK466 := Aside0.mk (blk_drew BK466.out)
   replace HB := Aside0.mk (below_drew1 HB.out)
   refine start_ (n := 5) (S := fun w' => w'.cell? ⟨gb465, 0, none⟩ = some (.int .i64 a0_0) ∧ w'.cell? ⟨gb465, 1, none⟩ = some (.int .i64 a0_1) ∧ w'.cell? ⟨gb465, 2, none⟩ = some (.int .i64 a0_2) ∧ w'.cell? ⟨gb465, 3, none⟩ = some (.bool a0_3) ∧ w'.cell? ⟨gb466, 0, none⟩ = some (.int .i64 a0_0) ∧ w'.cell? ⟨gb466, 1, none⟩ = some (.int .i64 a0_1) ∧ w'.cell? ⟨gb466, 2, none⟩ = some (.int .i64 a0_2) ∧ w'.cell? ⟨gb466, 3, none⟩ = some (.bool a0_3)) (ds := []) #[false, false, false, false, false] (by kernel_rfl) rfl rfl ⟨(blk_cell BK465.out 0).trans rfl, (blk_cell BK465.out 1).trans rfl, (blk_cell BK465.out 2).trans rfl, (blk_cell BK465.out 3).trans rfl, (blk_cell BK466.out 0).trans rfl, (blk_cell BK466.out 1).trans rfl, (blk_cell BK466.out 2).trans rfl, (blk_cell BK466.out 3).trans rfl⟩ (fun hHeld => ?_)
   generalize w153.drew = w154 at BK461 BK462 BK463 BK465 BK466 HB hHeld ⊢
   refine take_ (i := 0) (N := some 38) (v := ?_) (a' := ?_) #[true, false, false, false, false] rfl rfl (by kernel_rfl) (fun _ _ _ h => h) (Or.inl ⟨by rfl, ?_⟩) hHeld ?_ ?_
   rotate_left
   ·
    rintro w' ⟨s0, s1, s2, s3, s4, s5, s6, s7⟩
    go_simp
    with_reducible rfl
   rotate_left
   ·
    simp only [Act.put, List.setIfInBounds_toArray, List.set_cons_zero, List.set_cons_succ, i64_w, i32_w]
    rfl
   refine take_ (i := 1) (N := some 39) (v := ?_) (a' := ?_) #[true, true, false, false, false] rfl rfl (by kernel_rfl) (fun _ _ _ h => h) (Or.inl ⟨by rfl, ?_⟩) hHeld ?_ ?_
   rotate_left
   ·
    rintro w' ⟨s0, s1, s2, s3, s4, s5, s6, s7⟩
    go_simp
    with_reducible rfl
   rotate_left
   ·
    simp only [Act.put, List.setIfInBounds_toArray, List.set_cons_zero, List.set_cons_succ, i64_w, i32_w]
    rfl
   refine one_ (i := 2) (N := none) #[true, true, true, false, false] rfl rfl (by kernel_rfl) (by decide) (fun K hK => ?_)
   have hs155 : w154.cell? ⟨gb462, 0, none⟩ = some (.int .i64 0) := (blk_cell BK462.out 0).trans rfl
   have hfs155 := blk_frozen BK462.out 0
   have hns155_0 := NB461_462.out
   have hns155_2 := NB463_462.out
   have hns155_3 := NB465_462.out
   have hns155_4 := NB466_462.out
   have hms155_0 := NB462_461.out
   have hms155_2 := NB462_463.out
   have hms155_3 := NB462_465.out
   have hms155_4 := NB462_466.out
   have hs156 : w154.cell? ⟨gb462, 1, none⟩ = some (.int .i64 0) := (blk_cell BK462.out 1).trans rfl
   have hfs156 := blk_frozen BK462.out 1
   have hns156_0 := NB461_462.out
   have hns156_2 := NB463_462.out
   have hns156_3 := NB465_462.out
   have hns156_4 := NB466_462.out
   have hms156_0 := NB462_461.out
   have hms156_2 := NB462_463.out
   have hms156_3 := NB462_465.out
   have hms156_4 := NB462_466.out
   have hs157 : w154.cell? ⟨gb462, 2, none⟩ = some (.int .i64 0) := (blk_cell BK462.out 2).trans rfl
   have hfs157 := blk_frozen BK462.out 2
   have hns157_0 := NB461_462.out
   have hns157_2 := NB463_462.out
   have hns157_3 := NB465_462.out
   have hns157_4 := NB466_462.out
   have hms157_0 := NB462_461.out
   have hms157_2 := NB462_463.out
   have hms157_3 := NB462_465.out
   have hms157_4 := NB462_466.out
   have hs158 : w154.cell? ⟨gb462, 3, none⟩ = some (.bool false) := (blk_cell BK462.out 3).trans rfl
   have hfs158 := blk_frozen BK462.out 3
   have hns158_0 := NB461_462.out
   have hns158_2 := NB463_462.out
   have hns158_3 := NB465_462.out
   have hns158_4 := NB466_462.out
   have hms158_0 := NB462_461.out
   have hms158_2 := NB462_463.out
   have hms158_3 := NB462_465.out
   have hms158_4 := NB462_466.out
   refine skip_ (w1 := ?_) (by rfl) rfl ?_ ?_
   rotate_left
   ·
    go_simp
    rfl
   refine hK.out _ _ ⟨((cell_far (p := ⟨gb462, _, none⟩) NB465_462.out _).trans (((cell_far (p := ⟨gb462, _, none⟩) NB465_462.out _).trans (((cell_far (p := ⟨gb462, _, none⟩) NB465_462.out _).trans (((cell_far (p := ⟨gb462, _, none⟩) NB465_462.out _).trans (hHeld.1)))))))), ((cell_far (p := ⟨gb462, _, none⟩) NB465_462.out _).trans (((cell_far (p := ⟨gb462, _, none⟩) NB465_462.out _).trans (((cell_far (p := ⟨gb462, _, none⟩) NB465_462.out _).trans (((cell_far (p := ⟨gb462, _, none⟩) NB465_462.out _).trans (hHeld.2.1)))))))), ((cell_far (p := ⟨gb462, _, none⟩) NB465_462.out _).trans (((cell_far (p := ⟨gb462, _, none⟩) NB465_462.out _).trans (((cell_far (p := ⟨gb462, _, none⟩) NB465_462.out _).trans (((cell_far (p := ⟨gb462, _, none⟩) NB465_462.out _).trans (hHeld.2.2.1)))))))), ((cell_far (p := ⟨gb462, _, none⟩) NB465_462.out _).trans (((cell_far (p := ⟨gb462, _, none⟩) NB465_462.out _).trans (((cell_far (p := ⟨gb462, _, none⟩) NB465_462.out _).trans (((cell_far (p := ⟨gb462, _, none⟩) NB465_462.out _).trans (hHeld.2.2.2.1)))))))), ((cell_far (p := ⟨gb462, _, none⟩) NB466_462.out _).trans (((cell_far (p := ⟨gb462, _, none⟩) NB466_462.out _).trans (((cell_far (p := ⟨gb462, _, none⟩) NB466_462.out _).trans (((cell_far (p := ⟨gb462, _, none⟩) NB466_462.out _).trans (hHeld.2.2.2.2.1)))))))), ((cell_far (p := ⟨gb462, _, none⟩) NB466_462.out _).trans (((cell_far (p := ⟨gb462, _, none⟩) NB466_462.out _).trans (((cell_far (p := ⟨gb462, _, none⟩) NB466_462.out _).trans (((cell_far (p := ⟨gb462, _, none⟩) NB466_462.out _).trans (hHeld.2.2.2.2.2.1)))))))), ((cell_far (p := ⟨gb462, _, none⟩) NB466_462.out _).trans (((cell_far (p := ⟨gb462, _, none⟩) NB466_462.out _).trans (((cell_far (p := ⟨gb462, _, none⟩) NB466_462.out _).trans (((cell_far (p := ⟨gb462, _, none⟩) NB466_462.out _).trans (hHeld.2.2.2.2.2.2.1)))))))), ((cell_far (p := ⟨gb462, _, none⟩) NB466_462.out _).trans (((cell_far (p := ⟨gb462, _, none⟩) NB466_462.out _).trans (((cell_far (p := ⟨gb462, _, none⟩) NB466_462.out _).trans (((cell_far (p := ⟨gb462, _, none⟩) NB466_462.out _).trans (hHeld.2.2.2.2.2.2.2))))))))⟩ (fun hHeld => ?_)
   clear hK K
   refine one_ (i := 3) (N := none) #[true, true, true, true, false] rfl rfl (by kernel_rfl) (by decide) (fun K hK => ?_)
   have hs159 : w154.cell? ⟨gb463, 0, none⟩ = some (.int .i64 0) := (blk_cell BK463.out 0).trans rfl
   have hfs159 := blk_frozen BK463.out 0
   have hns159_0 := NB461_463.out
   have hns159_1 := NB462_463.out
   have hns159_3 := NB465_463.out
   have hns159_4 := NB466_463.out
   have hms159_0 := NB463_461.out
   have hms159_1 := NB463_462.out
   have hms159_3 := NB463_465.out
   have hms159_4 := NB463_466.out
   have hs160 : w154.cell? ⟨gb463, 1, none⟩ = some (.int .i64 0) := (blk_cell BK463.out 1).trans rfl
   have hfs160 := blk_frozen BK463.out 1
   have hns160_0 := NB461_463.out
   have hns160_1 := NB462_463.out
   have hns160_3 := NB465_463.out
   have hns160_4 := NB466_463.out
   have hms160_0 := NB463_461.out
   have hms160_1 := NB463_462.out
   have hms160_3 := NB463_465.out
   have hms160_4 := NB463_466.out
   have hs161 : w154.cell? ⟨gb463, 2, none⟩ = some (.int .i64 0) := (blk_cell BK463.out 2).trans rfl
   have hfs161 := blk_frozen BK463.out 2
   have hns161_0 := NB461_463.out
   have hns161_1 := NB462_463.out
   have hns161_3 := NB465_463.out
   have hns161_4 := NB466_463.out
   have hms161_0 := NB463_461.out
   have hms161_1 := NB463_462.out
   have hms161_3 := NB463_465.out
   have hms161_4 := NB463_466.out
   have hs162 : w154.cell? ⟨gb463, 3, none⟩ = some (.bool false) := (blk_cell BK463.out 3).trans rfl
   have hfs162 := blk_frozen BK463.out 3
   have hns162_0 := NB461_463.out
   have hns162_1 := NB462_463.out
   have hns162_3 := NB465_463.out
   have hns162_4 := NB466_463.out
   have hms162_0 := NB463_461.out
   have hms162_1 := NB463_462.out
   have hms162_3 := NB463_465.out
   have hms162_4 := NB463_466.out
   refine skip_ (w1 := ?_) (by rfl) rfl ?_ ?_
   rotate_left
   ·
    go_simp
    rfl
   refine hK.out _ _ ⟨((cell_far (p := ⟨gb463, _, none⟩) NB465_463.out _).trans (((cell_far (p := ⟨gb463, _, none⟩) NB465_463.out _).trans (((cell_far (p := ⟨gb463, _, none⟩) NB465_463.out _).trans (((cell_far (p := ⟨gb463, _, none⟩) NB465_463.out _).trans (hHeld.1)))))))), ((cell_far (p := ⟨gb463, _, none⟩) NB465_463.out _).trans (((cell_far (p := ⟨gb463, _, none⟩) NB465_463.out _).trans (((cell_far (p := ⟨gb463, _, none⟩) NB465_463.out _).trans (((cell_far (p := ⟨gb463, _, none⟩) NB465_463.out _).trans (hHeld.2.1)))))))), ((cell_far (p := ⟨gb463, _, none⟩) NB465_463.out _).trans (((cell_far (p := ⟨gb463, _, none⟩) NB465_463.out _).trans (((cell_far (p := ⟨gb463, _, none⟩) NB465_463.out _).trans (((cell_far (p := ⟨gb463, _, none⟩) NB465_463.out _).trans (hHeld.2.2.1)))))))), ((cell_far (p := ⟨gb463, _, none⟩) NB465_463.out _).trans (((cell_far (p := ⟨gb463, _, none⟩) NB465_463.out _).trans (((cell_far (p := ⟨gb463, _, none⟩) NB465_463.out _).trans (((cell_far (p := ⟨gb463, _, none⟩) NB465_463.out _).trans (hHeld.2.2.2.1)))))))), ((cell_far (p := ⟨gb463, _, none⟩) NB466_463.out _).trans (((cell_far (p := ⟨gb463, _, none⟩) NB466_463.out _).trans (((cell_far (p := ⟨gb463, _, none⟩) NB466_463.out _).trans (((cell_far (p := ⟨gb463, _, none⟩) NB466_463.out _).trans (hHeld.2.2.2.2.1)))))))), ((cell_far (p := ⟨gb463, _, none⟩) NB466_463.out _).trans (((cell_far (p := ⟨gb463, _, none⟩) NB466_463.out _).trans (((cell_far (p := ⟨gb463, _, none⟩) NB466_463.out _).trans (((cell_far (p := ⟨gb463, _, none⟩) NB466_463.out _).trans (hHeld.2.2.2.2.2.1)))))))), ((cell_far (p := ⟨gb463, _, none⟩) NB466_463.out _).trans (((cell_far (p := ⟨gb463, _, none⟩) NB466_463.out _).trans (((cell_far (p := ⟨gb463, _, none⟩) NB466_463.out _).trans (((cell_far (p := ⟨gb463, _, none⟩) NB466_463.out _).trans (hHeld.2.2.2.2.2.2.1)))))))), ((cell_far (p := ⟨gb463, _, none⟩) NB466_463.out _).trans (((cell_far (p := ⟨gb463, _, none⟩) NB466_463.out _).trans (((cell_far (p := ⟨gb463, _, none⟩) NB466_463.out _).trans (((cell_far (p := ⟨gb463, _, none⟩) NB466_463.out _).trans (hHeld.2.2.2.2.2.2.2))))))))⟩ (fun hHeld => ?_)
   clear hK K
   refine pure_ (i := 4) (N := some 4) (v := ?_) (a' := ?_) #[true, true, true, true, true] rfl rfl (by kernel_rfl) (fun _ _ _ h => h) (Or.inl ⟨by rfl, ?_⟩) ?_ ?_
   rotate_left
   ·
    intro w'
    go_simp
    with_reducible rfl
   rotate_left
   ·
    simp only [Act.put, List.setIfInBounds_toArray, List.set_cons_zero, List.set_cons_succ, i64_w, i32_w]
    rfl
   refine done_ (by kernel_rfl) ?_
   try go_wp2
   refine bodyPost_ret (results_list (rs := [.cell 2 33, .cell 3 33, .tmp 4]) rfl (by simp) (.cell gb462 33 #[.int .i64 a0_0, .int .i64 a0_1, .int .i64 a0_2, .bool a0_3] (0, 0) _ rfl (by (with_reducible repeat (first | refine blk_drewN ?_ _ | refine blk_drew ?_ | refine blk_alloc ?_ _)); refine blk_far ?_ NB462_463.out _; (with_reducible repeat (first | refine blk_drewN ?_ _ | refine blk_drew ?_ | refine blk_alloc ?_ _)); refine blk_far ?_ NB462_463.out _; (with_reducible repeat (first | refine blk_drewN ?_ _ | refine blk_drew ?_ | refine blk_alloc ?_ _)); refine blk_far ?_ NB462_463.out _; (with_reducible repeat (first | refine blk_drewN ?_ _ | refine blk_drew ?_ | refine blk_alloc ?_ _)); refine blk_far ?_ NB462_463.out _; (with_reducible repeat (first | refine blk_drewN ?_ _ | refine blk_drew ?_ | refine blk_alloc ?_ _)); refine blk_put (cs := #[.int .i64 a0_0, .int .i64 a0_1, .int .i64 a0_2, .bool false]) ?_ 3 _ rfl; (with_reducible repeat (first | refine blk_drewN ?_ _ | refine blk_drew ?_ | refine blk_alloc ?_ _)); refine blk_put (cs := #[.int .i64 a0_0, .int .i64 a0_1, .int .i64 0, .bool false]) ?_ 2 _ rfl; (with_reducible repeat (first | refine blk_drewN ?_ _ | refine blk_drew ?_ | refine blk_alloc ?_ _)); refine blk_put (cs := #[.int .i64 a0_0, .int .i64 0, .int .i64 0, .bool false]) ?_ 1 _ rfl; (with_reducible repeat (first | refine blk_drewN ?_ _ | refine blk_drew ?_ | refine blk_alloc ?_ _)); refine blk_put (cs := #[.int .i64 0, .int .i64 0, .int .i64 0, .bool false]) ?_ 0 _ rfl; (with_reducible repeat (first | refine blk_drewN ?_ _ | refine blk_drew ?_ | refine blk_alloc ?_ _)); exact BK462.out) Tryd.underlying33 rfl (by kernel_rfl) (.cell gb463 33 #[.int .i64 a0_0, .int .i64 a0_1, .int .i64 a0_2, .bool a0_3] (0, 0) _ rfl (by (with_reducible repeat (first | refine blk_drewN ?_ _ | refine blk_drew ?_ | refine blk_alloc ?_ _)); refine blk_put (cs := #[.int .i64 a0_0, .int .i64 a0_1, .int .i64 a0_2, .bool false]) ?_ 3 _ rfl; (with_reducible repeat (first | refine blk_drewN ?_ _ | refine blk_drew ?_ | refine blk_alloc ?_ _)); refine blk_put (cs := #[.int .i64 a0_0, .int .i64 a0_1, .int .i64 0, .bool false]) ?_ 2 _ rfl; (with_reducible repeat (first | refine blk_drewN ?_ _ | refine blk_drew ?_ | refine blk_alloc ?_ _)); refine blk_put (cs := #[.int .i64 a0_0, .int .i64 0, .int .i64 0, .bool false]) ?_ 1 _ rfl; (with_reducible repeat (first | refine blk_drewN ?_ _ | refine blk_drew ?_ | refine blk_alloc ?_ _)); refine blk_put (cs := #[.int .i64 0, .int .i64 0, .int .i64 0, .bool false]) ?_ 0 _ rfl; (with_reducible repeat (first | refine blk_drewN ?_ _ | refine blk_drew ?_ | refine blk_alloc ?_ _)); refine blk_far ?_ NB463_462.out _; (with_reducible repeat (first | refine blk_drewN ?_ _ | refine blk_drew ?_ | refine blk_alloc ?_ _)); refine blk_far ?_ NB463_462.out _; (with_reducible repeat (first | refine blk_drewN ?_ _ | refine blk_drew ?_ | refine blk_alloc ?_ _)); refine blk_far ?_ NB463_462.out _; (with_reducible repeat (first | refine blk_drewN ?_ _ | refine blk_drew ?_ | refine blk_alloc ?_ _)); refine blk_far ?_ NB463_462.out _; (with_reducible repeat (first | refine blk_drewN ?_ _ | refine blk_drew ?_ | refine blk_alloc ?_ _)); exact BK463.out) Tryd.underlying33 rfl (by kernel_rfl) (.tmp .nil)))) rfl ?_
   exact ax17) : P := h
set_option maxRecDepth 100000 in
theorem impl_DateBounds.L2 {P : Prop} (h : P := by
  go_wp2_with (first | ((with_reducible refine gate_callee (f := 49) rfl ?_); refine goesL_ (some 8) rfl rfl Tryd.func49 (by kernel_rfl) rfl #[.agg #[.int .i64 a0_0, .int .i64 a0_1, .int .i64 a0_2, .bool a0_3]] rfl au100 ?_; (with_reducible refine (impl_IsValidDate.calls k a0_0 a0_1 a0_2 a0_3 _ _ A6.out).mono ?_); rintro e w12 ⟨rfl, hb⟩; refine ⟨_, rfl, ?_⟩; replace BK461 := Aside0.mk (blk_below (g := gb461) au131 hb); replace BK462 := Aside0.mk (blk_below (g := gb462) au132 hb); replace BK463 := Aside0.mk (blk_below (g := gb463) au133 hb); replace HB := Aside0.mk (below_step au57 hb); (try clear hb); obtain ⟨hcz13_0, hcz13_1, hcz13_2, hcz13_3, hfz13_0, hfz13_1, hfz13_2, hfz13_3⟩ := blkc4 BK461.out))
  go_meet
  case rel => first | (exact ⟨_, (true), au153, H', ⟨by first | omega | exact Nat.le_refl _⟩, ⟨by (with_reducible repeat (first | refine blk_drewN ?_ _ | refine blk_drew ?_ | refine blk_alloc ?_ _)); exact BK461.out⟩, ⟨by (with_reducible repeat (first | refine blk_drewN ?_ _ | refine blk_drew ?_ | refine blk_alloc ?_ _)); exact BK462.out⟩, ⟨by (with_reducible repeat (first | refine blk_drewN ?_ _ | refine blk_drew ?_ | refine blk_alloc ?_ _)); exact BK463.out⟩, ⟨by repeat (first | (with_reducible first | exact HB.out | apply below_alloc | apply pw_below_drewN | apply below_drew1 | refine below_set ?_ GE461.out | refine below_set ?_ GE462.out | refine below_set ?_ GE463.out) | exact HB.out)⟩⟩) | (exact ⟨_, (a0_3), au153, H', ⟨by first | omega | exact Nat.le_refl _⟩, ⟨by (with_reducible repeat (first | refine blk_drewN ?_ _ | refine blk_drew ?_ | refine blk_alloc ?_ _)); exact BK461.out⟩, ⟨by (with_reducible repeat (first | refine blk_drewN ?_ _ | refine blk_drew ?_ | refine blk_alloc ?_ _)); exact BK462.out⟩, ⟨by (with_reducible repeat (first | refine blk_drewN ?_ _ | refine blk_drew ?_ | refine blk_alloc ?_ _)); exact BK463.out⟩, ⟨by repeat (first | (with_reducible first | exact HB.out | apply below_alloc | apply pw_below_drewN | apply below_drew1 | refine below_set ?_ GE461.out | refine below_set ?_ GE462.out | refine below_set ?_ GE463.out) | exact HB.out)⟩⟩)) : P := h
set_option maxHeartbeats 8000000 in
set_option maxRecDepth 100000 in
theorem impl_DateBounds.calls (k : Nat) (a0_0 : Int) (a0_1 : Int) (a0_2 : Int) (a0_3 : Bool) (r1 : Int) (r2 : Int) (r3 : Int) (r4 : Bool) (r5 : Int) (r6 : Int) (r7 : Int) (r8 : Bool) (r9 : Bool) (w : World) (h : impl_DateBounds.f k a0_0 a0_1 a0_2 a0_3 = some (r1, r2, r3, r4, r5, r6, r7, r8, r9)) :
  Calls Tryd.prog 29 #[.agg #[.int .i64 a0_0, .int .i64 a0_1, .int .i64 a0_2, .bool a0_3]] w fun e w' => e = .returned (.tuple #[.agg #[.int .i64 r1, .int .i64 r2, .int .i64 r3, .bool r4], .agg #[.int .i64 r5, .int .i64 r6, .int .i64 r7, .bool r8], .bool r9]) ∧ Below w.heap.size w w' := by
 have hu33 := Tryd.underlying33
 have HB := Aside0.mk (Below.refl w.heap.size w)
 have H : ((impl_IsValidDate.f k a0_0 a0_1 a0_2 a0_3).bind fun t464 => (if t464 = true then (if a0_0 = 0 then (impl_DateBounds.j0 k true a0_0 a0_1 a0_2 a0_3) else (impl_DateBounds.j0 k a0_3 a0_0 a0_1 a0_2 a0_3)) else (impl_DateBounds.j0 k true a0_0 a0_1 a0_2 a0_3))) = some (r1, r2, r3, r4, r5, r6, r7, r8, r9) := h
 clear h
 have HC2 := Aside0.mk H
 clear H
 go_enter Tryd.func29, Tryd.ntmps29
 go_upto_region 1 with (first | ((with_reducible refine gate_dst (N := 1) rfl ?_); refine box_event ?hg (N := 1) ?hd (cs := #[.int .i64 a0_0, .int .i64 a0_1, .int .i64 a0_2, .bool a0_3]) (t := 33) ?hr ?_; (case hd => rfl); (case hg => rfl); (case hr => first | (go_simp; done) | (go_simp; rfl)); intro gb461 hg w3 hbox hb; have BK461 := Aside0.mk (hbox); have GW461 := Aside0.mk (bsz hg au101); have GE461 := Aside0.mk (bsz hg au101); replace HB := Aside0.mk (below_step au101 hb); clear hb hbox hg) | ((with_reducible refine gate_dst (N := 2) rfl ?_); refine box_event ?hg (N := 2) ?hd (cs := #[.int .i64 0, .int .i64 0, .int .i64 0, .bool false]) (t := 33) ?hr ?_; (case hd => rfl); (case hg => rfl); (case hr => first | (go_simp; done) | (go_simp; rfl)); intro gb462 hg w4 hbox hb; have BK462 := Aside0.mk (hbox); have GW462 := Aside0.mk (bsz hg au96); have GE462 := Aside0.mk (bsz hg au96); replace HB := Aside0.mk (below_step au96 hb); have NB461_462 := Aside0.mk (bne (g := gb461) hg au131); have NB462_461 := Aside0.mk (ben (g := gb461) hg au131); replace BK461 := Aside0.mk (blk_below (g := gb461) au131 hb); clear hb hbox hg) | ((with_reducible refine gate_dst (N := 3) rfl ?_); refine box_event ?hg (N := 3) ?hd (cs := #[.int .i64 0, .int .i64 0, .int .i64 0, .bool false]) (t := 33) ?hr ?_; (case hd => rfl); (case hg => rfl); (case hr => first | (go_simp; done) | (go_simp; rfl)); intro gb463 hg w5 hbox hb; have BK463 := Aside0.mk (hbox); have GW463 := Aside0.mk (bsz hg au74); have GE463 := Aside0.mk (bsz hg au74); replace HB := Aside0.mk (below_step au74 hb); have NB461_463 := Aside0.mk (bne (g := gb461) hg au131); have NB463_461 := Aside0.mk (ben (g := gb461) hg au131); replace BK461 := Aside0.mk (blk_below (g := gb461) au131 hb); have NB462_463 := Aside0.mk (bne (g := gb462) hg au132); have NB463_462 := Aside0.mk (ben (g := gb462) hg au132); replace BK462 := Aside0.mk (blk_below (g := gb462) au132 hb); clear hb hbox hg))
 (try simp only [Act.put, List.setIfInBounds_toArray, List.set_cons_zero, List.set_cons_succ])
 go_cut [18] (fun v18 wc => ∃ (kq : Nat) (x18_1 : Bool), v18 = .bool x18_1 ∧ Aside0 (impl_DateBounds.j0 kq x18_1 a0_0 a0_1 a0_2 a0_3 = some (r1, r2, r3, r4, r5, r6, r7, r8, r9)) ∧ Aside0 (kq ≤ k) ∧ Aside0 (wc.heap[gb461]? = some (.cells #[.int .i64 a0_0, .int .i64 a0_1, .int .i64 a0_2, .bool a0_3] 33 (0, 0))) ∧ Aside0 (wc.heap[gb462]? = some (.cells #[.int .i64 0, .int .i64 0, .int .i64 0, .bool false] 33 (0, 0))) ∧ Aside0 (wc.heap[gb463]? = some (.cells #[.int .i64 0, .int .i64 0, .int .i64 0, .bool false] 33 (0, 0))) ∧ Aside0 (Below w.heap.size w wc))
 case first =>
  have H := HC2.out
  clear HC2
  replace H := Option.bind_eq_some_iff.mp H
  obtain ⟨t464, A60, H⟩ := H
  try dsimp only at H
  have A6 := Aside0.mk A60
  clear A60
  by_cases c7 : t464 = true
  ·
   subst c7
   replace H := (if_pos rfl).symm.trans H
   by_cases c8 : a0_0 = 0
   ·
    rw [if_pos c8] at H
    have c8b0 : (a0_0 == 0) = true := beq_iff_eq.mpr c8
    have c8b1 : (a0_0 != 0) = false := bne_eq_false_iff_eq.mpr c8
    clear c8
    (first | rw [c8b0] | (simp only [i64_w, i32_w]; rw [c8b0]) | skip)
    have H' := Aside0.mk H
    clear H
    have hnb9 := NB461_462.out
    have hnc9 := NB462_461.out
    have hnb10 := NB461_463.out
    have hnc10 := NB463_461.out
    obtain ⟨hcz11_0, hcz11_1, hcz11_2, hcz11_3, hfz11_0, hfz11_1, hfz11_2, hfz11_3⟩ := blkc4 BK461.out
    exact impl_DateBounds.L2
   ·
    rw [if_neg c8] at H
    have c8b0 : (a0_0 == 0) = false := beq_eq_false_iff_ne.mpr c8
    have c8b1 : (a0_0 != 0) = true := bne_iff_ne.mpr c8
    (first | rw [c8b0] | (simp only [i64_w, i32_w]; rw [c8b0]) | skip)
    have H' := Aside0.mk H
    clear H
    have hnb14 := NB461_462.out
    have hnc14 := NB462_461.out
    have hnb15 := NB461_463.out
    have hnc15 := NB463_461.out
    obtain ⟨hcz16_0, hcz16_1, hcz16_2, hcz16_3, hfz16_0, hfz16_1, hfz16_2, hfz16_3⟩ := blkc4 BK461.out
    exact impl_DateBounds.L2
  ·
   replace c7 := Bool.eq_false_iff.mpr c7
   subst c7
   replace H := (if_neg (show ¬ (false = true) by decide)).symm.trans H
   have H' := Aside0.mk H
   clear H
   have hnb19 := NB461_462.out
   have hnc19 := NB462_461.out
   have hnb20 := NB461_463.out
   have hnc20 := NB463_461.out
   obtain ⟨hcz21_0, hcz21_1, hcz21_2, hcz21_3, hfz21_0, hfz21_1, hfz21_2, hfz21_3⟩ := blkc4 BK461.out
   go_wp2_with (first | ((with_reducible refine gate_callee (f := 49) rfl ?_); refine goesL_ (some 8) rfl rfl Tryd.func49 (by kernel_rfl) rfl #[.agg #[.int .i64 a0_0, .int .i64 a0_1, .int .i64 a0_2, .bool a0_3]] rfl au100 ?_; (with_reducible refine (impl_IsValidDate.calls k a0_0 a0_1 a0_2 a0_3 _ _ A6.out).mono ?_); rintro e w22 ⟨rfl, hb⟩; refine ⟨_, rfl, ?_⟩; replace BK461 := Aside0.mk (blk_below (g := gb461) au131 hb); replace BK462 := Aside0.mk (blk_below (g := gb462) au132 hb); replace BK463 := Aside0.mk (blk_below (g := gb463) au133 hb); replace HB := Aside0.mk (below_step au57 hb); (try clear hb)))
   go_meet
   case rel => exact ⟨_, (true), au153, H', ⟨by first | omega | exact Nat.le_refl _⟩, ⟨by (with_reducible repeat (first | refine blk_drewN ?_ _ | refine blk_drew ?_ | refine blk_alloc ?_ _)); exact BK461.out⟩, ⟨by (with_reducible repeat (first | refine blk_drewN ?_ _ | refine blk_drew ?_ | refine blk_alloc ?_ _)); exact BK462.out⟩, ⟨by (with_reducible repeat (first | refine blk_drewN ?_ _ | refine blk_drew ?_ | refine blk_alloc ?_ _)); exact BK463.out⟩, ⟨by repeat (first | (with_reducible first | exact HB.out | apply below_alloc | apply pw_below_drewN | apply below_drew1 | refine below_set ?_ GE461.out | refine below_set ?_ GE462.out | refine below_set ?_ GE463.out) | exact HB.out)⟩⟩
 case rest =>
  clear HC2
  try clear c1
  try clear c2
  try clear p2
  try clear c4
  try clear c7
  try clear c8
  try clear c8b0
  try clear c8b1
  try clear c9
  try clear c10
  try clear c14
  try clear c15
  try clear c19
  try clear c20
  try clear hcz11_0
  try clear hcz11_1
  try clear hcz11_2
  try clear hcz11_3
  try clear hcz13_0
  try clear hcz13_1
  try clear hcz13_2
  try clear hcz13_3
  try clear hcz16_0
  try clear hcz16_1
  try clear hcz16_2
  try clear hcz16_3
  try clear hcz18_0
  try clear hcz18_1
  try clear hcz18_2
  try clear hcz18_3
  try clear hcz21_0
  try clear hcz21_1
  try clear hcz21_2
  try clear hcz21_3
  try clear hfz11_0
  try clear hfz11_1
  try clear hfz11_2
  try clear hfz11_3
  try clear hfz13_0
  try clear hfz13_1
  try clear hfz13_2
  try clear hfz13_3
  try clear hfz16_0
  try clear hfz16_1
  try clear hfz16_2
  try clear hfz16_3
  try clear hfz18_0
  try clear hfz18_1
  try clear hfz18_2
  try clear hfz18_3
  try clear hfz21_0
  try clear hfz21_1
  try clear hfz21_2
  try clear hfz21_3
  obtain ⟨kq, x18_1, rfl, HA, HJ1, BK461, BK462, BK463, HB⟩ := hcut
  cases kq with
  | zero => exact absurd HA.out (by simp [impl_DateBounds.j0])
  | succ kj1 =>
   have H := HA.out
   clear HA
   simp only [impl_DateBounds.j0] at H
   by_cases c23 : x18_1 = true
   ·
    subst c23
    replace H := (if_pos rfl).symm.trans H
    simp only [Option.some.injEq, Prod.mk.injEq] at H
    obtain ⟨rfl, rfl, rfl, rfl, rfl, rfl, rfl, rfl, rfl⟩ := H
    have hnb24 := NB462_461.out
    have hnc24 := NB461_462.out
    have hnb25 := NB462_463.out
    have hnc25 := NB463_462.out
    obtain ⟨hcz26_0, hcz26_1, hcz26_2, hcz26_3, hfz26_0, hfz26_1, hfz26_2, hfz26_3⟩ := blkc4 BK462.out
    have hnb27 := NB463_461.out
    have hnc27 := NB461_463.out
    obtain ⟨hcz28_0, hcz28_1, hcz28_2, hcz28_3, hfz28_0, hfz28_1, hfz28_2, hfz28_3⟩ := blkc4 BK463.out
    go_wp2
    refine bodyPost_ret (results_list (rs := [.cell 2 33, .cell 3 33, .tmp 4]) rfl (by simp) (.cell gb462 33 #[.int .i64 0, .int .i64 0, .int .i64 0, .bool false] (0, 0) _ rfl (by (with_reducible repeat (first | refine blk_drewN ?_ _ | refine blk_drew ?_ | refine blk_alloc ?_ _)); refine blk_far ?_ NB462_463.out _; (with_reducible repeat (first | refine blk_drewN ?_ _ | refine blk_drew ?_ | refine blk_alloc ?_ _)); refine blk_far ?_ NB462_463.out _; (with_reducible repeat (first | refine blk_drewN ?_ _ | refine blk_drew ?_ | refine blk_alloc ?_ _)); refine blk_far ?_ NB462_463.out _; (with_reducible repeat (first | refine blk_drewN ?_ _ | refine blk_drew ?_ | refine blk_alloc ?_ _)); refine blk_far ?_ NB462_463.out _; (with_reducible repeat (first | refine blk_drewN ?_ _ | refine blk_drew ?_ | refine blk_alloc ?_ _)); refine blk_put (cs := #[.int .i64 0, .int .i64 0, .int .i64 0, .bool false]) ?_ 3 _ rfl; (with_reducible repeat (first | refine blk_drewN ?_ _ | refine blk_drew ?_ | refine blk_alloc ?_ _)); refine blk_put (cs := #[.int .i64 0, .int .i64 0, .int .i64 0, .bool false]) ?_ 2 _ rfl; (with_reducible repeat (first | refine blk_drewN ?_ _ | refine blk_drew ?_ | refine blk_alloc ?_ _)); refine blk_put (cs := #[.int .i64 0, .int .i64 0, .int .i64 0, .bool false]) ?_ 1 _ rfl; (with_reducible repeat (first | refine blk_drewN ?_ _ | refine blk_drew ?_ | refine blk_alloc ?_ _)); refine blk_put (cs := #[.int .i64 0, .int .i64 0, .int .i64 0, .bool false]) ?_ 0 _ rfl; (with_reducible repeat (first | refine blk_drewN ?_ _ | refine blk_drew ?_ | refine blk_alloc ?_ _)); exact BK462.out) Tryd.underlying33 rfl (by kernel_rfl) (.cell gb463 33 #[.int .i64 0, .int .i64 0, .int .i64 0, .bool false] (0, 0) _ rfl (by (with_reducible repeat (first | refine blk_drewN ?_ _ | refine blk_drew ?_ | refine blk_alloc ?_ _)); refine blk_put (cs := #[.int .i64 0, .int .i64 0, .int .i64 0, .bool false]) ?_ 3 _ rfl; (with_reducible repeat (first | refine blk_drewN ?_ _ | refine blk_drew ?_ | refine blk_alloc ?_ _)); refine blk_put (cs := #[.int .i64 0, .int .i64 0, .int .i64 0, .bool false]) ?_ 2 _ rfl; (with_reducible repeat (first | refine blk_drewN ?_ _ | refine blk_drew ?_ | refine blk_alloc ?_ _)); refine blk_put (cs := #[.int .i64 0, .int .i64 0, .int .i64 0, .bool false]) ?_ 1 _ rfl; (with_reducible repeat (first | refine blk_drewN ?_ _ | refine blk_drew ?_ | refine blk_alloc ?_ _)); refine blk_put (cs := #[.int .i64 0, .int .i64 0, .int .i64 0, .bool false]) ?_ 0 _ rfl; (with_reducible repeat (first | refine blk_drewN ?_ _ | refine blk_drew ?_ | refine blk_alloc ?_ _)); refine blk_far ?_ NB463_462.out _; (with_reducible repeat (first | refine blk_drewN ?_ _ | refine blk_drew ?_ | refine blk_alloc ?_ _)); refine blk_far ?_ NB463_462.out _; (with_reducible repeat (first | refine blk_drewN ?_ _ | refine blk_drew ?_ | refine blk_alloc ?_ _)); refine blk_far ?_ NB463_462.out _; (with_reducible repeat (first | refine blk_drewN ?_ _ | refine blk_drew ?_ | refine blk_alloc ?_ _)); refine blk_far ?_ NB463_462.out _; (with_reducible repeat (first | refine blk_drewN ?_ _ | refine blk_drew ?_ | refine blk_alloc ?_ _)); exact BK463.out) Tryd.underlying33 rfl (by kernel_rfl) (.tmp .nil)))) rfl ?_
    exact ⟨by first | rfl | (simp [errW_none, errW_some] <;> rfl) | (simp [*, errW_none, errW_some] <;> rfl), by repeat (first | (with_reducible first | exact HB.out | apply below_alloc | apply pw_below_drewN | apply below_drew1 | refine below_set ?_ GE461.out | refine below_set ?_ GE462.out | refine below_set ?_ GE463.out) | exact HB.out)⟩
   ·
    replace c23 := Bool.eq_false_iff.mpr c23
    subst c23
    replace H := (if_neg (show ¬ (false = true) by decide)).symm.trans H
    by_cases c29 : a0_1 = 0
    ·
     rw [if_pos c29] at H
     have c29b0 : (a0_1 == 0) = true := beq_iff_eq.mpr c29
     have c29b1 : (a0_1 != 0) = false := bne_eq_false_iff_eq.mpr c29
     clear c29
     by_cases c30 : a0_2 = 0
     ·
      rw [if_pos c30] at H
      have c30b0 : (a0_2 == 0) = true := beq_iff_eq.mpr c30
      have c30b1 : (a0_2 != 0) = false := bne_eq_false_iff_eq.mpr c30
      clear c30
      replace H := Option.bind_eq_some_iff.mp H
      obtain ⟨t467, A310, H⟩ := H
      try dsimp only at H
      have A31 := Aside0.mk A310
      clear A310
      simp only [Option.some.injEq, Prod.mk.injEq] at H
      obtain ⟨rfl, rfl, rfl, rfl, rfl, rfl, rfl, rfl, rfl⟩ := H
      exact impl_DateBounds.L0
     ·
      rw [if_neg c30] at H
      have c30b0 : (a0_2 == 0) = false := beq_eq_false_iff_ne.mpr c30
      have c30b1 : (a0_2 != 0) = true := bne_iff_ne.mpr c30
      simp only [Option.some.injEq, Prod.mk.injEq] at H
      obtain ⟨rfl, rfl, rfl, rfl, rfl, rfl, rfl, rfl, rfl⟩ := H
      exact impl_DateBounds.L1
    ·
     rw [if_neg c29] at H
     have c29b0 : (a0_1 == 0) = false := beq_eq_false_iff_ne.mpr c29
     have c29b1 : (a0_1 != 0) = true := bne_iff_ne.mpr c29
     by_cases c100 : a0_2 = 0
     ·
      rw [if_pos c100] at H
      have c100b0 : (a0_2 == 0) = true := beq_iff_eq.mpr c100
      have c100b1 : (a0_2 != 0) = false := bne_eq_false_iff_eq.mpr c100
      clear c100
      replace H := Option.bind_eq_some_iff.mp H
      obtain ⟨t468, A1010, H⟩ := H
      try dsimp only at H
      have A101 := Aside0.mk A1010
      clear A1010
      simp only [Option.some.injEq, Prod.mk.injEq] at H
      obtain ⟨rfl, rfl, rfl, rfl, rfl, rfl, rfl, rfl, rfl⟩ := H
      exact impl_DateBounds.L0
     ·
      rw [if_neg c100] at H
      have c100b0 : (a0_2 == 0) = false := beq_eq_false_iff_ne.mpr c100
      have c100b1 : (a0_2 != 0) = true := bne_iff_ne.mpr c100
      simp only [Option.some.injEq, Prod.mk.injEq] at H
      obtain ⟨rfl, rfl, rfl, rfl, rfl, rfl, rfl, rfl, rfl⟩ := H
      exact impl_DateBounds.L1


/-! ### laws_vBig: function 6 -/
def laws_vBig.f (l0 : List Int) : Option (Bool) := some (decide ((l0.length : Int) > 65536))
set_option maxHeartbeats 8000000 in
set_option maxRecDepth 100000 in
theorem laws_vBig.calls (A0 : Option Addr) (c0 : Nat) (l0 : List Int) (r : Bool) (w : World) (hr0 : Kd.C (Kd.int .u8) w A0 l0.length l0) (hc0 : l0.length ≤ c0) (h : laws_vBig.f l0 = some r) :
  Calls Tryd.prog 6 #[.slice A0 l0.length c0] w fun e w' => e = .returned (.bool r) ∧ Drawn0 w w' := by
 have HR0 := Aside0.mk hr0
 have HC0 := Aside0.mk hc0
 clear hr0 hc0
 have H : (some (decide ((l0.length : Int) > 65536))) = some r := h
 clear h
 obtain rfl := Option.some.inj H
 go_enter Tryd.func6, Tryd.ntmps6
 go_wp2
 go_ret
 exact ax0

end Go.Proofs.YtmjmjfkjlblgaaaDoor.G
