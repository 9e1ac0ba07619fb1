/- Texts of this session for the law FnExactDateBounds, put together by a program (merge.py): each ends with its namespace; conditions stand with each theorem. -/
import Derived.Test.YtahjjkfcgfjeaaaKFnExactDateBounds2
import Derived.Test.YtahjjkfcgfjeaaaKFnExactDateBounds1
import Derived.Deep.Slices
namespace Go.Proofs.Ytahjjkfcgfjeaaa.G
open Go.RowKit Go.Proofs.YtahjjkfcgfjeaaaW.PrintWords Go.Proofs.YtahjjkfcgfjeaaaW.PrintLast Go.Proofs.YtahjjkfcgfjeaaaW.PrintMore
open Go.Proofs.Ytahjjkfcgfjeaaa.Gl Go.Proofs.Ytahjjkfcgfjeaaa.Ext
attribute [local go_sem] max2_int min2_int max_two min_two max_three min_three max_four min_four   -- for this text's walks alone
set_option linter.unusedVariables false
set_option linter.unusedSimpArgs false

attribute [local go_sem high] eqA24
/-! ### impl_IsValidDate: function 10 -/
def impl_IsValidDate.j0 : Nat → Bool → Int → Int → Int → Bool → Option (Bool)
 | 0, _, _, _, _, _ => none
 | k + 1, x24, x118000, x118001, x118002, x118003 => if x24 = true then (some false) else (if x118001 = 0 then (some (x118002 == 0)) else ((impl_daysInMonth.f x118000 x118001).bind fun t120 => ((impl_inside.f x118002 0 t120).bind fun t121 => (some t121))))
def impl_IsValidDate.f (k : Nat) (a0_0 : Int) (a0_1 : Int) (a0_2 : Int) (a0_3 : Bool) : Option (Bool) := if (a0_0 == 0 && (a0_1 == 0 && (a0_2 == 0 && (!a0_3)))) = true then (some true) else ((impl_inside.f a0_0 1 2999).bind fun t118 => (if t118 = true then ((impl_inside.f a0_1 0 12).bind fun t119 => (if t119 = true then (if a0_3 = true then (impl_IsValidDate.j0 k (a0_1 != 0) a0_0 a0_1 a0_2 a0_3) else (impl_IsValidDate.j0 k false a0_0 a0_1 a0_2 a0_3)) else (impl_IsValidDate.j0 k true a0_0 a0_1 a0_2 a0_3))) else (impl_IsValidDate.j0 k true a0_0 a0_1 a0_2 a0_3)))
theorem impl_IsValidDate.mono_l : ∀ k, (∀ y0 y1 y2 y3 y4, LeO (impl_IsValidDate.j0 k y0 y1 y2 y3 y4) (impl_IsValidDate.j0 (k + 1) y0 y1 y2 y3 y4))
 | 0 => fun _ _ _ _ _ r h => by simp [impl_IsValidDate.j0] at h
 | k + 1 => by
  have ih0 := impl_IsValidDate.mono_l k
  ·
   intro y0 y1 y2 y3 y4
   unfold impl_IsValidDate.j0
   repeat' first
   | (with_reducible exact ih0 _ _ _ _ _)
   | (with_reducible exact LeO.refl _)
   | (with_reducible exact LeO.none _)
   | (with_reducible refine LeO.ite ?_ ?_)
   | (with_reducible refine LeO.bind ?_ (fun _ => ?_))
   | exact ih0 _ _ _ _ _
   | exact LeO.none _
   | refine LeO.ite ?_ ?_
   | refine LeO.bind ?_ (fun _ => ?_)
theorem impl_IsValidDate.mono : ∀ a0 a1 a2 a3 k, LeO (impl_IsValidDate.f k a0 a1 a2 a3) (impl_IsValidDate.f (k + 1) a0 a1 a2 a3) := by
 intro a0 a1 a2 a3 k
 have ih0 := impl_IsValidDate.mono_l k
 unfold impl_IsValidDate.f
 repeat' first
   | (with_reducible exact ih0 _ _ _ _ _)
   | (with_reducible exact LeO.refl _)
   | (with_reducible exact LeO.none _)
   | (with_reducible refine LeO.ite ?_ ?_)
   | (with_reducible refine LeO.bind ?_ (fun _ => ?_))
   | exact ih0 _ _ _ _ _
   | exact LeO.none _
   | refine LeO.ite ?_ ?_
   | refine LeO.bind ?_ (fun _ => ?_)
set_option maxRecDepth 100000 in
theorem impl_IsValidDate.L0 {P : Prop} (h : P := by
  go_wp2_with (first | (go_at_call 13; (with_reducible refine (impl_inside.calls a0_0 1 2999 _ _ A8.out).mono ?_); rintro e w' ⟨rfl, ⟨nd, rfl⟩⟩; (try first | exact ⟨rfl, _, World.drewN_drewN _ _ _⟩ | exact ⟨rfl, _, Eq.trans (World.drewN_drewN _ _ _) (congrArg (World.drewN _) (Nat.add_assoc _ _ _))⟩)) | (go_at_call 13; (with_reducible refine (impl_inside.calls a0_1 0 12 _ _ A10.out).mono ?_); rintro e w' ⟨rfl, ⟨nd, rfl⟩⟩; (try first | exact ⟨rfl, _, World.drewN_drewN _ _ _⟩ | exact ⟨rfl, _, Eq.trans (World.drewN_drewN _ _ _) (congrArg (World.drewN _) (Nat.add_assoc _ _ _))⟩)))
  repeat (go_quiet (first | (go_at_call 13; (with_reducible refine (impl_inside.calls a0_0 1 2999 _ _ A8.out).mono ?_); rintro e w' ⟨rfl, ⟨nd, rfl⟩⟩; (try first | exact ⟨rfl, _, World.drewN_drewN _ _ _⟩ | exact ⟨rfl, _, Eq.trans (World.drewN_drewN _ _ _) (congrArg (World.drewN _) (Nat.add_assoc _ _ _))⟩)) | (go_at_call 13; (with_reducible refine (impl_inside.calls a0_1 0 12 _ _ A10.out).mono ?_); rintro e w' ⟨rfl, ⟨nd, rfl⟩⟩; (try first | exact ⟨rfl, _, World.drewN_drewN _ _ _⟩ | exact ⟨rfl, _, Eq.trans (World.drewN_drewN _ _ _) (congrArg (World.drewN _) (Nat.add_assoc _ _ _))⟩))); try go_wp2_with (first | (go_at_call 13; (with_reducible refine (impl_inside.calls a0_0 1 2999 _ _ A8.out).mono ?_); rintro e w' ⟨rfl, ⟨nd, rfl⟩⟩; (try first | exact ⟨rfl, _, World.drewN_drewN _ _ _⟩ | exact ⟨rfl, _, Eq.trans (World.drewN_drewN _ _ _) (congrArg (World.drewN _) (Nat.add_assoc _ _ _))⟩)) | (go_at_call 13; (with_reducible refine (impl_inside.calls a0_1 0 12 _ _ A10.out).mono ?_); rintro e w' ⟨rfl, ⟨nd, rfl⟩⟩; (try first | exact ⟨rfl, _, World.drewN_drewN _ _ _⟩ | exact ⟨rfl, _, Eq.trans (World.drewN_drewN _ _ _) (congrArg (World.drewN _) (Nat.add_assoc _ _ _))⟩))))
  go_meet
  case rel => first | (exact ⟨_, ((a0_1 != 0)), au42, H', ⟨by first | omega | exact Nat.le_refl _⟩, ⟨by (with_reducible repeat (first | refine blk_drewN ?_ _ | refine blk_drew ?_ | refine blk_alloc ?_ _)); exact BK117.out⟩, ⟨by repeat (first | (with_reducible first | exact HB.out | apply below_alloc | apply pw_below_drewN | apply below_drew1 | refine below_set ?_ GE117.out) | exact HB.out)⟩⟩) | (exact ⟨_, (false), au42, H', ⟨by first | omega | exact Nat.le_refl _⟩, ⟨by (with_reducible repeat (first | refine blk_drewN ?_ _ | refine blk_drew ?_ | refine blk_alloc ?_ _)); exact BK117.out⟩, ⟨by repeat (first | (with_reducible first | exact HB.out | apply below_alloc | apply pw_below_drewN | apply below_drew1 | refine below_set ?_ GE117.out) | exact HB.out)⟩⟩) | (exact ⟨_, (true), au42, H', ⟨by first | omega | exact Nat.le_refl _⟩, ⟨by (with_reducible repeat (first | refine blk_drewN ?_ _ | refine blk_drew ?_ | refine blk_alloc ?_ _)); exact BK117.out⟩, ⟨by repeat (first | (with_reducible first | exact HB.out | apply below_alloc | apply pw_below_drewN | apply below_drew1 | refine below_set ?_ GE117.out) | exact HB.out)⟩⟩)) : P := h
set_option maxHeartbeats 8000000 in
set_option maxRecDepth 100000 in
theorem impl_IsValidDate.calls (k : Nat) (a0_0 : Int) (a0_1 : Int) (a0_2 : Int) (a0_3 : Bool) (r : Bool) (w : World) (h : impl_IsValidDate.f k a0_0 a0_1 a0_2 a0_3 = some r) :
  Calls Try.prog 10 #[.agg #[.int .i64 a0_0, .int .i64 a0_1, .int .i64 a0_2, .bool a0_3]] w fun e w' => e = .returned (.bool r) ∧ Below w.heap.size w w' := by
 have hu24 := Try.underlying24
 have HB := Aside0.mk (Below.refl w.heap.size w)
 have H : (if (a0_0 == 0 && (a0_1 == 0 && (a0_2 == 0 && (!a0_3)))) = true then (some true) else ((impl_inside.f a0_0 1 2999).bind fun t118 => (if t118 = true then ((impl_inside.f a0_1 0 12).bind fun t119 => (if t119 = true then (if a0_3 = true then (impl_IsValidDate.j0 k (a0_1 != 0) a0_0 a0_1 a0_2 a0_3) else (impl_IsValidDate.j0 k false a0_0 a0_1 a0_2 a0_3)) else (impl_IsValidDate.j0 k true a0_0 a0_1 a0_2 a0_3))) else (impl_IsValidDate.j0 k true a0_0 a0_1 a0_2 a0_3)))) = some r := h
 clear h
 by_cases c2 : (a0_0 == 0 && (a0_1 == 0 && (a0_2 == 0 && (!a0_3)))) = true
 ·
  rw [if_pos c2] at H
  have c2b0 : (a0_0 == 0 && (a0_1 == 0 && (a0_2 == 0 && (!a0_3)))) = true := c2
  (try (have c2b1 : decide (a0_0 = 0 && (a0_1 == 0 && (a0_2 == 0 && (!a0_3)))) = true := by simpa using c2))
  (try (have c2b2 : (a0_0 == 0 && (a0_1 == 0 && (a0_2 == 0 && (!a0_3)))) = true := by simpa using c2))
  clear c2
  obtain rfl := Option.some.inj H
  go_enter Try.func10, Try.ntmps10
  go_wp2_with (first | ((with_reducible refine gate_dst (N := 1) rfl ?_); refine box_event ?hg (N := 1) ?hd (cs := #[.int .i64 a0_0, .int .i64 a0_1, .int .i64 a0_2, .bool a0_3]) (t := 24) ?hr ?_; (case hd => rfl); (case hg => rfl); (case hr => first | (go_simp; done) | (go_simp; rfl)); intro gb117 hg w3 hbox hb; have BK117 := Aside0.mk (hbox); have GW117 := Aside0.mk (bsz hg au23); have GE117 := Aside0.mk (bsz hg au23); replace HB := Aside0.mk (below_step au23 hb); clear hb hbox hg; obtain ⟨hcz4_0, hcz4_1, hcz4_2, hcz4_3, hfz4_0, hfz4_1, hfz4_2, hfz4_3⟩ := blkc4 BK117.out))
  repeat (go_quiet (first | ((with_reducible refine gate_dst (N := 1) rfl ?_); refine box_event ?hg (N := 1) ?hd (cs := #[.int .i64 a0_0, .int .i64 a0_1, .int .i64 a0_2, .bool a0_3]) (t := 24) ?hr ?_; (case hd => rfl); (case hg => rfl); (case hr => first | (go_simp; done) | (go_simp; rfl)); intro gb117 hg w3 hbox hb; have BK117 := Aside0.mk (hbox); have GW117 := Aside0.mk (bsz hg au23); have GE117 := Aside0.mk (bsz hg au23); replace HB := Aside0.mk (below_step au23 hb); clear hb hbox hg; obtain ⟨hcz4_0, hcz4_1, hcz4_2, hcz4_3, hfz4_0, hfz4_1, hfz4_2, hfz4_3⟩ := blkc4 BK117.out)); try go_wp2_with (first | ((with_reducible refine gate_dst (N := 1) rfl ?_); refine box_event ?hg (N := 1) ?hd (cs := #[.int .i64 a0_0, .int .i64 a0_1, .int .i64 a0_2, .bool a0_3]) (t := 24) ?hr ?_; (case hd => rfl); (case hg => rfl); (case hr => first | (go_simp; done) | (go_simp; rfl)); intro gb117 hg w3 hbox hb; have BK117 := Aside0.mk (hbox); have GW117 := Aside0.mk (bsz hg au23); have GE117 := Aside0.mk (bsz hg au23); replace HB := Aside0.mk (below_step au23 hb); clear hb hbox hg; obtain ⟨hcz4_0, hcz4_1, hcz4_2, hcz4_3, hfz4_0, hfz4_1, hfz4_2, hfz4_3⟩ := blkc4 BK117.out)))
  go_ret
  exact ax3
 ·
  rw [if_neg c2] at H
  have c2b0 : (a0_0 == 0 && (a0_1 == 0 && (a0_2 == 0 && (!a0_3)))) = false := by simpa using c2
  (try (have c2b1 : decide (a0_0 = 0 && (a0_1 == 0 && (a0_2 == 0 && (!a0_3)))) = false := by simpa using c2))
  (try (have c2b2 : (a0_0 == 0 && (a0_1 == 0 && (a0_2 == 0 && (!a0_3)))) = false := by simpa using c2))
  (try (have c2b3 : ¬ (a0_0 = 0 && (a0_1 == 0 && (a0_2 == 0 && (!a0_3)))) := by simpa using c2))
  clear c2
  have HC5 := Aside0.mk H
  clear H
  go_enter Try.func10, Try.ntmps10
  go_upto_region 3 with (first | ((with_reducible refine gate_dst (N := 1) rfl ?_); refine box_event ?hg (N := 1) ?hd (cs := #[.int .i64 a0_0, .int .i64 a0_1, .int .i64 a0_2, .bool a0_3]) (t := 24) ?hr ?_; (case hd => rfl); (case hg => rfl); (case hr => first | (go_simp; done) | (go_simp; rfl)); intro gb117 hg w6 hbox hb; have BK117 := Aside0.mk (hbox); have GW117 := Aside0.mk (bsz hg au23); have GE117 := Aside0.mk (bsz hg au23); replace HB := Aside0.mk (below_step au23 hb); clear hb hbox hg; obtain ⟨hcz7_0, hcz7_1, hcz7_2, hcz7_3, hfz7_0, hfz7_1, hfz7_2, hfz7_3⟩ := blkc4 BK117.out))
  repeat (go_quiet (first | ((with_reducible refine gate_dst (N := 1) rfl ?_); refine box_event ?hg (N := 1) ?hd (cs := #[.int .i64 a0_0, .int .i64 a0_1, .int .i64 a0_2, .bool a0_3]) (t := 24) ?hr ?_; (case hd => rfl); (case hg => rfl); (case hr => first | (go_simp; done) | (go_simp; rfl)); intro gb117 hg w6 hbox hb; have BK117 := Aside0.mk (hbox); have GW117 := Aside0.mk (bsz hg au23); have GE117 := Aside0.mk (bsz hg au23); replace HB := Aside0.mk (below_step au23 hb); clear hb hbox hg; obtain ⟨hcz7_0, hcz7_1, hcz7_2, hcz7_3, hfz7_0, hfz7_1, hfz7_2, hfz7_3⟩ := blkc4 BK117.out)); go_upto_region 3 with (first | ((with_reducible refine gate_dst (N := 1) rfl ?_); refine box_event ?hg (N := 1) ?hd (cs := #[.int .i64 a0_0, .int .i64 a0_1, .int .i64 a0_2, .bool a0_3]) (t := 24) ?hr ?_; (case hd => rfl); (case hg => rfl); (case hr => first | (go_simp; done) | (go_simp; rfl)); intro gb117 hg w6 hbox hb; have BK117 := Aside0.mk (hbox); have GW117 := Aside0.mk (bsz hg au23); have GE117 := Aside0.mk (bsz hg au23); replace HB := Aside0.mk (below_step au23 hb); clear hb hbox hg; obtain ⟨hcz7_0, hcz7_1, hcz7_2, hcz7_3, hfz7_0, hfz7_1, hfz7_2, hfz7_3⟩ := blkc4 BK117.out)))
  (try simp only [Act.put, List.setIfInBounds_toArray, List.set_cons_zero, List.set_cons_succ])
  go_cut [24] (fun v24 wc => ∃ (kq : Nat) (x24_4 : Bool), v24 = .bool x24_4 ∧ Aside0 (impl_IsValidDate.j0 kq x24_4 a0_0 a0_1 a0_2 a0_3 = some r) ∧ Aside0 (kq ≤ k) ∧ Aside0 (wc.heap[gb117]? = some (.cells #[.int .i64 a0_0, .int .i64 a0_1, .int .i64 a0_2, .bool a0_3] 24 (0, 0))) ∧ Aside0 (Below w.heap.size w wc))
  case first =>
   have H := HC5.out
   clear HC5
   replace H := Option.bind_eq_some_iff.mp H
   obtain ⟨t118, A80, H⟩ := H
   try dsimp only at H
   have A8 := Aside0.mk A80
   clear A80
   by_cases c9 : t118 = true
   ·
    subst c9
    replace H := (if_pos rfl).symm.trans H
    replace H := Option.bind_eq_some_iff.mp H
    obtain ⟨t119, A100, H⟩ := H
    try dsimp only at H
    have A10 := Aside0.mk A100
    clear A100
    by_cases c11 : t119 = true
    ·
     subst c11
     replace H := (if_pos rfl).symm.trans H
     by_cases c12 : a0_3 = true
     ·
      subst c12
      replace H := (if_pos rfl).symm.trans H
      have H' := Aside0.mk H
      clear H
      obtain ⟨hcz13_0, hcz13_1, hcz13_2, hcz13_3, hfz13_0, hfz13_1, hfz13_2, hfz13_3⟩ := blkc4 BK117.out
      exact impl_IsValidDate.L0
     ·
      replace c12 := Bool.eq_false_iff.mpr c12
      subst c12
      replace H := (if_neg (show ¬ (false = true) by decide)).symm.trans H
      have H' := Aside0.mk H
      clear H
      obtain ⟨hcz14_0, hcz14_1, hcz14_2, hcz14_3, hfz14_0, hfz14_1, hfz14_2, hfz14_3⟩ := blkc4 BK117.out
      exact impl_IsValidDate.L0
    ·
     replace c11 := Bool.eq_false_iff.mpr c11
     subst c11
     replace H := (if_neg (show ¬ (false = true) by decide)).symm.trans H
     have H' := Aside0.mk H
     clear H
     obtain ⟨hcz15_0, hcz15_1, hcz15_2, hcz15_3, hfz15_0, hfz15_1, hfz15_2, hfz15_3⟩ := blkc4 BK117.out
     exact impl_IsValidDate.L0
   ·
    replace c9 := Bool.eq_false_iff.mpr c9
    subst c9
    replace H := (if_neg (show ¬ (false = true) by decide)).symm.trans H
    have H' := Aside0.mk H
    clear H
    obtain ⟨hcz16_0, hcz16_1, hcz16_2, hcz16_3, hfz16_0, hfz16_1, hfz16_2, hfz16_3⟩ := blkc4 BK117.out
    go_wp2_with (first | (go_at_call 13; (with_reducible refine (impl_inside.calls a0_0 1 2999 _ _ A8.out).mono ?_); rintro e w' ⟨rfl, ⟨nd, rfl⟩⟩; (try first | exact ⟨rfl, _, World.drewN_drewN _ _ _⟩ | exact ⟨rfl, _, Eq.trans (World.drewN_drewN _ _ _) (congrArg (World.drewN _) (Nat.add_assoc _ _ _))⟩)))
    repeat (go_quiet (first | (go_at_call 13; (with_reducible refine (impl_inside.calls a0_0 1 2999 _ _ A8.out).mono ?_); rintro e w' ⟨rfl, ⟨nd, rfl⟩⟩; (try first | exact ⟨rfl, _, World.drewN_drewN _ _ _⟩ | exact ⟨rfl, _, Eq.trans (World.drewN_drewN _ _ _) (congrArg (World.drewN _) (Nat.add_assoc _ _ _))⟩))); try go_wp2_with (first | (go_at_call 13; (with_reducible refine (impl_inside.calls a0_0 1 2999 _ _ A8.out).mono ?_); rintro e w' ⟨rfl, ⟨nd, rfl⟩⟩; (try first | exact ⟨rfl, _, World.drewN_drewN _ _ _⟩ | exact ⟨rfl, _, Eq.trans (World.drewN_drewN _ _ _) (congrArg (World.drewN _) (Nat.add_assoc _ _ _))⟩))))
    go_meet
    case rel => exact ⟨_, (true), au42, H', ⟨by first | omega | exact Nat.le_refl _⟩, ⟨by (with_reducible repeat (first | refine blk_drewN ?_ _ | refine blk_drew ?_ | refine blk_alloc ?_ _)); exact BK117.out⟩, ⟨by repeat (first | (with_reducible first | exact HB.out | apply below_alloc | apply pw_below_drewN | apply below_drew1 | refine below_set ?_ GE117.out) | exact HB.out)⟩⟩
  case rest =>
   clear HC5
   try clear c1
   try clear c2
   try clear c2b0
   try clear c2b1
   try clear c2b2
   try clear p2
   try clear c9
   try clear c10
   try clear c11
   try clear c12
   try clear hcz13_0
   try clear hcz13_1
   try clear hcz13_2
   try clear hcz13_3
   try clear hcz14_0
   try clear hcz14_1
   try clear hcz14_2
   try clear hcz14_3
   try clear hcz15_0
   try clear hcz15_1
   try clear hcz15_2
   try clear hcz15_3
   try clear hcz16_0
   try clear hcz16_1
   try clear hcz16_2
   try clear hcz16_3
   try clear hcz4_0
   try clear hcz4_1
   try clear hcz4_2
   try clear hcz4_3
   try clear hcz7_0
   try clear hcz7_1
   try clear hcz7_2
   try clear hcz7_3
   try clear hfz13_0
   try clear hfz13_1
   try clear hfz13_2
   try clear hfz13_3
   try clear hfz14_0
   try clear hfz14_1
   try clear hfz14_2
   try clear hfz14_3
   try clear hfz15_0
   try clear hfz15_1
   try clear hfz15_2
   try clear hfz15_3
   try clear hfz16_0
   try clear hfz16_1
   try clear hfz16_2
   try clear hfz16_3
   try clear hfz4_0
   try clear hfz4_1
   try clear hfz4_2
   try clear hfz4_3
   try clear hfz7_0
   try clear hfz7_1
   try clear hfz7_2
   try clear hfz7_3
   obtain ⟨kq, x24_4, rfl, HA, HJ4, BK117, HB⟩ := hcut
   cases kq with
   | zero => exact absurd HA.out (by simp [impl_IsValidDate.j0])
   | succ kj4 =>
    have H := HA.out
    clear HA
    simp only [impl_IsValidDate.j0] at H
    by_cases c17 : x24_4 = true
    ·
     subst c17
     replace H := (if_pos rfl).symm.trans H
     obtain rfl := Option.some.inj H
     go_wp2
     repeat (go_quiet (fail); try go_wp2)
     go_ret
     exact ax3
    ·
     replace c17 := Bool.eq_false_iff.mpr c17
     subst c17
     replace H := (if_neg (show ¬ (false = true) by decide)).symm.trans H
     by_cases c18 : a0_1 = 0
     ·
      rw [if_pos c18] at H
      have c18b0 : (a0_1 == 0) = true := beq_iff_eq.mpr c18
      have c18b1 : (a0_1 != 0) = false := bne_eq_false_iff_eq.mpr c18
      clear c18
      obtain rfl := Option.some.inj H
      obtain ⟨hcz19_0, hcz19_1, hcz19_2, hcz19_3, hfz19_0, hfz19_1, hfz19_2, hfz19_3⟩ := blkc4 BK117.out
      go_wp2
      repeat (go_quiet (fail); try go_wp2)
      go_ret
      exact ax3
     ·
      rw [if_neg c18] at H
      have c18b0 : (a0_1 == 0) = false := beq_eq_false_iff_ne.mpr c18
      have c18b1 : (a0_1 != 0) = true := bne_iff_ne.mpr c18
      replace H := Option.bind_eq_some_iff.mp H
      obtain ⟨t120, A200, H⟩ := H
      try dsimp only at H
      have A20 := Aside0.mk A200
      clear A200
      replace H := Option.bind_eq_some_iff.mp H
      obtain ⟨t121, A210, H⟩ := H
      try dsimp only at H
      have A21 := Aside0.mk A210
      clear A210
      obtain rfl := Option.some.inj H
      obtain ⟨hcz22_0, hcz22_1, hcz22_2, hcz22_3, hfz22_0, hfz22_1, hfz22_2, hfz22_3⟩ := blkc4 BK117.out
      go_wp2_with (first | (go_at_call 11; (with_reducible refine (impl_daysInMonth.calls a0_0 a0_1 t120 _ A20.out).mono ?_); rintro e w' ⟨rfl, ⟨nd, rfl⟩⟩; (try first | exact ⟨rfl, _, World.drewN_drewN _ _ _⟩ | exact ⟨rfl, _, Eq.trans (World.drewN_drewN _ _ _) (congrArg (World.drewN _) (Nat.add_assoc _ _ _))⟩)) | (go_at_call 13; (with_reducible refine (impl_inside.calls a0_2 0 t120 t121 _ A21.out).mono ?_); rintro e w' ⟨rfl, ⟨nd, rfl⟩⟩; (try first | exact ⟨rfl, _, World.drewN_drewN _ _ _⟩ | exact ⟨rfl, _, Eq.trans (World.drewN_drewN _ _ _) (congrArg (World.drewN _) (Nat.add_assoc _ _ _))⟩)))
      repeat (go_quiet (first | (go_at_call 11; (with_reducible refine (impl_daysInMonth.calls a0_0 a0_1 t120 _ A20.out).mono ?_); rintro e w' ⟨rfl, ⟨nd, rfl⟩⟩; (try first | exact ⟨rfl, _, World.drewN_drewN _ _ _⟩ | exact ⟨rfl, _, Eq.trans (World.drewN_drewN _ _ _) (congrArg (World.drewN _) (Nat.add_assoc _ _ _))⟩)) | (go_at_call 13; (with_reducible refine (impl_inside.calls a0_2 0 t120 t121 _ A21.out).mono ?_); rintro e w' ⟨rfl, ⟨nd, rfl⟩⟩; (try first | exact ⟨rfl, _, World.drewN_drewN _ _ _⟩ | exact ⟨rfl, _, Eq.trans (World.drewN_drewN _ _ _) (congrArg (World.drewN _) (Nat.add_assoc _ _ _))⟩))); try go_wp2_with (first | (go_at_call 11; (with_reducible refine (impl_daysInMonth.calls a0_0 a0_1 t120 _ A20.out).mono ?_); rintro e w' ⟨rfl, ⟨nd, rfl⟩⟩; (try first | exact ⟨rfl, _, World.drewN_drewN _ _ _⟩ | exact ⟨rfl, _, Eq.trans (World.drewN_drewN _ _ _) (congrArg (World.drewN _) (Nat.add_assoc _ _ _))⟩)) | (go_at_call 13; (with_reducible refine (impl_inside.calls a0_2 0 t120 t121 _ A21.out).mono ?_); rintro e w' ⟨rfl, ⟨nd, rfl⟩⟩; (try first | exact ⟨rfl, _, World.drewN_drewN _ _ _⟩ | exact ⟨rfl, _, Eq.trans (World.drewN_drewN _ _ _) (congrArg (World.drewN _) (Nat.add_assoc _ _ _))⟩))))
      go_ret
      exact ax3


/-! ### impl_DateBounds: function 6 -/
def impl_DateBounds.j0 : Nat → Bool → Int → Int → Int → Bool → Option (Int × Int × Int × Bool × Int × Int × Int × Bool × Bool)
 | 0, _, _, _, _, _ => none
 | k + 1, x18, x123000, x123001, x123002, x123003 => if x18 = true then (some (0, 0, 0, false, 0, 0, 0, false, false)) else (if x123001 = 0 then (if x123002 = 0 then ((impl_daysInMonth.f x123000 12).bind fun t128 => (some (x123000, 1, 1, x123003, x123000, 12, t128, x123003, true))) else (some (x123000, 1, x123002, x123003, x123000, 12, x123002, x123003, true))) else (if x123002 = 0 then ((impl_daysInMonth.f x123000 x123001).bind fun t129 => (some (x123000, x123001, 1, x123003, x123000, x123001, t129, x123003, true))) else (some (x123000, x123001, x123002, x123003, x123000, x123001, x123002, x123003, true))))
def impl_DateBounds.f (k : Nat) (a0_0 : Int) (a0_1 : Int) (a0_2 : Int) (a0_3 : Bool) : Option (Int × Int × Int × Bool × Int × Int × Int × Bool × Bool) := (impl_IsValidDate.f k a0_0 a0_1 a0_2 a0_3).bind fun t125 => (if t125 = true then (if a0_0 = 0 then (impl_DateBounds.j0 k true a0_0 a0_1 a0_2 a0_3) else (impl_DateBounds.j0 k a0_3 a0_0 a0_1 a0_2 a0_3)) else (impl_DateBounds.j0 k true a0_0 a0_1 a0_2 a0_3))
theorem impl_DateBounds.mono_l : ∀ k, (∀ y0 y1 y2 y3 y4, LeO (impl_DateBounds.j0 k y0 y1 y2 y3 y4) (impl_DateBounds.j0 (k + 1) y0 y1 y2 y3 y4))
 | 0 => fun _ _ _ _ _ r h => by simp [impl_DateBounds.j0] at h
 | k + 1 => by
  have ih0 := impl_DateBounds.mono_l k
  ·
   intro y0 y1 y2 y3 y4
   unfold impl_DateBounds.j0
   repeat' first
   | (with_reducible exact ih0 _ _ _ _ _)
   | (with_reducible exact impl_IsValidDate.mono _ _ _ _ _)
   | (with_reducible exact LeO.refl _)
   | (with_reducible exact LeO.none _)
   | (with_reducible refine LeO.ite ?_ ?_)
   | (with_reducible refine LeO.bind ?_ (fun _ => ?_))
   | exact ih0 _ _ _ _ _
   | exact impl_IsValidDate.mono _ _ _ _ _
   | exact LeO.none _
   | refine LeO.ite ?_ ?_
   | refine LeO.bind ?_ (fun _ => ?_)
theorem impl_DateBounds.mono : ∀ a0 a1 a2 a3 k, LeO (impl_DateBounds.f k a0 a1 a2 a3) (impl_DateBounds.f (k + 1) a0 a1 a2 a3) := by
 intro a0 a1 a2 a3 k
 have ih0 := impl_DateBounds.mono_l k
 unfold impl_DateBounds.f
 repeat' first
   | (with_reducible exact ih0 _ _ _ _ _)
   | (with_reducible exact impl_IsValidDate.mono _ _ _ _ _)
   | (with_reducible exact LeO.refl _)
   | (with_reducible exact LeO.none _)
   | (with_reducible refine LeO.ite ?_ ?_)
   | (with_reducible refine LeO.bind ?_ (fun _ => ?_))
   | exact ih0 _ _ _ _ _
   | exact impl_IsValidDate.mono _ _ _ _ _
   | exact LeO.none _
   | refine LeO.ite ?_ ?_
   | refine LeO.bind ?_ (fun _ => ?_)
set_option maxHeartbeats 8000000 in
set_option maxRecDepth 100000 in
theorem impl_DateBounds.calls (k : Nat) (a0_0 : Int) (a0_1 : Int) (a0_2 : Int) (a0_3 : Bool) (r1 : Int) (r2 : Int) (r3 : Int) (r4 : Bool) (r5 : Int) (r6 : Int) (r7 : Int) (r8 : Bool) (r9 : Bool) (w : World) (h : impl_DateBounds.f k a0_0 a0_1 a0_2 a0_3 = some (r1, r2, r3, r4, r5, r6, r7, r8, r9)) :
  Calls Try.prog 6 #[.agg #[.int .i64 a0_0, .int .i64 a0_1, .int .i64 a0_2, .bool a0_3]] w fun e w' => e = .returned (.tuple #[.agg #[.int .i64 r1, .int .i64 r2, .int .i64 r3, .bool r4], .agg #[.int .i64 r5, .int .i64 r6, .int .i64 r7, .bool r8], .bool r9]) ∧ Below w.heap.size w w' := by
 have hu24 := Try.underlying24
 have HB := Aside0.mk (Below.refl w.heap.size w)
 have H : ((impl_IsValidDate.f k a0_0 a0_1 a0_2 a0_3).bind fun t125 => (if t125 = true then (if a0_0 = 0 then (impl_DateBounds.j0 k true a0_0 a0_1 a0_2 a0_3) else (impl_DateBounds.j0 k a0_3 a0_0 a0_1 a0_2 a0_3)) else (impl_DateBounds.j0 k true a0_0 a0_1 a0_2 a0_3))) = some (r1, r2, r3, r4, r5, r6, r7, r8, r9) := h
 clear h
 have HC2 := Aside0.mk H
 clear H
 go_enter Try.func6, Try.ntmps6
 go_upto_region 1 with (first | ((with_reducible refine gate_dst (N := 1) rfl ?_); refine box_event ?hg (N := 1) ?hd (cs := #[.int .i64 a0_0, .int .i64 a0_1, .int .i64 a0_2, .bool a0_3]) (t := 24) ?hr ?_; (case hd => rfl); (case hg => rfl); (case hr => first | (go_simp; done) | (go_simp; rfl)); intro gb122 hg w3 hbox hb; have BK122 := Aside0.mk (hbox); have GW122 := Aside0.mk (bsz hg au23); have GE122 := Aside0.mk (bsz hg au23); replace HB := Aside0.mk (below_step au23 hb); clear hb hbox hg) | ((with_reducible refine gate_dst (N := 2) rfl ?_); refine box_event ?hg (N := 2) ?hd (cs := #[.int .i64 0, .int .i64 0, .int .i64 0, .bool false]) (t := 24) ?hr ?_; (case hd => rfl); (case hg => rfl); (case hr => first | (go_simp; done) | (go_simp; rfl)); intro gb123 hg w4 hbox hb; have BK123 := Aside0.mk (hbox); have GW123 := Aside0.mk (bsz hg au19); have GE123 := Aside0.mk (bsz hg au19); replace HB := Aside0.mk (below_step au19 hb); have NB122_123 := Aside0.mk (bne (g := gb122) hg au31); have NB123_122 := Aside0.mk (ben (g := gb122) hg au31); replace BK122 := Aside0.mk (blk_below (g := gb122) au31 hb); clear hb hbox hg) | ((with_reducible refine gate_dst (N := 3) rfl ?_); refine box_event ?hg (N := 3) ?hd (cs := #[.int .i64 0, .int .i64 0, .int .i64 0, .bool false]) (t := 24) ?hr ?_; (case hd => rfl); (case hg => rfl); (case hr => first | (go_simp; done) | (go_simp; rfl)); intro gb124 hg w5 hbox hb; have BK124 := Aside0.mk (hbox); have GW124 := Aside0.mk (bsz hg au15); have GE124 := Aside0.mk (bsz hg au15); replace HB := Aside0.mk (below_step au15 hb); have NB122_124 := Aside0.mk (bne (g := gb122) hg au31); have NB124_122 := Aside0.mk (ben (g := gb122) hg au31); replace BK122 := Aside0.mk (blk_below (g := gb122) au31 hb); have NB123_124 := Aside0.mk (bne (g := gb123) hg au32); have NB124_123 := Aside0.mk (ben (g := gb123) hg au32); replace BK123 := Aside0.mk (blk_below (g := gb123) au32 hb); clear hb hbox hg))
 (try simp only [Act.put, List.setIfInBounds_toArray, List.set_cons_zero, List.set_cons_succ])
 go_cut [18] (fun v18 wc => ∃ (kq : Nat) (x18_1 : Bool), v18 = .bool x18_1 ∧ Aside0 (impl_DateBounds.j0 kq x18_1 a0_0 a0_1 a0_2 a0_3 = some (r1, r2, r3, r4, r5, r6, r7, r8, r9)) ∧ Aside0 (kq ≤ k) ∧ Aside0 (wc.heap[gb122]? = some (.cells #[.int .i64 a0_0, .int .i64 a0_1, .int .i64 a0_2, .bool a0_3] 24 (0, 0))) ∧ Aside0 (wc.heap[gb123]? = some (.cells #[.int .i64 0, .int .i64 0, .int .i64 0, .bool false] 24 (0, 0))) ∧ Aside0 (wc.heap[gb124]? = some (.cells #[.int .i64 0, .int .i64 0, .int .i64 0, .bool false] 24 (0, 0))) ∧ Aside0 (Below w.heap.size w wc))
 case first =>
  have H := HC2.out
  clear HC2
  replace H := Option.bind_eq_some_iff.mp H
  obtain ⟨t125, A60, H⟩ := H
  try dsimp only at H
  have A6 := Aside0.mk A60
  clear A60
  by_cases c7 : t125 = true
  ·
   subst c7
   replace H := (if_pos rfl).symm.trans H
   by_cases c8 : a0_0 = 0
   ·
    rw [if_pos c8] at H
    have c8b0 : (a0_0 == 0) = true := beq_iff_eq.mpr c8
    have c8b1 : (a0_0 != 0) = false := bne_eq_false_iff_eq.mpr c8
    clear c8
    (first | rw [c8b0] | (simp only [i64_w, i32_w]; rw [c8b0]) | skip)
    have H' := Aside0.mk H
    clear H
    have hnb9 := NB122_123.out
    have hnc9 := NB123_122.out
    have hnb10 := NB122_124.out
    have hnc10 := NB124_122.out
    obtain ⟨hcz11_0, hcz11_1, hcz11_2, hcz11_3, hfz11_0, hfz11_1, hfz11_2, hfz11_3⟩ := blkc4 BK122.out
    go_wp2_with (first | ((with_reducible refine gate_callee (f := 10) rfl ?_); refine goesL_ (some 8) rfl rfl Try.func10 (by kernel_rfl) rfl #[.agg #[.int .i64 a0_0, .int .i64 a0_1, .int .i64 a0_2, .bool a0_3]] rfl au22 ?_; (with_reducible refine (impl_IsValidDate.calls k a0_0 a0_1 a0_2 a0_3 true _ A6.out).mono ?_); rintro e w12 ⟨rfl, hb⟩; refine ⟨_, rfl, ?_⟩; replace BK122 := Aside0.mk (blk_below (g := gb122) au31 hb); replace BK123 := Aside0.mk (blk_below (g := gb123) au32 hb); replace BK124 := Aside0.mk (blk_below (g := gb124) au33 hb); replace HB := Aside0.mk (below_step au11 hb); (try clear hb); obtain ⟨hcz13_0, hcz13_1, hcz13_2, hcz13_3, hfz13_0, hfz13_1, hfz13_2, hfz13_3⟩ := blkc4 BK122.out))
    go_meet
    case rel => exact ⟨_, (true), au42, H', ⟨by first | omega | exact Nat.le_refl _⟩, ⟨by (with_reducible repeat (first | refine blk_drewN ?_ _ | refine blk_drew ?_ | refine blk_alloc ?_ _)); exact BK122.out⟩, ⟨by (with_reducible repeat (first | refine blk_drewN ?_ _ | refine blk_drew ?_ | refine blk_alloc ?_ _)); exact BK123.out⟩, ⟨by (with_reducible repeat (first | refine blk_drewN ?_ _ | refine blk_drew ?_ | refine blk_alloc ?_ _)); exact BK124.out⟩, ⟨by repeat (first | (with_reducible first | exact HB.out | apply below_alloc | apply pw_below_drewN | apply below_drew1 | refine below_set ?_ GE122.out | refine below_set ?_ GE123.out | refine below_set ?_ GE124.out) | exact HB.out)⟩⟩
   ·
    rw [if_neg c8] at H
    have c8b0 : (a0_0 == 0) = false := beq_eq_false_iff_ne.mpr c8
    have c8b1 : (a0_0 != 0) = true := bne_iff_ne.mpr c8
    (first | rw [c8b0] | (simp only [i64_w, i32_w]; rw [c8b0]) | skip)
    have H' := Aside0.mk H
    clear H
    have hnb14 := NB122_123.out
    have hnc14 := NB123_122.out
    have hnb15 := NB122_124.out
    have hnc15 := NB124_122.out
    obtain ⟨hcz16_0, hcz16_1, hcz16_2, hcz16_3, hfz16_0, hfz16_1, hfz16_2, hfz16_3⟩ := blkc4 BK122.out
    go_wp2_with (first | ((with_reducible refine gate_callee (f := 10) rfl ?_); refine goesL_ (some 8) rfl rfl Try.func10 (by kernel_rfl) rfl #[.agg #[.int .i64 a0_0, .int .i64 a0_1, .int .i64 a0_2, .bool a0_3]] rfl au22 ?_; (with_reducible refine (impl_IsValidDate.calls k a0_0 a0_1 a0_2 a0_3 true _ A6.out).mono ?_); rintro e w17 ⟨rfl, hb⟩; refine ⟨_, rfl, ?_⟩; replace BK122 := Aside0.mk (blk_below (g := gb122) au31 hb); replace BK123 := Aside0.mk (blk_below (g := gb123) au32 hb); replace BK124 := Aside0.mk (blk_below (g := gb124) au33 hb); replace HB := Aside0.mk (below_step au11 hb); (try clear hb); obtain ⟨hcz18_0, hcz18_1, hcz18_2, hcz18_3, hfz18_0, hfz18_1, hfz18_2, hfz18_3⟩ := blkc4 BK122.out))
    go_meet
    case rel => exact ⟨_, (a0_3), au42, H', ⟨by first | omega | exact Nat.le_refl _⟩, ⟨by (with_reducible repeat (first | refine blk_drewN ?_ _ | refine blk_drew ?_ | refine blk_alloc ?_ _)); exact BK122.out⟩, ⟨by (with_reducible repeat (first | refine blk_drewN ?_ _ | refine blk_drew ?_ | refine blk_alloc ?_ _)); exact BK123.out⟩, ⟨by (with_reducible repeat (first | refine blk_drewN ?_ _ | refine blk_drew ?_ | refine blk_alloc ?_ _)); exact BK124.out⟩, ⟨by repeat (first | (with_reducible first | exact HB.out | apply below_alloc | apply pw_below_drewN | apply below_drew1 | refine below_set ?_ GE122.out | refine below_set ?_ GE123.out | refine below_set ?_ GE124.out) | exact HB.out)⟩⟩
  ·
   replace c7 := Bool.eq_false_iff.mpr c7
   subst c7
   replace H := (if_neg (show ¬ (false = true) by decide)).symm.trans H
   have H' := Aside0.mk H
   clear H
   have hnb19 := NB122_123.out
   have hnc19 := NB123_122.out
   have hnb20 := NB122_124.out
   have hnc20 := NB124_122.out
   obtain ⟨hcz21_0, hcz21_1, hcz21_2, hcz21_3, hfz21_0, hfz21_1, hfz21_2, hfz21_3⟩ := blkc4 BK122.out
   go_wp2_with (first | ((with_reducible refine gate_callee (f := 10) rfl ?_); refine goesL_ (some 8) rfl rfl Try.func10 (by kernel_rfl) rfl #[.agg #[.int .i64 a0_0, .int .i64 a0_1, .int .i64 a0_2, .bool a0_3]] rfl au22 ?_; (with_reducible refine (impl_IsValidDate.calls k a0_0 a0_1 a0_2 a0_3 false _ A6.out).mono ?_); rintro e w22 ⟨rfl, hb⟩; refine ⟨_, rfl, ?_⟩; replace BK122 := Aside0.mk (blk_below (g := gb122) au31 hb); replace BK123 := Aside0.mk (blk_below (g := gb123) au32 hb); replace BK124 := Aside0.mk (blk_below (g := gb124) au33 hb); replace HB := Aside0.mk (below_step au11 hb); (try clear hb)))
   go_meet
   case rel => exact ⟨_, (true), au42, H', ⟨by first | omega | exact Nat.le_refl _⟩, ⟨by (with_reducible repeat (first | refine blk_drewN ?_ _ | refine blk_drew ?_ | refine blk_alloc ?_ _)); exact BK122.out⟩, ⟨by (with_reducible repeat (first | refine blk_drewN ?_ _ | refine blk_drew ?_ | refine blk_alloc ?_ _)); exact BK123.out⟩, ⟨by (with_reducible repeat (first | refine blk_drewN ?_ _ | refine blk_drew ?_ | refine blk_alloc ?_ _)); exact BK124.out⟩, ⟨by repeat (first | (with_reducible first | exact HB.out | apply below_alloc | apply pw_below_drewN | apply below_drew1 | refine below_set ?_ GE122.out | refine below_set ?_ GE123.out | refine below_set ?_ GE124.out) | exact HB.out)⟩⟩
 case rest =>
  clear HC2
  try clear c1
  try clear c2
  try clear p2
  try clear c6
  try clear c7
  try clear c8
  try clear c8b0
  try clear c8b1
  try clear c9
  try clear c10
  try clear c14
  try clear c15
  try clear c19
  try clear c20
  try clear hcz11_0
  try clear hcz11_1
  try clear hcz11_2
  try clear hcz11_3
  try clear hcz13_0
  try clear hcz13_1
  try clear hcz13_2
  try clear hcz13_3
  try clear hcz16_0
  try clear hcz16_1
  try clear hcz16_2
  try clear hcz16_3
  try clear hcz18_0
  try clear hcz18_1
  try clear hcz18_2
  try clear hcz18_3
  try clear hcz21_0
  try clear hcz21_1
  try clear hcz21_2
  try clear hcz21_3
  try clear hfz11_0
  try clear hfz11_1
  try clear hfz11_2
  try clear hfz11_3
  try clear hfz13_0
  try clear hfz13_1
  try clear hfz13_2
  try clear hfz13_3
  try clear hfz16_0
  try clear hfz16_1
  try clear hfz16_2
  try clear hfz16_3
  try clear hfz18_0
  try clear hfz18_1
  try clear hfz18_2
  try clear hfz18_3
  try clear hfz21_0
  try clear hfz21_1
  try clear hfz21_2
  try clear hfz21_3
  obtain ⟨kq, x18_1, rfl, HA, HJ1, BK122, BK123, BK124, HB⟩ := hcut
  cases kq with
  | zero => exact absurd HA.out (by simp [impl_DateBounds.j0])
  | succ kj1 =>
   have H := HA.out
   clear HA
   simp only [impl_DateBounds.j0] at H
   by_cases c23 : x18_1 = true
   ·
    subst c23
    replace H := (if_pos rfl).symm.trans H
    simp only [Option.some.injEq, Prod.mk.injEq] at H
    obtain ⟨rfl, rfl, rfl, rfl, rfl, rfl, rfl, rfl, rfl⟩ := H
    have hnb24 := NB123_122.out
    have hnc24 := NB122_123.out
    have hnb25 := NB123_124.out
    have hnc25 := NB124_123.out
    obtain ⟨hcz26_0, hcz26_1, hcz26_2, hcz26_3, hfz26_0, hfz26_1, hfz26_2, hfz26_3⟩ := blkc4 BK123.out
    have hnb27 := NB124_122.out
    have hnc27 := NB122_124.out
    obtain ⟨hcz28_0, hcz28_1, hcz28_2, hcz28_3, hfz28_0, hfz28_1, hfz28_2, hfz28_3⟩ := blkc4 BK124.out
    go_wp2
    refine bodyPost_ret (results_list (rs := [.cell 2 24, .cell 3 24, .tmp 4]) rfl (by simp) (.cell gb123 24 #[.int .i64 0, .int .i64 0, .int .i64 0, .bool false] (0, 0) _ rfl (by (with_reducible repeat (first | refine blk_drewN ?_ _ | refine blk_drew ?_ | refine blk_alloc ?_ _)); refine blk_far ?_ NB123_124.out _; (with_reducible repeat (first | refine blk_drewN ?_ _ | refine blk_drew ?_ | refine blk_alloc ?_ _)); refine blk_far ?_ NB123_124.out _; (with_reducible repeat (first | refine blk_drewN ?_ _ | refine blk_drew ?_ | refine blk_alloc ?_ _)); refine blk_far ?_ NB123_124.out _; (with_reducible repeat (first | refine blk_drewN ?_ _ | refine blk_drew ?_ | refine blk_alloc ?_ _)); refine blk_far ?_ NB123_124.out _; (with_reducible repeat (first | refine blk_drewN ?_ _ | refine blk_drew ?_ | refine blk_alloc ?_ _)); refine blk_put (cs := #[.int .i64 0, .int .i64 0, .int .i64 0, .bool false]) ?_ 3 _ rfl; (with_reducible repeat (first | refine blk_drewN ?_ _ | refine blk_drew ?_ | refine blk_alloc ?_ _)); refine blk_put (cs := #[.int .i64 0, .int .i64 0, .int .i64 0, .bool false]) ?_ 2 _ rfl; (with_reducible repeat (first | refine blk_drewN ?_ _ | refine blk_drew ?_ | refine blk_alloc ?_ _)); refine blk_put (cs := #[.int .i64 0, .int .i64 0, .int .i64 0, .bool false]) ?_ 1 _ rfl; (with_reducible repeat (first | refine blk_drewN ?_ _ | refine blk_drew ?_ | refine blk_alloc ?_ _)); refine blk_put (cs := #[.int .i64 0, .int .i64 0, .int .i64 0, .bool false]) ?_ 0 _ rfl; (with_reducible repeat (first | refine blk_drewN ?_ _ | refine blk_drew ?_ | refine blk_alloc ?_ _)); exact BK123.out) Try.underlying24 rfl (by kernel_rfl) (.cell gb124 24 #[.int .i64 0, .int .i64 0, .int .i64 0, .bool false] (0, 0) _ rfl (by (with_reducible repeat (first | refine blk_drewN ?_ _ | refine blk_drew ?_ | refine blk_alloc ?_ _)); refine blk_put (cs := #[.int .i64 0, .int .i64 0, .int .i64 0, .bool false]) ?_ 3 _ rfl; (with_reducible repeat (first | refine blk_drewN ?_ _ | refine blk_drew ?_ | refine blk_alloc ?_ _)); refine blk_put (cs := #[.int .i64 0, .int .i64 0, .int .i64 0, .bool false]) ?_ 2 _ rfl; (with_reducible repeat (first | refine blk_drewN ?_ _ | refine blk_drew ?_ | refine blk_alloc ?_ _)); refine blk_put (cs := #[.int .i64 0, .int .i64 0, .int .i64 0, .bool false]) ?_ 1 _ rfl; (with_reducible repeat (first | refine blk_drewN ?_ _ | refine blk_drew ?_ | refine blk_alloc ?_ _)); refine blk_put (cs := #[.int .i64 0, .int .i64 0, .int .i64 0, .bool false]) ?_ 0 _ rfl; (with_reducible repeat (first | refine blk_drewN ?_ _ | refine blk_drew ?_ | refine blk_alloc ?_ _)); refine blk_far ?_ NB124_123.out _; (with_reducible repeat (first | refine blk_drewN ?_ _ | refine blk_drew ?_ | refine blk_alloc ?_ _)); refine blk_far ?_ NB124_123.out _; (with_reducible repeat (first | refine blk_drewN ?_ _ | refine blk_drew ?_ | refine blk_alloc ?_ _)); refine blk_far ?_ NB124_123.out _; (with_reducible repeat (first | refine blk_drewN ?_ _ | refine blk_drew ?_ | refine blk_alloc ?_ _)); refine blk_far ?_ NB124_123.out _; (with_reducible repeat (first | refine blk_drewN ?_ _ | refine blk_drew ?_ | refine blk_alloc ?_ _)); exact BK124.out) Try.underlying24 rfl (by kernel_rfl) (.tmp .nil)))) rfl ?_
    exact ⟨by first | rfl | (simp [errW_none, errW_some] <;> rfl) | (simp [*, errW_none, errW_some] <;> rfl), by repeat (first | (with_reducible first | exact HB.out | apply below_alloc | apply pw_below_drewN | apply below_drew1 | refine below_set ?_ GE122.out | refine below_set ?_ GE123.out | refine below_set ?_ GE124.out) | exact HB.out)⟩
   ·
    replace c23 := Bool.eq_false_iff.mpr c23
    subst c23
    replace H := (if_neg (show ¬ (false = true) by decide)).symm.trans H
    by_cases c29 : a0_1 = 0
    ·
     rw [if_pos c29] at H
     have c29b0 : (a0_1 == 0) = true := beq_iff_eq.mpr c29
     have c29b1 : (a0_1 != 0) = false := bne_eq_false_iff_eq.mpr c29
     clear c29
     by_cases c30 : a0_2 = 0
     ·
      rw [if_pos c30] at H
      have c30b0 : (a0_2 == 0) = true := beq_iff_eq.mpr c30
      have c30b1 : (a0_2 != 0) = false := bne_eq_false_iff_eq.mpr c30
      clear c30
      replace H := Option.bind_eq_some_iff.mp H
      obtain ⟨t128, A310, H⟩ := H
      try dsimp only at H
      have A31 := Aside0.mk A310
      clear A310
      simp only [Option.some.injEq, Prod.mk.injEq] at H
      obtain ⟨rfl, rfl, rfl, rfl, rfl, rfl, rfl, rfl, rfl⟩ := H
      try go_wp2
      replace BK122 := Aside0.mk (blk_drew BK122.out)
      replace BK123 := Aside0.mk (blk_drew BK123.out)
      replace BK124 := Aside0.mk (blk_drew BK124.out)
      replace HB := Aside0.mk (below_drew1 HB.out)
      refine start_ (n := 6) (S := fun w' => w'.cell? ⟨gb122, 0, none⟩ = some (.int .i64 a0_0) ∧ w'.cell? ⟨gb122, 1, none⟩ = some (.int .i64 a0_1) ∧ w'.cell? ⟨gb122, 2, none⟩ = some (.int .i64 a0_2) ∧ w'.cell? ⟨gb122, 3, none⟩ = some (.bool a0_3)) (ds := []) #[false, false, false, false, false, false] (by kernel_rfl) rfl rfl ⟨(blk_cell BK122.out 0).trans rfl, (blk_cell BK122.out 1).trans rfl, (blk_cell BK122.out 2).trans rfl, (blk_cell BK122.out 3).trans rfl⟩ (fun hHeld => ?_)
      generalize wc.drew = w32 at BK122 BK123 BK124 HB hHeld ⊢
      refine take_ (i := 0) (N := some 21) (v := ?_) (a' := ?_) #[true, false, false, false, false, false] rfl rfl (by kernel_rfl) (fun _ _ _ h => h) (Or.inl ⟨by rfl, ?_⟩) hHeld ?_ ?_
      rotate_left
      ·
       rintro w' ⟨s0, s1, s2, s3⟩
       go_simp
       with_reducible rfl
      rotate_left
      ·
       simp only [Act.put, List.setIfInBounds_toArray, List.set_cons_zero, List.set_cons_succ, i64_w, i32_w]
       rfl
      refine take_ (i := 1) (N := some 22) (v := ?_) (a' := ?_) #[true, true, false, false, false, false] rfl rfl (by kernel_rfl) (fun _ _ _ h => h) (Or.inl ⟨by rfl, ?_⟩) hHeld ?_ ?_
      rotate_left
      ·
       rintro w' ⟨s0, s1, s2, s3⟩
       go_simp
       with_reducible rfl
      rotate_left
      ·
       simp only [Act.put, List.setIfInBounds_toArray, List.set_cons_zero, List.set_cons_succ, i64_w, i32_w]
       rfl
      refine join_ (σ := Nat × Nat) 2 #[true, true, true, true, false, false] (fun s_ => [(5, .pointer (some ⟨s_.1, 0, none⟩)), (6, .pointer (some ⟨s_.2, 0, none⟩))]) (fun s_ w' => (w'.cell? ⟨gb122, 0, none⟩ = some (.int .i64 a0_0) ∧ w'.cell? ⟨gb122, 1, none⟩ = some (.int .i64 a0_1) ∧ w'.cell? ⟨gb122, 2, none⟩ = some (.int .i64 a0_2) ∧ w'.cell? ⟨gb122, 3, none⟩ = some (.bool a0_3)) ∧ (w'.heap[gb122]? = some (.cells #[.int .i64 a0_0, .int .i64 a0_1, .int .i64 a0_2, .bool a0_3] 24 (0, 0))) ∧ (w'.heap[gb123]? = some (.cells #[.int .i64 0, .int .i64 0, .int .i64 0, .bool false] 24 (0, 0))) ∧ (w'.heap[gb124]? = some (.cells #[.int .i64 0, .int .i64 0, .int .i64 0, .bool false] 24 (0, 0))) ∧ (w'.heap[s_.1]? = some (.cells #[.int .i64 0, .int .i64 0, .int .i64 0, .bool false] 24 (0, 0))) ∧ (w'.heap[s_.2]? = some (.cells #[.int .i64 0, .int .i64 0, .int .i64 0, .bool false] 24 (0, 0))) ∧ (w.heap.size ≤ s_.1) ∧ (w.heap.size ≤ s_.1) ∧ (gb122 ≠ s_.1) ∧ (s_.1 ≠ gb122) ∧ (gb123 ≠ s_.1) ∧ (s_.1 ≠ gb123) ∧ (gb124 ≠ s_.1) ∧ (s_.1 ≠ gb124) ∧ (s_.2 ≠ s_.1) ∧ (s_.1 ≠ s_.2) ∧ (w.heap.size ≤ s_.2) ∧ (w.heap.size ≤ s_.2) ∧ (gb122 ≠ s_.2) ∧ (s_.2 ≠ gb122) ∧ (gb123 ≠ s_.2) ∧ (s_.2 ≠ gb123) ∧ (gb124 ≠ s_.2) ∧ (s_.2 ≠ gb124) ∧ (Below w.heap.size w w')) ?_ ?_
      rotate_left
      ·
       intro hCont
       refine two_ (i := 2) (j := 3) (Ni := some 5) (Nj := some 6) #[true, true, true, false, false, false] #[true, true, false, true, false, false] rfl rfl rfl rfl (by kernel_rfl) (by decide) (by decide) (fun K hK => ?_) (fun K hK => ?_)
       ·
        skip
        refine box_step ?hg (N := 5) ?hd (cs := #[.int .i64 0, .int .i64 0, .int .i64 0, .bool false]) (t := 24) ?hr ?_; (case hd => rfl); (case hg => rfl); (case hr => first | (go_simp; done) | (go_simp; rfl))
        intro gb126 hg w33 hbox hb
        have BK126 := Aside0.mk (hbox)
        have GW126 := Aside0.mk (bsz hg au11)
        have GE126 := Aside0.mk (bsz hg au11)
        replace HB := Aside0.mk (below_step au11 hb)
        have NB122_126 := Aside0.mk (bne (g := gb122) hg au31)
        have NB126_122 := Aside0.mk (ben (g := gb122) hg au31)
        replace BK122 := Aside0.mk (blk_below (g := gb122) au31 hb)
        have NB123_126 := Aside0.mk (bne (g := gb123) hg au32)
        have NB126_123 := Aside0.mk (ben (g := gb123) hg au32)
        replace BK123 := Aside0.mk (blk_below (g := gb123) au32 hb)
        have NB124_126 := Aside0.mk (bne (g := gb124) hg au33)
        have NB126_124 := Aside0.mk (ben (g := gb124) hg au33)
        replace BK124 := Aside0.mk (blk_below (g := gb124) au33 hb)
        clear hb hbox hg
        refine hK.out _ _ ⟨(blk_cell BK122.out 0).trans rfl, (blk_cell BK122.out 1).trans rfl, (blk_cell BK122.out 2).trans rfl, (blk_cell BK122.out 3).trans rfl⟩ (fun hHeld => ?_)
        clear hK K
        refine no_ (some 5) ?_
        refine one_ (i := 3) (N := some 6) #[true, true, true, true, false, false] rfl rfl (by kernel_rfl) (by decide) (fun K hK => ?_)
        refine box_step ?hg (N := 6) ?hd (cs := #[.int .i64 0, .int .i64 0, .int .i64 0, .bool false]) (t := 24) ?hr ?_; (case hd => rfl); (case hg => rfl); (case hr => first | (go_simp; done) | (go_simp; rfl))
        intro gb127 hg w34 hbox hb
        have BK127 := Aside0.mk (hbox)
        have GW127 := Aside0.mk (bsz hg au7)
        have GE127 := Aside0.mk (bsz hg au7)
        replace HB := Aside0.mk (below_step au7 hb)
        have NB122_127 := Aside0.mk (bne (g := gb122) hg au31)
        have NB127_122 := Aside0.mk (ben (g := gb122) hg au31)
        replace BK122 := Aside0.mk (blk_below (g := gb122) au31 hb)
        have NB123_127 := Aside0.mk (bne (g := gb123) hg au32)
        have NB127_123 := Aside0.mk (ben (g := gb123) hg au32)
        replace BK123 := Aside0.mk (blk_below (g := gb123) au32 hb)
        have NB124_127 := Aside0.mk (bne (g := gb124) hg au33)
        have NB127_124 := Aside0.mk (ben (g := gb124) hg au33)
        replace BK124 := Aside0.mk (blk_below (g := gb124) au33 hb)
        have NB126_127 := Aside0.mk (bne (g := gb126) hg au34)
        have NB127_126 := Aside0.mk (ben (g := gb126) hg au34)
        replace BK126 := Aside0.mk (blk_below (g := gb126) au34 hb)
        clear hb hbox hg
        refine hK.out _ _ ⟨(blk_cell BK122.out 0).trans rfl, (blk_cell BK122.out 1).trans rfl, (blk_cell BK122.out 2).trans rfl, (blk_cell BK122.out 3).trans rfl⟩ (fun hHeld => ?_)
        clear hK K
        refine no_ (some 6) ?_
        exact norm_ au41 (hCont (gb126, gb127) _ ⟨hHeld, au31, au32, au33, au34, au35, GW126.out, GE126.out, NB122_126.out, NB126_122.out, NB123_126.out, NB126_123.out, NB124_126.out, NB126_124.out, NB127_126.out, NB126_127.out, GW127.out, GE127.out, NB122_127.out, NB127_122.out, NB123_127.out, NB127_123.out, NB124_127.out, NB127_124.out, au2⟩)
       ·
        skip
        refine box_step ?hg (N := 6) ?hd (cs := #[.int .i64 0, .int .i64 0, .int .i64 0, .bool false]) (t := 24) ?hr ?_; (case hd => rfl); (case hg => rfl); (case hr => first | (go_simp; done) | (go_simp; rfl))
        intro gb127 hg w33 hbox hb
        have BK127 := Aside0.mk (hbox)
        have GW127 := Aside0.mk (bsz hg au11)
        have GE127 := Aside0.mk (bsz hg au11)
        replace HB := Aside0.mk (below_step au11 hb)
        have NB122_127 := Aside0.mk (bne (g := gb122) hg au31)
        have NB127_122 := Aside0.mk (ben (g := gb122) hg au31)
        replace BK122 := Aside0.mk (blk_below (g := gb122) au31 hb)
        have NB123_127 := Aside0.mk (bne (g := gb123) hg au32)
        have NB127_123 := Aside0.mk (ben (g := gb123) hg au32)
        replace BK123 := Aside0.mk (blk_below (g := gb123) au32 hb)
        have NB124_127 := Aside0.mk (bne (g := gb124) hg au33)
        have NB127_124 := Aside0.mk (ben (g := gb124) hg au33)
        replace BK124 := Aside0.mk (blk_below (g := gb124) au33 hb)
        clear hb hbox hg
        refine hK.out _ _ ⟨(blk_cell BK122.out 0).trans rfl, (blk_cell BK122.out 1).trans rfl, (blk_cell BK122.out 2).trans rfl, (blk_cell BK122.out 3).trans rfl⟩ (fun hHeld => ?_)
        clear hK K
        refine no_ (some 6) ?_
        refine one_ (i := 2) (N := some 5) #[true, true, true, true, false, false] rfl rfl (by kernel_rfl) (by decide) (fun K hK => ?_)
        refine box_step ?hg (N := 5) ?hd (cs := #[.int .i64 0, .int .i64 0, .int .i64 0, .bool false]) (t := 24) ?hr ?_; (case hd => rfl); (case hg => rfl); (case hr => first | (go_simp; done) | (go_simp; rfl))
        intro gb126 hg w34 hbox hb
        have BK126 := Aside0.mk (hbox)
        have GW126 := Aside0.mk (bsz hg au8)
        have GE126 := Aside0.mk (bsz hg au8)
        replace HB := Aside0.mk (below_step au8 hb)
        have NB122_126 := Aside0.mk (bne (g := gb122) hg au31)
        have NB126_122 := Aside0.mk (ben (g := gb122) hg au31)
        replace BK122 := Aside0.mk (blk_below (g := gb122) au31 hb)
        have NB123_126 := Aside0.mk (bne (g := gb123) hg au32)
        have NB126_123 := Aside0.mk (ben (g := gb123) hg au32)
        replace BK123 := Aside0.mk (blk_below (g := gb123) au32 hb)
        have NB124_126 := Aside0.mk (bne (g := gb124) hg au33)
        have NB126_124 := Aside0.mk (ben (g := gb124) hg au33)
        replace BK124 := Aside0.mk (blk_below (g := gb124) au33 hb)
        have NB127_126 := Aside0.mk (bne (g := gb127) hg au35)
        have NB126_127 := Aside0.mk (ben (g := gb127) hg au35)
        replace BK127 := Aside0.mk (blk_below (g := gb127) au35 hb)
        clear hb hbox hg
        refine hK.out _ _ ⟨(blk_cell BK122.out 0).trans rfl, (blk_cell BK122.out 1).trans rfl, (blk_cell BK122.out 2).trans rfl, (blk_cell BK122.out 3).trans rfl⟩ (fun hHeld => ?_)
        clear hK K
        refine no_ (some 5) ?_
        exact norm_ au41 (hCont (gb126, gb127) _ ⟨hHeld, au31, au32, au33, au34, au35, GW126.out, GE126.out, NB122_126.out, NB126_122.out, NB123_126.out, NB126_123.out, NB124_126.out, NB126_124.out, NB127_126.out, NB126_127.out, GW127.out, GE127.out, NB122_127.out, NB127_122.out, NB123_127.out, NB127_123.out, NB124_127.out, NB127_124.out, au3⟩)
      rintro ⟨gb126, gb127⟩ w35 ⟨hS_, h0_, h1_, h2_, h3_, h4_, h5_, h6_, h7_, h8_, h9_, h10_, h11_, h12_, h13_, h14_, h15_, h16_, h17_, h18_, h19_, h20_, h21_, h22_, h23_⟩
      have n0_ : Aside0 (w35.heap[gb122]? = some (.cells #[.int .i64 a0_0, .int .i64 a0_1, .int .i64 a0_2, .bool a0_3] 24 (0, 0))) := ⟨h0_⟩
      have n1_ : Aside0 (w35.heap[gb123]? = some (.cells #[.int .i64 0, .int .i64 0, .int .i64 0, .bool false] 24 (0, 0))) := ⟨h1_⟩
      have n2_ : Aside0 (w35.heap[gb124]? = some (.cells #[.int .i64 0, .int .i64 0, .int .i64 0, .bool false] 24 (0, 0))) := ⟨h2_⟩
      have n3_ : Aside0 (w35.heap[gb126]? = some (.cells #[.int .i64 0, .int .i64 0, .int .i64 0, .bool false] 24 (0, 0))) := ⟨h3_⟩
      have n4_ : Aside0 (w35.heap[gb127]? = some (.cells #[.int .i64 0, .int .i64 0, .int .i64 0, .bool false] 24 (0, 0))) := ⟨h4_⟩
      have n5_ : Aside0 (w.heap.size ≤ gb126) := ⟨h5_⟩
      have n6_ : Aside0 (w.heap.size ≤ gb126) := ⟨h6_⟩
      have n7_ : Aside0 (gb122 ≠ gb126) := ⟨h7_⟩
      have n8_ : Aside0 (gb126 ≠ gb122) := ⟨h8_⟩
      have n9_ : Aside0 (gb123 ≠ gb126) := ⟨h9_⟩
      have n10_ : Aside0 (gb126 ≠ gb123) := ⟨h10_⟩
      have n11_ : Aside0 (gb124 ≠ gb126) := ⟨h11_⟩
      have n12_ : Aside0 (gb126 ≠ gb124) := ⟨h12_⟩
      have n13_ : Aside0 (gb127 ≠ gb126) := ⟨h13_⟩
      have n14_ : Aside0 (gb126 ≠ gb127) := ⟨h14_⟩
      have n15_ : Aside0 (w.heap.size ≤ gb127) := ⟨h15_⟩
      have n16_ : Aside0 (w.heap.size ≤ gb127) := ⟨h16_⟩
      have n17_ : Aside0 (gb122 ≠ gb127) := ⟨h17_⟩
      have n18_ : Aside0 (gb127 ≠ gb122) := ⟨h18_⟩
      have n19_ : Aside0 (gb123 ≠ gb127) := ⟨h19_⟩
      have n20_ : Aside0 (gb127 ≠ gb123) := ⟨h20_⟩
      have n21_ : Aside0 (gb124 ≠ gb127) := ⟨h21_⟩
      have n22_ : Aside0 (gb127 ≠ gb124) := ⟨h22_⟩
      have n23_ : Aside0 (Below w.heap.size w w35) := ⟨h23_⟩
      clear BK122
      clear BK123
      clear BK124
      clear HB
      clear h0_ h1_ h2_ h3_ h4_ h5_ h6_ h7_ h8_ h9_ h10_ h11_ h12_ h13_ h14_ h15_ h16_ h17_ h18_ h19_ h20_ h21_ h22_ h23_
      have BK122 := n0_
      have BK123 := n1_
      have BK124 := n2_
      have BK126 := n3_
      have BK127 := n4_
      have GW126 := n5_
      have GE126 := n6_
      have NB122_126 := n7_
      have NB126_122 := n8_
      have NB123_126 := n9_
      have NB126_123 := n10_
      have NB124_126 := n11_
      have NB126_124 := n12_
      have NB127_126 := n13_
      have NB126_127 := n14_
      have GW127 := n15_
      have GE127 := n16_
      have NB122_127 := n17_
      have NB127_122 := n18_
      have NB123_127 := n19_
      have NB127_123 := n20_
      have NB124_127 := n21_
      have NB127_124 := n22_
      have HB := n23_
      clear n0_ n1_ n2_ n3_ n4_ n5_ n6_ n7_ n8_ n9_ n10_ n11_ n12_ n13_ n14_ n15_ n16_ n17_ n18_ n19_ n20_ n21_ n22_ n23_
      have hHeld : w35.cell? ⟨gb122, 0, none⟩ = some (.int .i64 a0_0) ∧ w35.cell? ⟨gb122, 1, none⟩ = some (.int .i64 a0_1) ∧ w35.cell? ⟨gb122, 2, none⟩ = some (.int .i64 a0_2) ∧ w35.cell? ⟨gb122, 3, none⟩ = some (.bool a0_3) := hS_
      refine norm_ (a' := ?_) ?_ ?_
      rotate_left
      ·
       simp only [putAll, Act.put, List.setIfInBounds_toArray, List.set_cons_zero, List.set_cons_succ]
       rfl
      refine one_ (i := 4) (N := none) #[true, true, true, true, true, false] rfl rfl (by kernel_rfl) (by decide) (fun K hK => ?_)
      have hs36 : w35.cell? ⟨gb126, 0, none⟩ = some (.int .i64 0) := (blk_cell BK126.out 0).trans rfl
      have hfs36 := blk_frozen BK126.out 0
      have hns36_0 := NB122_126.out
      have hns36_1 := NB123_126.out
      have hns36_2 := NB124_126.out
      have hns36_4 := NB127_126.out
      have hms36_0 := NB126_122.out
      have hms36_1 := NB126_123.out
      have hms36_2 := NB126_124.out
      have hms36_4 := NB126_127.out
      have hs37 : w35.cell? ⟨gb126, 1, none⟩ = some (.int .i64 0) := (blk_cell BK126.out 1).trans rfl
      have hfs37 := blk_frozen BK126.out 1
      have hns37_0 := NB122_126.out
      have hns37_1 := NB123_126.out
      have hns37_2 := NB124_126.out
      have hns37_4 := NB127_126.out
      have hms37_0 := NB126_122.out
      have hms37_1 := NB126_123.out
      have hms37_2 := NB126_124.out
      have hms37_4 := NB126_127.out
      have hs38 : w35.cell? ⟨gb126, 2, none⟩ = some (.int .i64 0) := (blk_cell BK126.out 2).trans rfl
      have hfs38 := blk_frozen BK126.out 2
      have hns38_0 := NB122_126.out
      have hns38_1 := NB123_126.out
      have hns38_2 := NB124_126.out
      have hns38_4 := NB127_126.out
      have hms38_0 := NB126_122.out
      have hms38_1 := NB126_123.out
      have hms38_2 := NB126_124.out
      have hms38_4 := NB126_127.out
      have hs39 : w35.cell? ⟨gb126, 3, none⟩ = some (.bool false) := (blk_cell BK126.out 3).trans rfl
      have hfs39 := blk_frozen BK126.out 3
      have hns39_0 := NB122_126.out
      have hns39_1 := NB123_126.out
      have hns39_2 := NB124_126.out
      have hns39_4 := NB127_126.out
      have hms39_0 := NB126_122.out
      have hms39_1 := NB126_123.out
      have hms39_2 := NB126_124.out
      have hms39_4 := NB126_127.out
      refine skip_ (w1 := ?_) (by rfl) rfl ?_ ?_
      rotate_left
      ·
       go_simp
       rfl
      refine hK.out _ _ ⟨((cell_far (p := ⟨gb126, _, none⟩) NB122_126.out _).trans (((cell_far (p := ⟨gb126, _, none⟩) NB122_126.out _).trans (((cell_far (p := ⟨gb126, _, none⟩) NB122_126.out _).trans (((cell_far (p := ⟨gb126, _, none⟩) NB122_126.out _).trans (hHeld.1)))))))), ((cell_far (p := ⟨gb126, _, none⟩) NB122_126.out _).trans (((cell_far (p := ⟨gb126, _, none⟩) NB122_126.out _).trans (((cell_far (p := ⟨gb126, _, none⟩) NB122_126.out _).trans (((cell_far (p := ⟨gb126, _, none⟩) NB122_126.out _).trans (hHeld.2.1)))))))), ((cell_far (p := ⟨gb126, _, none⟩) NB122_126.out _).trans (((cell_far (p := ⟨gb126, _, none⟩) NB122_126.out _).trans (((cell_far (p := ⟨gb126, _, none⟩) NB122_126.out _).trans (((cell_far (p := ⟨gb126, _, none⟩) NB122_126.out _).trans (hHeld.2.2.1)))))))), ((cell_far (p := ⟨gb126, _, none⟩) NB122_126.out _).trans (((cell_far (p := ⟨gb126, _, none⟩) NB122_126.out _).trans (((cell_far (p := ⟨gb126, _, none⟩) NB122_126.out _).trans (((cell_far (p := ⟨gb126, _, none⟩) NB122_126.out _).trans (hHeld.2.2.2))))))))⟩ (fun hHeld => ?_)
      clear hK K
      refine one_ (i := 5) (N := none) #[true, true, true, true, true, true] rfl rfl (by kernel_rfl) (by decide) (fun K hK => ?_)
      have hs40 : w35.cell? ⟨gb127, 0, none⟩ = some (.int .i64 0) := (blk_cell BK127.out 0).trans rfl
      have hfs40 := blk_frozen BK127.out 0
      have hns40_0 := NB122_127.out
      have hns40_1 := NB123_127.out
      have hns40_2 := NB124_127.out
      have hns40_3 := NB126_127.out
      have hms40_0 := NB127_122.out
      have hms40_1 := NB127_123.out
      have hms40_2 := NB127_124.out
      have hms40_3 := NB127_126.out
      have hs41 : w35.cell? ⟨gb127, 1, none⟩ = some (.int .i64 0) := (blk_cell BK127.out 1).trans rfl
      have hfs41 := blk_frozen BK127.out 1
      have hns41_0 := NB122_127.out
      have hns41_1 := NB123_127.out
      have hns41_2 := NB124_127.out
      have hns41_3 := NB126_127.out
      have hms41_0 := NB127_122.out
      have hms41_1 := NB127_123.out
      have hms41_2 := NB127_124.out
      have hms41_3 := NB127_126.out
      have hs42 : w35.cell? ⟨gb127, 2, none⟩ = some (.int .i64 0) := (blk_cell BK127.out 2).trans rfl
      have hfs42 := blk_frozen BK127.out 2
      have hns42_0 := NB122_127.out
      have hns42_1 := NB123_127.out
      have hns42_2 := NB124_127.out
      have hns42_3 := NB126_127.out
      have hms42_0 := NB127_122.out
      have hms42_1 := NB127_123.out
      have hms42_2 := NB127_124.out
      have hms42_3 := NB127_126.out
      have hs43 : w35.cell? ⟨gb127, 3, none⟩ = some (.bool false) := (blk_cell BK127.out 3).trans rfl
      have hfs43 := blk_frozen BK127.out 3
      have hns43_0 := NB122_127.out
      have hns43_1 := NB123_127.out
      have hns43_2 := NB124_127.out
      have hns43_3 := NB126_127.out
      have hms43_0 := NB127_122.out
      have hms43_1 := NB127_123.out
      have hms43_2 := NB127_124.out
      have hms43_3 := NB127_126.out
      refine skip_ (w1 := ?_) (by rfl) rfl ?_ ?_
      rotate_left
      ·
       go_simp
       rfl
      refine hK.out _ _ ⟨((cell_far (p := ⟨gb127, _, none⟩) NB122_127.out _).trans (((cell_far (p := ⟨gb127, _, none⟩) NB122_127.out _).trans (((cell_far (p := ⟨gb127, _, none⟩) NB122_127.out _).trans (((cell_far (p := ⟨gb127, _, none⟩) NB122_127.out _).trans (hHeld.1)))))))), ((cell_far (p := ⟨gb127, _, none⟩) NB122_127.out _).trans (((cell_far (p := ⟨gb127, _, none⟩) NB122_127.out _).trans (((cell_far (p := ⟨gb127, _, none⟩) NB122_127.out _).trans (((cell_far (p := ⟨gb127, _, none⟩) NB122_127.out _).trans (hHeld.2.1)))))))), ((cell_far (p := ⟨gb127, _, none⟩) NB122_127.out _).trans (((cell_far (p := ⟨gb127, _, none⟩) NB122_127.out _).trans (((cell_far (p := ⟨gb127, _, none⟩) NB122_127.out _).trans (((cell_far (p := ⟨gb127, _, none⟩) NB122_127.out _).trans (hHeld.2.2.1)))))))), ((cell_far (p := ⟨gb127, _, none⟩) NB122_127.out _).trans (((cell_far (p := ⟨gb127, _, none⟩) NB122_127.out _).trans (((cell_far (p := ⟨gb127, _, none⟩) NB122_127.out _).trans (((cell_far (p := ⟨gb127, _, none⟩) NB122_127.out _).trans (hHeld.2.2.2))))))))⟩ (fun hHeld => ?_)
      clear hK K
      refine done_ (by kernel_rfl) ?_
      have n0_ : Aside0 (((((((((w35.setCell ⟨gb126, 0, none⟩ (.int .i64 a0_0)).setCell ⟨gb126, 1, none⟩ (.int .i64 a0_1)).setCell ⟨gb126, 2, none⟩ (.int .i64 a0_2)).setCell ⟨gb126, 3, none⟩ (.bool a0_3)).setCell ⟨gb127, 0, none⟩ (.int .i64 a0_0)).setCell ⟨gb127, 1, none⟩ (.int .i64 a0_1)).setCell ⟨gb127, 2, none⟩ (.int .i64 a0_2)).setCell ⟨gb127, 3, none⟩ (.bool a0_3)).heap[gb122]? = some (.cells #[.int .i64 a0_0, .int .i64 a0_1, .int .i64 a0_2, .bool a0_3] 24 (0, 0))) := ⟨by (with_reducible repeat (first | refine blk_drewN ?_ _ | refine blk_drew ?_ | refine blk_alloc ?_ _)); refine blk_far ?_ NB122_127.out _; (with_reducible repeat (first | refine blk_drewN ?_ _ | refine blk_drew ?_ | refine blk_alloc ?_ _)); refine blk_far ?_ NB122_127.out _; (with_reducible repeat (first | refine blk_drewN ?_ _ | refine blk_drew ?_ | refine blk_alloc ?_ _)); refine blk_far ?_ NB122_127.out _; (with_reducible repeat (first | refine blk_drewN ?_ _ | refine blk_drew ?_ | refine blk_alloc ?_ _)); refine blk_far ?_ NB122_127.out _; (with_reducible repeat (first | refine blk_drewN ?_ _ | refine blk_drew ?_ | refine blk_alloc ?_ _)); refine blk_far ?_ NB122_126.out _; (with_reducible repeat (first | refine blk_drewN ?_ _ | refine blk_drew ?_ | refine blk_alloc ?_ _)); refine blk_far ?_ NB122_126.out _; (with_reducible repeat (first | refine blk_drewN ?_ _ | refine blk_drew ?_ | refine blk_alloc ?_ _)); refine blk_far ?_ NB122_126.out _; (with_reducible repeat (first | refine blk_drewN ?_ _ | refine blk_drew ?_ | refine blk_alloc ?_ _)); refine blk_far ?_ NB122_126.out _; (with_reducible repeat (first | refine blk_drewN ?_ _ | refine blk_drew ?_ | refine blk_alloc ?_ _)); exact BK122.out⟩
      have n1_ : Aside0 (((((((((w35.setCell ⟨gb126, 0, none⟩ (.int .i64 a0_0)).setCell ⟨gb126, 1, none⟩ (.int .i64 a0_1)).setCell ⟨gb126, 2, none⟩ (.int .i64 a0_2)).setCell ⟨gb126, 3, none⟩ (.bool a0_3)).setCell ⟨gb127, 0, none⟩ (.int .i64 a0_0)).setCell ⟨gb127, 1, none⟩ (.int .i64 a0_1)).setCell ⟨gb127, 2, none⟩ (.int .i64 a0_2)).setCell ⟨gb127, 3, none⟩ (.bool a0_3)).heap[gb123]? = some (.cells #[.int .i64 0, .int .i64 0, .int .i64 0, .bool false] 24 (0, 0))) := ⟨by (with_reducible repeat (first | refine blk_drewN ?_ _ | refine blk_drew ?_ | refine blk_alloc ?_ _)); refine blk_far ?_ NB123_127.out _; (with_reducible repeat (first | refine blk_drewN ?_ _ | refine blk_drew ?_ | refine blk_alloc ?_ _)); refine blk_far ?_ NB123_127.out _; (with_reducible repeat (first | refine blk_drewN ?_ _ | refine blk_drew ?_ | refine blk_alloc ?_ _)); refine blk_far ?_ NB123_127.out _; (with_reducible repeat (first | refine blk_drewN ?_ _ | refine blk_drew ?_ | refine blk_alloc ?_ _)); refine blk_far ?_ NB123_127.out _; (with_reducible repeat (first | refine blk_drewN ?_ _ | refine blk_drew ?_ | refine blk_alloc ?_ _)); refine blk_far ?_ NB123_126.out _; (with_reducible repeat (first | refine blk_drewN ?_ _ | refine blk_drew ?_ | refine blk_alloc ?_ _)); refine blk_far ?_ NB123_126.out _; (with_reducible repeat (first | refine blk_drewN ?_ _ | refine blk_drew ?_ | refine blk_alloc ?_ _)); refine blk_far ?_ NB123_126.out _; (with_reducible repeat (first | refine blk_drewN ?_ _ | refine blk_drew ?_ | refine blk_alloc ?_ _)); refine blk_far ?_ NB123_126.out _; (with_reducible repeat (first | refine blk_drewN ?_ _ | refine blk_drew ?_ | refine blk_alloc ?_ _)); exact BK123.out⟩
      have n2_ : Aside0 (((((((((w35.setCell ⟨gb126, 0, none⟩ (.int .i64 a0_0)).setCell ⟨gb126, 1, none⟩ (.int .i64 a0_1)).setCell ⟨gb126, 2, none⟩ (.int .i64 a0_2)).setCell ⟨gb126, 3, none⟩ (.bool a0_3)).setCell ⟨gb127, 0, none⟩ (.int .i64 a0_0)).setCell ⟨gb127, 1, none⟩ (.int .i64 a0_1)).setCell ⟨gb127, 2, none⟩ (.int .i64 a0_2)).setCell ⟨gb127, 3, none⟩ (.bool a0_3)).heap[gb124]? = some (.cells #[.int .i64 0, .int .i64 0, .int .i64 0, .bool false] 24 (0, 0))) := ⟨by (with_reducible repeat (first | refine blk_drewN ?_ _ | refine blk_drew ?_ | refine blk_alloc ?_ _)); refine blk_far ?_ NB124_127.out _; (with_reducible repeat (first | refine blk_drewN ?_ _ | refine blk_drew ?_ | refine blk_alloc ?_ _)); refine blk_far ?_ NB124_127.out _; (with_reducible repeat (first | refine blk_drewN ?_ _ | refine blk_drew ?_ | refine blk_alloc ?_ _)); refine blk_far ?_ NB124_127.out _; (with_reducible repeat (first | refine blk_drewN ?_ _ | refine blk_drew ?_ | refine blk_alloc ?_ _)); refine blk_far ?_ NB124_127.out _; (with_reducible repeat (first | refine blk_drewN ?_ _ | refine blk_drew ?_ | refine blk_alloc ?_ _)); refine blk_far ?_ NB124_126.out _; (with_reducible repeat (first | refine blk_drewN ?_ _ | refine blk_drew ?_ | refine blk_alloc ?_ _)); refine blk_far ?_ NB124_126.out _; (with_reducible repeat (first | refine blk_drewN ?_ _ | refine blk_drew ?_ | refine blk_alloc ?_ _)); refine blk_far ?_ NB124_126.out _; (with_reducible repeat (first | refine blk_drewN ?_ _ | refine blk_drew ?_ | refine blk_alloc ?_ _)); refine blk_far ?_ NB124_126.out _; (with_reducible repeat (first | refine blk_drewN ?_ _ | refine blk_drew ?_ | refine blk_alloc ?_ _)); exact BK124.out⟩
      have n3_ : Aside0 (((((((((w35.setCell ⟨gb126, 0, none⟩ (.int .i64 a0_0)).setCell ⟨gb126, 1, none⟩ (.int .i64 a0_1)).setCell ⟨gb126, 2, none⟩ (.int .i64 a0_2)).setCell ⟨gb126, 3, none⟩ (.bool a0_3)).setCell ⟨gb127, 0, none⟩ (.int .i64 a0_0)).setCell ⟨gb127, 1, none⟩ (.int .i64 a0_1)).setCell ⟨gb127, 2, none⟩ (.int .i64 a0_2)).setCell ⟨gb127, 3, none⟩ (.bool a0_3)).heap[gb126]? = some (.cells #[.int .i64 a0_0, .int .i64 a0_1, .int .i64 a0_2, .bool a0_3] 24 (0, 0))) := ⟨by (with_reducible repeat (first | refine blk_drewN ?_ _ | refine blk_drew ?_ | refine blk_alloc ?_ _)); refine blk_far ?_ NB126_127.out _; (with_reducible repeat (first | refine blk_drewN ?_ _ | refine blk_drew ?_ | refine blk_alloc ?_ _)); refine blk_far ?_ NB126_127.out _; (with_reducible repeat (first | refine blk_drewN ?_ _ | refine blk_drew ?_ | refine blk_alloc ?_ _)); refine blk_far ?_ NB126_127.out _; (with_reducible repeat (first | refine blk_drewN ?_ _ | refine blk_drew ?_ | refine blk_alloc ?_ _)); refine blk_far ?_ NB126_127.out _; (with_reducible repeat (first | refine blk_drewN ?_ _ | refine blk_drew ?_ | refine blk_alloc ?_ _)); refine blk_put (cs := #[.int .i64 a0_0, .int .i64 a0_1, .int .i64 a0_2, .bool false]) ?_ 3 _ rfl; (with_reducible repeat (first | refine blk_drewN ?_ _ | refine blk_drew ?_ | refine blk_alloc ?_ _)); refine blk_put (cs := #[.int .i64 a0_0, .int .i64 a0_1, .int .i64 0, .bool false]) ?_ 2 _ rfl; (with_reducible repeat (first | refine blk_drewN ?_ _ | refine blk_drew ?_ | refine blk_alloc ?_ _)); refine blk_put (cs := #[.int .i64 a0_0, .int .i64 0, .int .i64 0, .bool false]) ?_ 1 _ rfl; (with_reducible repeat (first | refine blk_drewN ?_ _ | refine blk_drew ?_ | refine blk_alloc ?_ _)); refine blk_put (cs := #[.int .i64 0, .int .i64 0, .int .i64 0, .bool false]) ?_ 0 _ rfl; (with_reducible repeat (first | refine blk_drewN ?_ _ | refine blk_drew ?_ | refine blk_alloc ?_ _)); exact BK126.out⟩
      have n4_ : Aside0 (((((((((w35.setCell ⟨gb126, 0, none⟩ (.int .i64 a0_0)).setCell ⟨gb126, 1, none⟩ (.int .i64 a0_1)).setCell ⟨gb126, 2, none⟩ (.int .i64 a0_2)).setCell ⟨gb126, 3, none⟩ (.bool a0_3)).setCell ⟨gb127, 0, none⟩ (.int .i64 a0_0)).setCell ⟨gb127, 1, none⟩ (.int .i64 a0_1)).setCell ⟨gb127, 2, none⟩ (.int .i64 a0_2)).setCell ⟨gb127, 3, none⟩ (.bool a0_3)).heap[gb127]? = some (.cells #[.int .i64 a0_0, .int .i64 a0_1, .int .i64 a0_2, .bool a0_3] 24 (0, 0))) := ⟨by (with_reducible repeat (first | refine blk_drewN ?_ _ | refine blk_drew ?_ | refine blk_alloc ?_ _)); refine blk_put (cs := #[.int .i64 a0_0, .int .i64 a0_1, .int .i64 a0_2, .bool false]) ?_ 3 _ rfl; (with_reducible repeat (first | refine blk_drewN ?_ _ | refine blk_drew ?_ | refine blk_alloc ?_ _)); refine blk_put (cs := #[.int .i64 a0_0, .int .i64 a0_1, .int .i64 0, .bool false]) ?_ 2 _ rfl; (with_reducible repeat (first | refine blk_drewN ?_ _ | refine blk_drew ?_ | refine blk_alloc ?_ _)); refine blk_put (cs := #[.int .i64 a0_0, .int .i64 0, .int .i64 0, .bool false]) ?_ 1 _ rfl; (with_reducible repeat (first | refine blk_drewN ?_ _ | refine blk_drew ?_ | refine blk_alloc ?_ _)); refine blk_put (cs := #[.int .i64 0, .int .i64 0, .int .i64 0, .bool false]) ?_ 0 _ rfl; (with_reducible repeat (first | refine blk_drewN ?_ _ | refine blk_drew ?_ | refine blk_alloc ?_ _)); refine blk_far ?_ NB127_126.out _; (with_reducible repeat (first | refine blk_drewN ?_ _ | refine blk_drew ?_ | refine blk_alloc ?_ _)); refine blk_far ?_ NB127_126.out _; (with_reducible repeat (first | refine blk_drewN ?_ _ | refine blk_drew ?_ | refine blk_alloc ?_ _)); refine blk_far ?_ NB127_126.out _; (with_reducible repeat (first | refine blk_drewN ?_ _ | refine blk_drew ?_ | refine blk_alloc ?_ _)); refine blk_far ?_ NB127_126.out _; (with_reducible repeat (first | refine blk_drewN ?_ _ | refine blk_drew ?_ | refine blk_alloc ?_ _)); exact BK127.out⟩
      have n5_ : Aside0 (Below w.heap.size w ((((((((w35.setCell ⟨gb126, 0, none⟩ (.int .i64 a0_0)).setCell ⟨gb126, 1, none⟩ (.int .i64 a0_1)).setCell ⟨gb126, 2, none⟩ (.int .i64 a0_2)).setCell ⟨gb126, 3, none⟩ (.bool a0_3)).setCell ⟨gb127, 0, none⟩ (.int .i64 a0_0)).setCell ⟨gb127, 1, none⟩ (.int .i64 a0_1)).setCell ⟨gb127, 2, none⟩ (.int .i64 a0_2)).setCell ⟨gb127, 3, none⟩ (.bool a0_3))) := ⟨by repeat (first | (with_reducible first | exact HB.out | apply below_alloc | apply pw_below_drewN | apply below_drew1 | refine below_set ?_ GE122.out | refine below_set ?_ GE123.out | refine below_set ?_ GE124.out | refine below_set ?_ GE126.out | refine below_set ?_ GE127.out) | exact HB.out)⟩
      (try clear BK122)
      (try clear BK123)
      (try clear BK124)
      (try clear BK126)
      (try clear BK127)
      (try clear HB)
      generalize ((((((((w35.setCell ⟨gb126, 0, none⟩ (.int .i64 a0_0)).setCell ⟨gb126, 1, none⟩ (.int .i64 a0_1)).setCell ⟨gb126, 2, none⟩ (.int .i64 a0_2)).setCell ⟨gb126, 3, none⟩ (.bool a0_3)).setCell ⟨gb127, 0, none⟩ (.int .i64 a0_0)).setCell ⟨gb127, 1, none⟩ (.int .i64 a0_1)).setCell ⟨gb127, 2, none⟩ (.int .i64 a0_2)).setCell ⟨gb127, 3, none⟩ (.bool a0_3)) = w35g at n0_ n1_ n2_ n3_ n4_ n5_ ⊢
      have BK122 := n0_
      have BK123 := n1_
      have BK124 := n2_
      have BK126 := n3_
      have BK127 := n4_
      have HB := n5_
      clear n0_ n1_ n2_ n3_ n4_ n5_
      have hnb44 := NB122_123.out
      have hnc44 := NB123_122.out
      have hnb45 := NB122_124.out
      have hnc45 := NB124_122.out
      have hnb46 := NB122_126.out
      have hnc46 := NB126_122.out
      have hnb47 := NB122_127.out
      have hnc47 := NB127_122.out
      obtain ⟨hcz48_0, hcz48_1, hcz48_2, hcz48_3, hfz48_0, hfz48_1, hfz48_2, hfz48_3⟩ := blkc4 BK122.out
      have hnb49 := NB126_123.out
      have hnc49 := NB123_126.out
      have hnb50 := NB126_124.out
      have hnc50 := NB124_126.out
      have hnb51 := NB126_127.out
      have hnc51 := NB127_126.out
      obtain ⟨hcz52_0, hcz52_1, hcz52_2, hcz52_3, hfz52_0, hfz52_1, hfz52_2, hfz52_3⟩ := blkc4 BK126.out
      have hnb53 := NB127_123.out
      have hnc53 := NB123_127.out
      have hnb54 := NB127_124.out
      have hnc54 := NB124_127.out
      obtain ⟨hcz55_0, hcz55_1, hcz55_2, hcz55_3, hfz55_0, hfz55_1, hfz55_2, hfz55_3⟩ := blkc4 BK127.out
      try go_wp2_with (first | ((with_reducible refine gate_callee (f := 11) rfl ?_); refine goesL_ (some 35) rfl rfl Try.func11 (by kernel_rfl) rfl #[.int .i64 a0_0, .int .i64 12] rfl au22 ?_; (with_reducible refine (impl_daysInMonth.calls a0_0 12 t128 _ A31.out).mono ?_); rintro e w' ⟨rfl, ⟨nd, rfl⟩⟩; refine ⟨_, rfl, ?_⟩))
      have n0_ : Aside0 ((((((w35g.setCell ⟨gb126, 1, none⟩ (.int .i64 1)).setCell ⟨gb127, 1, none⟩ (.int .i64 12)).drewN nd).setCell ⟨gb126, 2, none⟩ (.int .i64 1)).setCell ⟨gb127, 2, none⟩ (.int .i64 t128)).heap[gb122]? = some (.cells #[.int .i64 a0_0, .int .i64 a0_1, .int .i64 a0_2, .bool a0_3] 24 (0, 0))) := ⟨by (with_reducible repeat (first | refine blk_drewN ?_ _ | refine blk_drew ?_ | refine blk_alloc ?_ _)); refine blk_far ?_ NB122_127.out _; (with_reducible repeat (first | refine blk_drewN ?_ _ | refine blk_drew ?_ | refine blk_alloc ?_ _)); refine blk_far ?_ NB122_126.out _; (with_reducible repeat (first | refine blk_drewN ?_ _ | refine blk_drew ?_ | refine blk_alloc ?_ _)); refine blk_far ?_ NB122_127.out _; (with_reducible repeat (first | refine blk_drewN ?_ _ | refine blk_drew ?_ | refine blk_alloc ?_ _)); refine blk_far ?_ NB122_126.out _; (with_reducible repeat (first | refine blk_drewN ?_ _ | refine blk_drew ?_ | refine blk_alloc ?_ _)); exact BK122.out⟩
      have n1_ : Aside0 ((((((w35g.setCell ⟨gb126, 1, none⟩ (.int .i64 1)).setCell ⟨gb127, 1, none⟩ (.int .i64 12)).drewN nd).setCell ⟨gb126, 2, none⟩ (.int .i64 1)).setCell ⟨gb127, 2, none⟩ (.int .i64 t128)).heap[gb123]? = some (.cells #[.int .i64 0, .int .i64 0, .int .i64 0, .bool false] 24 (0, 0))) := ⟨by (with_reducible repeat (first | refine blk_drewN ?_ _ | refine blk_drew ?_ | refine blk_alloc ?_ _)); refine blk_far ?_ NB123_127.out _; (with_reducible repeat (first | refine blk_drewN ?_ _ | refine blk_drew ?_ | refine blk_alloc ?_ _)); refine blk_far ?_ NB123_126.out _; (with_reducible repeat (first | refine blk_drewN ?_ _ | refine blk_drew ?_ | refine blk_alloc ?_ _)); refine blk_far ?_ NB123_127.out _; (with_reducible repeat (first | refine blk_drewN ?_ _ | refine blk_drew ?_ | refine blk_alloc ?_ _)); refine blk_far ?_ NB123_126.out _; (with_reducible repeat (first | refine blk_drewN ?_ _ | refine blk_drew ?_ | refine blk_alloc ?_ _)); exact BK123.out⟩
      have n2_ : Aside0 ((((((w35g.setCell ⟨gb126, 1, none⟩ (.int .i64 1)).setCell ⟨gb127, 1, none⟩ (.int .i64 12)).drewN nd).setCell ⟨gb126, 2, none⟩ (.int .i64 1)).setCell ⟨gb127, 2, none⟩ (.int .i64 t128)).heap[gb124]? = some (.cells #[.int .i64 0, .int .i64 0, .int .i64 0, .bool false] 24 (0, 0))) := ⟨by (with_reducible repeat (first | refine blk_drewN ?_ _ | refine blk_drew ?_ | refine blk_alloc ?_ _)); refine blk_far ?_ NB124_127.out _; (with_reducible repeat (first | refine blk_drewN ?_ _ | refine blk_drew ?_ | refine blk_alloc ?_ _)); refine blk_far ?_ NB124_126.out _; (with_reducible repeat (first | refine blk_drewN ?_ _ | refine blk_drew ?_ | refine blk_alloc ?_ _)); refine blk_far ?_ NB124_127.out _; (with_reducible repeat (first | refine blk_drewN ?_ _ | refine blk_drew ?_ | refine blk_alloc ?_ _)); refine blk_far ?_ NB124_126.out _; (with_reducible repeat (first | refine blk_drewN ?_ _ | refine blk_drew ?_ | refine blk_alloc ?_ _)); exact BK124.out⟩
      have n3_ : Aside0 ((((((w35g.setCell ⟨gb126, 1, none⟩ (.int .i64 1)).setCell ⟨gb127, 1, none⟩ (.int .i64 12)).drewN nd).setCell ⟨gb126, 2, none⟩ (.int .i64 1)).setCell ⟨gb127, 2, none⟩ (.int .i64 t128)).heap[gb126]? = some (.cells #[.int .i64 a0_0, .int .i64 1, .int .i64 1, .bool a0_3] 24 (0, 0))) := ⟨by (with_reducible repeat (first | refine blk_drewN ?_ _ | refine blk_drew ?_ | refine blk_alloc ?_ _)); refine blk_far ?_ NB126_127.out _; (with_reducible repeat (first | refine blk_drewN ?_ _ | refine blk_drew ?_ | refine blk_alloc ?_ _)); refine blk_put (cs := #[.int .i64 a0_0, .int .i64 1, .int .i64 a0_2, .bool a0_3]) ?_ 2 _ rfl; (with_reducible repeat (first | refine blk_drewN ?_ _ | refine blk_drew ?_ | refine blk_alloc ?_ _)); refine blk_far ?_ NB126_127.out _; (with_reducible repeat (first | refine blk_drewN ?_ _ | refine blk_drew ?_ | refine blk_alloc ?_ _)); refine blk_put (cs := #[.int .i64 a0_0, .int .i64 a0_1, .int .i64 a0_2, .bool a0_3]) ?_ 1 _ rfl; (with_reducible repeat (first | refine blk_drewN ?_ _ | refine blk_drew ?_ | refine blk_alloc ?_ _)); exact BK126.out⟩
      have n4_ : Aside0 ((((((w35g.setCell ⟨gb126, 1, none⟩ (.int .i64 1)).setCell ⟨gb127, 1, none⟩ (.int .i64 12)).drewN nd).setCell ⟨gb126, 2, none⟩ (.int .i64 1)).setCell ⟨gb127, 2, none⟩ (.int .i64 t128)).heap[gb127]? = some (.cells #[.int .i64 a0_0, .int .i64 12, .int .i64 t128, .bool a0_3] 24 (0, 0))) := ⟨by (with_reducible repeat (first | refine blk_drewN ?_ _ | refine blk_drew ?_ | refine blk_alloc ?_ _)); refine blk_put (cs := #[.int .i64 a0_0, .int .i64 12, .int .i64 a0_2, .bool a0_3]) ?_ 2 _ rfl; (with_reducible repeat (first | refine blk_drewN ?_ _ | refine blk_drew ?_ | refine blk_alloc ?_ _)); refine blk_far ?_ NB127_126.out _; (with_reducible repeat (first | refine blk_drewN ?_ _ | refine blk_drew ?_ | refine blk_alloc ?_ _)); refine blk_put (cs := #[.int .i64 a0_0, .int .i64 a0_1, .int .i64 a0_2, .bool a0_3]) ?_ 1 _ rfl; (with_reducible repeat (first | refine blk_drewN ?_ _ | refine blk_drew ?_ | refine blk_alloc ?_ _)); refine blk_far ?_ NB127_126.out _; (with_reducible repeat (first | refine blk_drewN ?_ _ | refine blk_drew ?_ | refine blk_alloc ?_ _)); exact BK127.out⟩
      have n5_ : Aside0 (Below w.heap.size w (((((w35g.setCell ⟨gb126, 1, none⟩ (.int .i64 1)).setCell ⟨gb127, 1, none⟩ (.int .i64 12)).drewN nd).setCell ⟨gb126, 2, none⟩ (.int .i64 1)).setCell ⟨gb127, 2, none⟩ (.int .i64 t128))) := ⟨by repeat (first | (with_reducible first | exact HB.out | apply below_alloc | apply pw_below_drewN | apply below_drew1 | refine below_set ?_ GE122.out | refine below_set ?_ GE123.out | refine below_set ?_ GE124.out | refine below_set ?_ GE126.out | refine below_set ?_ GE127.out) | exact HB.out)⟩
      (try clear BK122)
      (try clear BK123)
      (try clear BK124)
      (try clear BK126)
      (try clear BK127)
      (try clear HB)
      generalize (((((w35g.setCell ⟨gb126, 1, none⟩ (.int .i64 1)).setCell ⟨gb127, 1, none⟩ (.int .i64 12)).drewN nd).setCell ⟨gb126, 2, none⟩ (.int .i64 1)).setCell ⟨gb127, 2, none⟩ (.int .i64 t128)) = w56 at n0_ n1_ n2_ n3_ n4_ n5_ ⊢
      have BK122 := n0_
      have BK123 := n1_
      have BK124 := n2_
      have BK126 := n3_
      have BK127 := n4_
      have HB := n5_
      clear n0_ n1_ n2_ n3_ n4_ n5_
      (try (rw [drewN_self w56]; generalize hq_ : World.drewN w56 _ = w56; have n0_ : Aside0 (w56.heap[gb122]? = some (.cells #[.int .i64 a0_0, .int .i64 a0_1, .int .i64 a0_2, .bool a0_3] 24 (0, 0))) := ⟨by rw [← hq_]; exact au31⟩; have n1_ : Aside0 (w56.heap[gb123]? = some (.cells #[.int .i64 0, .int .i64 0, .int .i64 0, .bool false] 24 (0, 0))) := ⟨by rw [← hq_]; exact au32⟩; have n2_ : Aside0 (w56.heap[gb124]? = some (.cells #[.int .i64 0, .int .i64 0, .int .i64 0, .bool false] 24 (0, 0))) := ⟨by rw [← hq_]; exact au33⟩; have n3_ : Aside0 (w56.heap[gb126]? = some (.cells #[.int .i64 a0_0, .int .i64 1, .int .i64 1, .bool a0_3] 24 (0, 0))) := ⟨by rw [← hq_]; exact au34⟩; have n4_ : Aside0 (w56.heap[gb127]? = some (.cells #[.int .i64 a0_0, .int .i64 12, .int .i64 t128, .bool a0_3] 24 (0, 0))) := ⟨by rw [← hq_]; exact au35⟩; have n5_ : Aside0 (Below w.heap.size w w56) := ⟨by rw [← hq_]; exact au2⟩; clear BK122 BK123 BK124 BK126 BK127 HB hq_; have BK122 := n0_; have BK123 := n1_; have BK124 := n2_; have BK126 := n3_; have BK127 := n4_; have HB := n5_; clear n0_ n1_ n2_ n3_ n4_ n5_))
      replace BK122 := Aside0.mk (blk_drew BK122.out)
      replace BK123 := Aside0.mk (blk_drew BK123.out)
      replace BK124 := Aside0.mk (blk_drew BK124.out)
      replace BK126 := Aside0.mk (blk_drew BK126.out)
      replace BK127 := Aside0.mk (blk_drew BK127.out)
      replace HB := Aside0.mk (below_drew1 HB.out)
      refine start_ (n := 5) (S := fun w' => w'.cell? ⟨gb126, 0, none⟩ = some (.int .i64 a0_0) ∧ w'.cell? ⟨gb126, 1, none⟩ = some (.int .i64 1) ∧ w'.cell? ⟨gb126, 2, none⟩ = some (.int .i64 1) ∧ w'.cell? ⟨gb126, 3, none⟩ = some (.bool a0_3) ∧ w'.cell? ⟨gb127, 0, none⟩ = some (.int .i64 a0_0) ∧ w'.cell? ⟨gb127, 1, none⟩ = some (.int .i64 12) ∧ w'.cell? ⟨gb127, 2, none⟩ = some (.int .i64 t128) ∧ w'.cell? ⟨gb127, 3, none⟩ = some (.bool a0_3)) (ds := []) #[false, false, false, false, false] (by kernel_rfl) rfl rfl ⟨(blk_cell BK126.out 0).trans rfl, (blk_cell BK126.out 1).trans rfl, (blk_cell BK126.out 2).trans rfl, (blk_cell BK126.out 3).trans rfl, (blk_cell BK127.out 0).trans rfl, (blk_cell BK127.out 1).trans rfl, (blk_cell BK127.out 2).trans rfl, (blk_cell BK127.out 3).trans rfl⟩ (fun hHeld => ?_)
      generalize w56.drew = w57 at BK122 BK123 BK124 BK126 BK127 HB hHeld ⊢
      refine take_ (i := 0) (N := some 38) (v := ?_) (a' := ?_) #[true, false, false, false, false] rfl rfl (by kernel_rfl) (fun _ _ _ h => h) (Or.inl ⟨by rfl, ?_⟩) hHeld ?_ ?_
      rotate_left
      ·
       rintro w' ⟨s0, s1, s2, s3, s4, s5, s6, s7⟩
       go_simp
       with_reducible rfl
      rotate_left
      ·
       simp only [Act.put, List.setIfInBounds_toArray, List.set_cons_zero, List.set_cons_succ, i64_w, i32_w]
       rfl
      refine take_ (i := 1) (N := some 39) (v := ?_) (a' := ?_) #[true, true, false, false, false] rfl rfl (by kernel_rfl) (fun _ _ _ h => h) (Or.inl ⟨by rfl, ?_⟩) hHeld ?_ ?_
      rotate_left
      ·
       rintro w' ⟨s0, s1, s2, s3, s4, s5, s6, s7⟩
       go_simp
       with_reducible rfl
      rotate_left
      ·
       simp only [Act.put, List.setIfInBounds_toArray, List.set_cons_zero, List.set_cons_succ, i64_w, i32_w]
       rfl
      refine one_ (i := 2) (N := none) #[true, true, true, false, false] rfl rfl (by kernel_rfl) (by decide) (fun K hK => ?_)
      have hs58 : w57.cell? ⟨gb123, 0, none⟩ = some (.int .i64 0) := (blk_cell BK123.out 0).trans rfl
      have hfs58 := blk_frozen BK123.out 0
      have hns58_0 := NB122_123.out
      have hns58_2 := NB124_123.out
      have hns58_3 := NB126_123.out
      have hns58_4 := NB127_123.out
      have hms58_0 := NB123_122.out
      have hms58_2 := NB123_124.out
      have hms58_3 := NB123_126.out
      have hms58_4 := NB123_127.out
      have hs59 : w57.cell? ⟨gb123, 1, none⟩ = some (.int .i64 0) := (blk_cell BK123.out 1).trans rfl
      have hfs59 := blk_frozen BK123.out 1
      have hns59_0 := NB122_123.out
      have hns59_2 := NB124_123.out
      have hns59_3 := NB126_123.out
      have hns59_4 := NB127_123.out
      have hms59_0 := NB123_122.out
      have hms59_2 := NB123_124.out
      have hms59_3 := NB123_126.out
      have hms59_4 := NB123_127.out
      have hs60 : w57.cell? ⟨gb123, 2, none⟩ = some (.int .i64 0) := (blk_cell BK123.out 2).trans rfl
      have hfs60 := blk_frozen BK123.out 2
      have hns60_0 := NB122_123.out
      have hns60_2 := NB124_123.out
      have hns60_3 := NB126_123.out
      have hns60_4 := NB127_123.out
      have hms60_0 := NB123_122.out
      have hms60_2 := NB123_124.out
      have hms60_3 := NB123_126.out
      have hms60_4 := NB123_127.out
      have hs61 : w57.cell? ⟨gb123, 3, none⟩ = some (.bool false) := (blk_cell BK123.out 3).trans rfl
      have hfs61 := blk_frozen BK123.out 3
      have hns61_0 := NB122_123.out
      have hns61_2 := NB124_123.out
      have hns61_3 := NB126_123.out
      have hns61_4 := NB127_123.out
      have hms61_0 := NB123_122.out
      have hms61_2 := NB123_124.out
      have hms61_3 := NB123_126.out
      have hms61_4 := NB123_127.out
      refine skip_ (w1 := ?_) (by rfl) rfl ?_ ?_
      rotate_left
      ·
       go_simp
       rfl
      refine hK.out _ _ ⟨((cell_far (p := ⟨gb123, _, none⟩) NB126_123.out _).trans (((cell_far (p := ⟨gb123, _, none⟩) NB126_123.out _).trans (((cell_far (p := ⟨gb123, _, none⟩) NB126_123.out _).trans (((cell_far (p := ⟨gb123, _, none⟩) NB126_123.out _).trans (hHeld.1)))))))), ((cell_far (p := ⟨gb123, _, none⟩) NB126_123.out _).trans (((cell_far (p := ⟨gb123, _, none⟩) NB126_123.out _).trans (((cell_far (p := ⟨gb123, _, none⟩) NB126_123.out _).trans (((cell_far (p := ⟨gb123, _, none⟩) NB126_123.out _).trans (hHeld.2.1)))))))), ((cell_far (p := ⟨gb123, _, none⟩) NB126_123.out _).trans (((cell_far (p := ⟨gb123, _, none⟩) NB126_123.out _).trans (((cell_far (p := ⟨gb123, _, none⟩) NB126_123.out _).trans (((cell_far (p := ⟨gb123, _, none⟩) NB126_123.out _).trans (hHeld.2.2.1)))))))), ((cell_far (p := ⟨gb123, _, none⟩) NB126_123.out _).trans (((cell_far (p := ⟨gb123, _, none⟩) NB126_123.out _).trans (((cell_far (p := ⟨gb123, _, none⟩) NB126_123.out _).trans (((cell_far (p := ⟨gb123, _, none⟩) NB126_123.out _).trans (hHeld.2.2.2.1)))))))), ((cell_far (p := ⟨gb123, _, none⟩) NB127_123.out _).trans (((cell_far (p := ⟨gb123, _, none⟩) NB127_123.out _).trans (((cell_far (p := ⟨gb123, _, none⟩) NB127_123.out _).trans (((cell_far (p := ⟨gb123, _, none⟩) NB127_123.out _).trans (hHeld.2.2.2.2.1)))))))), ((cell_far (p := ⟨gb123, _, none⟩) NB127_123.out _).trans (((cell_far (p := ⟨gb123, _, none⟩) NB127_123.out _).trans (((cell_far (p := ⟨gb123, _, none⟩) NB127_123.out _).trans (((cell_far (p := ⟨gb123, _, none⟩) NB127_123.out _).trans (hHeld.2.2.2.2.2.1)))))))), ((cell_far (p := ⟨gb123, _, none⟩) NB127_123.out _).trans (((cell_far (p := ⟨gb123, _, none⟩) NB127_123.out _).trans (((cell_far (p := ⟨gb123, _, none⟩) NB127_123.out _).trans (((cell_far (p := ⟨gb123, _, none⟩) NB127_123.out _).trans (hHeld.2.2.2.2.2.2.1)))))))), ((cell_far (p := ⟨gb123, _, none⟩) NB127_123.out _).trans (((cell_far (p := ⟨gb123, _, none⟩) NB127_123.out _).trans (((cell_far (p := ⟨gb123, _, none⟩) NB127_123.out _).trans (((cell_far (p := ⟨gb123, _, none⟩) NB127_123.out _).trans (hHeld.2.2.2.2.2.2.2))))))))⟩ (fun hHeld => ?_)
      clear hK K
      refine one_ (i := 3) (N := none) #[true, true, true, true, false] rfl rfl (by kernel_rfl) (by decide) (fun K hK => ?_)
      have hs62 : w57.cell? ⟨gb124, 0, none⟩ = some (.int .i64 0) := (blk_cell BK124.out 0).trans rfl
      have hfs62 := blk_frozen BK124.out 0
      have hns62_0 := NB122_124.out
      have hns62_1 := NB123_124.out
      have hns62_3 := NB126_124.out
      have hns62_4 := NB127_124.out
      have hms62_0 := NB124_122.out
      have hms62_1 := NB124_123.out
      have hms62_3 := NB124_126.out
      have hms62_4 := NB124_127.out
      have hs63 : w57.cell? ⟨gb124, 1, none⟩ = some (.int .i64 0) := (blk_cell BK124.out 1).trans rfl
      have hfs63 := blk_frozen BK124.out 1
      have hns63_0 := NB122_124.out
      have hns63_1 := NB123_124.out
      have hns63_3 := NB126_124.out
      have hns63_4 := NB127_124.out
      have hms63_0 := NB124_122.out
      have hms63_1 := NB124_123.out
      have hms63_3 := NB124_126.out
      have hms63_4 := NB124_127.out
      have hs64 : w57.cell? ⟨gb124, 2, none⟩ = some (.int .i64 0) := (blk_cell BK124.out 2).trans rfl
      have hfs64 := blk_frozen BK124.out 2
      have hns64_0 := NB122_124.out
      have hns64_1 := NB123_124.out
      have hns64_3 := NB126_124.out
      have hns64_4 := NB127_124.out
      have hms64_0 := NB124_122.out
      have hms64_1 := NB124_123.out
      have hms64_3 := NB124_126.out
      have hms64_4 := NB124_127.out
      have hs65 : w57.cell? ⟨gb124, 3, none⟩ = some (.bool false) := (blk_cell BK124.out 3).trans rfl
      have hfs65 := blk_frozen BK124.out 3
      have hns65_0 := NB122_124.out
      have hns65_1 := NB123_124.out
      have hns65_3 := NB126_124.out
      have hns65_4 := NB127_124.out
      have hms65_0 := NB124_122.out
      have hms65_1 := NB124_123.out
      have hms65_3 := NB124_126.out
      have hms65_4 := NB124_127.out
      refine skip_ (w1 := ?_) (by rfl) rfl ?_ ?_
      rotate_left
      ·
       go_simp
       rfl
      refine hK.out _ _ ⟨((cell_far (p := ⟨gb124, _, none⟩) NB126_124.out _).trans (((cell_far (p := ⟨gb124, _, none⟩) NB126_124.out _).trans (((cell_far (p := ⟨gb124, _, none⟩) NB126_124.out _).trans (((cell_far (p := ⟨gb124, _, none⟩) NB126_124.out _).trans (hHeld.1)))))))), ((cell_far (p := ⟨gb124, _, none⟩) NB126_124.out _).trans (((cell_far (p := ⟨gb124, _, none⟩) NB126_124.out _).trans (((cell_far (p := ⟨gb124, _, none⟩) NB126_124.out _).trans (((cell_far (p := ⟨gb124, _, none⟩) NB126_124.out _).trans (hHeld.2.1)))))))), ((cell_far (p := ⟨gb124, _, none⟩) NB126_124.out _).trans (((cell_far (p := ⟨gb124, _, none⟩) NB126_124.out _).trans (((cell_far (p := ⟨gb124, _, none⟩) NB126_124.out _).trans (((cell_far (p := ⟨gb124, _, none⟩) NB126_124.out _).trans (hHeld.2.2.1)))))))), ((cell_far (p := ⟨gb124, _, none⟩) NB126_124.out _).trans (((cell_far (p := ⟨gb124, _, none⟩) NB126_124.out _).trans (((cell_far (p := ⟨gb124, _, none⟩) NB126_124.out _).trans (((cell_far (p := ⟨gb124, _, none⟩) NB126_124.out _).trans (hHeld.2.2.2.1)))))))), ((cell_far (p := ⟨gb124, _, none⟩) NB127_124.out _).trans (((cell_far (p := ⟨gb124, _, none⟩) NB127_124.out _).trans (((cell_far (p := ⟨gb124, _, none⟩) NB127_124.out _).trans (((cell_far (p := ⟨gb124, _, none⟩) NB127_124.out _).trans (hHeld.2.2.2.2.1)))))))), ((cell_far (p := ⟨gb124, _, none⟩) NB127_124.out _).trans (((cell_far (p := ⟨gb124, _, none⟩) NB127_124.out _).trans (((cell_far (p := ⟨gb124, _, none⟩) NB127_124.out _).trans (((cell_far (p := ⟨gb124, _, none⟩) NB127_124.out _).trans (hHeld.2.2.2.2.2.1)))))))), ((cell_far (p := ⟨gb124, _, none⟩) NB127_124.out _).trans (((cell_far (p := ⟨gb124, _, none⟩) NB127_124.out _).trans (((cell_far (p := ⟨gb124, _, none⟩) NB127_124.out _).trans (((cell_far (p := ⟨gb124, _, none⟩) NB127_124.out _).trans (hHeld.2.2.2.2.2.2.1)))))))), ((cell_far (p := ⟨gb124, _, none⟩) NB127_124.out _).trans (((cell_far (p := ⟨gb124, _, none⟩) NB127_124.out _).trans (((cell_far (p := ⟨gb124, _, none⟩) NB127_124.out _).trans (((cell_far (p := ⟨gb124, _, none⟩) NB127_124.out _).trans (hHeld.2.2.2.2.2.2.2))))))))⟩ (fun hHeld => ?_)
      clear hK K
      refine pure_ (i := 4) (N := some 4) (v := ?_) (a' := ?_) #[true, true, true, true, true] rfl rfl (by kernel_rfl) (fun _ _ _ h => h) (Or.inl ⟨by rfl, ?_⟩) ?_ ?_
      rotate_left
      ·
       intro w'
       go_simp
       with_reducible rfl
      rotate_left
      ·
       simp only [Act.put, List.setIfInBounds_toArray, List.set_cons_zero, List.set_cons_succ, i64_w, i32_w]
       rfl
      refine done_ (by kernel_rfl) ?_
      try go_wp2
      refine bodyPost_ret (results_list (rs := [.cell 2 24, .cell 3 24, .tmp 4]) rfl (by simp) (.cell gb123 24 #[.int .i64 a0_0, .int .i64 1, .int .i64 1, .bool a0_3] (0, 0) _ rfl (by (with_reducible repeat (first | refine blk_drewN ?_ _ | refine blk_drew ?_ | refine blk_alloc ?_ _)); refine blk_far ?_ NB123_124.out _; (with_reducible repeat (first | refine blk_drewN ?_ _ | refine blk_drew ?_ | refine blk_alloc ?_ _)); refine blk_far ?_ NB123_124.out _; (with_reducible repeat (first | refine blk_drewN ?_ _ | refine blk_drew ?_ | refine blk_alloc ?_ _)); refine blk_far ?_ NB123_124.out _; (with_reducible repeat (first | refine blk_drewN ?_ _ | refine blk_drew ?_ | refine blk_alloc ?_ _)); refine blk_far ?_ NB123_124.out _; (with_reducible repeat (first | refine blk_drewN ?_ _ | refine blk_drew ?_ | refine blk_alloc ?_ _)); refine blk_put (cs := #[.int .i64 a0_0, .int .i64 1, .int .i64 1, .bool false]) ?_ 3 _ rfl; (with_reducible repeat (first | refine blk_drewN ?_ _ | refine blk_drew ?_ | refine blk_alloc ?_ _)); refine blk_put (cs := #[.int .i64 a0_0, .int .i64 1, .int .i64 0, .bool false]) ?_ 2 _ rfl; (with_reducible repeat (first | refine blk_drewN ?_ _ | refine blk_drew ?_ | refine blk_alloc ?_ _)); refine blk_put (cs := #[.int .i64 a0_0, .int .i64 0, .int .i64 0, .bool false]) ?_ 1 _ rfl; (with_reducible repeat (first | refine blk_drewN ?_ _ | refine blk_drew ?_ | refine blk_alloc ?_ _)); refine blk_put (cs := #[.int .i64 0, .int .i64 0, .int .i64 0, .bool false]) ?_ 0 _ rfl; (with_reducible repeat (first | refine blk_drewN ?_ _ | refine blk_drew ?_ | refine blk_alloc ?_ _)); exact BK123.out) Try.underlying24 rfl (by kernel_rfl) (.cell gb124 24 #[.int .i64 a0_0, .int .i64 12, .int .i64 t128, .bool a0_3] (0, 0) _ rfl (by (with_reducible repeat (first | refine blk_drewN ?_ _ | refine blk_drew ?_ | refine blk_alloc ?_ _)); refine blk_put (cs := #[.int .i64 a0_0, .int .i64 12, .int .i64 t128, .bool false]) ?_ 3 _ rfl; (with_reducible repeat (first | refine blk_drewN ?_ _ | refine blk_drew ?_ | refine blk_alloc ?_ _)); refine blk_put (cs := #[.int .i64 a0_0, .int .i64 12, .int .i64 0, .bool false]) ?_ 2 _ rfl; (with_reducible repeat (first | refine blk_drewN ?_ _ | refine blk_drew ?_ | refine blk_alloc ?_ _)); refine blk_put (cs := #[.int .i64 a0_0, .int .i64 0, .int .i64 0, .bool false]) ?_ 1 _ rfl; (with_reducible repeat (first | refine blk_drewN ?_ _ | refine blk_drew ?_ | refine blk_alloc ?_ _)); refine blk_put (cs := #[.int .i64 0, .int .i64 0, .int .i64 0, .bool false]) ?_ 0 _ rfl; (with_reducible repeat (first | refine blk_drewN ?_ _ | refine blk_drew ?_ | refine blk_alloc ?_ _)); refine blk_far ?_ NB124_123.out _; (with_reducible repeat (first | refine blk_drewN ?_ _ | refine blk_drew ?_ | refine blk_alloc ?_ _)); refine blk_far ?_ NB124_123.out _; (with_reducible repeat (first | refine blk_drewN ?_ _ | refine blk_drew ?_ | refine blk_alloc ?_ _)); refine blk_far ?_ NB124_123.out _; (with_reducible repeat (first | refine blk_drewN ?_ _ | refine blk_drew ?_ | refine blk_alloc ?_ _)); refine blk_far ?_ NB124_123.out _; (with_reducible repeat (first | refine blk_drewN ?_ _ | refine blk_drew ?_ | refine blk_alloc ?_ _)); exact BK124.out) Try.underlying24 rfl (by kernel_rfl) (.tmp .nil)))) rfl ?_
      exact ax4
     ·
      rw [if_neg c30] at H
      have c30b0 : (a0_2 == 0) = false := beq_eq_false_iff_ne.mpr c30
      have c30b1 : (a0_2 != 0) = true := bne_iff_ne.mpr c30
      simp only [Option.some.injEq, Prod.mk.injEq] at H
      obtain ⟨rfl, rfl, rfl, rfl, rfl, rfl, rfl, rfl, rfl⟩ := H
      try go_wp2
      replace BK122 := Aside0.mk (blk_drew BK122.out)
      replace BK123 := Aside0.mk (blk_drew BK123.out)
      replace BK124 := Aside0.mk (blk_drew BK124.out)
      replace HB := Aside0.mk (below_drew1 HB.out)
      refine start_ (n := 6) (S := fun w' => w'.cell? ⟨gb122, 0, none⟩ = some (.int .i64 a0_0) ∧ w'.cell? ⟨gb122, 1, none⟩ = some (.int .i64 a0_1) ∧ w'.cell? ⟨gb122, 2, none⟩ = some (.int .i64 a0_2) ∧ w'.cell? ⟨gb122, 3, none⟩ = some (.bool a0_3)) (ds := []) #[false, false, false, false, false, false] (by kernel_rfl) rfl rfl ⟨(blk_cell BK122.out 0).trans rfl, (blk_cell BK122.out 1).trans rfl, (blk_cell BK122.out 2).trans rfl, (blk_cell BK122.out 3).trans rfl⟩ (fun hHeld => ?_)
      generalize wc.drew = w66 at BK122 BK123 BK124 HB hHeld ⊢
      refine take_ (i := 0) (N := some 21) (v := ?_) (a' := ?_) #[true, false, false, false, false, false] rfl rfl (by kernel_rfl) (fun _ _ _ h => h) (Or.inl ⟨by rfl, ?_⟩) hHeld ?_ ?_
      rotate_left
      ·
       rintro w' ⟨s0, s1, s2, s3⟩
       go_simp
       with_reducible rfl
      rotate_left
      ·
       simp only [Act.put, List.setIfInBounds_toArray, List.set_cons_zero, List.set_cons_succ, i64_w, i32_w]
       rfl
      refine take_ (i := 1) (N := some 22) (v := ?_) (a' := ?_) #[true, true, false, false, false, false] rfl rfl (by kernel_rfl) (fun _ _ _ h => h) (Or.inl ⟨by rfl, ?_⟩) hHeld ?_ ?_
      rotate_left
      ·
       rintro w' ⟨s0, s1, s2, s3⟩
       go_simp
       with_reducible rfl
      rotate_left
      ·
       simp only [Act.put, List.setIfInBounds_toArray, List.set_cons_zero, List.set_cons_succ, i64_w, i32_w]
       rfl
      refine join_ (σ := Nat × Nat) 2 #[true, true, true, true, false, false] (fun s_ => [(5, .pointer (some ⟨s_.1, 0, none⟩)), (6, .pointer (some ⟨s_.2, 0, none⟩))]) (fun s_ w' => (w'.cell? ⟨gb122, 0, none⟩ = some (.int .i64 a0_0) ∧ w'.cell? ⟨gb122, 1, none⟩ = some (.int .i64 a0_1) ∧ w'.cell? ⟨gb122, 2, none⟩ = some (.int .i64 a0_2) ∧ w'.cell? ⟨gb122, 3, none⟩ = some (.bool a0_3)) ∧ (w'.heap[gb122]? = some (.cells #[.int .i64 a0_0, .int .i64 a0_1, .int .i64 a0_2, .bool a0_3] 24 (0, 0))) ∧ (w'.heap[gb123]? = some (.cells #[.int .i64 0, .int .i64 0, .int .i64 0, .bool false] 24 (0, 0))) ∧ (w'.heap[gb124]? = some (.cells #[.int .i64 0, .int .i64 0, .int .i64 0, .bool false] 24 (0, 0))) ∧ (w'.heap[s_.1]? = some (.cells #[.int .i64 0, .int .i64 0, .int .i64 0, .bool false] 24 (0, 0))) ∧ (w'.heap[s_.2]? = some (.cells #[.int .i64 0, .int .i64 0, .int .i64 0, .bool false] 24 (0, 0))) ∧ (w.heap.size ≤ s_.1) ∧ (w.heap.size ≤ s_.1) ∧ (gb122 ≠ s_.1) ∧ (s_.1 ≠ gb122) ∧ (gb123 ≠ s_.1) ∧ (s_.1 ≠ gb123) ∧ (gb124 ≠ s_.1) ∧ (s_.1 ≠ gb124) ∧ (s_.2 ≠ s_.1) ∧ (s_.1 ≠ s_.2) ∧ (w.heap.size ≤ s_.2) ∧ (w.heap.size ≤ s_.2) ∧ (gb122 ≠ s_.2) ∧ (s_.2 ≠ gb122) ∧ (gb123 ≠ s_.2) ∧ (s_.2 ≠ gb123) ∧ (gb124 ≠ s_.2) ∧ (s_.2 ≠ gb124) ∧ (Below w.heap.size w w')) ?_ ?_
      rotate_left
      ·
       intro hCont
       refine two_ (i := 2) (j := 3) (Ni := some 5) (Nj := some 6) #[true, true, true, false, false, false] #[true, true, false, true, false, false] rfl rfl rfl rfl (by kernel_rfl) (by decide) (by decide) (fun K hK => ?_) (fun K hK => ?_)
       ·
        skip
        refine box_step ?hg (N := 5) ?hd (cs := #[.int .i64 0, .int .i64 0, .int .i64 0, .bool false]) (t := 24) ?hr ?_; (case hd => rfl); (case hg => rfl); (case hr => first | (go_simp; done) | (go_simp; rfl))
        intro gb126 hg w67 hbox hb
        have BK126 := Aside0.mk (hbox)
        have GW126 := Aside0.mk (bsz hg au11)
        have GE126 := Aside0.mk (bsz hg au11)
        replace HB := Aside0.mk (below_step au11 hb)
        have NB122_126 := Aside0.mk (bne (g := gb122) hg au31)
        have NB126_122 := Aside0.mk (ben (g := gb122) hg au31)
        replace BK122 := Aside0.mk (blk_below (g := gb122) au31 hb)
        have NB123_126 := Aside0.mk (bne (g := gb123) hg au32)
        have NB126_123 := Aside0.mk (ben (g := gb123) hg au32)
        replace BK123 := Aside0.mk (blk_below (g := gb123) au32 hb)
        have NB124_126 := Aside0.mk (bne (g := gb124) hg au33)
        have NB126_124 := Aside0.mk (ben (g := gb124) hg au33)
        replace BK124 := Aside0.mk (blk_below (g := gb124) au33 hb)
        clear hb hbox hg
        refine hK.out _ _ ⟨(blk_cell BK122.out 0).trans rfl, (blk_cell BK122.out 1).trans rfl, (blk_cell BK122.out 2).trans rfl, (blk_cell BK122.out 3).trans rfl⟩ (fun hHeld => ?_)
        clear hK K
        refine no_ (some 5) ?_
        refine one_ (i := 3) (N := some 6) #[true, true, true, true, false, false] rfl rfl (by kernel_rfl) (by decide) (fun K hK => ?_)
        refine box_step ?hg (N := 6) ?hd (cs := #[.int .i64 0, .int .i64 0, .int .i64 0, .bool false]) (t := 24) ?hr ?_; (case hd => rfl); (case hg => rfl); (case hr => first | (go_simp; done) | (go_simp; rfl))
        intro gb127 hg w68 hbox hb
        have BK127 := Aside0.mk (hbox)
        have GW127 := Aside0.mk (bsz hg au7)
        have GE127 := Aside0.mk (bsz hg au7)
        replace HB := Aside0.mk (below_step au7 hb)
        have NB122_127 := Aside0.mk (bne (g := gb122) hg au31)
        have NB127_122 := Aside0.mk (ben (g := gb122) hg au31)
        replace BK122 := Aside0.mk (blk_below (g := gb122) au31 hb)
        have NB123_127 := Aside0.mk (bne (g := gb123) hg au32)
        have NB127_123 := Aside0.mk (ben (g := gb123) hg au32)
        replace BK123 := Aside0.mk (blk_below (g := gb123) au32 hb)
        have NB124_127 := Aside0.mk (bne (g := gb124) hg au33)
        have NB127_124 := Aside0.mk (ben (g := gb124) hg au33)
        replace BK124 := Aside0.mk (blk_below (g := gb124) au33 hb)
        have NB126_127 := Aside0.mk (bne (g := gb126) hg au34)
        have NB127_126 := Aside0.mk (ben (g := gb126) hg au34)
        replace BK126 := Aside0.mk (blk_below (g := gb126) au34 hb)
        clear hb hbox hg
        refine hK.out _ _ ⟨(blk_cell BK122.out 0).trans rfl, (blk_cell BK122.out 1).trans rfl, (blk_cell BK122.out 2).trans rfl, (blk_cell BK122.out 3).trans rfl⟩ (fun hHeld => ?_)
        clear hK K
        refine no_ (some 6) ?_
        exact norm_ au41 (hCont (gb126, gb127) _ ⟨hHeld, au31, au32, au33, au34, au35, GW126.out, GE126.out, NB122_126.out, NB126_122.out, NB123_126.out, NB126_123.out, NB124_126.out, NB126_124.out, NB127_126.out, NB126_127.out, GW127.out, GE127.out, NB122_127.out, NB127_122.out, NB123_127.out, NB127_123.out, NB124_127.out, NB127_124.out, au2⟩)
       ·
        skip
        refine box_step ?hg (N := 6) ?hd (cs := #[.int .i64 0, .int .i64 0, .int .i64 0, .bool false]) (t := 24) ?hr ?_; (case hd => rfl); (case hg => rfl); (case hr => first | (go_simp; done) | (go_simp; rfl))
        intro gb127 hg w67 hbox hb
        have BK127 := Aside0.mk (hbox)
        have GW127 := Aside0.mk (bsz hg au11)
        have GE127 := Aside0.mk (bsz hg au11)
        replace HB := Aside0.mk (below_step au11 hb)
        have NB122_127 := Aside0.mk (bne (g := gb122) hg au31)
        have NB127_122 := Aside0.mk (ben (g := gb122) hg au31)
        replace BK122 := Aside0.mk (blk_below (g := gb122) au31 hb)
        have NB123_127 := Aside0.mk (bne (g := gb123) hg au32)
        have NB127_123 := Aside0.mk (ben (g := gb123) hg au32)
        replace BK123 := Aside0.mk (blk_below (g := gb123) au32 hb)
        have NB124_127 := Aside0.mk (bne (g := gb124) hg au33)
        have NB127_124 := Aside0.mk (ben (g := gb124) hg au33)
        replace BK124 := Aside0.mk (blk_below (g := gb124) au33 hb)
        clear hb hbox hg
        refine hK.out _ _ ⟨(blk_cell BK122.out 0).trans rfl, (blk_cell BK122.out 1).trans rfl, (blk_cell BK122.out 2).trans rfl, (blk_cell BK122.out 3).trans rfl⟩ (fun hHeld => ?_)
        clear hK K
        refine no_ (some 6) ?_
        refine one_ (i := 2) (N := some 5) #[true, true, true, true, false, false] rfl rfl (by kernel_rfl) (by decide) (fun K hK => ?_)
        refine box_step ?hg (N := 5) ?hd (cs := #[.int .i64 0, .int .i64 0, .int .i64 0, .bool false]) (t := 24) ?hr ?_; (case hd => rfl); (case hg => rfl); (case hr => first | (go_simp; done) | (go_simp; rfl))
        intro gb126 hg w68 hbox hb
        have BK126 := Aside0.mk (hbox)
        have GW126 := Aside0.mk (bsz hg au8)
        have GE126 := Aside0.mk (bsz hg au8)
        replace HB := Aside0.mk (below_step au8 hb)
        have NB122_126 := Aside0.mk (bne (g := gb122) hg au31)
        have NB126_122 := Aside0.mk (ben (g := gb122) hg au31)
        replace BK122 := Aside0.mk (blk_below (g := gb122) au31 hb)
        have NB123_126 := Aside0.mk (bne (g := gb123) hg au32)
        have NB126_123 := Aside0.mk (ben (g := gb123) hg au32)
        replace BK123 := Aside0.mk (blk_below (g := gb123) au32 hb)
        have NB124_126 := Aside0.mk (bne (g := gb124) hg au33)
        have NB126_124 := Aside0.mk (ben (g := gb124) hg au33)
        replace BK124 := Aside0.mk (blk_below (g := gb124) au33 hb)
        have NB127_126 := Aside0.mk (bne (g := gb127) hg au35)
        have NB126_127 := Aside0.mk (ben (g := gb127) hg au35)
        replace BK127 := Aside0.mk (blk_below (g := gb127) au35 hb)
        clear hb hbox hg
        refine hK.out _ _ ⟨(blk_cell BK122.out 0).trans rfl, (blk_cell BK122.out 1).trans rfl, (blk_cell BK122.out 2).trans rfl, (blk_cell BK122.out 3).trans rfl⟩ (fun hHeld => ?_)
        clear hK K
        refine no_ (some 5) ?_
        exact norm_ au41 (hCont (gb126, gb127) _ ⟨hHeld, au31, au32, au33, au34, au35, GW126.out, GE126.out, NB122_126.out, NB126_122.out, NB123_126.out, NB126_123.out, NB124_126.out, NB126_124.out, NB127_126.out, NB126_127.out, GW127.out, GE127.out, NB122_127.out, NB127_122.out, NB123_127.out, NB127_123.out, NB124_127.out, NB127_124.out, au3⟩)
      rintro ⟨gb126, gb127⟩ w69 ⟨hS_, h0_, h1_, h2_, h3_, h4_, h5_, h6_, h7_, h8_, h9_, h10_, h11_, h12_, h13_, h14_, h15_, h16_, h17_, h18_, h19_, h20_, h21_, h22_, h23_⟩
      have n0_ : Aside0 (w69.heap[gb122]? = some (.cells #[.int .i64 a0_0, .int .i64 a0_1, .int .i64 a0_2, .bool a0_3] 24 (0, 0))) := ⟨h0_⟩
      have n1_ : Aside0 (w69.heap[gb123]? = some (.cells #[.int .i64 0, .int .i64 0, .int .i64 0, .bool false] 24 (0, 0))) := ⟨h1_⟩
      have n2_ : Aside0 (w69.heap[gb124]? = some (.cells #[.int .i64 0, .int .i64 0, .int .i64 0, .bool false] 24 (0, 0))) := ⟨h2_⟩
      have n3_ : Aside0 (w69.heap[gb126]? = some (.cells #[.int .i64 0, .int .i64 0, .int .i64 0, .bool false] 24 (0, 0))) := ⟨h3_⟩
      have n4_ : Aside0 (w69.heap[gb127]? = some (.cells #[.int .i64 0, .int .i64 0, .int .i64 0, .bool false] 24 (0, 0))) := ⟨h4_⟩
      have n5_ : Aside0 (w.heap.size ≤ gb126) := ⟨h5_⟩
      have n6_ : Aside0 (w.heap.size ≤ gb126) := ⟨h6_⟩
      have n7_ : Aside0 (gb122 ≠ gb126) := ⟨h7_⟩
      have n8_ : Aside0 (gb126 ≠ gb122) := ⟨h8_⟩
      have n9_ : Aside0 (gb123 ≠ gb126) := ⟨h9_⟩
      have n10_ : Aside0 (gb126 ≠ gb123) := ⟨h10_⟩
      have n11_ : Aside0 (gb124 ≠ gb126) := ⟨h11_⟩
      have n12_ : Aside0 (gb126 ≠ gb124) := ⟨h12_⟩
      have n13_ : Aside0 (gb127 ≠ gb126) := ⟨h13_⟩
      have n14_ : Aside0 (gb126 ≠ gb127) := ⟨h14_⟩
      have n15_ : Aside0 (w.heap.size ≤ gb127) := ⟨h15_⟩
      have n16_ : Aside0 (w.heap.size ≤ gb127) := ⟨h16_⟩
      have n17_ : Aside0 (gb122 ≠ gb127) := ⟨h17_⟩
      have n18_ : Aside0 (gb127 ≠ gb122) := ⟨h18_⟩
      have n19_ : Aside0 (gb123 ≠ gb127) := ⟨h19_⟩
      have n20_ : Aside0 (gb127 ≠ gb123) := ⟨h20_⟩
      have n21_ : Aside0 (gb124 ≠ gb127) := ⟨h21_⟩
      have n22_ : Aside0 (gb127 ≠ gb124) := ⟨h22_⟩
      have n23_ : Aside0 (Below w.heap.size w w69) := ⟨h23_⟩
      clear BK122
      clear BK123
      clear BK124
      clear HB
      clear h0_ h1_ h2_ h3_ h4_ h5_ h6_ h7_ h8_ h9_ h10_ h11_ h12_ h13_ h14_ h15_ h16_ h17_ h18_ h19_ h20_ h21_ h22_ h23_
      have BK122 := n0_
      have BK123 := n1_
      have BK124 := n2_
      have BK126 := n3_
      have BK127 := n4_
      have GW126 := n5_
      have GE126 := n6_
      have NB122_126 := n7_
      have NB126_122 := n8_
      have NB123_126 := n9_
      have NB126_123 := n10_
      have NB124_126 := n11_
      have NB126_124 := n12_
      have NB127_126 := n13_
      have NB126_127 := n14_
      have GW127 := n15_
      have GE127 := n16_
      have NB122_127 := n17_
      have NB127_122 := n18_
      have NB123_127 := n19_
      have NB127_123 := n20_
      have NB124_127 := n21_
      have NB127_124 := n22_
      have HB := n23_
      clear n0_ n1_ n2_ n3_ n4_ n5_ n6_ n7_ n8_ n9_ n10_ n11_ n12_ n13_ n14_ n15_ n16_ n17_ n18_ n19_ n20_ n21_ n22_ n23_
      have hHeld : w69.cell? ⟨gb122, 0, none⟩ = some (.int .i64 a0_0) ∧ w69.cell? ⟨gb122, 1, none⟩ = some (.int .i64 a0_1) ∧ w69.cell? ⟨gb122, 2, none⟩ = some (.int .i64 a0_2) ∧ w69.cell? ⟨gb122, 3, none⟩ = some (.bool a0_3) := hS_
      refine norm_ (a' := ?_) ?_ ?_
      rotate_left
      ·
       simp only [putAll, Act.put, List.setIfInBounds_toArray, List.set_cons_zero, List.set_cons_succ]
       rfl
      refine one_ (i := 4) (N := none) #[true, true, true, true, true, false] rfl rfl (by kernel_rfl) (by decide) (fun K hK => ?_)
      have hs70 : w69.cell? ⟨gb126, 0, none⟩ = some (.int .i64 0) := (blk_cell BK126.out 0).trans rfl
      have hfs70 := blk_frozen BK126.out 0
      have hns70_0 := NB122_126.out
      have hns70_1 := NB123_126.out
      have hns70_2 := NB124_126.out
      have hns70_4 := NB127_126.out
      have hms70_0 := NB126_122.out
      have hms70_1 := NB126_123.out
      have hms70_2 := NB126_124.out
      have hms70_4 := NB126_127.out
      have hs71 : w69.cell? ⟨gb126, 1, none⟩ = some (.int .i64 0) := (blk_cell BK126.out 1).trans rfl
      have hfs71 := blk_frozen BK126.out 1
      have hns71_0 := NB122_126.out
      have hns71_1 := NB123_126.out
      have hns71_2 := NB124_126.out
      have hns71_4 := NB127_126.out
      have hms71_0 := NB126_122.out
      have hms71_1 := NB126_123.out
      have hms71_2 := NB126_124.out
      have hms71_4 := NB126_127.out
      have hs72 : w69.cell? ⟨gb126, 2, none⟩ = some (.int .i64 0) := (blk_cell BK126.out 2).trans rfl
      have hfs72 := blk_frozen BK126.out 2
      have hns72_0 := NB122_126.out
      have hns72_1 := NB123_126.out
      have hns72_2 := NB124_126.out
      have hns72_4 := NB127_126.out
      have hms72_0 := NB126_122.out
      have hms72_1 := NB126_123.out
      have hms72_2 := NB126_124.out
      have hms72_4 := NB126_127.out
      have hs73 : w69.cell? ⟨gb126, 3, none⟩ = some (.bool false) := (blk_cell BK126.out 3).trans rfl
      have hfs73 := blk_frozen BK126.out 3
      have hns73_0 := NB122_126.out
      have hns73_1 := NB123_126.out
      have hns73_2 := NB124_126.out
      have hns73_4 := NB127_126.out
      have hms73_0 := NB126_122.out
      have hms73_1 := NB126_123.out
      have hms73_2 := NB126_124.out
      have hms73_4 := NB126_127.out
      refine skip_ (w1 := ?_) (by rfl) rfl ?_ ?_
      rotate_left
      ·
       go_simp
       rfl
      refine hK.out _ _ ⟨((cell_far (p := ⟨gb126, _, none⟩) NB122_126.out _).trans (((cell_far (p := ⟨gb126, _, none⟩) NB122_126.out _).trans (((cell_far (p := ⟨gb126, _, none⟩) NB122_126.out _).trans (((cell_far (p := ⟨gb126, _, none⟩) NB122_126.out _).trans (hHeld.1)))))))), ((cell_far (p := ⟨gb126, _, none⟩) NB122_126.out _).trans (((cell_far (p := ⟨gb126, _, none⟩) NB122_126.out _).trans (((cell_far (p := ⟨gb126, _, none⟩) NB122_126.out _).trans (((cell_far (p := ⟨gb126, _, none⟩) NB122_126.out _).trans (hHeld.2.1)))))))), ((cell_far (p := ⟨gb126, _, none⟩) NB122_126.out _).trans (((cell_far (p := ⟨gb126, _, none⟩) NB122_126.out _).trans (((cell_far (p := ⟨gb126, _, none⟩) NB122_126.out _).trans (((cell_far (p := ⟨gb126, _, none⟩) NB122_126.out _).trans (hHeld.2.2.1)))))))), ((cell_far (p := ⟨gb126, _, none⟩) NB122_126.out _).trans (((cell_far (p := ⟨gb126, _, none⟩) NB122_126.out _).trans (((cell_far (p := ⟨gb126, _, none⟩) NB122_126.out _).trans (((cell_far (p := ⟨gb126, _, none⟩) NB122_126.out _).trans (hHeld.2.2.2))))))))⟩ (fun hHeld => ?_)
      clear hK K
      refine one_ (i := 5) (N := none) #[true, true, true, true, true, true] rfl rfl (by kernel_rfl) (by decide) (fun K hK => ?_)
      have hs74 : w69.cell? ⟨gb127, 0, none⟩ = some (.int .i64 0) := (blk_cell BK127.out 0).trans rfl
      have hfs74 := blk_frozen BK127.out 0
      have hns74_0 := NB122_127.out
      have hns74_1 := NB123_127.out
      have hns74_2 := NB124_127.out
      have hns74_3 := NB126_127.out
      have hms74_0 := NB127_122.out
      have hms74_1 := NB127_123.out
      have hms74_2 := NB127_124.out
      have hms74_3 := NB127_126.out
      have hs75 : w69.cell? ⟨gb127, 1, none⟩ = some (.int .i64 0) := (blk_cell BK127.out 1).trans rfl
      have hfs75 := blk_frozen BK127.out 1
      have hns75_0 := NB122_127.out
      have hns75_1 := NB123_127.out
      have hns75_2 := NB124_127.out
      have hns75_3 := NB126_127.out
      have hms75_0 := NB127_122.out
      have hms75_1 := NB127_123.out
      have hms75_2 := NB127_124.out
      have hms75_3 := NB127_126.out
      have hs76 : w69.cell? ⟨gb127, 2, none⟩ = some (.int .i64 0) := (blk_cell BK127.out 2).trans rfl
      have hfs76 := blk_frozen BK127.out 2
      have hns76_0 := NB122_127.out
      have hns76_1 := NB123_127.out
      have hns76_2 := NB124_127.out
      have hns76_3 := NB126_127.out
      have hms76_0 := NB127_122.out
      have hms76_1 := NB127_123.out
      have hms76_2 := NB127_124.out
      have hms76_3 := NB127_126.out
      have hs77 : w69.cell? ⟨gb127, 3, none⟩ = some (.bool false) := (blk_cell BK127.out 3).trans rfl
      have hfs77 := blk_frozen BK127.out 3
      have hns77_0 := NB122_127.out
      have hns77_1 := NB123_127.out
      have hns77_2 := NB124_127.out
      have hns77_3 := NB126_127.out
      have hms77_0 := NB127_122.out
      have hms77_1 := NB127_123.out
      have hms77_2 := NB127_124.out
      have hms77_3 := NB127_126.out
      refine skip_ (w1 := ?_) (by rfl) rfl ?_ ?_
      rotate_left
      ·
       go_simp
       rfl
      refine hK.out _ _ ⟨((cell_far (p := ⟨gb127, _, none⟩) NB122_127.out _).trans (((cell_far (p := ⟨gb127, _, none⟩) NB122_127.out _).trans (((cell_far (p := ⟨gb127, _, none⟩) NB122_127.out _).trans (((cell_far (p := ⟨gb127, _, none⟩) NB122_127.out _).trans (hHeld.1)))))))), ((cell_far (p := ⟨gb127, _, none⟩) NB122_127.out _).trans (((cell_far (p := ⟨gb127, _, none⟩) NB122_127.out _).trans (((cell_far (p := ⟨gb127, _, none⟩) NB122_127.out _).trans (((cell_far (p := ⟨gb127, _, none⟩) NB122_127.out _).trans (hHeld.2.1)))))))), ((cell_far (p := ⟨gb127, _, none⟩) NB122_127.out _).trans (((cell_far (p := ⟨gb127, _, none⟩) NB122_127.out _).trans (((cell_far (p := ⟨gb127, _, none⟩) NB122_127.out _).trans (((cell_far (p := ⟨gb127, _, none⟩) NB122_127.out _).trans (hHeld.2.2.1)))))))), ((cell_far (p := ⟨gb127, _, none⟩) NB122_127.out _).trans (((cell_far (p := ⟨gb127, _, none⟩) NB122_127.out _).trans (((cell_far (p := ⟨gb127, _, none⟩) NB122_127.out _).trans (((cell_far (p := ⟨gb127, _, none⟩) NB122_127.out _).trans (hHeld.2.2.2))))))))⟩ (fun hHeld => ?_)
      clear hK K
      refine done_ (by kernel_rfl) ?_
      have hnb78 := NB122_123.out
      have hnc78 := NB123_122.out
      have hnb79 := NB122_124.out
      have hnc79 := NB124_122.out
      have hnb80 := NB122_126.out
      have hnc80 := NB126_122.out
      have hnb81 := NB122_127.out
      have hnc81 := NB127_122.out
      obtain ⟨hcz82_0, hcz82_1, hcz82_2, hcz82_3, hfz82_0, hfz82_1, hfz82_2, hfz82_3⟩ := blkc4 BK122.out
      have hnb83 := NB126_123.out
      have hnc83 := NB123_126.out
      have hnb84 := NB126_124.out
      have hnc84 := NB124_126.out
      have hnb85 := NB126_127.out
      have hnc85 := NB127_126.out
      obtain ⟨hcz86_0, hcz86_1, hcz86_2, hcz86_3, hfz86_0, hfz86_1, hfz86_2, hfz86_3⟩ := blkc4 BK126.out
      have hnb87 := NB127_123.out
      have hnc87 := NB123_127.out
      have hnb88 := NB127_124.out
      have hnc88 := NB124_127.out
      obtain ⟨hcz89_0, hcz89_1, hcz89_2, hcz89_3, hfz89_0, hfz89_1, hfz89_2, hfz89_3⟩ := blkc4 BK127.out
      try go_wp2
      have n0_ : Aside0 (((((((((((w69.setCell ⟨gb126, 0, none⟩ (.int .i64 a0_0)).setCell ⟨gb126, 1, none⟩ (.int .i64 a0_1)).setCell ⟨gb126, 2, none⟩ (.int .i64 a0_2)).setCell ⟨gb126, 3, none⟩ (.bool a0_3)).setCell ⟨gb127, 0, none⟩ (.int .i64 a0_0)).setCell ⟨gb127, 1, none⟩ (.int .i64 a0_1)).setCell ⟨gb127, 2, none⟩ (.int .i64 a0_2)).setCell ⟨gb127, 3, none⟩ (.bool a0_3)).setCell ⟨gb126, 1, none⟩ (.int .i64 1)).setCell ⟨gb127, 1, none⟩ (.int .i64 12)).heap[gb122]? = some (.cells #[.int .i64 a0_0, .int .i64 a0_1, .int .i64 a0_2, .bool a0_3] 24 (0, 0))) := ⟨by (with_reducible repeat (first | refine blk_drewN ?_ _ | refine blk_drew ?_ | refine blk_alloc ?_ _)); refine blk_far ?_ NB122_127.out _; (with_reducible repeat (first | refine blk_drewN ?_ _ | refine blk_drew ?_ | refine blk_alloc ?_ _)); refine blk_far ?_ NB122_126.out _; (with_reducible repeat (first | refine blk_drewN ?_ _ | refine blk_drew ?_ | refine blk_alloc ?_ _)); refine blk_far ?_ NB122_127.out _; (with_reducible repeat (first | refine blk_drewN ?_ _ | refine blk_drew ?_ | refine blk_alloc ?_ _)); refine blk_far ?_ NB122_127.out _; (with_reducible repeat (first | refine blk_drewN ?_ _ | refine blk_drew ?_ | refine blk_alloc ?_ _)); refine blk_far ?_ NB122_127.out _; (with_reducible repeat (first | refine blk_drewN ?_ _ | refine blk_drew ?_ | refine blk_alloc ?_ _)); refine blk_far ?_ NB122_127.out _; (with_reducible repeat (first | refine blk_drewN ?_ _ | refine blk_drew ?_ | refine blk_alloc ?_ _)); refine blk_far ?_ NB122_126.out _; (with_reducible repeat (first | refine blk_drewN ?_ _ | refine blk_drew ?_ | refine blk_alloc ?_ _)); refine blk_far ?_ NB122_126.out _; (with_reducible repeat (first | refine blk_drewN ?_ _ | refine blk_drew ?_ | refine blk_alloc ?_ _)); refine blk_far ?_ NB122_126.out _; (with_reducible repeat (first | refine blk_drewN ?_ _ | refine blk_drew ?_ | refine blk_alloc ?_ _)); refine blk_far ?_ NB122_126.out _; (with_reducible repeat (first | refine blk_drewN ?_ _ | refine blk_drew ?_ | refine blk_alloc ?_ _)); exact BK122.out⟩
      have n1_ : Aside0 (((((((((((w69.setCell ⟨gb126, 0, none⟩ (.int .i64 a0_0)).setCell ⟨gb126, 1, none⟩ (.int .i64 a0_1)).setCell ⟨gb126, 2, none⟩ (.int .i64 a0_2)).setCell ⟨gb126, 3, none⟩ (.bool a0_3)).setCell ⟨gb127, 0, none⟩ (.int .i64 a0_0)).setCell ⟨gb127, 1, none⟩ (.int .i64 a0_1)).setCell ⟨gb127, 2, none⟩ (.int .i64 a0_2)).setCell ⟨gb127, 3, none⟩ (.bool a0_3)).setCell ⟨gb126, 1, none⟩ (.int .i64 1)).setCell ⟨gb127, 1, none⟩ (.int .i64 12)).heap[gb123]? = some (.cells #[.int .i64 0, .int .i64 0, .int .i64 0, .bool false] 24 (0, 0))) := ⟨by (with_reducible repeat (first | refine blk_drewN ?_ _ | refine blk_drew ?_ | refine blk_alloc ?_ _)); refine blk_far ?_ NB123_127.out _; (with_reducible repeat (first | refine blk_drewN ?_ _ | refine blk_drew ?_ | refine blk_alloc ?_ _)); refine blk_far ?_ NB123_126.out _; (with_reducible repeat (first | refine blk_drewN ?_ _ | refine blk_drew ?_ | refine blk_alloc ?_ _)); refine blk_far ?_ NB123_127.out _; (with_reducible repeat (first | refine blk_drewN ?_ _ | refine blk_drew ?_ | refine blk_alloc ?_ _)); refine blk_far ?_ NB123_127.out _; (with_reducible repeat (first | refine blk_drewN ?_ _ | refine blk_drew ?_ | refine blk_alloc ?_ _)); refine blk_far ?_ NB123_127.out _; (with_reducible repeat (first | refine blk_drewN ?_ _ | refine blk_drew ?_ | refine blk_alloc ?_ _)); refine blk_far ?_ NB123_127.out _; (with_reducible repeat (first | refine blk_drewN ?_ _ | refine blk_drew ?_ | refine blk_alloc ?_ _)); refine blk_far ?_ NB123_126.out _; (with_reducible repeat (first | refine blk_drewN ?_ _ | refine blk_drew ?_ | refine blk_alloc ?_ _)); refine blk_far ?_ NB123_126.out _; (with_reducible repeat (first | refine blk_drewN ?_ _ | refine blk_drew ?_ | refine blk_alloc ?_ _)); refine blk_far ?_ NB123_126.out _; (with_reducible repeat (first | refine blk_drewN ?_ _ | refine blk_drew ?_ | refine blk_alloc ?_ _)); refine blk_far ?_ NB123_126.out _; (with_reducible repeat (first | refine blk_drewN ?_ _ | refine blk_drew ?_ | refine blk_alloc ?_ _)); exact BK123.out⟩
      have n2_ : Aside0 (((((((((((w69.setCell ⟨gb126, 0, none⟩ (.int .i64 a0_0)).setCell ⟨gb126, 1, none⟩ (.int .i64 a0_1)).setCell ⟨gb126, 2, none⟩ (.int .i64 a0_2)).setCell ⟨gb126, 3, none⟩ (.bool a0_3)).setCell ⟨gb127, 0, none⟩ (.int .i64 a0_0)).setCell ⟨gb127, 1, none⟩ (.int .i64 a0_1)).setCell ⟨gb127, 2, none⟩ (.int .i64 a0_2)).setCell ⟨gb127, 3, none⟩ (.bool a0_3)).setCell ⟨gb126, 1, none⟩ (.int .i64 1)).setCell ⟨gb127, 1, none⟩ (.int .i64 12)).heap[gb124]? = some (.cells #[.int .i64 0, .int .i64 0, .int .i64 0, .bool false] 24 (0, 0))) := ⟨by (with_reducible repeat (first | refine blk_drewN ?_ _ | refine blk_drew ?_ | refine blk_alloc ?_ _)); refine blk_far ?_ NB124_127.out _; (with_reducible repeat (first | refine blk_drewN ?_ _ | refine blk_drew ?_ | refine blk_alloc ?_ _)); refine blk_far ?_ NB124_126.out _; (with_reducible repeat (first | refine blk_drewN ?_ _ | refine blk_drew ?_ | refine blk_alloc ?_ _)); refine blk_far ?_ NB124_127.out _; (with_reducible repeat (first | refine blk_drewN ?_ _ | refine blk_drew ?_ | refine blk_alloc ?_ _)); refine blk_far ?_ NB124_127.out _; (with_reducible repeat (first | refine blk_drewN ?_ _ | refine blk_drew ?_ | refine blk_alloc ?_ _)); refine blk_far ?_ NB124_127.out _; (with_reducible repeat (first | refine blk_drewN ?_ _ | refine blk_drew ?_ | refine blk_alloc ?_ _)); refine blk_far ?_ NB124_127.out _; (with_reducible repeat (first | refine blk_drewN ?_ _ | refine blk_drew ?_ | refine blk_alloc ?_ _)); refine blk_far ?_ NB124_126.out _; (with_reducible repeat (first | refine blk_drewN ?_ _ | refine blk_drew ?_ | refine blk_alloc ?_ _)); refine blk_far ?_ NB124_126.out _; (with_reducible repeat (first | refine blk_drewN ?_ _ | refine blk_drew ?_ | refine blk_alloc ?_ _)); refine blk_far ?_ NB124_126.out _; (with_reducible repeat (first | refine blk_drewN ?_ _ | refine blk_drew ?_ | refine blk_alloc ?_ _)); refine blk_far ?_ NB124_126.out _; (with_reducible repeat (first | refine blk_drewN ?_ _ | refine blk_drew ?_ | refine blk_alloc ?_ _)); exact BK124.out⟩
      have n3_ : Aside0 (((((((((((w69.setCell ⟨gb126, 0, none⟩ (.int .i64 a0_0)).setCell ⟨gb126, 1, none⟩ (.int .i64 a0_1)).setCell ⟨gb126, 2, none⟩ (.int .i64 a0_2)).setCell ⟨gb126, 3, none⟩ (.bool a0_3)).setCell ⟨gb127, 0, none⟩ (.int .i64 a0_0)).setCell ⟨gb127, 1, none⟩ (.int .i64 a0_1)).setCell ⟨gb127, 2, none⟩ (.int .i64 a0_2)).setCell ⟨gb127, 3, none⟩ (.bool a0_3)).setCell ⟨gb126, 1, none⟩ (.int .i64 1)).setCell ⟨gb127, 1, none⟩ (.int .i64 12)).heap[gb126]? = some (.cells #[.int .i64 a0_0, .int .i64 1, .int .i64 a0_2, .bool a0_3] 24 (0, 0))) := ⟨by (with_reducible repeat (first | refine blk_drewN ?_ _ | refine blk_drew ?_ | refine blk_alloc ?_ _)); refine blk_far ?_ NB126_127.out _; (with_reducible repeat (first | refine blk_drewN ?_ _ | refine blk_drew ?_ | refine blk_alloc ?_ _)); refine blk_put (cs := #[.int .i64 a0_0, .int .i64 a0_1, .int .i64 a0_2, .bool a0_3]) ?_ 1 _ rfl; (with_reducible repeat (first | refine blk_drewN ?_ _ | refine blk_drew ?_ | refine blk_alloc ?_ _)); refine blk_far ?_ NB126_127.out _; (with_reducible repeat (first | refine blk_drewN ?_ _ | refine blk_drew ?_ | refine blk_alloc ?_ _)); refine blk_far ?_ NB126_127.out _; (with_reducible repeat (first | refine blk_drewN ?_ _ | refine blk_drew ?_ | refine blk_alloc ?_ _)); refine blk_far ?_ NB126_127.out _; (with_reducible repeat (first | refine blk_drewN ?_ _ | refine blk_drew ?_ | refine blk_alloc ?_ _)); refine blk_far ?_ NB126_127.out _; (with_reducible repeat (first | refine blk_drewN ?_ _ | refine blk_drew ?_ | refine blk_alloc ?_ _)); refine blk_put (cs := #[.int .i64 a0_0, .int .i64 a0_1, .int .i64 a0_2, .bool false]) ?_ 3 _ rfl; (with_reducible repeat (first | refine blk_drewN ?_ _ | refine blk_drew ?_ | refine blk_alloc ?_ _)); refine blk_put (cs := #[.int .i64 a0_0, .int .i64 a0_1, .int .i64 0, .bool false]) ?_ 2 _ rfl; (with_reducible repeat (first | refine blk_drewN ?_ _ | refine blk_drew ?_ | refine blk_alloc ?_ _)); refine blk_put (cs := #[.int .i64 a0_0, .int .i64 0, .int .i64 0, .bool false]) ?_ 1 _ rfl; (with_reducible repeat (first | refine blk_drewN ?_ _ | refine blk_drew ?_ | refine blk_alloc ?_ _)); refine blk_put (cs := #[.int .i64 0, .int .i64 0, .int .i64 0, .bool false]) ?_ 0 _ rfl; (with_reducible repeat (first | refine blk_drewN ?_ _ | refine blk_drew ?_ | refine blk_alloc ?_ _)); exact BK126.out⟩
      have n4_ : Aside0 (((((((((((w69.setCell ⟨gb126, 0, none⟩ (.int .i64 a0_0)).setCell ⟨gb126, 1, none⟩ (.int .i64 a0_1)).setCell ⟨gb126, 2, none⟩ (.int .i64 a0_2)).setCell ⟨gb126, 3, none⟩ (.bool a0_3)).setCell ⟨gb127, 0, none⟩ (.int .i64 a0_0)).setCell ⟨gb127, 1, none⟩ (.int .i64 a0_1)).setCell ⟨gb127, 2, none⟩ (.int .i64 a0_2)).setCell ⟨gb127, 3, none⟩ (.bool a0_3)).setCell ⟨gb126, 1, none⟩ (.int .i64 1)).setCell ⟨gb127, 1, none⟩ (.int .i64 12)).heap[gb127]? = some (.cells #[.int .i64 a0_0, .int .i64 12, .int .i64 a0_2, .bool a0_3] 24 (0, 0))) := ⟨by (with_reducible repeat (first | refine blk_drewN ?_ _ | refine blk_drew ?_ | refine blk_alloc ?_ _)); refine blk_put (cs := #[.int .i64 a0_0, .int .i64 a0_1, .int .i64 a0_2, .bool a0_3]) ?_ 1 _ rfl; (with_reducible repeat (first | refine blk_drewN ?_ _ | refine blk_drew ?_ | refine blk_alloc ?_ _)); refine blk_far ?_ NB127_126.out _; (with_reducible repeat (first | refine blk_drewN ?_ _ | refine blk_drew ?_ | refine blk_alloc ?_ _)); refine blk_put (cs := #[.int .i64 a0_0, .int .i64 a0_1, .int .i64 a0_2, .bool false]) ?_ 3 _ rfl; (with_reducible repeat (first | refine blk_drewN ?_ _ | refine blk_drew ?_ | refine blk_alloc ?_ _)); refine blk_put (cs := #[.int .i64 a0_0, .int .i64 a0_1, .int .i64 0, .bool false]) ?_ 2 _ rfl; (with_reducible repeat (first | refine blk_drewN ?_ _ | refine blk_drew ?_ | refine blk_alloc ?_ _)); refine blk_put (cs := #[.int .i64 a0_0, .int .i64 0, .int .i64 0, .bool false]) ?_ 1 _ rfl; (with_reducible repeat (first | refine blk_drewN ?_ _ | refine blk_drew ?_ | refine blk_alloc ?_ _)); refine blk_put (cs := #[.int .i64 0, .int .i64 0, .int .i64 0, .bool false]) ?_ 0 _ rfl; (with_reducible repeat (first | refine blk_drewN ?_ _ | refine blk_drew ?_ | refine blk_alloc ?_ _)); refine blk_far ?_ NB127_126.out _; (with_reducible repeat (first | refine blk_drewN ?_ _ | refine blk_drew ?_ | refine blk_alloc ?_ _)); refine blk_far ?_ NB127_126.out _; (with_reducible repeat (first | refine blk_drewN ?_ _ | refine blk_drew ?_ | refine blk_alloc ?_ _)); refine blk_far ?_ NB127_126.out _; (with_reducible repeat (first | refine blk_drewN ?_ _ | refine blk_drew ?_ | refine blk_alloc ?_ _)); refine blk_far ?_ NB127_126.out _; (with_reducible repeat (first | refine blk_drewN ?_ _ | refine blk_drew ?_ | refine blk_alloc ?_ _)); exact BK127.out⟩
      have n5_ : Aside0 (Below w.heap.size w ((((((((((w69.setCell ⟨gb126, 0, none⟩ (.int .i64 a0_0)).setCell ⟨gb126, 1, none⟩ (.int .i64 a0_1)).setCell ⟨gb126, 2, none⟩ (.int .i64 a0_2)).setCell ⟨gb126, 3, none⟩ (.bool a0_3)).setCell ⟨gb127, 0, none⟩ (.int .i64 a0_0)).setCell ⟨gb127, 1, none⟩ (.int .i64 a0_1)).setCell ⟨gb127, 2, none⟩ (.int .i64 a0_2)).setCell ⟨gb127, 3, none⟩ (.bool a0_3)).setCell ⟨gb126, 1, none⟩ (.int .i64 1)).setCell ⟨gb127, 1, none⟩ (.int .i64 12))) := ⟨by repeat (first | (with_reducible first | exact HB.out | apply below_alloc | apply pw_below_drewN | apply below_drew1 | refine below_set ?_ GE122.out | refine below_set ?_ GE123.out | refine below_set ?_ GE124.out | refine below_set ?_ GE126.out | refine below_set ?_ GE127.out) | exact HB.out)⟩
      (try clear BK122)
      (try clear BK123)
      (try clear BK124)
      (try clear BK126)
      (try clear BK127)
      (try clear HB)
      generalize ((((((((((w69.setCell ⟨gb126, 0, none⟩ (.int .i64 a0_0)).setCell ⟨gb126, 1, none⟩ (.int .i64 a0_1)).setCell ⟨gb126, 2, none⟩ (.int .i64 a0_2)).setCell ⟨gb126, 3, none⟩ (.bool a0_3)).setCell ⟨gb127, 0, none⟩ (.int .i64 a0_0)).setCell ⟨gb127, 1, none⟩ (.int .i64 a0_1)).setCell ⟨gb127, 2, none⟩ (.int .i64 a0_2)).setCell ⟨gb127, 3, none⟩ (.bool a0_3)).setCell ⟨gb126, 1, none⟩ (.int .i64 1)).setCell ⟨gb127, 1, none⟩ (.int .i64 12)) = w90 at n0_ n1_ n2_ n3_ n4_ n5_ ⊢
      have BK122 := n0_
      have BK123 := n1_
      have BK124 := n2_
      have BK126 := n3_
      have BK127 := n4_
      have HB := n5_
      clear n0_ n1_ n2_ n3_ n4_ n5_
      replace BK122 := Aside0.mk (blk_drew BK122.out)
      replace BK123 := Aside0.mk (blk_drew BK123.out)
      replace BK124 := Aside0.mk (blk_drew BK124.out)
      replace BK126 := Aside0.mk (blk_drew BK126.out)
      replace BK127 := Aside0.mk (blk_drew BK127.out)
      replace HB := Aside0.mk (below_drew1 HB.out)
      refine start_ (n := 5) (S := fun w' => w'.cell? ⟨gb126, 0, none⟩ = some (.int .i64 a0_0) ∧ w'.cell? ⟨gb126, 1, none⟩ = some (.int .i64 1) ∧ w'.cell? ⟨gb126, 2, none⟩ = some (.int .i64 a0_2) ∧ w'.cell? ⟨gb126, 3, none⟩ = some (.bool a0_3) ∧ w'.cell? ⟨gb127, 0, none⟩ = some (.int .i64 a0_0) ∧ w'.cell? ⟨gb127, 1, none⟩ = some (.int .i64 12) ∧ w'.cell? ⟨gb127, 2, none⟩ = some (.int .i64 a0_2) ∧ w'.cell? ⟨gb127, 3, none⟩ = some (.bool a0_3)) (ds := []) #[false, false, false, false, false] (by kernel_rfl) rfl rfl ⟨(blk_cell BK126.out 0).trans rfl, (blk_cell BK126.out 1).trans rfl, (blk_cell BK126.out 2).trans rfl, (blk_cell BK126.out 3).trans rfl, (blk_cell BK127.out 0).trans rfl, (blk_cell BK127.out 1).trans rfl, (blk_cell BK127.out 2).trans rfl, (blk_cell BK127.out 3).trans rfl⟩ (fun hHeld => ?_)
      generalize w90.drew = w91 at BK122 BK123 BK124 BK126 BK127 HB hHeld ⊢
      refine take_ (i := 0) (N := some 38) (v := ?_) (a' := ?_) #[true, false, false, false, false] rfl rfl (by kernel_rfl) (fun _ _ _ h => h) (Or.inl ⟨by rfl, ?_⟩) hHeld ?_ ?_
      rotate_left
      ·
       rintro w' ⟨s0, s1, s2, s3, s4, s5, s6, s7⟩
       go_simp
       with_reducible rfl
      rotate_left
      ·
       simp only [Act.put, List.setIfInBounds_toArray, List.set_cons_zero, List.set_cons_succ, i64_w, i32_w]
       rfl
      refine take_ (i := 1) (N := some 39) (v := ?_) (a' := ?_) #[true, true, false, false, false] rfl rfl (by kernel_rfl) (fun _ _ _ h => h) (Or.inl ⟨by rfl, ?_⟩) hHeld ?_ ?_
      rotate_left
      ·
       rintro w' ⟨s0, s1, s2, s3, s4, s5, s6, s7⟩
       go_simp
       with_reducible rfl
      rotate_left
      ·
       simp only [Act.put, List.setIfInBounds_toArray, List.set_cons_zero, List.set_cons_succ, i64_w, i32_w]
       rfl
      refine one_ (i := 2) (N := none) #[true, true, true, false, false] rfl rfl (by kernel_rfl) (by decide) (fun K hK => ?_)
      have hs92 : w91.cell? ⟨gb123, 0, none⟩ = some (.int .i64 0) := (blk_cell BK123.out 0).trans rfl
      have hfs92 := blk_frozen BK123.out 0
      have hns92_0 := NB122_123.out
      have hns92_2 := NB124_123.out
      have hns92_3 := NB126_123.out
      have hns92_4 := NB127_123.out
      have hms92_0 := NB123_122.out
      have hms92_2 := NB123_124.out
      have hms92_3 := NB123_126.out
      have hms92_4 := NB123_127.out
      have hs93 : w91.cell? ⟨gb123, 1, none⟩ = some (.int .i64 0) := (blk_cell BK123.out 1).trans rfl
      have hfs93 := blk_frozen BK123.out 1
      have hns93_0 := NB122_123.out
      have hns93_2 := NB124_123.out
      have hns93_3 := NB126_123.out
      have hns93_4 := NB127_123.out
      have hms93_0 := NB123_122.out
      have hms93_2 := NB123_124.out
      have hms93_3 := NB123_126.out
      have hms93_4 := NB123_127.out
      have hs94 : w91.cell? ⟨gb123, 2, none⟩ = some (.int .i64 0) := (blk_cell BK123.out 2).trans rfl
      have hfs94 := blk_frozen BK123.out 2
      have hns94_0 := NB122_123.out
      have hns94_2 := NB124_123.out
      have hns94_3 := NB126_123.out
      have hns94_4 := NB127_123.out
      have hms94_0 := NB123_122.out
      have hms94_2 := NB123_124.out
      have hms94_3 := NB123_126.out
      have hms94_4 := NB123_127.out
      have hs95 : w91.cell? ⟨gb123, 3, none⟩ = some (.bool false) := (blk_cell BK123.out 3).trans rfl
      have hfs95 := blk_frozen BK123.out 3
      have hns95_0 := NB122_123.out
      have hns95_2 := NB124_123.out
      have hns95_3 := NB126_123.out
      have hns95_4 := NB127_123.out
      have hms95_0 := NB123_122.out
      have hms95_2 := NB123_124.out
      have hms95_3 := NB123_126.out
      have hms95_4 := NB123_127.out
      refine skip_ (w1 := ?_) (by rfl) rfl ?_ ?_
      rotate_left
      ·
       go_simp
       rfl
      refine hK.out _ _ ⟨((cell_far (p := ⟨gb123, _, none⟩) NB126_123.out _).trans (((cell_far (p := ⟨gb123, _, none⟩) NB126_123.out _).trans (((cell_far (p := ⟨gb123, _, none⟩) NB126_123.out _).trans (((cell_far (p := ⟨gb123, _, none⟩) NB126_123.out _).trans (hHeld.1)))))))), ((cell_far (p := ⟨gb123, _, none⟩) NB126_123.out _).trans (((cell_far (p := ⟨gb123, _, none⟩) NB126_123.out _).trans (((cell_far (p := ⟨gb123, _, none⟩) NB126_123.out _).trans (((cell_far (p := ⟨gb123, _, none⟩) NB126_123.out _).trans (hHeld.2.1)))))))), ((cell_far (p := ⟨gb123, _, none⟩) NB126_123.out _).trans (((cell_far (p := ⟨gb123, _, none⟩) NB126_123.out _).trans (((cell_far (p := ⟨gb123, _, none⟩) NB126_123.out _).trans (((cell_far (p := ⟨gb123, _, none⟩) NB126_123.out _).trans (hHeld.2.2.1)))))))), ((cell_far (p := ⟨gb123, _, none⟩) NB126_123.out _).trans (((cell_far (p := ⟨gb123, _, none⟩) NB126_123.out _).trans (((cell_far (p := ⟨gb123, _, none⟩) NB126_123.out _).trans (((cell_far (p := ⟨gb123, _, none⟩) NB126_123.out _).trans (hHeld.2.2.2.1)))))))), ((cell_far (p := ⟨gb123, _, none⟩) NB127_123.out _).trans (((cell_far (p := ⟨gb123, _, none⟩) NB127_123.out _).trans (((cell_far (p := ⟨gb123, _, none⟩) NB127_123.out _).trans (((cell_far (p := ⟨gb123, _, none⟩) NB127_123.out _).trans (hHeld.2.2.2.2.1)))))))), ((cell_far (p := ⟨gb123, _, none⟩) NB127_123.out _).trans (((cell_far (p := ⟨gb123, _, none⟩) NB127_123.out _).trans (((cell_far (p := ⟨gb123, _, none⟩) NB127_123.out _).trans (((cell_far (p := ⟨gb123, _, none⟩) NB127_123.out _).trans (hHeld.2.2.2.2.2.1)))))))), ((cell_far (p := ⟨gb123, _, none⟩) NB127_123.out _).trans (((cell_far (p := ⟨gb123, _, none⟩) NB127_123.out _).trans (((cell_far (p := ⟨gb123, _, none⟩) NB127_123.out _).trans (((cell_far (p := ⟨gb123, _, none⟩) NB127_123.out _).trans (hHeld.2.2.2.2.2.2.1)))))))), ((cell_far (p := ⟨gb123, _, none⟩) NB127_123.out _).trans (((cell_far (p := ⟨gb123, _, none⟩) NB127_123.out _).trans (((cell_far (p := ⟨gb123, _, none⟩) NB127_123.out _).trans (((cell_far (p := ⟨gb123, _, none⟩) NB127_123.out _).trans (hHeld.2.2.2.2.2.2.2))))))))⟩ (fun hHeld => ?_)
      clear hK K
      refine one_ (i := 3) (N := none) #[true, true, true, true, false] rfl rfl (by kernel_rfl) (by decide) (fun K hK => ?_)
      have hs96 : w91.cell? ⟨gb124, 0, none⟩ = some (.int .i64 0) := (blk_cell BK124.out 0).trans rfl
      have hfs96 := blk_frozen BK124.out 0
      have hns96_0 := NB122_124.out
      have hns96_1 := NB123_124.out
      have hns96_3 := NB126_124.out
      have hns96_4 := NB127_124.out
      have hms96_0 := NB124_122.out
      have hms96_1 := NB124_123.out
      have hms96_3 := NB124_126.out
      have hms96_4 := NB124_127.out
      have hs97 : w91.cell? ⟨gb124, 1, none⟩ = some (.int .i64 0) := (blk_cell BK124.out 1).trans rfl
      have hfs97 := blk_frozen BK124.out 1
      have hns97_0 := NB122_124.out
      have hns97_1 := NB123_124.out
      have hns97_3 := NB126_124.out
      have hns97_4 := NB127_124.out
      have hms97_0 := NB124_122.out
      have hms97_1 := NB124_123.out
      have hms97_3 := NB124_126.out
      have hms97_4 := NB124_127.out
      have hs98 : w91.cell? ⟨gb124, 2, none⟩ = some (.int .i64 0) := (blk_cell BK124.out 2).trans rfl
      have hfs98 := blk_frozen BK124.out 2
      have hns98_0 := NB122_124.out
      have hns98_1 := NB123_124.out
      have hns98_3 := NB126_124.out
      have hns98_4 := NB127_124.out
      have hms98_0 := NB124_122.out
      have hms98_1 := NB124_123.out
      have hms98_3 := NB124_126.out
      have hms98_4 := NB124_127.out
      have hs99 : w91.cell? ⟨gb124, 3, none⟩ = some (.bool false) := (blk_cell BK124.out 3).trans rfl
      have hfs99 := blk_frozen BK124.out 3
      have hns99_0 := NB122_124.out
      have hns99_1 := NB123_124.out
      have hns99_3 := NB126_124.out
      have hns99_4 := NB127_124.out
      have hms99_0 := NB124_122.out
      have hms99_1 := NB124_123.out
      have hms99_3 := NB124_126.out
      have hms99_4 := NB124_127.out
      refine skip_ (w1 := ?_) (by rfl) rfl ?_ ?_
      rotate_left
      ·
       go_simp
       rfl
      refine hK.out _ _ ⟨((cell_far (p := ⟨gb124, _, none⟩) NB126_124.out _).trans (((cell_far (p := ⟨gb124, _, none⟩) NB126_124.out _).trans (((cell_far (p := ⟨gb124, _, none⟩) NB126_124.out _).trans (((cell_far (p := ⟨gb124, _, none⟩) NB126_124.out _).trans (hHeld.1)))))))), ((cell_far (p := ⟨gb124, _, none⟩) NB126_124.out _).trans (((cell_far (p := ⟨gb124, _, none⟩) NB126_124.out _).trans (((cell_far (p := ⟨gb124, _, none⟩) NB126_124.out _).trans (((cell_far (p := ⟨gb124, _, none⟩) NB126_124.out _).trans (hHeld.2.1)))))))), ((cell_far (p := ⟨gb124, _, none⟩) NB126_124.out _).trans (((cell_far (p := ⟨gb124, _, none⟩) NB126_124.out _).trans (((cell_far (p := ⟨gb124, _, none⟩) NB126_124.out _).trans (((cell_far (p := ⟨gb124, _, none⟩) NB126_124.out _).trans (hHeld.2.2.1)))))))), ((cell_far (p := ⟨gb124, _, none⟩) NB126_124.out _).trans (((cell_far (p := ⟨gb124, _, none⟩) NB126_124.out _).trans (((cell_far (p := ⟨gb124, _, none⟩) NB126_124.out _).trans (((cell_far (p := ⟨gb124, _, none⟩) NB126_124.out _).trans (hHeld.2.2.2.1)))))))), ((cell_far (p := ⟨gb124, _, none⟩) NB127_124.out _).trans (((cell_far (p := ⟨gb124, _, none⟩) NB127_124.out _).trans (((cell_far (p := ⟨gb124, _, none⟩) NB127_124.out _).trans (((cell_far (p := ⟨gb124, _, none⟩) NB127_124.out _).trans (hHeld.2.2.2.2.1)))))))), ((cell_far (p := ⟨gb124, _, none⟩) NB127_124.out _).trans (((cell_far (p := ⟨gb124, _, none⟩) NB127_124.out _).trans (((cell_far (p := ⟨gb124, _, none⟩) NB127_124.out _).trans (((cell_far (p := ⟨gb124, _, none⟩) NB127_124.out _).trans (hHeld.2.2.2.2.2.1)))))))), ((cell_far (p := ⟨gb124, _, none⟩) NB127_124.out _).trans (((cell_far (p := ⟨gb124, _, none⟩) NB127_124.out _).trans (((cell_far (p := ⟨gb124, _, none⟩) NB127_124.out _).trans (((cell_far (p := ⟨gb124, _, none⟩) NB127_124.out _).trans (hHeld.2.2.2.2.2.2.1)))))))), ((cell_far (p := ⟨gb124, _, none⟩) NB127_124.out _).trans (((cell_far (p := ⟨gb124, _, none⟩) NB127_124.out _).trans (((cell_far (p := ⟨gb124, _, none⟩) NB127_124.out _).trans (((cell_far (p := ⟨gb124, _, none⟩) NB127_124.out _).trans (hHeld.2.2.2.2.2.2.2))))))))⟩ (fun hHeld => ?_)
      clear hK K
      refine pure_ (i := 4) (N := some 4) (v := ?_) (a' := ?_) #[true, true, true, true, true] rfl rfl (by kernel_rfl) (fun _ _ _ h => h) (Or.inl ⟨by rfl, ?_⟩) ?_ ?_
      rotate_left
      ·
       intro w'
       go_simp
       with_reducible rfl
      rotate_left
      ·
       simp only [Act.put, List.setIfInBounds_toArray, List.set_cons_zero, List.set_cons_succ, i64_w, i32_w]
       rfl
      refine done_ (by kernel_rfl) ?_
      try go_wp2
      refine bodyPost_ret (results_list (rs := [.cell 2 24, .cell 3 24, .tmp 4]) rfl (by simp) (.cell gb123 24 #[.int .i64 a0_0, .int .i64 1, .int .i64 a0_2, .bool a0_3] (0, 0) _ rfl (by (with_reducible repeat (first | refine blk_drewN ?_ _ | refine blk_drew ?_ | refine blk_alloc ?_ _)); refine blk_far ?_ NB123_124.out _; (with_reducible repeat (first | refine blk_drewN ?_ _ | refine blk_drew ?_ | refine blk_alloc ?_ _)); refine blk_far ?_ NB123_124.out _; (with_reducible repeat (first | refine blk_drewN ?_ _ | refine blk_drew ?_ | refine blk_alloc ?_ _)); refine blk_far ?_ NB123_124.out _; (with_reducible repeat (first | refine blk_drewN ?_ _ | refine blk_drew ?_ | refine blk_alloc ?_ _)); refine blk_far ?_ NB123_124.out _; (with_reducible repeat (first | refine blk_drewN ?_ _ | refine blk_drew ?_ | refine blk_alloc ?_ _)); refine blk_put (cs := #[.int .i64 a0_0, .int .i64 1, .int .i64 a0_2, .bool false]) ?_ 3 _ rfl; (with_reducible repeat (first | refine blk_drewN ?_ _ | refine blk_drew ?_ | refine blk_alloc ?_ _)); refine blk_put (cs := #[.int .i64 a0_0, .int .i64 1, .int .i64 0, .bool false]) ?_ 2 _ rfl; (with_reducible repeat (first | refine blk_drewN ?_ _ | refine blk_drew ?_ | refine blk_alloc ?_ _)); refine blk_put (cs := #[.int .i64 a0_0, .int .i64 0, .int .i64 0, .bool false]) ?_ 1 _ rfl; (with_reducible repeat (first | refine blk_drewN ?_ _ | refine blk_drew ?_ | refine blk_alloc ?_ _)); refine blk_put (cs := #[.int .i64 0, .int .i64 0, .int .i64 0, .bool false]) ?_ 0 _ rfl; (with_reducible repeat (first | refine blk_drewN ?_ _ | refine blk_drew ?_ | refine blk_alloc ?_ _)); exact BK123.out) Try.underlying24 rfl (by kernel_rfl) (.cell gb124 24 #[.int .i64 a0_0, .int .i64 12, .int .i64 a0_2, .bool a0_3] (0, 0) _ rfl (by (with_reducible repeat (first | refine blk_drewN ?_ _ | refine blk_drew ?_ | refine blk_alloc ?_ _)); refine blk_put (cs := #[.int .i64 a0_0, .int .i64 12, .int .i64 a0_2, .bool false]) ?_ 3 _ rfl; (with_reducible repeat (first | refine blk_drewN ?_ _ | refine blk_drew ?_ | refine blk_alloc ?_ _)); refine blk_put (cs := #[.int .i64 a0_0, .int .i64 12, .int .i64 0, .bool false]) ?_ 2 _ rfl; (with_reducible repeat (first | refine blk_drewN ?_ _ | refine blk_drew ?_ | refine blk_alloc ?_ _)); refine blk_put (cs := #[.int .i64 a0_0, .int .i64 0, .int .i64 0, .bool false]) ?_ 1 _ rfl; (with_reducible repeat (first | refine blk_drewN ?_ _ | refine blk_drew ?_ | refine blk_alloc ?_ _)); refine blk_put (cs := #[.int .i64 0, .int .i64 0, .int .i64 0, .bool false]) ?_ 0 _ rfl; (with_reducible repeat (first | refine blk_drewN ?_ _ | refine blk_drew ?_ | refine blk_alloc ?_ _)); refine blk_far ?_ NB124_123.out _; (with_reducible repeat (first | refine blk_drewN ?_ _ | refine blk_drew ?_ | refine blk_alloc ?_ _)); refine blk_far ?_ NB124_123.out _; (with_reducible repeat (first | refine blk_drewN ?_ _ | refine blk_drew ?_ | refine blk_alloc ?_ _)); refine blk_far ?_ NB124_123.out _; (with_reducible repeat (first | refine blk_drewN ?_ _ | refine blk_drew ?_ | refine blk_alloc ?_ _)); refine blk_far ?_ NB124_123.out _; (with_reducible repeat (first | refine blk_drewN ?_ _ | refine blk_drew ?_ | refine blk_alloc ?_ _)); exact BK124.out) Try.underlying24 rfl (by kernel_rfl) (.tmp .nil)))) rfl ?_
      exact ax4
    ·
     rw [if_neg c29] at H
     have c29b0 : (a0_1 == 0) = false := beq_eq_false_iff_ne.mpr c29
     have c29b1 : (a0_1 != 0) = true := bne_iff_ne.mpr c29
     by_cases c100 : a0_2 = 0
     ·
      rw [if_pos c100] at H
      have c100b0 : (a0_2 == 0) = true := beq_iff_eq.mpr c100
      have c100b1 : (a0_2 != 0) = false := bne_eq_false_iff_eq.mpr c100
      clear c100
      replace H := Option.bind_eq_some_iff.mp H
      obtain ⟨t129, A1010, H⟩ := H
      try dsimp only at H
      have A101 := Aside0.mk A1010
      clear A1010
      simp only [Option.some.injEq, Prod.mk.injEq] at H
      obtain ⟨rfl, rfl, rfl, rfl, rfl, rfl, rfl, rfl, rfl⟩ := H
      try go_wp2
      replace BK122 := Aside0.mk (blk_drew BK122.out)
      replace BK123 := Aside0.mk (blk_drew BK123.out)
      replace BK124 := Aside0.mk (blk_drew BK124.out)
      replace HB := Aside0.mk (below_drew1 HB.out)
      refine start_ (n := 6) (S := fun w' => w'.cell? ⟨gb122, 0, none⟩ = some (.int .i64 a0_0) ∧ w'.cell? ⟨gb122, 1, none⟩ = some (.int .i64 a0_1) ∧ w'.cell? ⟨gb122, 2, none⟩ = some (.int .i64 a0_2) ∧ w'.cell? ⟨gb122, 3, none⟩ = some (.bool a0_3)) (ds := []) #[false, false, false, false, false, false] (by kernel_rfl) rfl rfl ⟨(blk_cell BK122.out 0).trans rfl, (blk_cell BK122.out 1).trans rfl, (blk_cell BK122.out 2).trans rfl, (blk_cell BK122.out 3).trans rfl⟩ (fun hHeld => ?_)
      generalize wc.drew = w102 at BK122 BK123 BK124 HB hHeld ⊢
      refine take_ (i := 0) (N := some 21) (v := ?_) (a' := ?_) #[true, false, false, false, false, false] rfl rfl (by kernel_rfl) (fun _ _ _ h => h) (Or.inl ⟨by rfl, ?_⟩) hHeld ?_ ?_
      rotate_left
      ·
       rintro w' ⟨s0, s1, s2, s3⟩
       go_simp
       with_reducible rfl
      rotate_left
      ·
       simp only [Act.put, List.setIfInBounds_toArray, List.set_cons_zero, List.set_cons_succ, i64_w, i32_w]
       rfl
      refine take_ (i := 1) (N := some 22) (v := ?_) (a' := ?_) #[true, true, false, false, false, false] rfl rfl (by kernel_rfl) (fun _ _ _ h => h) (Or.inl ⟨by rfl, ?_⟩) hHeld ?_ ?_
      rotate_left
      ·
       rintro w' ⟨s0, s1, s2, s3⟩
       go_simp
       with_reducible rfl
      rotate_left
      ·
       simp only [Act.put, List.setIfInBounds_toArray, List.set_cons_zero, List.set_cons_succ, i64_w, i32_w]
       rfl
      refine join_ (σ := Nat × Nat) 2 #[true, true, true, true, false, false] (fun s_ => [(5, .pointer (some ⟨s_.1, 0, none⟩)), (6, .pointer (some ⟨s_.2, 0, none⟩))]) (fun s_ w' => (w'.cell? ⟨gb122, 0, none⟩ = some (.int .i64 a0_0) ∧ w'.cell? ⟨gb122, 1, none⟩ = some (.int .i64 a0_1) ∧ w'.cell? ⟨gb122, 2, none⟩ = some (.int .i64 a0_2) ∧ w'.cell? ⟨gb122, 3, none⟩ = some (.bool a0_3)) ∧ (w'.heap[gb122]? = some (.cells #[.int .i64 a0_0, .int .i64 a0_1, .int .i64 a0_2, .bool a0_3] 24 (0, 0))) ∧ (w'.heap[gb123]? = some (.cells #[.int .i64 0, .int .i64 0, .int .i64 0, .bool false] 24 (0, 0))) ∧ (w'.heap[gb124]? = some (.cells #[.int .i64 0, .int .i64 0, .int .i64 0, .bool false] 24 (0, 0))) ∧ (w'.heap[s_.1]? = some (.cells #[.int .i64 0, .int .i64 0, .int .i64 0, .bool false] 24 (0, 0))) ∧ (w'.heap[s_.2]? = some (.cells #[.int .i64 0, .int .i64 0, .int .i64 0, .bool false] 24 (0, 0))) ∧ (w.heap.size ≤ s_.1) ∧ (w.heap.size ≤ s_.1) ∧ (gb122 ≠ s_.1) ∧ (s_.1 ≠ gb122) ∧ (gb123 ≠ s_.1) ∧ (s_.1 ≠ gb123) ∧ (gb124 ≠ s_.1) ∧ (s_.1 ≠ gb124) ∧ (s_.2 ≠ s_.1) ∧ (s_.1 ≠ s_.2) ∧ (w.heap.size ≤ s_.2) ∧ (w.heap.size ≤ s_.2) ∧ (gb122 ≠ s_.2) ∧ (s_.2 ≠ gb122) ∧ (gb123 ≠ s_.2) ∧ (s_.2 ≠ gb123) ∧ (gb124 ≠ s_.2) ∧ (s_.2 ≠ gb124) ∧ (Below w.heap.size w w')) ?_ ?_
      rotate_left
      ·
       intro hCont
       refine two_ (i := 2) (j := 3) (Ni := some 5) (Nj := some 6) #[true, true, true, false, false, false] #[true, true, false, true, false, false] rfl rfl rfl rfl (by kernel_rfl) (by decide) (by decide) (fun K hK => ?_) (fun K hK => ?_)
       ·
        skip
        refine box_step ?hg (N := 5) ?hd (cs := #[.int .i64 0, .int .i64 0, .int .i64 0, .bool false]) (t := 24) ?hr ?_; (case hd => rfl); (case hg => rfl); (case hr => first | (go_simp; done) | (go_simp; rfl))
        intro gb126 hg w103 hbox hb
        have BK126 := Aside0.mk (hbox)
        have GW126 := Aside0.mk (bsz hg au11)
        have GE126 := Aside0.mk (bsz hg au11)
        replace HB := Aside0.mk (below_step au11 hb)
        have NB122_126 := Aside0.mk (bne (g := gb122) hg au31)
        have NB126_122 := Aside0.mk (ben (g := gb122) hg au31)
        replace BK122 := Aside0.mk (blk_below (g := gb122) au31 hb)
        have NB123_126 := Aside0.mk (bne (g := gb123) hg au32)
        have NB126_123 := Aside0.mk (ben (g := gb123) hg au32)
        replace BK123 := Aside0.mk (blk_below (g := gb123) au32 hb)
        have NB124_126 := Aside0.mk (bne (g := gb124) hg au33)
        have NB126_124 := Aside0.mk (ben (g := gb124) hg au33)
        replace BK124 := Aside0.mk (blk_below (g := gb124) au33 hb)
        clear hb hbox hg
        refine hK.out _ _ ⟨(blk_cell BK122.out 0).trans rfl, (blk_cell BK122.out 1).trans rfl, (blk_cell BK122.out 2).trans rfl, (blk_cell BK122.out 3).trans rfl⟩ (fun hHeld => ?_)
        clear hK K
        refine no_ (some 5) ?_
        refine one_ (i := 3) (N := some 6) #[true, true, true, true, false, false] rfl rfl (by kernel_rfl) (by decide) (fun K hK => ?_)
        refine box_step ?hg (N := 6) ?hd (cs := #[.int .i64 0, .int .i64 0, .int .i64 0, .bool false]) (t := 24) ?hr ?_; (case hd => rfl); (case hg => rfl); (case hr => first | (go_simp; done) | (go_simp; rfl))
        intro gb127 hg w104 hbox hb
        have BK127 := Aside0.mk (hbox)
        have GW127 := Aside0.mk (bsz hg au7)
        have GE127 := Aside0.mk (bsz hg au7)
        replace HB := Aside0.mk (below_step au7 hb)
        have NB122_127 := Aside0.mk (bne (g := gb122) hg au31)
        have NB127_122 := Aside0.mk (ben (g := gb122) hg au31)
        replace BK122 := Aside0.mk (blk_below (g := gb122) au31 hb)
        have NB123_127 := Aside0.mk (bne (g := gb123) hg au32)
        have NB127_123 := Aside0.mk (ben (g := gb123) hg au32)
        replace BK123 := Aside0.mk (blk_below (g := gb123) au32 hb)
        have NB124_127 := Aside0.mk (bne (g := gb124) hg au33)
        have NB127_124 := Aside0.mk (ben (g := gb124) hg au33)
        replace BK124 := Aside0.mk (blk_below (g := gb124) au33 hb)
        have NB126_127 := Aside0.mk (bne (g := gb126) hg au34)
        have NB127_126 := Aside0.mk (ben (g := gb126) hg au34)
        replace BK126 := Aside0.mk (blk_below (g := gb126) au34 hb)
        clear hb hbox hg
        refine hK.out _ _ ⟨(blk_cell BK122.out 0).trans rfl, (blk_cell BK122.out 1).trans rfl, (blk_cell BK122.out 2).trans rfl, (blk_cell BK122.out 3).trans rfl⟩ (fun hHeld => ?_)
        clear hK K
        refine no_ (some 6) ?_
        exact norm_ au41 (hCont (gb126, gb127) _ ⟨hHeld, au31, au32, au33, au34, au35, GW126.out, GE126.out, NB122_126.out, NB126_122.out, NB123_126.out, NB126_123.out, NB124_126.out, NB126_124.out, NB127_126.out, NB126_127.out, GW127.out, GE127.out, NB122_127.out, NB127_122.out, NB123_127.out, NB127_123.out, NB124_127.out, NB127_124.out, au2⟩)
       ·
        skip
        refine box_step ?hg (N := 6) ?hd (cs := #[.int .i64 0, .int .i64 0, .int .i64 0, .bool false]) (t := 24) ?hr ?_; (case hd => rfl); (case hg => rfl); (case hr => first | (go_simp; done) | (go_simp; rfl))
        intro gb127 hg w103 hbox hb
        have BK127 := Aside0.mk (hbox)
        have GW127 := Aside0.mk (bsz hg au11)
        have GE127 := Aside0.mk (bsz hg au11)
        replace HB := Aside0.mk (below_step au11 hb)
        have NB122_127 := Aside0.mk (bne (g := gb122) hg au31)
        have NB127_122 := Aside0.mk (ben (g := gb122) hg au31)
        replace BK122 := Aside0.mk (blk_below (g := gb122) au31 hb)
        have NB123_127 := Aside0.mk (bne (g := gb123) hg au32)
        have NB127_123 := Aside0.mk (ben (g := gb123) hg au32)
        replace BK123 := Aside0.mk (blk_below (g := gb123) au32 hb)
        have NB124_127 := Aside0.mk (bne (g := gb124) hg au33)
        have NB127_124 := Aside0.mk (ben (g := gb124) hg au33)
        replace BK124 := Aside0.mk (blk_below (g := gb124) au33 hb)
        clear hb hbox hg
        refine hK.out _ _ ⟨(blk_cell BK122.out 0).trans rfl, (blk_cell BK122.out 1).trans rfl, (blk_cell BK122.out 2).trans rfl, (blk_cell BK122.out 3).trans rfl⟩ (fun hHeld => ?_)
        clear hK K
        refine no_ (some 6) ?_
        refine one_ (i := 2) (N := some 5) #[true, true, true, true, false, false] rfl rfl (by kernel_rfl) (by decide) (fun K hK => ?_)
        refine box_step ?hg (N := 5) ?hd (cs := #[.int .i64 0, .int .i64 0, .int .i64 0, .bool false]) (t := 24) ?hr ?_; (case hd => rfl); (case hg => rfl); (case hr => first | (go_simp; done) | (go_simp; rfl))
        intro gb126 hg w104 hbox hb
        have BK126 := Aside0.mk (hbox)
        have GW126 := Aside0.mk (bsz hg au8)
        have GE126 := Aside0.mk (bsz hg au8)
        replace HB := Aside0.mk (below_step au8 hb)
        have NB122_126 := Aside0.mk (bne (g := gb122) hg au31)
        have NB126_122 := Aside0.mk (ben (g := gb122) hg au31)
        replace BK122 := Aside0.mk (blk_below (g := gb122) au31 hb)
        have NB123_126 := Aside0.mk (bne (g := gb123) hg au32)
        have NB126_123 := Aside0.mk (ben (g := gb123) hg au32)
        replace BK123 := Aside0.mk (blk_below (g := gb123) au32 hb)
        have NB124_126 := Aside0.mk (bne (g := gb124) hg au33)
        have NB126_124 := Aside0.mk (ben (g := gb124) hg au33)
        replace BK124 := Aside0.mk (blk_below (g := gb124) au33 hb)
        have NB127_126 := Aside0.mk (bne (g := gb127) hg au35)
        have NB126_127 := Aside0.mk (ben (g := gb127) hg au35)
        replace BK127 := Aside0.mk (blk_below (g := gb127) au35 hb)
        clear hb hbox hg
        refine hK.out _ _ ⟨(blk_cell BK122.out 0).trans rfl, (blk_cell BK122.out 1).trans rfl, (blk_cell BK122.out 2).trans rfl, (blk_cell BK122.out 3).trans rfl⟩ (fun hHeld => ?_)
        clear hK K
        refine no_ (some 5) ?_
        exact norm_ au41 (hCont (gb126, gb127) _ ⟨hHeld, au31, au32, au33, au34, au35, GW126.out, GE126.out, NB122_126.out, NB126_122.out, NB123_126.out, NB126_123.out, NB124_126.out, NB126_124.out, NB127_126.out, NB126_127.out, GW127.out, GE127.out, NB122_127.out, NB127_122.out, NB123_127.out, NB127_123.out, NB124_127.out, NB127_124.out, au3⟩)
      rintro ⟨gb126, gb127⟩ w105 ⟨hS_, h0_, h1_, h2_, h3_, h4_, h5_, h6_, h7_, h8_, h9_, h10_, h11_, h12_, h13_, h14_, h15_, h16_, h17_, h18_, h19_, h20_, h21_, h22_, h23_⟩
      have n0_ : Aside0 (w105.heap[gb122]? = some (.cells #[.int .i64 a0_0, .int .i64 a0_1, .int .i64 a0_2, .bool a0_3] 24 (0, 0))) := ⟨h0_⟩
      have n1_ : Aside0 (w105.heap[gb123]? = some (.cells #[.int .i64 0, .int .i64 0, .int .i64 0, .bool false] 24 (0, 0))) := ⟨h1_⟩
      have n2_ : Aside0 (w105.heap[gb124]? = some (.cells #[.int .i64 0, .int .i64 0, .int .i64 0, .bool false] 24 (0, 0))) := ⟨h2_⟩
      have n3_ : Aside0 (w105.heap[gb126]? = some (.cells #[.int .i64 0, .int .i64 0, .int .i64 0, .bool false] 24 (0, 0))) := ⟨h3_⟩
      have n4_ : Aside0 (w105.heap[gb127]? = some (.cells #[.int .i64 0, .int .i64 0, .int .i64 0, .bool false] 24 (0, 0))) := ⟨h4_⟩
      have n5_ : Aside0 (w.heap.size ≤ gb126) := ⟨h5_⟩
      have n6_ : Aside0 (w.heap.size ≤ gb126) := ⟨h6_⟩
      have n7_ : Aside0 (gb122 ≠ gb126) := ⟨h7_⟩
      have n8_ : Aside0 (gb126 ≠ gb122) := ⟨h8_⟩
      have n9_ : Aside0 (gb123 ≠ gb126) := ⟨h9_⟩
      have n10_ : Aside0 (gb126 ≠ gb123) := ⟨h10_⟩
      have n11_ : Aside0 (gb124 ≠ gb126) := ⟨h11_⟩
      have n12_ : Aside0 (gb126 ≠ gb124) := ⟨h12_⟩
      have n13_ : Aside0 (gb127 ≠ gb126) := ⟨h13_⟩
      have n14_ : Aside0 (gb126 ≠ gb127) := ⟨h14_⟩
      have n15_ : Aside0 (w.heap.size ≤ gb127) := ⟨h15_⟩
      have n16_ : Aside0 (w.heap.size ≤ gb127) := ⟨h16_⟩
      have n17_ : Aside0 (gb122 ≠ gb127) := ⟨h17_⟩
      have n18_ : Aside0 (gb127 ≠ gb122) := ⟨h18_⟩
      have n19_ : Aside0 (gb123 ≠ gb127) := ⟨h19_⟩
      have n20_ : Aside0 (gb127 ≠ gb123) := ⟨h20_⟩
      have n21_ : Aside0 (gb124 ≠ gb127) := ⟨h21_⟩
      have n22_ : Aside0 (gb127 ≠ gb124) := ⟨h22_⟩
      have n23_ : Aside0 (Below w.heap.size w w105) := ⟨h23_⟩
      clear BK122
      clear BK123
      clear BK124
      clear HB
      clear h0_ h1_ h2_ h3_ h4_ h5_ h6_ h7_ h8_ h9_ h10_ h11_ h12_ h13_ h14_ h15_ h16_ h17_ h18_ h19_ h20_ h21_ h22_ h23_
      have BK122 := n0_
      have BK123 := n1_
      have BK124 := n2_
      have BK126 := n3_
      have BK127 := n4_
      have GW126 := n5_
      have GE126 := n6_
      have NB122_126 := n7_
      have NB126_122 := n8_
      have NB123_126 := n9_
      have NB126_123 := n10_
      have NB124_126 := n11_
      have NB126_124 := n12_
      have NB127_126 := n13_
      have NB126_127 := n14_
      have GW127 := n15_
      have GE127 := n16_
      have NB122_127 := n17_
      have NB127_122 := n18_
      have NB123_127 := n19_
      have NB127_123 := n20_
      have NB124_127 := n21_
      have NB127_124 := n22_
      have HB := n23_
      clear n0_ n1_ n2_ n3_ n4_ n5_ n6_ n7_ n8_ n9_ n10_ n11_ n12_ n13_ n14_ n15_ n16_ n17_ n18_ n19_ n20_ n21_ n22_ n23_
      have hHeld : w105.cell? ⟨gb122, 0, none⟩ = some (.int .i64 a0_0) ∧ w105.cell? ⟨gb122, 1, none⟩ = some (.int .i64 a0_1) ∧ w105.cell? ⟨gb122, 2, none⟩ = some (.int .i64 a0_2) ∧ w105.cell? ⟨gb122, 3, none⟩ = some (.bool a0_3) := hS_
      refine norm_ (a' := ?_) ?_ ?_
      rotate_left
      ·
       simp only [putAll, Act.put, List.setIfInBounds_toArray, List.set_cons_zero, List.set_cons_succ]
       rfl
      refine one_ (i := 4) (N := none) #[true, true, true, true, true, false] rfl rfl (by kernel_rfl) (by decide) (fun K hK => ?_)
      have hs106 : w105.cell? ⟨gb126, 0, none⟩ = some (.int .i64 0) := (blk_cell BK126.out 0).trans rfl
      have hfs106 := blk_frozen BK126.out 0
      have hns106_0 := NB122_126.out
      have hns106_1 := NB123_126.out
      have hns106_2 := NB124_126.out
      have hns106_4 := NB127_126.out
      have hms106_0 := NB126_122.out
      have hms106_1 := NB126_123.out
      have hms106_2 := NB126_124.out
      have hms106_4 := NB126_127.out
      have hs107 : w105.cell? ⟨gb126, 1, none⟩ = some (.int .i64 0) := (blk_cell BK126.out 1).trans rfl
      have hfs107 := blk_frozen BK126.out 1
      have hns107_0 := NB122_126.out
      have hns107_1 := NB123_126.out
      have hns107_2 := NB124_126.out
      have hns107_4 := NB127_126.out
      have hms107_0 := NB126_122.out
      have hms107_1 := NB126_123.out
      have hms107_2 := NB126_124.out
      have hms107_4 := NB126_127.out
      have hs108 : w105.cell? ⟨gb126, 2, none⟩ = some (.int .i64 0) := (blk_cell BK126.out 2).trans rfl
      have hfs108 := blk_frozen BK126.out 2
      have hns108_0 := NB122_126.out
      have hns108_1 := NB123_126.out
      have hns108_2 := NB124_126.out
      have hns108_4 := NB127_126.out
      have hms108_0 := NB126_122.out
      have hms108_1 := NB126_123.out
      have hms108_2 := NB126_124.out
      have hms108_4 := NB126_127.out
      have hs109 : w105.cell? ⟨gb126, 3, none⟩ = some (.bool false) := (blk_cell BK126.out 3).trans rfl
      have hfs109 := blk_frozen BK126.out 3
      have hns109_0 := NB122_126.out
      have hns109_1 := NB123_126.out
      have hns109_2 := NB124_126.out
      have hns109_4 := NB127_126.out
      have hms109_0 := NB126_122.out
      have hms109_1 := NB126_123.out
      have hms109_2 := NB126_124.out
      have hms109_4 := NB126_127.out
      refine skip_ (w1 := ?_) (by rfl) rfl ?_ ?_
      rotate_left
      ·
       go_simp
       rfl
      refine hK.out _ _ ⟨((cell_far (p := ⟨gb126, _, none⟩) NB122_126.out _).trans (((cell_far (p := ⟨gb126, _, none⟩) NB122_126.out _).trans (((cell_far (p := ⟨gb126, _, none⟩) NB122_126.out _).trans (((cell_far (p := ⟨gb126, _, none⟩) NB122_126.out _).trans (hHeld.1)))))))), ((cell_far (p := ⟨gb126, _, none⟩) NB122_126.out _).trans (((cell_far (p := ⟨gb126, _, none⟩) NB122_126.out _).trans (((cell_far (p := ⟨gb126, _, none⟩) NB122_126.out _).trans (((cell_far (p := ⟨gb126, _, none⟩) NB122_126.out _).trans (hHeld.2.1)))))))), ((cell_far (p := ⟨gb126, _, none⟩) NB122_126.out _).trans (((cell_far (p := ⟨gb126, _, none⟩) NB122_126.out _).trans (((cell_far (p := ⟨gb126, _, none⟩) NB122_126.out _).trans (((cell_far (p := ⟨gb126, _, none⟩) NB122_126.out _).trans (hHeld.2.2.1)))))))), ((cell_far (p := ⟨gb126, _, none⟩) NB122_126.out _).trans (((cell_far (p := ⟨gb126, _, none⟩) NB122_126.out _).trans (((cell_far (p := ⟨gb126, _, none⟩) NB122_126.out _).trans (((cell_far (p := ⟨gb126, _, none⟩) NB122_126.out _).trans (hHeld.2.2.2))))))))⟩ (fun hHeld => ?_)
      clear hK K
      refine one_ (i := 5) (N := none) #[true, true, true, true, true, true] rfl rfl (by kernel_rfl) (by decide) (fun K hK => ?_)
      have hs110 : w105.cell? ⟨gb127, 0, none⟩ = some (.int .i64 0) := (blk_cell BK127.out 0).trans rfl
      have hfs110 := blk_frozen BK127.out 0
      have hns110_0 := NB122_127.out
      have hns110_1 := NB123_127.out
      have hns110_2 := NB124_127.out
      have hns110_3 := NB126_127.out
      have hms110_0 := NB127_122.out
      have hms110_1 := NB127_123.out
      have hms110_2 := NB127_124.out
      have hms110_3 := NB127_126.out
      have hs111 : w105.cell? ⟨gb127, 1, none⟩ = some (.int .i64 0) := (blk_cell BK127.out 1).trans rfl
      have hfs111 := blk_frozen BK127.out 1
      have hns111_0 := NB122_127.out
      have hns111_1 := NB123_127.out
      have hns111_2 := NB124_127.out
      have hns111_3 := NB126_127.out
      have hms111_0 := NB127_122.out
      have hms111_1 := NB127_123.out
      have hms111_2 := NB127_124.out
      have hms111_3 := NB127_126.out
      have hs112 : w105.cell? ⟨gb127, 2, none⟩ = some (.int .i64 0) := (blk_cell BK127.out 2).trans rfl
      have hfs112 := blk_frozen BK127.out 2
      have hns112_0 := NB122_127.out
      have hns112_1 := NB123_127.out
      have hns112_2 := NB124_127.out
      have hns112_3 := NB126_127.out
      have hms112_0 := NB127_122.out
      have hms112_1 := NB127_123.out
      have hms112_2 := NB127_124.out
      have hms112_3 := NB127_126.out
      have hs113 : w105.cell? ⟨gb127, 3, none⟩ = some (.bool false) := (blk_cell BK127.out 3).trans rfl
      have hfs113 := blk_frozen BK127.out 3
      have hns113_0 := NB122_127.out
      have hns113_1 := NB123_127.out
      have hns113_2 := NB124_127.out
      have hns113_3 := NB126_127.out
      have hms113_0 := NB127_122.out
      have hms113_1 := NB127_123.out
      have hms113_2 := NB127_124.out
      have hms113_3 := NB127_126.out
      refine skip_ (w1 := ?_) (by rfl) rfl ?_ ?_
      rotate_left
      ·
       go_simp
       rfl
      refine hK.out _ _ ⟨((cell_far (p := ⟨gb127, _, none⟩) NB122_127.out _).trans (((cell_far (p := ⟨gb127, _, none⟩) NB122_127.out _).trans (((cell_far (p := ⟨gb127, _, none⟩) NB122_127.out _).trans (((cell_far (p := ⟨gb127, _, none⟩) NB122_127.out _).trans (hHeld.1)))))))), ((cell_far (p := ⟨gb127, _, none⟩) NB122_127.out _).trans (((cell_far (p := ⟨gb127, _, none⟩) NB122_127.out _).trans (((cell_far (p := ⟨gb127, _, none⟩) NB122_127.out _).trans (((cell_far (p := ⟨gb127, _, none⟩) NB122_127.out _).trans (hHeld.2.1)))))))), ((cell_far (p := ⟨gb127, _, none⟩) NB122_127.out _).trans (((cell_far (p := ⟨gb127, _, none⟩) NB122_127.out _).trans (((cell_far (p := ⟨gb127, _, none⟩) NB122_127.out _).trans (((cell_far (p := ⟨gb127, _, none⟩) NB122_127.out _).trans (hHeld.2.2.1)))))))), ((cell_far (p := ⟨gb127, _, none⟩) NB122_127.out _).trans (((cell_far (p := ⟨gb127, _, none⟩) NB122_127.out _).trans (((cell_far (p := ⟨gb127, _, none⟩) NB122_127.out _).trans (((cell_far (p := ⟨gb127, _, none⟩) NB122_127.out _).trans (hHeld.2.2.2))))))))⟩ (fun hHeld => ?_)
      clear hK K
      refine done_ (by kernel_rfl) ?_
      have n0_ : Aside0 (((((((((w105.setCell ⟨gb126, 0, none⟩ (.int .i64 a0_0)).setCell ⟨gb126, 1, none⟩ (.int .i64 a0_1)).setCell ⟨gb126, 2, none⟩ (.int .i64 a0_2)).setCell ⟨gb126, 3, none⟩ (.bool a0_3)).setCell ⟨gb127, 0, none⟩ (.int .i64 a0_0)).setCell ⟨gb127, 1, none⟩ (.int .i64 a0_1)).setCell ⟨gb127, 2, none⟩ (.int .i64 a0_2)).setCell ⟨gb127, 3, none⟩ (.bool a0_3)).heap[gb122]? = some (.cells #[.int .i64 a0_0, .int .i64 a0_1, .int .i64 a0_2, .bool a0_3] 24 (0, 0))) := ⟨by (with_reducible repeat (first | refine blk_drewN ?_ _ | refine blk_drew ?_ | refine blk_alloc ?_ _)); refine blk_far ?_ NB122_127.out _; (with_reducible repeat (first | refine blk_drewN ?_ _ | refine blk_drew ?_ | refine blk_alloc ?_ _)); refine blk_far ?_ NB122_127.out _; (with_reducible repeat (first | refine blk_drewN ?_ _ | refine blk_drew ?_ | refine blk_alloc ?_ _)); refine blk_far ?_ NB122_127.out _; (with_reducible repeat (first | refine blk_drewN ?_ _ | refine blk_drew ?_ | refine blk_alloc ?_ _)); refine blk_far ?_ NB122_127.out _; (with_reducible repeat (first | refine blk_drewN ?_ _ | refine blk_drew ?_ | refine blk_alloc ?_ _)); refine blk_far ?_ NB122_126.out _; (with_reducible repeat (first | refine blk_drewN ?_ _ | refine blk_drew ?_ | refine blk_alloc ?_ _)); refine blk_far ?_ NB122_126.out _; (with_reducible repeat (first | refine blk_drewN ?_ _ | refine blk_drew ?_ | refine blk_alloc ?_ _)); refine blk_far ?_ NB122_126.out _; (with_reducible repeat (first | refine blk_drewN ?_ _ | refine blk_drew ?_ | refine blk_alloc ?_ _)); refine blk_far ?_ NB122_126.out _; (with_reducible repeat (first | refine blk_drewN ?_ _ | refine blk_drew ?_ | refine blk_alloc ?_ _)); exact BK122.out⟩
      have n1_ : Aside0 (((((((((w105.setCell ⟨gb126, 0, none⟩ (.int .i64 a0_0)).setCell ⟨gb126, 1, none⟩ (.int .i64 a0_1)).setCell ⟨gb126, 2, none⟩ (.int .i64 a0_2)).setCell ⟨gb126, 3, none⟩ (.bool a0_3)).setCell ⟨gb127, 0, none⟩ (.int .i64 a0_0)).setCell ⟨gb127, 1, none⟩ (.int .i64 a0_1)).setCell ⟨gb127, 2, none⟩ (.int .i64 a0_2)).setCell ⟨gb127, 3, none⟩ (.bool a0_3)).heap[gb123]? = some (.cells #[.int .i64 0, .int .i64 0, .int .i64 0, .bool false] 24 (0, 0))) := ⟨by (with_reducible repeat (first | refine blk_drewN ?_ _ | refine blk_drew ?_ | refine blk_alloc ?_ _)); refine blk_far ?_ NB123_127.out _; (with_reducible repeat (first | refine blk_drewN ?_ _ | refine blk_drew ?_ | refine blk_alloc ?_ _)); refine blk_far ?_ NB123_127.out _; (with_reducible repeat (first | refine blk_drewN ?_ _ | refine blk_drew ?_ | refine blk_alloc ?_ _)); refine blk_far ?_ NB123_127.out _; (with_reducible repeat (first | refine blk_drewN ?_ _ | refine blk_drew ?_ | refine blk_alloc ?_ _)); refine blk_far ?_ NB123_127.out _; (with_reducible repeat (first | refine blk_drewN ?_ _ | refine blk_drew ?_ | refine blk_alloc ?_ _)); refine blk_far ?_ NB123_126.out _; (with_reducible repeat (first | refine blk_drewN ?_ _ | refine blk_drew ?_ | refine blk_alloc ?_ _)); refine blk_far ?_ NB123_126.out _; (with_reducible repeat (first | refine blk_drewN ?_ _ | refine blk_drew ?_ | refine blk_alloc ?_ _)); refine blk_far ?_ NB123_126.out _; (with_reducible repeat (first | refine blk_drewN ?_ _ | refine blk_drew ?_ | refine blk_alloc ?_ _)); refine blk_far ?_ NB123_126.out _; (with_reducible repeat (first | refine blk_drewN ?_ _ | refine blk_drew ?_ | refine blk_alloc ?_ _)); exact BK123.out⟩
      have n2_ : Aside0 (((((((((w105.setCell ⟨gb126, 0, none⟩ (.int .i64 a0_0)).setCell ⟨gb126, 1, none⟩ (.int .i64 a0_1)).setCell ⟨gb126, 2, none⟩ (.int .i64 a0_2)).setCell ⟨gb126, 3, none⟩ (.bool a0_3)).setCell ⟨gb127, 0, none⟩ (.int .i64 a0_0)).setCell ⟨gb127, 1, none⟩ (.int .i64 a0_1)).setCell ⟨gb127, 2, none⟩ (.int .i64 a0_2)).setCell ⟨gb127, 3, none⟩ (.bool a0_3)).heap[gb124]? = some (.cells #[.int .i64 0, .int .i64 0, .int .i64 0, .bool false] 24 (0, 0))) := ⟨by (with_reducible repeat (first | refine blk_drewN ?_ _ | refine blk_drew ?_ | refine blk_alloc ?_ _)); refine blk_far ?_ NB124_127.out _; (with_reducible repeat (first | refine blk_drewN ?_ _ | refine blk_drew ?_ | refine blk_alloc ?_ _)); refine blk_far ?_ NB124_127.out _; (with_reducible repeat (first | refine blk_drewN ?_ _ | refine blk_drew ?_ | refine blk_alloc ?_ _)); refine blk_far ?_ NB124_127.out _; (with_reducible repeat (first | refine blk_drewN ?_ _ | refine blk_drew ?_ | refine blk_alloc ?_ _)); refine blk_far ?_ NB124_127.out _; (with_reducible repeat (first | refine blk_drewN ?_ _ | refine blk_drew ?_ | refine blk_alloc ?_ _)); refine blk_far ?_ NB124_126.out _; (with_reducible repeat (first | refine blk_drewN ?_ _ | refine blk_drew ?_ | refine blk_alloc ?_ _)); refine blk_far ?_ NB124_126.out _; (with_reducible repeat (first | refine blk_drewN ?_ _ | refine blk_drew ?_ | refine blk_alloc ?_ _)); refine blk_far ?_ NB124_126.out _; (with_reducible repeat (first | refine blk_drewN ?_ _ | refine blk_drew ?_ | refine blk_alloc ?_ _)); refine blk_far ?_ NB124_126.out _; (with_reducible repeat (first | refine blk_drewN ?_ _ | refine blk_drew ?_ | refine blk_alloc ?_ _)); exact BK124.out⟩
      have n3_ : Aside0 (((((((((w105.setCell ⟨gb126, 0, none⟩ (.int .i64 a0_0)).setCell ⟨gb126, 1, none⟩ (.int .i64 a0_1)).setCell ⟨gb126, 2, none⟩ (.int .i64 a0_2)).setCell ⟨gb126, 3, none⟩ (.bool a0_3)).setCell ⟨gb127, 0, none⟩ (.int .i64 a0_0)).setCell ⟨gb127, 1, none⟩ (.int .i64 a0_1)).setCell ⟨gb127, 2, none⟩ (.int .i64 a0_2)).setCell ⟨gb127, 3, none⟩ (.bool a0_3)).heap[gb126]? = some (.cells #[.int .i64 a0_0, .int .i64 a0_1, .int .i64 a0_2, .bool a0_3] 24 (0, 0))) := ⟨by (with_reducible repeat (first | refine blk_drewN ?_ _ | refine blk_drew ?_ | refine blk_alloc ?_ _)); refine blk_far ?_ NB126_127.out _; (with_reducible repeat (first | refine blk_drewN ?_ _ | refine blk_drew ?_ | refine blk_alloc ?_ _)); refine blk_far ?_ NB126_127.out _; (with_reducible repeat (first | refine blk_drewN ?_ _ | refine blk_drew ?_ | refine blk_alloc ?_ _)); refine blk_far ?_ NB126_127.out _; (with_reducible repeat (first | refine blk_drewN ?_ _ | refine blk_drew ?_ | refine blk_alloc ?_ _)); refine blk_far ?_ NB126_127.out _; (with_reducible repeat (first | refine blk_drewN ?_ _ | refine blk_drew ?_ | refine blk_alloc ?_ _)); refine blk_put (cs := #[.int .i64 a0_0, .int .i64 a0_1, .int .i64 a0_2, .bool false]) ?_ 3 _ rfl; (with_reducible repeat (first | refine blk_drewN ?_ _ | refine blk_drew ?_ | refine blk_alloc ?_ _)); refine blk_put (cs := #[.int .i64 a0_0, .int .i64 a0_1, .int .i64 0, .bool false]) ?_ 2 _ rfl; (with_reducible repeat (first | refine blk_drewN ?_ _ | refine blk_drew ?_ | refine blk_alloc ?_ _)); refine blk_put (cs := #[.int .i64 a0_0, .int .i64 0, .int .i64 0, .bool false]) ?_ 1 _ rfl; (with_reducible repeat (first | refine blk_drewN ?_ _ | refine blk_drew ?_ | refine blk_alloc ?_ _)); refine blk_put (cs := #[.int .i64 0, .int .i64 0, .int .i64 0, .bool false]) ?_ 0 _ rfl; (with_reducible repeat (first | refine blk_drewN ?_ _ | refine blk_drew ?_ | refine blk_alloc ?_ _)); exact BK126.out⟩
      have n4_ : Aside0 (((((((((w105.setCell ⟨gb126, 0, none⟩ (.int .i64 a0_0)).setCell ⟨gb126, 1, none⟩ (.int .i64 a0_1)).setCell ⟨gb126, 2, none⟩ (.int .i64 a0_2)).setCell ⟨gb126, 3, none⟩ (.bool a0_3)).setCell ⟨gb127, 0, none⟩ (.int .i64 a0_0)).setCell ⟨gb127, 1, none⟩ (.int .i64 a0_1)).setCell ⟨gb127, 2, none⟩ (.int .i64 a0_2)).setCell ⟨gb127, 3, none⟩ (.bool a0_3)).heap[gb127]? = some (.cells #[.int .i64 a0_0, .int .i64 a0_1, .int .i64 a0_2, .bool a0_3] 24 (0, 0))) := ⟨by (with_reducible repeat (first | refine blk_drewN ?_ _ | refine blk_drew ?_ | refine blk_alloc ?_ _)); refine blk_put (cs := #[.int .i64 a0_0, .int .i64 a0_1, .int .i64 a0_2, .bool false]) ?_ 3 _ rfl; (with_reducible repeat (first | refine blk_drewN ?_ _ | refine blk_drew ?_ | refine blk_alloc ?_ _)); refine blk_put (cs := #[.int .i64 a0_0, .int .i64 a0_1, .int .i64 0, .bool false]) ?_ 2 _ rfl; (with_reducible repeat (first | refine blk_drewN ?_ _ | refine blk_drew ?_ | refine blk_alloc ?_ _)); refine blk_put (cs := #[.int .i64 a0_0, .int .i64 0, .int .i64 0, .bool false]) ?_ 1 _ rfl; (with_reducible repeat (first | refine blk_drewN ?_ _ | refine blk_drew ?_ | refine blk_alloc ?_ _)); refine blk_put (cs := #[.int .i64 0, .int .i64 0, .int .i64 0, .bool false]) ?_ 0 _ rfl; (with_reducible repeat (first | refine blk_drewN ?_ _ | refine blk_drew ?_ | refine blk_alloc ?_ _)); refine blk_far ?_ NB127_126.out _; (with_reducible repeat (first | refine blk_drewN ?_ _ | refine blk_drew ?_ | refine blk_alloc ?_ _)); refine blk_far ?_ NB127_126.out _; (with_reducible repeat (first | refine blk_drewN ?_ _ | refine blk_drew ?_ | refine blk_alloc ?_ _)); refine blk_far ?_ NB127_126.out _; (with_reducible repeat (first | refine blk_drewN ?_ _ | refine blk_drew ?_ | refine blk_alloc ?_ _)); refine blk_far ?_ NB127_126.out _; (with_reducible repeat (first | refine blk_drewN ?_ _ | refine blk_drew ?_ | refine blk_alloc ?_ _)); exact BK127.out⟩
      have n5_ : Aside0 (Below w.heap.size w ((((((((w105.setCell ⟨gb126, 0, none⟩ (.int .i64 a0_0)).setCell ⟨gb126, 1, none⟩ (.int .i64 a0_1)).setCell ⟨gb126, 2, none⟩ (.int .i64 a0_2)).setCell ⟨gb126, 3, none⟩ (.bool a0_3)).setCell ⟨gb127, 0, none⟩ (.int .i64 a0_0)).setCell ⟨gb127, 1, none⟩ (.int .i64 a0_1)).setCell ⟨gb127, 2, none⟩ (.int .i64 a0_2)).setCell ⟨gb127, 3, none⟩ (.bool a0_3))) := ⟨by repeat (first | (with_reducible first | exact HB.out | apply below_alloc | apply pw_below_drewN | apply below_drew1 | refine below_set ?_ GE122.out | refine below_set ?_ GE123.out | refine below_set ?_ GE124.out | refine below_set ?_ GE126.out | refine below_set ?_ GE127.out) | exact HB.out)⟩
      (try clear BK122)
      (try clear BK123)
      (try clear BK124)
      (try clear BK126)
      (try clear BK127)
      (try clear HB)
      generalize ((((((((w105.setCell ⟨gb126, 0, none⟩ (.int .i64 a0_0)).setCell ⟨gb126, 1, none⟩ (.int .i64 a0_1)).setCell ⟨gb126, 2, none⟩ (.int .i64 a0_2)).setCell ⟨gb126, 3, none⟩ (.bool a0_3)).setCell ⟨gb127, 0, none⟩ (.int .i64 a0_0)).setCell ⟨gb127, 1, none⟩ (.int .i64 a0_1)).setCell ⟨gb127, 2, none⟩ (.int .i64 a0_2)).setCell ⟨gb127, 3, none⟩ (.bool a0_3)) = w105g at n0_ n1_ n2_ n3_ n4_ n5_ ⊢
      have BK122 := n0_
      have BK123 := n1_
      have BK124 := n2_
      have BK126 := n3_
      have BK127 := n4_
      have HB := n5_
      clear n0_ n1_ n2_ n3_ n4_ n5_
      have hnb114 := NB122_123.out
      have hnc114 := NB123_122.out
      have hnb115 := NB122_124.out
      have hnc115 := NB124_122.out
      have hnb116 := NB122_126.out
      have hnc116 := NB126_122.out
      have hnb117 := NB122_127.out
      have hnc117 := NB127_122.out
      obtain ⟨hcz118_0, hcz118_1, hcz118_2, hcz118_3, hfz118_0, hfz118_1, hfz118_2, hfz118_3⟩ := blkc4 BK122.out
      have hnb119 := NB127_123.out
      have hnc119 := NB123_127.out
      have hnb120 := NB127_124.out
      have hnc120 := NB124_127.out
      have hnb121 := NB127_126.out
      have hnc121 := NB126_127.out
      obtain ⟨hcz122_0, hcz122_1, hcz122_2, hcz122_3, hfz122_0, hfz122_1, hfz122_2, hfz122_3⟩ := blkc4 BK127.out
      try go_wp2_with (first | ((with_reducible refine gate_callee (f := 11) rfl ?_); refine goesL_ (some 35) rfl rfl Try.func11 (by kernel_rfl) rfl #[.int .i64 a0_0, .int .i64 a0_1] rfl au22 ?_; (with_reducible refine (impl_daysInMonth.calls a0_0 a0_1 t129 _ A101.out).mono ?_); rintro e w' ⟨rfl, ⟨nd, rfl⟩⟩; refine ⟨_, rfl, ?_⟩; have hnb123 := NB126_123.out; have hnc123 := NB123_126.out; have hnb124 := NB126_124.out; have hnc124 := NB124_126.out; obtain ⟨hcz125_0, hcz125_1, hcz125_2, hcz125_3, hfz125_0, hfz125_1, hfz125_2, hfz125_3⟩ := blkc4 BK126.out))
      have n0_ : Aside0 ((((w105g.drewN nd).setCell ⟨gb126, 2, none⟩ (.int .i64 1)).setCell ⟨gb127, 2, none⟩ (.int .i64 t129)).heap[gb122]? = some (.cells #[.int .i64 a0_0, .int .i64 a0_1, .int .i64 a0_2, .bool a0_3] 24 (0, 0))) := ⟨by (with_reducible repeat (first | refine blk_drewN ?_ _ | refine blk_drew ?_ | refine blk_alloc ?_ _)); refine blk_far ?_ NB122_127.out _; (with_reducible repeat (first | refine blk_drewN ?_ _ | refine blk_drew ?_ | refine blk_alloc ?_ _)); refine blk_far ?_ NB122_126.out _; (with_reducible repeat (first | refine blk_drewN ?_ _ | refine blk_drew ?_ | refine blk_alloc ?_ _)); exact BK122.out⟩
      have n1_ : Aside0 ((((w105g.drewN nd).setCell ⟨gb126, 2, none⟩ (.int .i64 1)).setCell ⟨gb127, 2, none⟩ (.int .i64 t129)).heap[gb123]? = some (.cells #[.int .i64 0, .int .i64 0, .int .i64 0, .bool false] 24 (0, 0))) := ⟨by (with_reducible repeat (first | refine blk_drewN ?_ _ | refine blk_drew ?_ | refine blk_alloc ?_ _)); refine blk_far ?_ NB123_127.out _; (with_reducible repeat (first | refine blk_drewN ?_ _ | refine blk_drew ?_ | refine blk_alloc ?_ _)); refine blk_far ?_ NB123_126.out _; (with_reducible repeat (first | refine blk_drewN ?_ _ | refine blk_drew ?_ | refine blk_alloc ?_ _)); exact BK123.out⟩
      have n2_ : Aside0 ((((w105g.drewN nd).setCell ⟨gb126, 2, none⟩ (.int .i64 1)).setCell ⟨gb127, 2, none⟩ (.int .i64 t129)).heap[gb124]? = some (.cells #[.int .i64 0, .int .i64 0, .int .i64 0, .bool false] 24 (0, 0))) := ⟨by (with_reducible repeat (first | refine blk_drewN ?_ _ | refine blk_drew ?_ | refine blk_alloc ?_ _)); refine blk_far ?_ NB124_127.out _; (with_reducible repeat (first | refine blk_drewN ?_ _ | refine blk_drew ?_ | refine blk_alloc ?_ _)); refine blk_far ?_ NB124_126.out _; (with_reducible repeat (first | refine blk_drewN ?_ _ | refine blk_drew ?_ | refine blk_alloc ?_ _)); exact BK124.out⟩
      have n3_ : Aside0 ((((w105g.drewN nd).setCell ⟨gb126, 2, none⟩ (.int .i64 1)).setCell ⟨gb127, 2, none⟩ (.int .i64 t129)).heap[gb126]? = some (.cells #[.int .i64 a0_0, .int .i64 a0_1, .int .i64 1, .bool a0_3] 24 (0, 0))) := ⟨by (with_reducible repeat (first | refine blk_drewN ?_ _ | refine blk_drew ?_ | refine blk_alloc ?_ _)); refine blk_far ?_ NB126_127.out _; (with_reducible repeat (first | refine blk_drewN ?_ _ | refine blk_drew ?_ | refine blk_alloc ?_ _)); refine blk_put (cs := #[.int .i64 a0_0, .int .i64 a0_1, .int .i64 a0_2, .bool a0_3]) ?_ 2 _ rfl; (with_reducible repeat (first | refine blk_drewN ?_ _ | refine blk_drew ?_ | refine blk_alloc ?_ _)); exact BK126.out⟩
      have n4_ : Aside0 ((((w105g.drewN nd).setCell ⟨gb126, 2, none⟩ (.int .i64 1)).setCell ⟨gb127, 2, none⟩ (.int .i64 t129)).heap[gb127]? = some (.cells #[.int .i64 a0_0, .int .i64 a0_1, .int .i64 t129, .bool a0_3] 24 (0, 0))) := ⟨by (with_reducible repeat (first | refine blk_drewN ?_ _ | refine blk_drew ?_ | refine blk_alloc ?_ _)); refine blk_put (cs := #[.int .i64 a0_0, .int .i64 a0_1, .int .i64 a0_2, .bool a0_3]) ?_ 2 _ rfl; (with_reducible repeat (first | refine blk_drewN ?_ _ | refine blk_drew ?_ | refine blk_alloc ?_ _)); refine blk_far ?_ NB127_126.out _; (with_reducible repeat (first | refine blk_drewN ?_ _ | refine blk_drew ?_ | refine blk_alloc ?_ _)); exact BK127.out⟩
      have n5_ : Aside0 (Below w.heap.size w (((w105g.drewN nd).setCell ⟨gb126, 2, none⟩ (.int .i64 1)).setCell ⟨gb127, 2, none⟩ (.int .i64 t129))) := ⟨by repeat (first | (with_reducible first | exact HB.out | apply below_alloc | apply pw_below_drewN | apply below_drew1 | refine below_set ?_ GE122.out | refine below_set ?_ GE123.out | refine below_set ?_ GE124.out | refine below_set ?_ GE126.out | refine below_set ?_ GE127.out) | exact HB.out)⟩
      (try clear BK122)
      (try clear BK123)
      (try clear BK124)
      (try clear BK126)
      (try clear BK127)
      (try clear HB)
      generalize (((w105g.drewN nd).setCell ⟨gb126, 2, none⟩ (.int .i64 1)).setCell ⟨gb127, 2, none⟩ (.int .i64 t129)) = w126 at n0_ n1_ n2_ n3_ n4_ n5_ ⊢
      have BK122 := n0_
      have BK123 := n1_
      have BK124 := n2_
      have BK126 := n3_
      have BK127 := n4_
      have HB := n5_
      clear n0_ n1_ n2_ n3_ n4_ n5_
      (try (rw [drewN_self w126]; generalize hq_ : World.drewN w126 _ = w126; have n0_ : Aside0 (w126.heap[gb122]? = some (.cells #[.int .i64 a0_0, .int .i64 a0_1, .int .i64 a0_2, .bool a0_3] 24 (0, 0))) := ⟨by rw [← hq_]; exact au31⟩; have n1_ : Aside0 (w126.heap[gb123]? = some (.cells #[.int .i64 0, .int .i64 0, .int .i64 0, .bool false] 24 (0, 0))) := ⟨by rw [← hq_]; exact au32⟩; have n2_ : Aside0 (w126.heap[gb124]? = some (.cells #[.int .i64 0, .int .i64 0, .int .i64 0, .bool false] 24 (0, 0))) := ⟨by rw [← hq_]; exact au33⟩; have n3_ : Aside0 (w126.heap[gb126]? = some (.cells #[.int .i64 a0_0, .int .i64 a0_1, .int .i64 1, .bool a0_3] 24 (0, 0))) := ⟨by rw [← hq_]; exact au34⟩; have n4_ : Aside0 (w126.heap[gb127]? = some (.cells #[.int .i64 a0_0, .int .i64 a0_1, .int .i64 t129, .bool a0_3] 24 (0, 0))) := ⟨by rw [← hq_]; exact au35⟩; have n5_ : Aside0 (Below w.heap.size w w126) := ⟨by rw [← hq_]; exact au2⟩; clear BK122 BK123 BK124 BK126 BK127 HB hq_; have BK122 := n0_; have BK123 := n1_; have BK124 := n2_; have BK126 := n3_; have BK127 := n4_; have HB := n5_; clear n0_ n1_ n2_ n3_ n4_ n5_))
      replace BK122 := Aside0.mk (blk_drew BK122.out)
      replace BK123 := Aside0.mk (blk_drew BK123.out)
      replace BK124 := Aside0.mk (blk_drew BK124.out)
      replace BK126 := Aside0.mk (blk_drew BK126.out)
      replace BK127 := Aside0.mk (blk_drew BK127.out)
      replace HB := Aside0.mk (below_drew1 HB.out)
      refine start_ (n := 5) (S := fun w' => w'.cell? ⟨gb126, 0, none⟩ = some (.int .i64 a0_0) ∧ w'.cell? ⟨gb126, 1, none⟩ = some (.int .i64 a0_1) ∧ w'.cell? ⟨gb126, 2, none⟩ = some (.int .i64 1) ∧ w'.cell? ⟨gb126, 3, none⟩ = some (.bool a0_3) ∧ w'.cell? ⟨gb127, 0, none⟩ = some (.int .i64 a0_0) ∧ w'.cell? ⟨gb127, 1, none⟩ = some (.int .i64 a0_1) ∧ w'.cell? ⟨gb127, 2, none⟩ = some (.int .i64 t129) ∧ w'.cell? ⟨gb127, 3, none⟩ = some (.bool a0_3)) (ds := []) #[false, false, false, false, false] (by kernel_rfl) rfl rfl ⟨(blk_cell BK126.out 0).trans rfl, (blk_cell BK126.out 1).trans rfl, (blk_cell BK126.out 2).trans rfl, (blk_cell BK126.out 3).trans rfl, (blk_cell BK127.out 0).trans rfl, (blk_cell BK127.out 1).trans rfl, (blk_cell BK127.out 2).trans rfl, (blk_cell BK127.out 3).trans rfl⟩ (fun hHeld => ?_)
      generalize w126.drew = w127 at BK122 BK123 BK124 BK126 BK127 HB hHeld ⊢
      refine take_ (i := 0) (N := some 38) (v := ?_) (a' := ?_) #[true, false, false, false, false] rfl rfl (by kernel_rfl) (fun _ _ _ h => h) (Or.inl ⟨by rfl, ?_⟩) hHeld ?_ ?_
      rotate_left
      ·
       rintro w' ⟨s0, s1, s2, s3, s4, s5, s6, s7⟩
       go_simp
       with_reducible rfl
      rotate_left
      ·
       simp only [Act.put, List.setIfInBounds_toArray, List.set_cons_zero, List.set_cons_succ, i64_w, i32_w]
       rfl
      refine take_ (i := 1) (N := some 39) (v := ?_) (a' := ?_) #[true, true, false, false, false] rfl rfl (by kernel_rfl) (fun _ _ _ h => h) (Or.inl ⟨by rfl, ?_⟩) hHeld ?_ ?_
      rotate_left
      ·
       rintro w' ⟨s0, s1, s2, s3, s4, s5, s6, s7⟩
       go_simp
       with_reducible rfl
      rotate_left
      ·
       simp only [Act.put, List.setIfInBounds_toArray, List.set_cons_zero, List.set_cons_succ, i64_w, i32_w]
       rfl
      refine one_ (i := 2) (N := none) #[true, true, true, false, false] rfl rfl (by kernel_rfl) (by decide) (fun K hK => ?_)
      have hs128 : w127.cell? ⟨gb123, 0, none⟩ = some (.int .i64 0) := (blk_cell BK123.out 0).trans rfl
      have hfs128 := blk_frozen BK123.out 0
      have hns128_0 := NB122_123.out
      have hns128_2 := NB124_123.out
      have hns128_3 := NB126_123.out
      have hns128_4 := NB127_123.out
      have hms128_0 := NB123_122.out
      have hms128_2 := NB123_124.out
      have hms128_3 := NB123_126.out
      have hms128_4 := NB123_127.out
      have hs129 : w127.cell? ⟨gb123, 1, none⟩ = some (.int .i64 0) := (blk_cell BK123.out 1).trans rfl
      have hfs129 := blk_frozen BK123.out 1
      have hns129_0 := NB122_123.out
      have hns129_2 := NB124_123.out
      have hns129_3 := NB126_123.out
      have hns129_4 := NB127_123.out
      have hms129_0 := NB123_122.out
      have hms129_2 := NB123_124.out
      have hms129_3 := NB123_126.out
      have hms129_4 := NB123_127.out
      have hs130 : w127.cell? ⟨gb123, 2, none⟩ = some (.int .i64 0) := (blk_cell BK123.out 2).trans rfl
      have hfs130 := blk_frozen BK123.out 2
      have hns130_0 := NB122_123.out
      have hns130_2 := NB124_123.out
      have hns130_3 := NB126_123.out
      have hns130_4 := NB127_123.out
      have hms130_0 := NB123_122.out
      have hms130_2 := NB123_124.out
      have hms130_3 := NB123_126.out
      have hms130_4 := NB123_127.out
      have hs131 : w127.cell? ⟨gb123, 3, none⟩ = some (.bool false) := (blk_cell BK123.out 3).trans rfl
      have hfs131 := blk_frozen BK123.out 3
      have hns131_0 := NB122_123.out
      have hns131_2 := NB124_123.out
      have hns131_3 := NB126_123.out
      have hns131_4 := NB127_123.out
      have hms131_0 := NB123_122.out
      have hms131_2 := NB123_124.out
      have hms131_3 := NB123_126.out
      have hms131_4 := NB123_127.out
      refine skip_ (w1 := ?_) (by rfl) rfl ?_ ?_
      rotate_left
      ·
       go_simp
       rfl
      refine hK.out _ _ ⟨((cell_far (p := ⟨gb123, _, none⟩) NB126_123.out _).trans (((cell_far (p := ⟨gb123, _, none⟩) NB126_123.out _).trans (((cell_far (p := ⟨gb123, _, none⟩) NB126_123.out _).trans (((cell_far (p := ⟨gb123, _, none⟩) NB126_123.out _).trans (hHeld.1)))))))), ((cell_far (p := ⟨gb123, _, none⟩) NB126_123.out _).trans (((cell_far (p := ⟨gb123, _, none⟩) NB126_123.out _).trans (((cell_far (p := ⟨gb123, _, none⟩) NB126_123.out _).trans (((cell_far (p := ⟨gb123, _, none⟩) NB126_123.out _).trans (hHeld.2.1)))))))), ((cell_far (p := ⟨gb123, _, none⟩) NB126_123.out _).trans (((cell_far (p := ⟨gb123, _, none⟩) NB126_123.out _).trans (((cell_far (p := ⟨gb123, _, none⟩) NB126_123.out _).trans (((cell_far (p := ⟨gb123, _, none⟩) NB126_123.out _).trans (hHeld.2.2.1)))))))), ((cell_far (p := ⟨gb123, _, none⟩) NB126_123.out _).trans (((cell_far (p := ⟨gb123, _, none⟩) NB126_123.out _).trans (((cell_far (p := ⟨gb123, _, none⟩) NB126_123.out _).trans (((cell_far (p := ⟨gb123, _, none⟩) NB126_123.out _).trans (hHeld.2.2.2.1)))))))), ((cell_far (p := ⟨gb123, _, none⟩) NB127_123.out _).trans (((cell_far (p := ⟨gb123, _, none⟩) NB127_123.out _).trans (((cell_far (p := ⟨gb123, _, none⟩) NB127_123.out _).trans (((cell_far (p := ⟨gb123, _, none⟩) NB127_123.out _).trans (hHeld.2.2.2.2.1)))))))), ((cell_far (p := ⟨gb123, _, none⟩) NB127_123.out _).trans (((cell_far (p := ⟨gb123, _, none⟩) NB127_123.out _).trans (((cell_far (p := ⟨gb123, _, none⟩) NB127_123.out _).trans (((cell_far (p := ⟨gb123, _, none⟩) NB127_123.out _).trans (hHeld.2.2.2.2.2.1)))))))), ((cell_far (p := ⟨gb123, _, none⟩) NB127_123.out _).trans (((cell_far (p := ⟨gb123, _, none⟩) NB127_123.out _).trans (((cell_far (p := ⟨gb123, _, none⟩) NB127_123.out _).trans (((cell_far (p := ⟨gb123, _, none⟩) NB127_123.out _).trans (hHeld.2.2.2.2.2.2.1)))))))), ((cell_far (p := ⟨gb123, _, none⟩) NB127_123.out _).trans (((cell_far (p := ⟨gb123, _, none⟩) NB127_123.out _).trans (((cell_far (p := ⟨gb123, _, none⟩) NB127_123.out _).trans (((cell_far (p := ⟨gb123, _, none⟩) NB127_123.out _).trans (hHeld.2.2.2.2.2.2.2))))))))⟩ (fun hHeld => ?_)
      clear hK K
      refine one_ (i := 3) (N := none) #[true, true, true, true, false] rfl rfl (by kernel_rfl) (by decide) (fun K hK => ?_)
      have hs132 : w127.cell? ⟨gb124, 0, none⟩ = some (.int .i64 0) := (blk_cell BK124.out 0).trans rfl
      have hfs132 := blk_frozen BK124.out 0
      have hns132_0 := NB122_124.out
      have hns132_1 := NB123_124.out
      have hns132_3 := NB126_124.out
      have hns132_4 := NB127_124.out
      have hms132_0 := NB124_122.out
      have hms132_1 := NB124_123.out
      have hms132_3 := NB124_126.out
      have hms132_4 := NB124_127.out
      have hs133 : w127.cell? ⟨gb124, 1, none⟩ = some (.int .i64 0) := (blk_cell BK124.out 1).trans rfl
      have hfs133 := blk_frozen BK124.out 1
      have hns133_0 := NB122_124.out
      have hns133_1 := NB123_124.out
      have hns133_3 := NB126_124.out
      have hns133_4 := NB127_124.out
      have hms133_0 := NB124_122.out
      have hms133_1 := NB124_123.out
      have hms133_3 := NB124_126.out
      have hms133_4 := NB124_127.out
      have hs134 : w127.cell? ⟨gb124, 2, none⟩ = some (.int .i64 0) := (blk_cell BK124.out 2).trans rfl
      have hfs134 := blk_frozen BK124.out 2
      have hns134_0 := NB122_124.out
      have hns134_1 := NB123_124.out
      have hns134_3 := NB126_124.out
      have hns134_4 := NB127_124.out
      have hms134_0 := NB124_122.out
      have hms134_1 := NB124_123.out
      have hms134_3 := NB124_126.out
      have hms134_4 := NB124_127.out
      have hs135 : w127.cell? ⟨gb124, 3, none⟩ = some (.bool false) := (blk_cell BK124.out 3).trans rfl
      have hfs135 := blk_frozen BK124.out 3
      have hns135_0 := NB122_124.out
      have hns135_1 := NB123_124.out
      have hns135_3 := NB126_124.out
      have hns135_4 := NB127_124.out
      have hms135_0 := NB124_122.out
      have hms135_1 := NB124_123.out
      have hms135_3 := NB124_126.out
      have hms135_4 := NB124_127.out
      refine skip_ (w1 := ?_) (by rfl) rfl ?_ ?_
      rotate_left
      ·
       go_simp
       rfl
      refine hK.out _ _ ⟨((cell_far (p := ⟨gb124, _, none⟩) NB126_124.out _).trans (((cell_far (p := ⟨gb124, _, none⟩) NB126_124.out _).trans (((cell_far (p := ⟨gb124, _, none⟩) NB126_124.out _).trans (((cell_far (p := ⟨gb124, _, none⟩) NB126_124.out _).trans (hHeld.1)))))))), ((cell_far (p := ⟨gb124, _, none⟩) NB126_124.out _).trans (((cell_far (p := ⟨gb124, _, none⟩) NB126_124.out _).trans (((cell_far (p := ⟨gb124, _, none⟩) NB126_124.out _).trans (((cell_far (p := ⟨gb124, _, none⟩) NB126_124.out _).trans (hHeld.2.1)))))))), ((cell_far (p := ⟨gb124, _, none⟩) NB126_124.out _).trans (((cell_far (p := ⟨gb124, _, none⟩) NB126_124.out _).trans (((cell_far (p := ⟨gb124, _, none⟩) NB126_124.out _).trans (((cell_far (p := ⟨gb124, _, none⟩) NB126_124.out _).trans (hHeld.2.2.1)))))))), ((cell_far (p := ⟨gb124, _, none⟩) NB126_124.out _).trans (((cell_far (p := ⟨gb124, _, none⟩) NB126_124.out _).trans (((cell_far (p := ⟨gb124, _, none⟩) NB126_124.out _).trans (((cell_far (p := ⟨gb124, _, none⟩) NB126_124.out _).trans (hHeld.2.2.2.1)))))))), ((cell_far (p := ⟨gb124, _, none⟩) NB127_124.out _).trans (((cell_far (p := ⟨gb124, _, none⟩) NB127_124.out _).trans (((cell_far (p := ⟨gb124, _, none⟩) NB127_124.out _).trans (((cell_far (p := ⟨gb124, _, none⟩) NB127_124.out _).trans (hHeld.2.2.2.2.1)))))))), ((cell_far (p := ⟨gb124, _, none⟩) NB127_124.out _).trans (((cell_far (p := ⟨gb124, _, none⟩) NB127_124.out _).trans (((cell_far (p := ⟨gb124, _, none⟩) NB127_124.out _).trans (((cell_far (p := ⟨gb124, _, none⟩) NB127_124.out _).trans (hHeld.2.2.2.2.2.1)))))))), ((cell_far (p := ⟨gb124, _, none⟩) NB127_124.out _).trans (((cell_far (p := ⟨gb124, _, none⟩) NB127_124.out _).trans (((cell_far (p := ⟨gb124, _, none⟩) NB127_124.out _).trans (((cell_far (p := ⟨gb124, _, none⟩) NB127_124.out _).trans (hHeld.2.2.2.2.2.2.1)))))))), ((cell_far (p := ⟨gb124, _, none⟩) NB127_124.out _).trans (((cell_far (p := ⟨gb124, _, none⟩) NB127_124.out _).trans (((cell_far (p := ⟨gb124, _, none⟩) NB127_124.out _).trans (((cell_far (p := ⟨gb124, _, none⟩) NB127_124.out _).trans (hHeld.2.2.2.2.2.2.2))))))))⟩ (fun hHeld => ?_)
      clear hK K
      refine pure_ (i := 4) (N := some 4) (v := ?_) (a' := ?_) #[true, true, true, true, true] rfl rfl (by kernel_rfl) (fun _ _ _ h => h) (Or.inl ⟨by rfl, ?_⟩) ?_ ?_
      rotate_left
      ·
       intro w'
       go_simp
       with_reducible rfl
      rotate_left
      ·
       simp only [Act.put, List.setIfInBounds_toArray, List.set_cons_zero, List.set_cons_succ, i64_w, i32_w]
       rfl
      refine done_ (by kernel_rfl) ?_
      try go_wp2
      refine bodyPost_ret (results_list (rs := [.cell 2 24, .cell 3 24, .tmp 4]) rfl (by simp) (.cell gb123 24 #[.int .i64 a0_0, .int .i64 a0_1, .int .i64 1, .bool a0_3] (0, 0) _ rfl (by (with_reducible repeat (first | refine blk_drewN ?_ _ | refine blk_drew ?_ | refine blk_alloc ?_ _)); refine blk_far ?_ NB123_124.out _; (with_reducible repeat (first | refine blk_drewN ?_ _ | refine blk_drew ?_ | refine blk_alloc ?_ _)); refine blk_far ?_ NB123_124.out _; (with_reducible repeat (first | refine blk_drewN ?_ _ | refine blk_drew ?_ | refine blk_alloc ?_ _)); refine blk_far ?_ NB123_124.out _; (with_reducible repeat (first | refine blk_drewN ?_ _ | refine blk_drew ?_ | refine blk_alloc ?_ _)); refine blk_far ?_ NB123_124.out _; (with_reducible repeat (first | refine blk_drewN ?_ _ | refine blk_drew ?_ | refine blk_alloc ?_ _)); refine blk_put (cs := #[.int .i64 a0_0, .int .i64 a0_1, .int .i64 1, .bool false]) ?_ 3 _ rfl; (with_reducible repeat (first | refine blk_drewN ?_ _ | refine blk_drew ?_ | refine blk_alloc ?_ _)); refine blk_put (cs := #[.int .i64 a0_0, .int .i64 a0_1, .int .i64 0, .bool false]) ?_ 2 _ rfl; (with_reducible repeat (first | refine blk_drewN ?_ _ | refine blk_drew ?_ | refine blk_alloc ?_ _)); refine blk_put (cs := #[.int .i64 a0_0, .int .i64 0, .int .i64 0, .bool false]) ?_ 1 _ rfl; (with_reducible repeat (first | refine blk_drewN ?_ _ | refine blk_drew ?_ | refine blk_alloc ?_ _)); refine blk_put (cs := #[.int .i64 0, .int .i64 0, .int .i64 0, .bool false]) ?_ 0 _ rfl; (with_reducible repeat (first | refine blk_drewN ?_ _ | refine blk_drew ?_ | refine blk_alloc ?_ _)); exact BK123.out) Try.underlying24 rfl (by kernel_rfl) (.cell gb124 24 #[.int .i64 a0_0, .int .i64 a0_1, .int .i64 t129, .bool a0_3] (0, 0) _ rfl (by (with_reducible repeat (first | refine blk_drewN ?_ _ | refine blk_drew ?_ | refine blk_alloc ?_ _)); refine blk_put (cs := #[.int .i64 a0_0, .int .i64 a0_1, .int .i64 t129, .bool false]) ?_ 3 _ rfl; (with_reducible repeat (first | refine blk_drewN ?_ _ | refine blk_drew ?_ | refine blk_alloc ?_ _)); refine blk_put (cs := #[.int .i64 a0_0, .int .i64 a0_1, .int .i64 0, .bool false]) ?_ 2 _ rfl; (with_reducible repeat (first | refine blk_drewN ?_ _ | refine blk_drew ?_ | refine blk_alloc ?_ _)); refine blk_put (cs := #[.int .i64 a0_0, .int .i64 0, .int .i64 0, .bool false]) ?_ 1 _ rfl; (with_reducible repeat (first | refine blk_drewN ?_ _ | refine blk_drew ?_ | refine blk_alloc ?_ _)); refine blk_put (cs := #[.int .i64 0, .int .i64 0, .int .i64 0, .bool false]) ?_ 0 _ rfl; (with_reducible repeat (first | refine blk_drewN ?_ _ | refine blk_drew ?_ | refine blk_alloc ?_ _)); refine blk_far ?_ NB124_123.out _; (with_reducible repeat (first | refine blk_drewN ?_ _ | refine blk_drew ?_ | refine blk_alloc ?_ _)); refine blk_far ?_ NB124_123.out _; (with_reducible repeat (first | refine blk_drewN ?_ _ | refine blk_drew ?_ | refine blk_alloc ?_ _)); refine blk_far ?_ NB124_123.out _; (with_reducible repeat (first | refine blk_drewN ?_ _ | refine blk_drew ?_ | refine blk_alloc ?_ _)); refine blk_far ?_ NB124_123.out _; (with_reducible repeat (first | refine blk_drewN ?_ _ | refine blk_drew ?_ | refine blk_alloc ?_ _)); exact BK124.out) Try.underlying24 rfl (by kernel_rfl) (.tmp .nil)))) rfl ?_
      exact ax4
     ·
      rw [if_neg c100] at H
      have c100b0 : (a0_2 == 0) = false := beq_eq_false_iff_ne.mpr c100
      have c100b1 : (a0_2 != 0) = true := bne_iff_ne.mpr c100
      simp only [Option.some.injEq, Prod.mk.injEq] at H
      obtain ⟨rfl, rfl, rfl, rfl, rfl, rfl, rfl, rfl, rfl⟩ := H
      try go_wp2
      replace BK122 := Aside0.mk (blk_drew BK122.out)
      replace BK123 := Aside0.mk (blk_drew BK123.out)
      replace BK124 := Aside0.mk (blk_drew BK124.out)
      replace HB := Aside0.mk (below_drew1 HB.out)
      refine start_ (n := 6) (S := fun w' => w'.cell? ⟨gb122, 0, none⟩ = some (.int .i64 a0_0) ∧ w'.cell? ⟨gb122, 1, none⟩ = some (.int .i64 a0_1) ∧ w'.cell? ⟨gb122, 2, none⟩ = some (.int .i64 a0_2) ∧ w'.cell? ⟨gb122, 3, none⟩ = some (.bool a0_3)) (ds := []) #[false, false, false, false, false, false] (by kernel_rfl) rfl rfl ⟨(blk_cell BK122.out 0).trans rfl, (blk_cell BK122.out 1).trans rfl, (blk_cell BK122.out 2).trans rfl, (blk_cell BK122.out 3).trans rfl⟩ (fun hHeld => ?_)
      generalize wc.drew = w136 at BK122 BK123 BK124 HB hHeld ⊢
      refine take_ (i := 0) (N := some 21) (v := ?_) (a' := ?_) #[true, false, false, false, false, false] rfl rfl (by kernel_rfl) (fun _ _ _ h => h) (Or.inl ⟨by rfl, ?_⟩) hHeld ?_ ?_
      rotate_left
      ·
       rintro w' ⟨s0, s1, s2, s3⟩
       go_simp
       with_reducible rfl
      rotate_left
      ·
       simp only [Act.put, List.setIfInBounds_toArray, List.set_cons_zero, List.set_cons_succ, i64_w, i32_w]
       rfl
      refine take_ (i := 1) (N := some 22) (v := ?_) (a' := ?_) #[true, true, false, false, false, false] rfl rfl (by kernel_rfl) (fun _ _ _ h => h) (Or.inl ⟨by rfl, ?_⟩) hHeld ?_ ?_
      rotate_left
      ·
       rintro w' ⟨s0, s1, s2, s3⟩
       go_simp
       with_reducible rfl
      rotate_left
      ·
       simp only [Act.put, List.setIfInBounds_toArray, List.set_cons_zero, List.set_cons_succ, i64_w, i32_w]
       rfl
      refine join_ (σ := Nat × Nat) 2 #[true, true, true, true, false, false] (fun s_ => [(5, .pointer (some ⟨s_.1, 0, none⟩)), (6, .pointer (some ⟨s_.2, 0, none⟩))]) (fun s_ w' => (w'.cell? ⟨gb122, 0, none⟩ = some (.int .i64 a0_0) ∧ w'.cell? ⟨gb122, 1, none⟩ = some (.int .i64 a0_1) ∧ w'.cell? ⟨gb122, 2, none⟩ = some (.int .i64 a0_2) ∧ w'.cell? ⟨gb122, 3, none⟩ = some (.bool a0_3)) ∧ (w'.heap[gb122]? = some (.cells #[.int .i64 a0_0, .int .i64 a0_1, .int .i64 a0_2, .bool a0_3] 24 (0, 0))) ∧ (w'.heap[gb123]? = some (.cells #[.int .i64 0, .int .i64 0, .int .i64 0, .bool false] 24 (0, 0))) ∧ (w'.heap[gb124]? = some (.cells #[.int .i64 0, .int .i64 0, .int .i64 0, .bool false] 24 (0, 0))) ∧ (w'.heap[s_.1]? = some (.cells #[.int .i64 0, .int .i64 0, .int .i64 0, .bool false] 24 (0, 0))) ∧ (w'.heap[s_.2]? = some (.cells #[.int .i64 0, .int .i64 0, .int .i64 0, .bool false] 24 (0, 0))) ∧ (w.heap.size ≤ s_.1) ∧ (w.heap.size ≤ s_.1) ∧ (gb122 ≠ s_.1) ∧ (s_.1 ≠ gb122) ∧ (gb123 ≠ s_.1) ∧ (s_.1 ≠ gb123) ∧ (gb124 ≠ s_.1) ∧ (s_.1 ≠ gb124) ∧ (s_.2 ≠ s_.1) ∧ (s_.1 ≠ s_.2) ∧ (w.heap.size ≤ s_.2) ∧ (w.heap.size ≤ s_.2) ∧ (gb122 ≠ s_.2) ∧ (s_.2 ≠ gb122) ∧ (gb123 ≠ s_.2) ∧ (s_.2 ≠ gb123) ∧ (gb124 ≠ s_.2) ∧ (s_.2 ≠ gb124) ∧ (Below w.heap.size w w')) ?_ ?_
      rotate_left
      ·
       intro hCont
       refine two_ (i := 2) (j := 3) (Ni := some 5) (Nj := some 6) #[true, true, true, false, false, false] #[true, true, false, true, false, false] rfl rfl rfl rfl (by kernel_rfl) (by decide) (by decide) (fun K hK => ?_) (fun K hK => ?_)
       ·
        skip
        refine box_step ?hg (N := 5) ?hd (cs := #[.int .i64 0, .int .i64 0, .int .i64 0, .bool false]) (t := 24) ?hr ?_; (case hd => rfl); (case hg => rfl); (case hr => first | (go_simp; done) | (go_simp; rfl))
        intro gb126 hg w137 hbox hb
        have BK126 := Aside0.mk (hbox)
        have GW126 := Aside0.mk (bsz hg au11)
        have GE126 := Aside0.mk (bsz hg au11)
        replace HB := Aside0.mk (below_step au11 hb)
        have NB122_126 := Aside0.mk (bne (g := gb122) hg au31)
        have NB126_122 := Aside0.mk (ben (g := gb122) hg au31)
        replace BK122 := Aside0.mk (blk_below (g := gb122) au31 hb)
        have NB123_126 := Aside0.mk (bne (g := gb123) hg au32)
        have NB126_123 := Aside0.mk (ben (g := gb123) hg au32)
        replace BK123 := Aside0.mk (blk_below (g := gb123) au32 hb)
        have NB124_126 := Aside0.mk (bne (g := gb124) hg au33)
        have NB126_124 := Aside0.mk (ben (g := gb124) hg au33)
        replace BK124 := Aside0.mk (blk_below (g := gb124) au33 hb)
        clear hb hbox hg
        refine hK.out _ _ ⟨(blk_cell BK122.out 0).trans rfl, (blk_cell BK122.out 1).trans rfl, (blk_cell BK122.out 2).trans rfl, (blk_cell BK122.out 3).trans rfl⟩ (fun hHeld => ?_)
        clear hK K
        refine no_ (some 5) ?_
        refine one_ (i := 3) (N := some 6) #[true, true, true, true, false, false] rfl rfl (by kernel_rfl) (by decide) (fun K hK => ?_)
        refine box_step ?hg (N := 6) ?hd (cs := #[.int .i64 0, .int .i64 0, .int .i64 0, .bool false]) (t := 24) ?hr ?_; (case hd => rfl); (case hg => rfl); (case hr => first | (go_simp; done) | (go_simp; rfl))
        intro gb127 hg w138 hbox hb
        have BK127 := Aside0.mk (hbox)
        have GW127 := Aside0.mk (bsz hg au7)
        have GE127 := Aside0.mk (bsz hg au7)
        replace HB := Aside0.mk (below_step au7 hb)
        have NB122_127 := Aside0.mk (bne (g := gb122) hg au31)
        have NB127_122 := Aside0.mk (ben (g := gb122) hg au31)
        replace BK122 := Aside0.mk (blk_below (g := gb122) au31 hb)
        have NB123_127 := Aside0.mk (bne (g := gb123) hg au32)
        have NB127_123 := Aside0.mk (ben (g := gb123) hg au32)
        replace BK123 := Aside0.mk (blk_below (g := gb123) au32 hb)
        have NB124_127 := Aside0.mk (bne (g := gb124) hg au33)
        have NB127_124 := Aside0.mk (ben (g := gb124) hg au33)
        replace BK124 := Aside0.mk (blk_below (g := gb124) au33 hb)
        have NB126_127 := Aside0.mk (bne (g := gb126) hg au34)
        have NB127_126 := Aside0.mk (ben (g := gb126) hg au34)
        replace BK126 := Aside0.mk (blk_below (g := gb126) au34 hb)
        clear hb hbox hg
        refine hK.out _ _ ⟨(blk_cell BK122.out 0).trans rfl, (blk_cell BK122.out 1).trans rfl, (blk_cell BK122.out 2).trans rfl, (blk_cell BK122.out 3).trans rfl⟩ (fun hHeld => ?_)
        clear hK K
        refine no_ (some 6) ?_
        exact norm_ au41 (hCont (gb126, gb127) _ ⟨hHeld, au31, au32, au33, au34, au35, GW126.out, GE126.out, NB122_126.out, NB126_122.out, NB123_126.out, NB126_123.out, NB124_126.out, NB126_124.out, NB127_126.out, NB126_127.out, GW127.out, GE127.out, NB122_127.out, NB127_122.out, NB123_127.out, NB127_123.out, NB124_127.out, NB127_124.out, au2⟩)
       ·
        skip
        refine box_step ?hg (N := 6) ?hd (cs := #[.int .i64 0, .int .i64 0, .int .i64 0, .bool false]) (t := 24) ?hr ?_; (case hd => rfl); (case hg => rfl); (case hr => first | (go_simp; done) | (go_simp; rfl))
        intro gb127 hg w137 hbox hb
        have BK127 := Aside0.mk (hbox)
        have GW127 := Aside0.mk (bsz hg au11)
        have GE127 := Aside0.mk (bsz hg au11)
        replace HB := Aside0.mk (below_step au11 hb)
        have NB122_127 := Aside0.mk (bne (g := gb122) hg au31)
        have NB127_122 := Aside0.mk (ben (g := gb122) hg au31)
        replace BK122 := Aside0.mk (blk_below (g := gb122) au31 hb)
        have NB123_127 := Aside0.mk (bne (g := gb123) hg au32)
        have NB127_123 := Aside0.mk (ben (g := gb123) hg au32)
        replace BK123 := Aside0.mk (blk_below (g := gb123) au32 hb)
        have NB124_127 := Aside0.mk (bne (g := gb124) hg au33)
        have NB127_124 := Aside0.mk (ben (g := gb124) hg au33)
        replace BK124 := Aside0.mk (blk_below (g := gb124) au33 hb)
        clear hb hbox hg
        refine hK.out _ _ ⟨(blk_cell BK122.out 0).trans rfl, (blk_cell BK122.out 1).trans rfl, (blk_cell BK122.out 2).trans rfl, (blk_cell BK122.out 3).trans rfl⟩ (fun hHeld => ?_)
        clear hK K
        refine no_ (some 6) ?_
        refine one_ (i := 2) (N := some 5) #[true, true, true, true, false, false] rfl rfl (by kernel_rfl) (by decide) (fun K hK => ?_)
        refine box_step ?hg (N := 5) ?hd (cs := #[.int .i64 0, .int .i64 0, .int .i64 0, .bool false]) (t := 24) ?hr ?_; (case hd => rfl); (case hg => rfl); (case hr => first | (go_simp; done) | (go_simp; rfl))
        intro gb126 hg w138 hbox hb
        have BK126 := Aside0.mk (hbox)
        have GW126 := Aside0.mk (bsz hg au8)
        have GE126 := Aside0.mk (bsz hg au8)
        replace HB := Aside0.mk (below_step au8 hb)
        have NB122_126 := Aside0.mk (bne (g := gb122) hg au31)
        have NB126_122 := Aside0.mk (ben (g := gb122) hg au31)
        replace BK122 := Aside0.mk (blk_below (g := gb122) au31 hb)
        have NB123_126 := Aside0.mk (bne (g := gb123) hg au32)
        have NB126_123 := Aside0.mk (ben (g := gb123) hg au32)
        replace BK123 := Aside0.mk (blk_below (g := gb123) au32 hb)
        have NB124_126 := Aside0.mk (bne (g := gb124) hg au33)
        have NB126_124 := Aside0.mk (ben (g := gb124) hg au33)
        replace BK124 := Aside0.mk (blk_below (g := gb124) au33 hb)
        have NB127_126 := Aside0.mk (bne (g := gb127) hg au35)
        have NB126_127 := Aside0.mk (ben (g := gb127) hg au35)
        replace BK127 := Aside0.mk (blk_below (g := gb127) au35 hb)
        clear hb hbox hg
        refine hK.out _ _ ⟨(blk_cell BK122.out 0).trans rfl, (blk_cell BK122.out 1).trans rfl, (blk_cell BK122.out 2).trans rfl, (blk_cell BK122.out 3).trans rfl⟩ (fun hHeld => ?_)
        clear hK K
        refine no_ (some 5) ?_
        exact norm_ au41 (hCont (gb126, gb127) _ ⟨hHeld, au31, au32, au33, au34, au35, GW126.out, GE126.out, NB122_126.out, NB126_122.out, NB123_126.out, NB126_123.out, NB124_126.out, NB126_124.out, NB127_126.out, NB126_127.out, GW127.out, GE127.out, NB122_127.out, NB127_122.out, NB123_127.out, NB127_123.out, NB124_127.out, NB127_124.out, au3⟩)
      rintro ⟨gb126, gb127⟩ w139 ⟨hS_, h0_, h1_, h2_, h3_, h4_, h5_, h6_, h7_, h8_, h9_, h10_, h11_, h12_, h13_, h14_, h15_, h16_, h17_, h18_, h19_, h20_, h21_, h22_, h23_⟩
      have n0_ : Aside0 (w139.heap[gb122]? = some (.cells #[.int .i64 a0_0, .int .i64 a0_1, .int .i64 a0_2, .bool a0_3] 24 (0, 0))) := ⟨h0_⟩
      have n1_ : Aside0 (w139.heap[gb123]? = some (.cells #[.int .i64 0, .int .i64 0, .int .i64 0, .bool false] 24 (0, 0))) := ⟨h1_⟩
      have n2_ : Aside0 (w139.heap[gb124]? = some (.cells #[.int .i64 0, .int .i64 0, .int .i64 0, .bool false] 24 (0, 0))) := ⟨h2_⟩
      have n3_ : Aside0 (w139.heap[gb126]? = some (.cells #[.int .i64 0, .int .i64 0, .int .i64 0, .bool false] 24 (0, 0))) := ⟨h3_⟩
      have n4_ : Aside0 (w139.heap[gb127]? = some (.cells #[.int .i64 0, .int .i64 0, .int .i64 0, .bool false] 24 (0, 0))) := ⟨h4_⟩
      have n5_ : Aside0 (w.heap.size ≤ gb126) := ⟨h5_⟩
      have n6_ : Aside0 (w.heap.size ≤ gb126) := ⟨h6_⟩
      have n7_ : Aside0 (gb122 ≠ gb126) := ⟨h7_⟩
      have n8_ : Aside0 (gb126 ≠ gb122) := ⟨h8_⟩
      have n9_ : Aside0 (gb123 ≠ gb126) := ⟨h9_⟩
      have n10_ : Aside0 (gb126 ≠ gb123) := ⟨h10_⟩
      have n11_ : Aside0 (gb124 ≠ gb126) := ⟨h11_⟩
      have n12_ : Aside0 (gb126 ≠ gb124) := ⟨h12_⟩
      have n13_ : Aside0 (gb127 ≠ gb126) := ⟨h13_⟩
      have n14_ : Aside0 (gb126 ≠ gb127) := ⟨h14_⟩
      have n15_ : Aside0 (w.heap.size ≤ gb127) := ⟨h15_⟩
      have n16_ : Aside0 (w.heap.size ≤ gb127) := ⟨h16_⟩
      have n17_ : Aside0 (gb122 ≠ gb127) := ⟨h17_⟩
      have n18_ : Aside0 (gb127 ≠ gb122) := ⟨h18_⟩
      have n19_ : Aside0 (gb123 ≠ gb127) := ⟨h19_⟩
      have n20_ : Aside0 (gb127 ≠ gb123) := ⟨h20_⟩
      have n21_ : Aside0 (gb124 ≠ gb127) := ⟨h21_⟩
      have n22_ : Aside0 (gb127 ≠ gb124) := ⟨h22_⟩
      have n23_ : Aside0 (Below w.heap.size w w139) := ⟨h23_⟩
      clear BK122
      clear BK123
      clear BK124
      clear HB
      clear h0_ h1_ h2_ h3_ h4_ h5_ h6_ h7_ h8_ h9_ h10_ h11_ h12_ h13_ h14_ h15_ h16_ h17_ h18_ h19_ h20_ h21_ h22_ h23_
      have BK122 := n0_
      have BK123 := n1_
      have BK124 := n2_
      have BK126 := n3_
      have BK127 := n4_
      have GW126 := n5_
      have GE126 := n6_
      have NB122_126 := n7_
      have NB126_122 := n8_
      have NB123_126 := n9_
      have NB126_123 := n10_
      have NB124_126 := n11_
      have NB126_124 := n12_
      have NB127_126 := n13_
      have NB126_127 := n14_
      have GW127 := n15_
      have GE127 := n16_
      have NB122_127 := n17_
      have NB127_122 := n18_
      have NB123_127 := n19_
      have NB127_123 := n20_
      have NB124_127 := n21_
      have NB127_124 := n22_
      have HB := n23_
      clear n0_ n1_ n2_ n3_ n4_ n5_ n6_ n7_ n8_ n9_ n10_ n11_ n12_ n13_ n14_ n15_ n16_ n17_ n18_ n19_ n20_ n21_ n22_ n23_
      have hHeld : w139.cell? ⟨gb122, 0, none⟩ = some (.int .i64 a0_0) ∧ w139.cell? ⟨gb122, 1, none⟩ = some (.int .i64 a0_1) ∧ w139.cell? ⟨gb122, 2, none⟩ = some (.int .i64 a0_2) ∧ w139.cell? ⟨gb122, 3, none⟩ = some (.bool a0_3) := hS_
      refine norm_ (a' := ?_) ?_ ?_
      rotate_left
      ·
       simp only [putAll, Act.put, List.setIfInBounds_toArray, List.set_cons_zero, List.set_cons_succ]
       rfl
      refine one_ (i := 4) (N := none) #[true, true, true, true, true, false] rfl rfl (by kernel_rfl) (by decide) (fun K hK => ?_)
      have hs140 : w139.cell? ⟨gb126, 0, none⟩ = some (.int .i64 0) := (blk_cell BK126.out 0).trans rfl
      have hfs140 := blk_frozen BK126.out 0
      have hns140_0 := NB122_126.out
      have hns140_1 := NB123_126.out
      have hns140_2 := NB124_126.out
      have hns140_4 := NB127_126.out
      have hms140_0 := NB126_122.out
      have hms140_1 := NB126_123.out
      have hms140_2 := NB126_124.out
      have hms140_4 := NB126_127.out
      have hs141 : w139.cell? ⟨gb126, 1, none⟩ = some (.int .i64 0) := (blk_cell BK126.out 1).trans rfl
      have hfs141 := blk_frozen BK126.out 1
      have hns141_0 := NB122_126.out
      have hns141_1 := NB123_126.out
      have hns141_2 := NB124_126.out
      have hns141_4 := NB127_126.out
      have hms141_0 := NB126_122.out
      have hms141_1 := NB126_123.out
      have hms141_2 := NB126_124.out
      have hms141_4 := NB126_127.out
      have hs142 : w139.cell? ⟨gb126, 2, none⟩ = some (.int .i64 0) := (blk_cell BK126.out 2).trans rfl
      have hfs142 := blk_frozen BK126.out 2
      have hns142_0 := NB122_126.out
      have hns142_1 := NB123_126.out
      have hns142_2 := NB124_126.out
      have hns142_4 := NB127_126.out
      have hms142_0 := NB126_122.out
      have hms142_1 := NB126_123.out
      have hms142_2 := NB126_124.out
      have hms142_4 := NB126_127.out
      have hs143 : w139.cell? ⟨gb126, 3, none⟩ = some (.bool false) := (blk_cell BK126.out 3).trans rfl
      have hfs143 := blk_frozen BK126.out 3
      have hns143_0 := NB122_126.out
      have hns143_1 := NB123_126.out
      have hns143_2 := NB124_126.out
      have hns143_4 := NB127_126.out
      have hms143_0 := NB126_122.out
      have hms143_1 := NB126_123.out
      have hms143_2 := NB126_124.out
      have hms143_4 := NB126_127.out
      refine skip_ (w1 := ?_) (by rfl) rfl ?_ ?_
      rotate_left
      ·
       go_simp
       rfl
      refine hK.out _ _ ⟨((cell_far (p := ⟨gb126, _, none⟩) NB122_126.out _).trans (((cell_far (p := ⟨gb126, _, none⟩) NB122_126.out _).trans (((cell_far (p := ⟨gb126, _, none⟩) NB122_126.out _).trans (((cell_far (p := ⟨gb126, _, none⟩) NB122_126.out _).trans (hHeld.1)))))))), ((cell_far (p := ⟨gb126, _, none⟩) NB122_126.out _).trans (((cell_far (p := ⟨gb126, _, none⟩) NB122_126.out _).trans (((cell_far (p := ⟨gb126, _, none⟩) NB122_126.out _).trans (((cell_far (p := ⟨gb126, _, none⟩) NB122_126.out _).trans (hHeld.2.1)))))))), ((cell_far (p := ⟨gb126, _, none⟩) NB122_126.out _).trans (((cell_far (p := ⟨gb126, _, none⟩) NB122_126.out _).trans (((cell_far (p := ⟨gb126, _, none⟩) NB122_126.out _).trans (((cell_far (p := ⟨gb126, _, none⟩) NB122_126.out _).trans (hHeld.2.2.1)))))))), ((cell_far (p := ⟨gb126, _, none⟩) NB122_126.out _).trans (((cell_far (p := ⟨gb126, _, none⟩) NB122_126.out _).trans (((cell_far (p := ⟨gb126, _, none⟩) NB122_126.out _).trans (((cell_far (p := ⟨gb126, _, none⟩) NB122_126.out _).trans (hHeld.2.2.2))))))))⟩ (fun hHeld => ?_)
      clear hK K
      refine one_ (i := 5) (N := none) #[true, true, true, true, true, true] rfl rfl (by kernel_rfl) (by decide) (fun K hK => ?_)
      have hs144 : w139.cell? ⟨gb127, 0, none⟩ = some (.int .i64 0) := (blk_cell BK127.out 0).trans rfl
      have hfs144 := blk_frozen BK127.out 0
      have hns144_0 := NB122_127.out
      have hns144_1 := NB123_127.out
      have hns144_2 := NB124_127.out
      have hns144_3 := NB126_127.out
      have hms144_0 := NB127_122.out
      have hms144_1 := NB127_123.out
      have hms144_2 := NB127_124.out
      have hms144_3 := NB127_126.out
      have hs145 : w139.cell? ⟨gb127, 1, none⟩ = some (.int .i64 0) := (blk_cell BK127.out 1).trans rfl
      have hfs145 := blk_frozen BK127.out 1
      have hns145_0 := NB122_127.out
      have hns145_1 := NB123_127.out
      have hns145_2 := NB124_127.out
      have hns145_3 := NB126_127.out
      have hms145_0 := NB127_122.out
      have hms145_1 := NB127_123.out
      have hms145_2 := NB127_124.out
      have hms145_3 := NB127_126.out
      have hs146 : w139.cell? ⟨gb127, 2, none⟩ = some (.int .i64 0) := (blk_cell BK127.out 2).trans rfl
      have hfs146 := blk_frozen BK127.out 2
      have hns146_0 := NB122_127.out
      have hns146_1 := NB123_127.out
      have hns146_2 := NB124_127.out
      have hns146_3 := NB126_127.out
      have hms146_0 := NB127_122.out
      have hms146_1 := NB127_123.out
      have hms146_2 := NB127_124.out
      have hms146_3 := NB127_126.out
      have hs147 : w139.cell? ⟨gb127, 3, none⟩ = some (.bool false) := (blk_cell BK127.out 3).trans rfl
      have hfs147 := blk_frozen BK127.out 3
      have hns147_0 := NB122_127.out
      have hns147_1 := NB123_127.out
      have hns147_2 := NB124_127.out
      have hns147_3 := NB126_127.out
      have hms147_0 := NB127_122.out
      have hms147_1 := NB127_123.out
      have hms147_2 := NB127_124.out
      have hms147_3 := NB127_126.out
      refine skip_ (w1 := ?_) (by rfl) rfl ?_ ?_
      rotate_left
      ·
       go_simp
       rfl
      refine hK.out _ _ ⟨((cell_far (p := ⟨gb127, _, none⟩) NB122_127.out _).trans (((cell_far (p := ⟨gb127, _, none⟩) NB122_127.out _).trans (((cell_far (p := ⟨gb127, _, none⟩) NB122_127.out _).trans (((cell_far (p := ⟨gb127, _, none⟩) NB122_127.out _).trans (hHeld.1)))))))), ((cell_far (p := ⟨gb127, _, none⟩) NB122_127.out _).trans (((cell_far (p := ⟨gb127, _, none⟩) NB122_127.out _).trans (((cell_far (p := ⟨gb127, _, none⟩) NB122_127.out _).trans (((cell_far (p := ⟨gb127, _, none⟩) NB122_127.out _).trans (hHeld.2.1)))))))), ((cell_far (p := ⟨gb127, _, none⟩) NB122_127.out _).trans (((cell_far (p := ⟨gb127, _, none⟩) NB122_127.out _).trans (((cell_far (p := ⟨gb127, _, none⟩) NB122_127.out _).trans (((cell_far (p := ⟨gb127, _, none⟩) NB122_127.out _).trans (hHeld.2.2.1)))))))), ((cell_far (p := ⟨gb127, _, none⟩) NB122_127.out _).trans (((cell_far (p := ⟨gb127, _, none⟩) NB122_127.out _).trans (((cell_far (p := ⟨gb127, _, none⟩) NB122_127.out _).trans (((cell_far (p := ⟨gb127, _, none⟩) NB122_127.out _).trans (hHeld.2.2.2))))))))⟩ (fun hHeld => ?_)
      clear hK K
      refine done_ (by kernel_rfl) ?_
      have hnb148 := NB122_123.out
      have hnc148 := NB123_122.out
      have hnb149 := NB122_124.out
      have hnc149 := NB124_122.out
      have hnb150 := NB122_126.out
      have hnc150 := NB126_122.out
      have hnb151 := NB122_127.out
      have hnc151 := NB127_122.out
      obtain ⟨hcz152_0, hcz152_1, hcz152_2, hcz152_3, hfz152_0, hfz152_1, hfz152_2, hfz152_3⟩ := blkc4 BK122.out
      try go_wp2
      have n0_ : Aside0 (((((((((w139.setCell ⟨gb126, 0, none⟩ (.int .i64 a0_0)).setCell ⟨gb126, 1, none⟩ (.int .i64 a0_1)).setCell ⟨gb126, 2, none⟩ (.int .i64 a0_2)).setCell ⟨gb126, 3, none⟩ (.bool a0_3)).setCell ⟨gb127, 0, none⟩ (.int .i64 a0_0)).setCell ⟨gb127, 1, none⟩ (.int .i64 a0_1)).setCell ⟨gb127, 2, none⟩ (.int .i64 a0_2)).setCell ⟨gb127, 3, none⟩ (.bool a0_3)).heap[gb122]? = some (.cells #[.int .i64 a0_0, .int .i64 a0_1, .int .i64 a0_2, .bool a0_3] 24 (0, 0))) := ⟨by (with_reducible repeat (first | refine blk_drewN ?_ _ | refine blk_drew ?_ | refine blk_alloc ?_ _)); refine blk_far ?_ NB122_127.out _; (with_reducible repeat (first | refine blk_drewN ?_ _ | refine blk_drew ?_ | refine blk_alloc ?_ _)); refine blk_far ?_ NB122_127.out _; (with_reducible repeat (first | refine blk_drewN ?_ _ | refine blk_drew ?_ | refine blk_alloc ?_ _)); refine blk_far ?_ NB122_127.out _; (with_reducible repeat (first | refine blk_drewN ?_ _ | refine blk_drew ?_ | refine blk_alloc ?_ _)); refine blk_far ?_ NB122_127.out _; (with_reducible repeat (first | refine blk_drewN ?_ _ | refine blk_drew ?_ | refine blk_alloc ?_ _)); refine blk_far ?_ NB122_126.out _; (with_reducible repeat (first | refine blk_drewN ?_ _ | refine blk_drew ?_ | refine blk_alloc ?_ _)); refine blk_far ?_ NB122_126.out _; (with_reducible repeat (first | refine blk_drewN ?_ _ | refine blk_drew ?_ | refine blk_alloc ?_ _)); refine blk_far ?_ NB122_126.out _; (with_reducible repeat (first | refine blk_drewN ?_ _ | refine blk_drew ?_ | refine blk_alloc ?_ _)); refine blk_far ?_ NB122_126.out _; (with_reducible repeat (first | refine blk_drewN ?_ _ | refine blk_drew ?_ | refine blk_alloc ?_ _)); exact BK122.out⟩
      have n1_ : Aside0 (((((((((w139.setCell ⟨gb126, 0, none⟩ (.int .i64 a0_0)).setCell ⟨gb126, 1, none⟩ (.int .i64 a0_1)).setCell ⟨gb126, 2, none⟩ (.int .i64 a0_2)).setCell ⟨gb126, 3, none⟩ (.bool a0_3)).setCell ⟨gb127, 0, none⟩ (.int .i64 a0_0)).setCell ⟨gb127, 1, none⟩ (.int .i64 a0_1)).setCell ⟨gb127, 2, none⟩ (.int .i64 a0_2)).setCell ⟨gb127, 3, none⟩ (.bool a0_3)).heap[gb123]? = some (.cells #[.int .i64 0, .int .i64 0, .int .i64 0, .bool false] 24 (0, 0))) := ⟨by (with_reducible repeat (first | refine blk_drewN ?_ _ | refine blk_drew ?_ | refine blk_alloc ?_ _)); refine blk_far ?_ NB123_127.out _; (with_reducible repeat (first | refine blk_drewN ?_ _ | refine blk_drew ?_ | refine blk_alloc ?_ _)); refine blk_far ?_ NB123_127.out _; (with_reducible repeat (first | refine blk_drewN ?_ _ | refine blk_drew ?_ | refine blk_alloc ?_ _)); refine blk_far ?_ NB123_127.out _; (with_reducible repeat (first | refine blk_drewN ?_ _ | refine blk_drew ?_ | refine blk_alloc ?_ _)); refine blk_far ?_ NB123_127.out _; (with_reducible repeat (first | refine blk_drewN ?_ _ | refine blk_drew ?_ | refine blk_alloc ?_ _)); refine blk_far ?_ NB123_126.out _; (with_reducible repeat (first | refine blk_drewN ?_ _ | refine blk_drew ?_ | refine blk_alloc ?_ _)); refine blk_far ?_ NB123_126.out _; (with_reducible repeat (first | refine blk_drewN ?_ _ | refine blk_drew ?_ | refine blk_alloc ?_ _)); refine blk_far ?_ NB123_126.out _; (with_reducible repeat (first | refine blk_drewN ?_ _ | refine blk_drew ?_ | refine blk_alloc ?_ _)); refine blk_far ?_ NB123_126.out _; (with_reducible repeat (first | refine blk_drewN ?_ _ | refine blk_drew ?_ | refine blk_alloc ?_ _)); exact BK123.out⟩
      have n2_ : Aside0 (((((((((w139.setCell ⟨gb126, 0, none⟩ (.int .i64 a0_0)).setCell ⟨gb126, 1, none⟩ (.int .i64 a0_1)).setCell ⟨gb126, 2, none⟩ (.int .i64 a0_2)).setCell ⟨gb126, 3, none⟩ (.bool a0_3)).setCell ⟨gb127, 0, none⟩ (.int .i64 a0_0)).setCell ⟨gb127, 1, none⟩ (.int .i64 a0_1)).setCell ⟨gb127, 2, none⟩ (.int .i64 a0_2)).setCell ⟨gb127, 3, none⟩ (.bool a0_3)).heap[gb124]? = some (.cells #[.int .i64 0, .int .i64 0, .int .i64 0, .bool false] 24 (0, 0))) := ⟨by (with_reducible repeat (first | refine blk_drewN ?_ _ | refine blk_drew ?_ | refine blk_alloc ?_ _)); refine blk_far ?_ NB124_127.out _; (with_reducible repeat (first | refine blk_drewN ?_ _ | refine blk_drew ?_ | refine blk_alloc ?_ _)); refine blk_far ?_ NB124_127.out _; (with_reducible repeat (first | refine blk_drewN ?_ _ | refine blk_drew ?_ | refine blk_alloc ?_ _)); refine blk_far ?_ NB124_127.out _; (with_reducible repeat (first | refine blk_drewN ?_ _ | refine blk_drew ?_ | refine blk_alloc ?_ _)); refine blk_far ?_ NB124_127.out _; (with_reducible repeat (first | refine blk_drewN ?_ _ | refine blk_drew ?_ | refine blk_alloc ?_ _)); refine blk_far ?_ NB124_126.out _; (with_reducible repeat (first | refine blk_drewN ?_ _ | refine blk_drew ?_ | refine blk_alloc ?_ _)); refine blk_far ?_ NB124_126.out _; (with_reducible repeat (first | refine blk_drewN ?_ _ | refine blk_drew ?_ | refine blk_alloc ?_ _)); refine blk_far ?_ NB124_126.out _; (with_reducible repeat (first | refine blk_drewN ?_ _ | refine blk_drew ?_ | refine blk_alloc ?_ _)); refine blk_far ?_ NB124_126.out _; (with_reducible repeat (first | refine blk_drewN ?_ _ | refine blk_drew ?_ | refine blk_alloc ?_ _)); exact BK124.out⟩
      have n3_ : Aside0 (((((((((w139.setCell ⟨gb126, 0, none⟩ (.int .i64 a0_0)).setCell ⟨gb126, 1, none⟩ (.int .i64 a0_1)).setCell ⟨gb126, 2, none⟩ (.int .i64 a0_2)).setCell ⟨gb126, 3, none⟩ (.bool a0_3)).setCell ⟨gb127, 0, none⟩ (.int .i64 a0_0)).setCell ⟨gb127, 1, none⟩ (.int .i64 a0_1)).setCell ⟨gb127, 2, none⟩ (.int .i64 a0_2)).setCell ⟨gb127, 3, none⟩ (.bool a0_3)).heap[gb126]? = some (.cells #[.int .i64 a0_0, .int .i64 a0_1, .int .i64 a0_2, .bool a0_3] 24 (0, 0))) := ⟨by (with_reducible repeat (first | refine blk_drewN ?_ _ | refine blk_drew ?_ | refine blk_alloc ?_ _)); refine blk_far ?_ NB126_127.out _; (with_reducible repeat (first | refine blk_drewN ?_ _ | refine blk_drew ?_ | refine blk_alloc ?_ _)); refine blk_far ?_ NB126_127.out _; (with_reducible repeat (first | refine blk_drewN ?_ _ | refine blk_drew ?_ | refine blk_alloc ?_ _)); refine blk_far ?_ NB126_127.out _; (with_reducible repeat (first | refine blk_drewN ?_ _ | refine blk_drew ?_ | refine blk_alloc ?_ _)); refine blk_far ?_ NB126_127.out _; (with_reducible repeat (first | refine blk_drewN ?_ _ | refine blk_drew ?_ | refine blk_alloc ?_ _)); refine blk_put (cs := #[.int .i64 a0_0, .int .i64 a0_1, .int .i64 a0_2, .bool false]) ?_ 3 _ rfl; (with_reducible repeat (first | refine blk_drewN ?_ _ | refine blk_drew ?_ | refine blk_alloc ?_ _)); refine blk_put (cs := #[.int .i64 a0_0, .int .i64 a0_1, .int .i64 0, .bool false]) ?_ 2 _ rfl; (with_reducible repeat (first | refine blk_drewN ?_ _ | refine blk_drew ?_ | refine blk_alloc ?_ _)); refine blk_put (cs := #[.int .i64 a0_0, .int .i64 0, .int .i64 0, .bool false]) ?_ 1 _ rfl; (with_reducible repeat (first | refine blk_drewN ?_ _ | refine blk_drew ?_ | refine blk_alloc ?_ _)); refine blk_put (cs := #[.int .i64 0, .int .i64 0, .int .i64 0, .bool false]) ?_ 0 _ rfl; (with_reducible repeat (first | refine blk_drewN ?_ _ | refine blk_drew ?_ | refine blk_alloc ?_ _)); exact BK126.out⟩
      have n4_ : Aside0 (((((((((w139.setCell ⟨gb126, 0, none⟩ (.int .i64 a0_0)).setCell ⟨gb126, 1, none⟩ (.int .i64 a0_1)).setCell ⟨gb126, 2, none⟩ (.int .i64 a0_2)).setCell ⟨gb126, 3, none⟩ (.bool a0_3)).setCell ⟨gb127, 0, none⟩ (.int .i64 a0_0)).setCell ⟨gb127, 1, none⟩ (.int .i64 a0_1)).setCell ⟨gb127, 2, none⟩ (.int .i64 a0_2)).setCell ⟨gb127, 3, none⟩ (.bool a0_3)).heap[gb127]? = some (.cells #[.int .i64 a0_0, .int .i64 a0_1, .int .i64 a0_2, .bool a0_3] 24 (0, 0))) := ⟨by (with_reducible repeat (first | refine blk_drewN ?_ _ | refine blk_drew ?_ | refine blk_alloc ?_ _)); refine blk_put (cs := #[.int .i64 a0_0, .int .i64 a0_1, .int .i64 a0_2, .bool false]) ?_ 3 _ rfl; (with_reducible repeat (first | refine blk_drewN ?_ _ | refine blk_drew ?_ | refine blk_alloc ?_ _)); refine blk_put (cs := #[.int .i64 a0_0, .int .i64 a0_1, .int .i64 0, .bool false]) ?_ 2 _ rfl; (with_reducible repeat (first | refine blk_drewN ?_ _ | refine blk_drew ?_ | refine blk_alloc ?_ _)); refine blk_put (cs := #[.int .i64 a0_0, .int .i64 0, .int .i64 0, .bool false]) ?_ 1 _ rfl; (with_reducible repeat (first | refine blk_drewN ?_ _ | refine blk_drew ?_ | refine blk_alloc ?_ _)); refine blk_put (cs := #[.int .i64 0, .int .i64 0, .int .i64 0, .bool false]) ?_ 0 _ rfl; (with_reducible repeat (first | refine blk_drewN ?_ _ | refine blk_drew ?_ | refine blk_alloc ?_ _)); refine blk_far ?_ NB127_126.out _; (with_reducible repeat (first | refine blk_drewN ?_ _ | refine blk_drew ?_ | refine blk_alloc ?_ _)); refine blk_far ?_ NB127_126.out _; (with_reducible repeat (first | refine blk_drewN ?_ _ | refine blk_drew ?_ | refine blk_alloc ?_ _)); refine blk_far ?_ NB127_126.out _; (with_reducible repeat (first | refine blk_drewN ?_ _ | refine blk_drew ?_ | refine blk_alloc ?_ _)); refine blk_far ?_ NB127_126.out _; (with_reducible repeat (first | refine blk_drewN ?_ _ | refine blk_drew ?_ | refine blk_alloc ?_ _)); exact BK127.out⟩
      have n5_ : Aside0 (Below w.heap.size w ((((((((w139.setCell ⟨gb126, 0, none⟩ (.int .i64 a0_0)).setCell ⟨gb126, 1, none⟩ (.int .i64 a0_1)).setCell ⟨gb126, 2, none⟩ (.int .i64 a0_2)).setCell ⟨gb126, 3, none⟩ (.bool a0_3)).setCell ⟨gb127, 0, none⟩ (.int .i64 a0_0)).setCell ⟨gb127, 1, none⟩ (.int .i64 a0_1)).setCell ⟨gb127, 2, none⟩ (.int .i64 a0_2)).setCell ⟨gb127, 3, none⟩ (.bool a0_3))) := ⟨by repeat (first | (with_reducible first | exact HB.out | apply below_alloc | apply pw_below_drewN | apply below_drew1 | refine below_set ?_ GE122.out | refine below_set ?_ GE123.out | refine below_set ?_ GE124.out | refine below_set ?_ GE126.out | refine below_set ?_ GE127.out) | exact HB.out)⟩
      (try clear BK122)
      (try clear BK123)
      (try clear BK124)
      (try clear BK126)
      (try clear BK127)
      (try clear HB)
      generalize ((((((((w139.setCell ⟨gb126, 0, none⟩ (.int .i64 a0_0)).setCell ⟨gb126, 1, none⟩ (.int .i64 a0_1)).setCell ⟨gb126, 2, none⟩ (.int .i64 a0_2)).setCell ⟨gb126, 3, none⟩ (.bool a0_3)).setCell ⟨gb127, 0, none⟩ (.int .i64 a0_0)).setCell ⟨gb127, 1, none⟩ (.int .i64 a0_1)).setCell ⟨gb127, 2, none⟩ (.int .i64 a0_2)).setCell ⟨gb127, 3, none⟩ (.bool a0_3)) = w153 at n0_ n1_ n2_ n3_ n4_ n5_ ⊢
      have BK122 := n0_
      have BK123 := n1_
      have BK124 := n2_
      have BK126 := n3_
      have BK127 := n4_
      have HB := n5_
      clear n0_ n1_ n2_ n3_ n4_ n5_
      replace BK122 := Aside0.mk (blk_drew BK122.out)
      replace BK123 := Aside0.mk (blk_drew BK123.out)
      replace BK124 := Aside0.mk (blk_drew BK124.out)
      replace BK126 := Aside0.mk (blk_drew BK126.out)
      replace BK127 := Aside0.mk (blk_drew BK127.out)
      replace HB := Aside0.mk (below_drew1 HB.out)
      refine start_ (n := 5) (S := fun w' => w'.cell? ⟨gb126, 0, none⟩ = some (.int .i64 a0_0) ∧ w'.cell? ⟨gb126, 1, none⟩ = some (.int .i64 a0_1) ∧ w'.cell? ⟨gb126, 2, none⟩ = some (.int .i64 a0_2) ∧ w'.cell? ⟨gb126, 3, none⟩ = some (.bool a0_3) ∧ w'.cell? ⟨gb127, 0, none⟩ = some (.int .i64 a0_0) ∧ w'.cell? ⟨gb127, 1, none⟩ = some (.int .i64 a0_1) ∧ w'.cell? ⟨gb127, 2, none⟩ = some (.int .i64 a0_2) ∧ w'.cell? ⟨gb127, 3, none⟩ = some (.bool a0_3)) (ds := []) #[false, false, false, false, false] (by kernel_rfl) rfl rfl ⟨(blk_cell BK126.out 0).trans rfl, (blk_cell BK126.out 1).trans rfl, (blk_cell BK126.out 2).trans rfl, (blk_cell BK126.out 3).trans rfl, (blk_cell BK127.out 0).trans rfl, (blk_cell BK127.out 1).trans rfl, (blk_cell BK127.out 2).trans rfl, (blk_cell BK127.out 3).trans rfl⟩ (fun hHeld => ?_)
      generalize w153.drew = w154 at BK122 BK123 BK124 BK126 BK127 HB hHeld ⊢
      refine take_ (i := 0) (N := some 38) (v := ?_) (a' := ?_) #[true, false, false, false, false] rfl rfl (by kernel_rfl) (fun _ _ _ h => h) (Or.inl ⟨by rfl, ?_⟩) hHeld ?_ ?_
      rotate_left
      ·
       rintro w' ⟨s0, s1, s2, s3, s4, s5, s6, s7⟩
       go_simp
       with_reducible rfl
      rotate_left
      ·
       simp only [Act.put, List.setIfInBounds_toArray, List.set_cons_zero, List.set_cons_succ, i64_w, i32_w]
       rfl
      refine take_ (i := 1) (N := some 39) (v := ?_) (a' := ?_) #[true, true, false, false, false] rfl rfl (by kernel_rfl) (fun _ _ _ h => h) (Or.inl ⟨by rfl, ?_⟩) hHeld ?_ ?_
      rotate_left
      ·
       rintro w' ⟨s0, s1, s2, s3, s4, s5, s6, s7⟩
       go_simp
       with_reducible rfl
      rotate_left
      ·
       simp only [Act.put, List.setIfInBounds_toArray, List.set_cons_zero, List.set_cons_succ, i64_w, i32_w]
       rfl
      refine one_ (i := 2) (N := none) #[true, true, true, false, false] rfl rfl (by kernel_rfl) (by decide) (fun K hK => ?_)
      have hs155 : w154.cell? ⟨gb123, 0, none⟩ = some (.int .i64 0) := (blk_cell BK123.out 0).trans rfl
      have hfs155 := blk_frozen BK123.out 0
      have hns155_0 := NB122_123.out
      have hns155_2 := NB124_123.out
      have hns155_3 := NB126_123.out
      have hns155_4 := NB127_123.out
      have hms155_0 := NB123_122.out
      have hms155_2 := NB123_124.out
      have hms155_3 := NB123_126.out
      have hms155_4 := NB123_127.out
      have hs156 : w154.cell? ⟨gb123, 1, none⟩ = some (.int .i64 0) := (blk_cell BK123.out 1).trans rfl
      have hfs156 := blk_frozen BK123.out 1
      have hns156_0 := NB122_123.out
      have hns156_2 := NB124_123.out
      have hns156_3 := NB126_123.out
      have hns156_4 := NB127_123.out
      have hms156_0 := NB123_122.out
      have hms156_2 := NB123_124.out
      have hms156_3 := NB123_126.out
      have hms156_4 := NB123_127.out
      have hs157 : w154.cell? ⟨gb123, 2, none⟩ = some (.int .i64 0) := (blk_cell BK123.out 2).trans rfl
      have hfs157 := blk_frozen BK123.out 2
      have hns157_0 := NB122_123.out
      have hns157_2 := NB124_123.out
      have hns157_3 := NB126_123.out
      have hns157_4 := NB127_123.out
      have hms157_0 := NB123_122.out
      have hms157_2 := NB123_124.out
      have hms157_3 := NB123_126.out
      have hms157_4 := NB123_127.out
      have hs158 : w154.cell? ⟨gb123, 3, none⟩ = some (.bool false) := (blk_cell BK123.out 3).trans rfl
      have hfs158 := blk_frozen BK123.out 3
      have hns158_0 := NB122_123.out
      have hns158_2 := NB124_123.out
      have hns158_3 := NB126_123.out
      have hns158_4 := NB127_123.out
      have hms158_0 := NB123_122.out
      have hms158_2 := NB123_124.out
      have hms158_3 := NB123_126.out
      have hms158_4 := NB123_127.out
      refine skip_ (w1 := ?_) (by rfl) rfl ?_ ?_
      rotate_left
      ·
       go_simp
       rfl
      refine hK.out _ _ ⟨((cell_far (p := ⟨gb123, _, none⟩) NB126_123.out _).trans (((cell_far (p := ⟨gb123, _, none⟩) NB126_123.out _).trans (((cell_far (p := ⟨gb123, _, none⟩) NB126_123.out _).trans (((cell_far (p := ⟨gb123, _, none⟩) NB126_123.out _).trans (hHeld.1)))))))), ((cell_far (p := ⟨gb123, _, none⟩) NB126_123.out _).trans (((cell_far (p := ⟨gb123, _, none⟩) NB126_123.out _).trans (((cell_far (p := ⟨gb123, _, none⟩) NB126_123.out _).trans (((cell_far (p := ⟨gb123, _, none⟩) NB126_123.out _).trans (hHeld.2.1)))))))), ((cell_far (p := ⟨gb123, _, none⟩) NB126_123.out _).trans (((cell_far (p := ⟨gb123, _, none⟩) NB126_123.out _).trans (((cell_far (p := ⟨gb123, _, none⟩) NB126_123.out _).trans (((cell_far (p := ⟨gb123, _, none⟩) NB126_123.out _).trans (hHeld.2.2.1)))))))), ((cell_far (p := ⟨gb123, _, none⟩) NB126_123.out _).trans (((cell_far (p := ⟨gb123, _, none⟩) NB126_123.out _).trans (((cell_far (p := ⟨gb123, _, none⟩) NB126_123.out _).trans (((cell_far (p := ⟨gb123, _, none⟩) NB126_123.out _).trans (hHeld.2.2.2.1)))))))), ((cell_far (p := ⟨gb123, _, none⟩) NB127_123.out _).trans (((cell_far (p := ⟨gb123, _, none⟩) NB127_123.out _).trans (((cell_far (p := ⟨gb123, _, none⟩) NB127_123.out _).trans (((cell_far (p := ⟨gb123, _, none⟩) NB127_123.out _).trans (hHeld.2.2.2.2.1)))))))), ((cell_far (p := ⟨gb123, _, none⟩) NB127_123.out _).trans (((cell_far (p := ⟨gb123, _, none⟩) NB127_123.out _).trans (((cell_far (p := ⟨gb123, _, none⟩) NB127_123.out _).trans (((cell_far (p := ⟨gb123, _, none⟩) NB127_123.out _).trans (hHeld.2.2.2.2.2.1)))))))), ((cell_far (p := ⟨gb123, _, none⟩) NB127_123.out _).trans (((cell_far (p := ⟨gb123, _, none⟩) NB127_123.out _).trans (((cell_far (p := ⟨gb123, _, none⟩) NB127_123.out _).trans (((cell_far (p := ⟨gb123, _, none⟩) NB127_123.out _).trans (hHeld.2.2.2.2.2.2.1)))))))), ((cell_far (p := ⟨gb123, _, none⟩) NB127_123.out _).trans (((cell_far (p := ⟨gb123, _, none⟩) NB127_123.out _).trans (((cell_far (p := ⟨gb123, _, none⟩) NB127_123.out _).trans (((cell_far (p := ⟨gb123, _, none⟩) NB127_123.out _).trans (hHeld.2.2.2.2.2.2.2))))))))⟩ (fun hHeld => ?_)
      clear hK K
      refine one_ (i := 3) (N := none) #[true, true, true, true, false] rfl rfl (by kernel_rfl) (by decide) (fun K hK => ?_)
      have hs159 : w154.cell? ⟨gb124, 0, none⟩ = some (.int .i64 0) := (blk_cell BK124.out 0).trans rfl
      have hfs159 := blk_frozen BK124.out 0
      have hns159_0 := NB122_124.out
      have hns159_1 := NB123_124.out
      have hns159_3 := NB126_124.out
      have hns159_4 := NB127_124.out
      have hms159_0 := NB124_122.out
      have hms159_1 := NB124_123.out
      have hms159_3 := NB124_126.out
      have hms159_4 := NB124_127.out
      have hs160 : w154.cell? ⟨gb124, 1, none⟩ = some (.int .i64 0) := (blk_cell BK124.out 1).trans rfl
      have hfs160 := blk_frozen BK124.out 1
      have hns160_0 := NB122_124.out
      have hns160_1 := NB123_124.out
      have hns160_3 := NB126_124.out
      have hns160_4 := NB127_124.out
      have hms160_0 := NB124_122.out
      have hms160_1 := NB124_123.out
      have hms160_3 := NB124_126.out
      have hms160_4 := NB124_127.out
      have hs161 : w154.cell? ⟨gb124, 2, none⟩ = some (.int .i64 0) := (blk_cell BK124.out 2).trans rfl
      have hfs161 := blk_frozen BK124.out 2
      have hns161_0 := NB122_124.out
      have hns161_1 := NB123_124.out
      have hns161_3 := NB126_124.out
      have hns161_4 := NB127_124.out
      have hms161_0 := NB124_122.out
      have hms161_1 := NB124_123.out
      have hms161_3 := NB124_126.out
      have hms161_4 := NB124_127.out
      have hs162 : w154.cell? ⟨gb124, 3, none⟩ = some (.bool false) := (blk_cell BK124.out 3).trans rfl
      have hfs162 := blk_frozen BK124.out 3
      have hns162_0 := NB122_124.out
      have hns162_1 := NB123_124.out
      have hns162_3 := NB126_124.out
      have hns162_4 := NB127_124.out
      have hms162_0 := NB124_122.out
      have hms162_1 := NB124_123.out
      have hms162_3 := NB124_126.out
      have hms162_4 := NB124_127.out
      refine skip_ (w1 := ?_) (by rfl) rfl ?_ ?_
      rotate_left
      ·
       go_simp
       rfl
      refine hK.out _ _ ⟨((cell_far (p := ⟨gb124, _, none⟩) NB126_124.out _).trans (((cell_far (p := ⟨gb124, _, none⟩) NB126_124.out _).trans (((cell_far (p := ⟨gb124, _, none⟩) NB126_124.out _).trans (((cell_far (p := ⟨gb124, _, none⟩) NB126_124.out _).trans (hHeld.1)))))))), ((cell_far (p := ⟨gb124, _, none⟩) NB126_124.out _).trans (((cell_far (p := ⟨gb124, _, none⟩) NB126_124.out _).trans (((cell_far (p := ⟨gb124, _, none⟩) NB126_124.out _).trans (((cell_far (p := ⟨gb124, _, none⟩) NB126_124.out _).trans (hHeld.2.1)))))))), ((cell_far (p := ⟨gb124, _, none⟩) NB126_124.out _).trans (((cell_far (p := ⟨gb124, _, none⟩) NB126_124.out _).trans (((cell_far (p := ⟨gb124, _, none⟩) NB126_124.out _).trans (((cell_far (p := ⟨gb124, _, none⟩) NB126_124.out _).trans (hHeld.2.2.1)))))))), ((cell_far (p := ⟨gb124, _, none⟩) NB126_124.out _).trans (((cell_far (p := ⟨gb124, _, none⟩) NB126_124.out _).trans (((cell_far (p := ⟨gb124, _, none⟩) NB126_124.out _).trans (((cell_far (p := ⟨gb124, _, none⟩) NB126_124.out _).trans (hHeld.2.2.2.1)))))))), ((cell_far (p := ⟨gb124, _, none⟩) NB127_124.out _).trans (((cell_far (p := ⟨gb124, _, none⟩) NB127_124.out _).trans (((cell_far (p := ⟨gb124, _, none⟩) NB127_124.out _).trans (((cell_far (p := ⟨gb124, _, none⟩) NB127_124.out _).trans (hHeld.2.2.2.2.1)))))))), ((cell_far (p := ⟨gb124, _, none⟩) NB127_124.out _).trans (((cell_far (p := ⟨gb124, _, none⟩) NB127_124.out _).trans (((cell_far (p := ⟨gb124, _, none⟩) NB127_124.out _).trans (((cell_far (p := ⟨gb124, _, none⟩) NB127_124.out _).trans (hHeld.2.2.2.2.2.1)))))))), ((cell_far (p := ⟨gb124, _, none⟩) NB127_124.out _).trans (((cell_far (p := ⟨gb124, _, none⟩) NB127_124.out _).trans (((cell_far (p := ⟨gb124, _, none⟩) NB127_124.out _).trans (((cell_far (p := ⟨gb124, _, none⟩) NB127_124.out _).trans (hHeld.2.2.2.2.2.2.1)))))))), ((cell_far (p := ⟨gb124, _, none⟩) NB127_124.out _).trans (((cell_far (p := ⟨gb124, _, none⟩) NB127_124.out _).trans (((cell_far (p := ⟨gb124, _, none⟩) NB127_124.out _).trans (((cell_far (p := ⟨gb124, _, none⟩) NB127_124.out _).trans (hHeld.2.2.2.2.2.2.2))))))))⟩ (fun hHeld => ?_)
      clear hK K
      refine pure_ (i := 4) (N := some 4) (v := ?_) (a' := ?_) #[true, true, true, true, true] rfl rfl (by kernel_rfl) (fun _ _ _ h => h) (Or.inl ⟨by rfl, ?_⟩) ?_ ?_
      rotate_left
      ·
       intro w'
       go_simp
       with_reducible rfl
      rotate_left
      ·
       simp only [Act.put, List.setIfInBounds_toArray, List.set_cons_zero, List.set_cons_succ, i64_w, i32_w]
       rfl
      refine done_ (by kernel_rfl) ?_
      try go_wp2
      refine bodyPost_ret (results_list (rs := [.cell 2 24, .cell 3 24, .tmp 4]) rfl (by simp) (.cell gb123 24 #[.int .i64 a0_0, .int .i64 a0_1, .int .i64 a0_2, .bool a0_3] (0, 0) _ rfl (by (with_reducible repeat (first | refine blk_drewN ?_ _ | refine blk_drew ?_ | refine blk_alloc ?_ _)); refine blk_far ?_ NB123_124.out _; (with_reducible repeat (first | refine blk_drewN ?_ _ | refine blk_drew ?_ | refine blk_alloc ?_ _)); refine blk_far ?_ NB123_124.out _; (with_reducible repeat (first | refine blk_drewN ?_ _ | refine blk_drew ?_ | refine blk_alloc ?_ _)); refine blk_far ?_ NB123_124.out _; (with_reducible repeat (first | refine blk_drewN ?_ _ | refine blk_drew ?_ | refine blk_alloc ?_ _)); refine blk_far ?_ NB123_124.out _; (with_reducible repeat (first | refine blk_drewN ?_ _ | refine blk_drew ?_ | refine blk_alloc ?_ _)); refine blk_put (cs := #[.int .i64 a0_0, .int .i64 a0_1, .int .i64 a0_2, .bool false]) ?_ 3 _ rfl; (with_reducible repeat (first | refine blk_drewN ?_ _ | refine blk_drew ?_ | refine blk_alloc ?_ _)); refine blk_put (cs := #[.int .i64 a0_0, .int .i64 a0_1, .int .i64 0, .bool false]) ?_ 2 _ rfl; (with_reducible repeat (first | refine blk_drewN ?_ _ | refine blk_drew ?_ | refine blk_alloc ?_ _)); refine blk_put (cs := #[.int .i64 a0_0, .int .i64 0, .int .i64 0, .bool false]) ?_ 1 _ rfl; (with_reducible repeat (first | refine blk_drewN ?_ _ | refine blk_drew ?_ | refine blk_alloc ?_ _)); refine blk_put (cs := #[.int .i64 0, .int .i64 0, .int .i64 0, .bool false]) ?_ 0 _ rfl; (with_reducible repeat (first | refine blk_drewN ?_ _ | refine blk_drew ?_ | refine blk_alloc ?_ _)); exact BK123.out) Try.underlying24 rfl (by kernel_rfl) (.cell gb124 24 #[.int .i64 a0_0, .int .i64 a0_1, .int .i64 a0_2, .bool a0_3] (0, 0) _ rfl (by (with_reducible repeat (first | refine blk_drewN ?_ _ | refine blk_drew ?_ | refine blk_alloc ?_ _)); refine blk_put (cs := #[.int .i64 a0_0, .int .i64 a0_1, .int .i64 a0_2, .bool false]) ?_ 3 _ rfl; (with_reducible repeat (first | refine blk_drewN ?_ _ | refine blk_drew ?_ | refine blk_alloc ?_ _)); refine blk_put (cs := #[.int .i64 a0_0, .int .i64 a0_1, .int .i64 0, .bool false]) ?_ 2 _ rfl; (with_reducible repeat (first | refine blk_drewN ?_ _ | refine blk_drew ?_ | refine blk_alloc ?_ _)); refine blk_put (cs := #[.int .i64 a0_0, .int .i64 0, .int .i64 0, .bool false]) ?_ 1 _ rfl; (with_reducible repeat (first | refine blk_drewN ?_ _ | refine blk_drew ?_ | refine blk_alloc ?_ _)); refine blk_put (cs := #[.int .i64 0, .int .i64 0, .int .i64 0, .bool false]) ?_ 0 _ rfl; (with_reducible repeat (first | refine blk_drewN ?_ _ | refine blk_drew ?_ | refine blk_alloc ?_ _)); refine blk_far ?_ NB124_123.out _; (with_reducible repeat (first | refine blk_drewN ?_ _ | refine blk_drew ?_ | refine blk_alloc ?_ _)); refine blk_far ?_ NB124_123.out _; (with_reducible repeat (first | refine blk_drewN ?_ _ | refine blk_drew ?_ | refine blk_alloc ?_ _)); refine blk_far ?_ NB124_123.out _; (with_reducible repeat (first | refine blk_drewN ?_ _ | refine blk_drew ?_ | refine blk_alloc ?_ _)); refine blk_far ?_ NB124_123.out _; (with_reducible repeat (first | refine blk_drewN ?_ _ | refine blk_drew ?_ | refine blk_alloc ?_ _)); exact BK124.out) Try.underlying24 rfl (by kernel_rfl) (.tmp .nil)))) rfl ?_
      exact ax4


/-! ### laws_eqDate: function 7 -/
def laws_eqDate.f (a0_0 : Int) (a0_1 : Int) (a0_2 : Int) (a0_3 : Bool) (a1_0 : Int) (a1_1 : Int) (a1_2 : Int) (a1_3 : Bool) : Option (Bool) := if a0_0 = a1_0 then (if a0_1 = a1_1 then (if a0_2 = a1_2 then (if (a0_3 != a1_3) = true then (some false) else (some true)) else (some false)) else (some false)) else (some false)
set_option maxRecDepth 100000 in
theorem laws_eqDate.L0 {P : Prop} (h : P := by
  go_enter Try.func7, Try.ntmps7
  go_wp2_with (first | ((with_reducible refine gate_dst (N := 2) rfl ?_); refine box_event ?hg (N := 2) ?hd (cs := #[.int .i64 a0_0, .int .i64 a0_1, .int .i64 a0_2, .bool a0_3]) (t := 24) ?hr ?_; (case hd => rfl); (case hg => rfl); (case hr => first | (go_simp; done) | (go_simp; rfl)); intro gb130 hg w12 hbox hb; have BK130 := Aside0.mk (hbox); have GW130 := Aside0.mk (bsz hg au23); have GE130 := Aside0.mk (bsz hg au23); replace HB := Aside0.mk (below_step au23 hb); clear hb hbox hg) | ((with_reducible refine gate_dst (N := 3) rfl ?_); refine box_event ?hg (N := 3) ?hd (cs := #[.int .i64 a1_0, .int .i64 a1_1, .int .i64 a1_2, .bool a1_3]) (t := 24) ?hr ?_; (case hd => rfl); (case hg => rfl); (case hr => first | (go_simp; done) | (go_simp; rfl)); intro gb131 hg w13 hbox hb; have BK131 := Aside0.mk (hbox); have GW131 := Aside0.mk (bsz hg au20); have GE131 := Aside0.mk (bsz hg au20); replace HB := Aside0.mk (below_step au20 hb); have NB130_131 := Aside0.mk (bne (g := gb130) hg au36); have NB131_130 := Aside0.mk (ben (g := gb130) hg au36); replace BK130 := Aside0.mk (blk_below (g := gb130) au36 hb); clear hb hbox hg; have hnb14 := NB130_131.out; have hnc14 := NB131_130.out; obtain ⟨hcz15_0, hcz15_1, hcz15_2, hcz15_3, hfz15_0, hfz15_1, hfz15_2, hfz15_3⟩ := blkc4 BK130.out; obtain ⟨hcz16_0, hcz16_1, hcz16_2, hcz16_3, hfz16_0, hfz16_1, hfz16_2, hfz16_3⟩ := blkc4 BK131.out))
  go_ret
  exact ⟨by first | rfl | (simp [errW_none, errW_some] <;> rfl) | (simp [*, errW_none, errW_some] <;> rfl), by repeat (first | (with_reducible first | exact HB.out | apply below_alloc | apply pw_below_drewN | apply below_drew1 | refine below_set ?_ GE130.out | refine below_set ?_ GE131.out) | exact HB.out)⟩) : P := h
set_option maxHeartbeats 8000000 in
set_option maxRecDepth 100000 in
theorem laws_eqDate.calls (a0_0 : Int) (a0_1 : Int) (a0_2 : Int) (a0_3 : Bool) (a1_0 : Int) (a1_1 : Int) (a1_2 : Int) (a1_3 : Bool) (r : Bool) (w : World) (h : laws_eqDate.f a0_0 a0_1 a0_2 a0_3 a1_0 a1_1 a1_2 a1_3 = some r) :
  Calls Try.prog 7 #[.agg #[.int .i64 a0_0, .int .i64 a0_1, .int .i64 a0_2, .bool a0_3], .agg #[.int .i64 a1_0, .int .i64 a1_1, .int .i64 a1_2, .bool a1_3]] w fun e w' => e = .returned (.bool r) ∧ Below w.heap.size w w' := by
 have hu24 := Try.underlying24
 have HB := Aside0.mk (Below.refl w.heap.size w)
 have H : (if a0_0 = a1_0 then (if a0_1 = a1_1 then (if a0_2 = a1_2 then (if (a0_3 != a1_3) = true then (some false) else (some true)) else (some false)) else (some false)) else (some false)) = some r := h
 clear h
 by_cases c3 : a0_0 = a1_0
 ·
  rw [if_pos c3] at H
  have c3b0 : (a0_0 == a1_0) = true := beq_iff_eq.mpr c3
  have c3b1 : (a0_0 != a1_0) = false := bne_eq_false_iff_eq.mpr c3
  clear c3
  by_cases c4 : a0_1 = a1_1
  ·
   rw [if_pos c4] at H
   have c4b0 : (a0_1 == a1_1) = true := beq_iff_eq.mpr c4
   have c4b1 : (a0_1 != a1_1) = false := bne_eq_false_iff_eq.mpr c4
   clear c4
   by_cases c5 : a0_2 = a1_2
   ·
    rw [if_pos c5] at H
    have c5b0 : (a0_2 == a1_2) = true := beq_iff_eq.mpr c5
    have c5b1 : (a0_2 != a1_2) = false := bne_eq_false_iff_eq.mpr c5
    clear c5
    by_cases c6 : (a0_3 != a1_3) = true
    ·
     rw [if_pos c6] at H
     have c6b0 : (a0_3 != a1_3) = true := c6
     (try (have c6b1 : decide (a0_3 = a1_3) = false := by simpa using c6))
     (try (have c6b2 : (a0_3 == a1_3) = false := by simpa using c6))
     (try (have c6b3 : ¬ (a0_3 = a1_3) := by simpa using c6))
     clear c6
     obtain rfl := Option.some.inj H
     exact laws_eqDate.L0
    ·
     rw [if_neg c6] at H
     have c6b0 : (a0_3 != a1_3) = false := by simpa using c6
     (try (have c6b1 : decide (a0_3 = a1_3) = true := by simpa using c6))
     (try (have c6b2 : (a0_3 == a1_3) = true := by simpa using c6))
     clear c6
     obtain rfl := Option.some.inj H
     exact laws_eqDate.L0
   ·
    rw [if_neg c5] at H
    have c5b0 : (a0_2 == a1_2) = false := beq_eq_false_iff_ne.mpr c5
    have c5b1 : (a0_2 != a1_2) = true := bne_iff_ne.mpr c5
    obtain rfl := Option.some.inj H
    exact laws_eqDate.L0
  ·
   rw [if_neg c4] at H
   have c4b0 : (a0_1 == a1_1) = false := beq_eq_false_iff_ne.mpr c4
   have c4b1 : (a0_1 != a1_1) = true := bne_iff_ne.mpr c4
   obtain rfl := Option.some.inj H
   exact laws_eqDate.L0
 ·
  rw [if_neg c3] at H
  have c3b0 : (a0_0 == a1_0) = false := beq_eq_false_iff_ne.mpr c3
  have c3b1 : (a0_0 != a1_0) = true := bne_iff_ne.mpr c3
  obtain rfl := Option.some.inj H
  exact laws_eqDate.L0


/-! ### laws_FnExactDateBounds: function 3 -/
def laws_FnExactDateBounds.f (k : Nat) (a0_0 : Int) (a0_1 : Int) (a0_2 : Int) (a0_3 : Bool) : Option (Bool) := (laws_toDate.f a0_0 a0_1 a0_2 a0_3).bind fun bt133 => ((spec_DateBounds.f k bt133.1 bt133.2.1 bt133.2.2.1 bt133.2.2.2).bind fun bt137 => ((laws_toDate.f a0_0 a0_1 a0_2 a0_3).bind fun bt148 => ((impl_DateBounds.f k bt148.1 bt148.2.1 bt148.2.2.1 bt148.2.2.2).bind fun bt152 => ((laws_eqDate.f bt152.1 bt152.2.1 bt152.2.2.1 bt152.2.2.2.1 bt137.1 bt137.2.1 bt137.2.2.1 bt137.2.2.2.1).bind fun t163 => (if t163 = true then ((laws_eqDate.f bt152.2.2.2.2.1 bt152.2.2.2.2.2.1 bt152.2.2.2.2.2.2.1 bt152.2.2.2.2.2.2.2.1 bt137.2.2.2.2.1 bt137.2.2.2.2.2.1 bt137.2.2.2.2.2.2.1 bt137.2.2.2.2.2.2.2.1).bind fun t164 => (if t164 = true then (if (bt152.2.2.2.2.2.2.2.2 != bt137.2.2.2.2.2.2.2.2) = true then (some false) else (some true)) else (some false))) else (some false))))))
theorem laws_FnExactDateBounds.mono : ∀ a0 a1 a2 a3 k, LeO (laws_FnExactDateBounds.f k a0 a1 a2 a3) (laws_FnExactDateBounds.f (k + 1) a0 a1 a2 a3) := by
 intro a0 a1 a2 a3 k
 unfold laws_FnExactDateBounds.f
 repeat' first
   | (with_reducible exact impl_DateBounds.mono _ _ _ _ _)
   | (with_reducible exact spec_DateBounds.mono _ _ _ _ _)
   | (with_reducible exact LeO.refl _)
   | (with_reducible exact LeO.none _)
   | (with_reducible refine LeO.ite ?_ ?_)
   | (with_reducible refine LeO.bind ?_ (fun _ => ?_))
   | exact impl_DateBounds.mono _ _ _ _ _
   | exact spec_DateBounds.mono _ _ _ _ _
   | exact LeO.none _
   | refine LeO.ite ?_ ?_
   | refine LeO.bind ?_ (fun _ => ?_)
set_option maxHeartbeats 8000000 in
set_option maxRecDepth 100000 in
theorem laws_FnExactDateBounds.calls (k : Nat) (a0_0 : Int) (a0_1 : Int) (a0_2 : Int) (a0_3 : Bool) (w : World) (h : laws_FnExactDateBounds.f k a0_0 a0_1 a0_2 a0_3 = some true) :
  Calls Try.prog 3 #[.agg #[.int .i64 a0_0, .int .i64 a0_1, .int .i64 a0_2, .bool a0_3]] w fun e w' => e = .returned (.bool true) ∧ Below w.heap.size w w' := by
 have hu23 := Try.underlying23
 have hu24 := Try.underlying24
 have HB := Aside0.mk (Below.refl w.heap.size w)
 have H : ((laws_toDate.f a0_0 a0_1 a0_2 a0_3).bind fun bt133 => ((spec_DateBounds.f k bt133.1 bt133.2.1 bt133.2.2.1 bt133.2.2.2).bind fun bt137 => ((laws_toDate.f a0_0 a0_1 a0_2 a0_3).bind fun bt148 => ((impl_DateBounds.f k bt148.1 bt148.2.1 bt148.2.2.1 bt148.2.2.2).bind fun bt152 => ((laws_eqDate.f bt152.1 bt152.2.1 bt152.2.2.1 bt152.2.2.2.1 bt137.1 bt137.2.1 bt137.2.2.1 bt137.2.2.2.1).bind fun t163 => (if t163 = true then ((laws_eqDate.f bt152.2.2.2.2.1 bt152.2.2.2.2.2.1 bt152.2.2.2.2.2.2.1 bt152.2.2.2.2.2.2.2.1 bt137.2.2.2.2.1 bt137.2.2.2.2.2.1 bt137.2.2.2.2.2.2.1 bt137.2.2.2.2.2.2.2.1).bind fun t164 => (if t164 = true then (if (bt152.2.2.2.2.2.2.2.2 != bt137.2.2.2.2.2.2.2.2) = true then (some false) else (some true)) else (some false))) else (some false))))))) = some true := h
 clear h
 replace H := Option.bind_eq_some_iff.mp H
 obtain ⟨⟨t133, t134, t135, t136⟩, A20, H⟩ := H
 replace H : ((spec_DateBounds.f k t133 t134 t135 t136).bind fun bt137 => ((laws_toDate.f a0_0 a0_1 a0_2 a0_3).bind fun bt148 => ((impl_DateBounds.f k bt148.1 bt148.2.1 bt148.2.2.1 bt148.2.2.2).bind fun bt152 => ((laws_eqDate.f bt152.1 bt152.2.1 bt152.2.2.1 bt152.2.2.2.1 bt137.1 bt137.2.1 bt137.2.2.1 bt137.2.2.2.1).bind fun t163 => (if t163 = true then ((laws_eqDate.f bt152.2.2.2.2.1 bt152.2.2.2.2.2.1 bt152.2.2.2.2.2.2.1 bt152.2.2.2.2.2.2.2.1 bt137.2.2.2.2.1 bt137.2.2.2.2.2.1 bt137.2.2.2.2.2.2.1 bt137.2.2.2.2.2.2.2.1).bind fun t164 => (if t164 = true then (if (bt152.2.2.2.2.2.2.2.2 != bt137.2.2.2.2.2.2.2.2) = true then (some false) else (some true)) else (some false))) else (some false)))))) = some true := H
 have A2 := Aside0.mk A20
 clear A20
 replace H := Option.bind_eq_some_iff.mp H
 obtain ⟨⟨t137, t138, t139, t140, t141, t142, t143, t144, t145⟩, A30, H⟩ := H
 replace H : ((laws_toDate.f a0_0 a0_1 a0_2 a0_3).bind fun bt148 => ((impl_DateBounds.f k bt148.1 bt148.2.1 bt148.2.2.1 bt148.2.2.2).bind fun bt152 => ((laws_eqDate.f bt152.1 bt152.2.1 bt152.2.2.1 bt152.2.2.2.1 t137 t138 t139 t140).bind fun t163 => (if t163 = true then ((laws_eqDate.f bt152.2.2.2.2.1 bt152.2.2.2.2.2.1 bt152.2.2.2.2.2.2.1 bt152.2.2.2.2.2.2.2.1 t141 t142 t143 t144).bind fun t164 => (if t164 = true then (if (bt152.2.2.2.2.2.2.2.2 != t145) = true then (some false) else (some true)) else (some false))) else (some false))))) = some true := H
 have A3 := Aside0.mk A30
 clear A30
 replace H := Option.bind_eq_some_iff.mp H
 obtain ⟨⟨t148, t149, t150, t151⟩, A40, H⟩ := H
 replace H : ((impl_DateBounds.f k t148 t149 t150 t151).bind fun bt152 => ((laws_eqDate.f bt152.1 bt152.2.1 bt152.2.2.1 bt152.2.2.2.1 t137 t138 t139 t140).bind fun t163 => (if t163 = true then ((laws_eqDate.f bt152.2.2.2.2.1 bt152.2.2.2.2.2.1 bt152.2.2.2.2.2.2.1 bt152.2.2.2.2.2.2.2.1 t141 t142 t143 t144).bind fun t164 => (if t164 = true then (if (bt152.2.2.2.2.2.2.2.2 != t145) = true then (some false) else (some true)) else (some false))) else (some false)))) = some true := H
 have A4 := Aside0.mk A40
 clear A40
 replace H := Option.bind_eq_some_iff.mp H
 obtain ⟨⟨t152, t153, t154, t155, t156, t157, t158, t159, t160⟩, A50, H⟩ := H
 replace H : ((laws_eqDate.f t152 t153 t154 t155 t137 t138 t139 t140).bind fun t163 => (if t163 = true then ((laws_eqDate.f t156 t157 t158 t159 t141 t142 t143 t144).bind fun t164 => (if t164 = true then (if (t160 != t145) = true then (some false) else (some true)) else (some false))) else (some false))) = some true := H
 have A5 := Aside0.mk A50
 clear A50
 replace H := Option.bind_eq_some_iff.mp H
 obtain ⟨t163, A60, H⟩ := H
 try dsimp only at H
 have A6 := Aside0.mk A60
 clear A60
 by_cases c7 : t163 = true
 ·
  subst c7
  replace H := (if_pos rfl).symm.trans H
  replace H := Option.bind_eq_some_iff.mp H
  obtain ⟨t164, A80, H⟩ := H
  try dsimp only at H
  have A8 := Aside0.mk A80
  clear A80
  by_cases c9 : t164 = true
  ·
   subst c9
   replace H := (if_pos rfl).symm.trans H
   by_cases c10 : (t160 != t145) = true
   ·
    rw [if_pos c10] at H
    have c10b0 : (t160 != t145) = true := c10
    (try (have c10b1 : decide (t160 = t145) = false := by simpa using c10))
    (try (have c10b2 : (t160 == t145) = false := by simpa using c10))
    (try (have c10b3 : ¬ (t160 = t145) := by simpa using c10))
    clear c10
    exact absurd H (by simp)
   ·
    rw [if_neg c10] at H
    have c10b0 : (t160 != t145) = false := by simpa using c10
    (try (have c10b1 : decide (t160 = t145) = true := by simpa using c10))
    (try (have c10b2 : (t160 == t145) = true := by simpa using c10))
    clear c10
    clear H
    go_enter Try.func3, Try.ntmps3
    go_wp2_with (first | ((with_reducible refine gate_dst (N := 1) rfl ?_); refine box_event ?hg (N := 1) ?hd (cs := #[.int .i64 a0_0, .int .i64 a0_1, .int .i64 a0_2, .bool a0_3]) (t := 23) ?hr ?_; (case hd => rfl); (case hg => rfl); (case hr => first | (go_simp; done) | (go_simp; rfl)); intro gb132 hg w41 hbox hb; have BK132 := Aside0.mk (hbox); have GW132 := Aside0.mk (bsz hg au23); have GE132 := Aside0.mk (bsz hg au23); replace HB := Aside0.mk (below_step au23 hb); clear hb hbox hg; obtain ⟨hcz42_0, hcz42_1, hcz42_2, hcz42_3, hfz42_0, hfz42_1, hfz42_2, hfz42_3⟩ := blkc4 BK132.out) | ((with_reducible refine gate_callee (f := 5) rfl ?_); refine goesL_ (some 11) rfl rfl Try.func5 (by kernel_rfl) rfl #[.agg #[.int .i64 a0_0, .int .i64 a0_1, .int .i64 a0_2, .bool a0_3]] rfl au22 ?_; (with_reducible refine (laws_toDate.calls a0_0 a0_1 a0_2 a0_3 t133 t134 t135 t136 _ A2.out).mono ?_); rintro e w43 ⟨rfl, hb⟩; refine ⟨_, rfl, ?_⟩; replace BK132 := Aside0.mk (blk_below (g := gb132) au37 hb); replace HB := Aside0.mk (below_step au21 hb); (try clear hb)) | ((with_reducible refine gate_callee (f := 4) rfl ?_); refine goesL_ (some 12) rfl rfl Try.func4 (by kernel_rfl) rfl #[.agg #[.int .i64 t133, .int .i64 t134, .int .i64 t135, .bool t136]] rfl au22 ?_; (with_reducible refine (spec_DateBounds.calls k t133 t134 t135 t136 t137 t138 t139 t140 t141 t142 t143 t144 t145 _ A3.out).mono ?_); rintro e w44 ⟨rfl, hb⟩; refine ⟨_, rfl, ?_⟩; replace BK132 := Aside0.mk (blk_below (g := gb132) au37 hb); replace HB := Aside0.mk (below_step au21 hb); (try clear hb)) | ((with_reducible refine gate_dst (N := 3) rfl ?_); refine box_event ?hg (N := 3) ?hd (cs := #[.int .i64 0, .int .i64 0, .int .i64 0, .bool false]) (t := 24) ?hr ?_; (case hd => rfl); (case hg => rfl); (case hr => first | (go_simp; done) | (go_simp; rfl)); intro gb146 hg w45 hbox hb; have BK146 := Aside0.mk (hbox); have GW146 := Aside0.mk (bsz hg au21); have GE146 := Aside0.mk (bsz hg au21); replace HB := Aside0.mk (below_step au21 hb); have NB132_146 := Aside0.mk (bne (g := gb132) hg au37); have NB146_132 := Aside0.mk (ben (g := gb132) hg au37); replace BK132 := Aside0.mk (blk_below (g := gb132) au37 hb); clear hb hbox hg) | ((with_reducible refine gate_dst (N := 4) rfl ?_); refine box_event ?hg (N := 4) ?hd (cs := #[.int .i64 0, .int .i64 0, .int .i64 0, .bool false]) (t := 24) ?hr ?_; (case hd => rfl); (case hg => rfl); (case hr => first | (go_simp; done) | (go_simp; rfl)); intro gb147 hg w46 hbox hb; have BK147 := Aside0.mk (hbox); have GW147 := Aside0.mk (bsz hg au16); have GE147 := Aside0.mk (bsz hg au16); replace HB := Aside0.mk (below_step au16 hb); have NB132_147 := Aside0.mk (bne (g := gb132) hg au37); have NB147_132 := Aside0.mk (ben (g := gb132) hg au37); replace BK132 := Aside0.mk (blk_below (g := gb132) au37 hb); have NB146_147 := Aside0.mk (bne (g := gb146) hg au38); have NB147_146 := Aside0.mk (ben (g := gb146) hg au38); replace BK146 := Aside0.mk (blk_below (g := gb146) au38 hb); clear hb hbox hg; have hnb47 := NB146_132.out; have hnc47 := NB132_146.out; have hnb48 := NB146_147.out; have hnc48 := NB147_146.out; obtain ⟨hcz49_0, hcz49_1, hcz49_2, hcz49_3, hfz49_0, hfz49_1, hfz49_2, hfz49_3⟩ := blkc4 BK146.out; have hnb50 := NB147_132.out; have hnc50 := NB132_147.out; obtain ⟨hcz51_0, hcz51_1, hcz51_2, hcz51_3, hfz51_0, hfz51_1, hfz51_2, hfz51_3⟩ := blkc4 BK147.out; obtain ⟨hcz52_0, hcz52_1, hcz52_2, hcz52_3, hfz52_0, hfz52_1, hfz52_2, hfz52_3⟩ := blkc4 BK132.out) | ((with_reducible refine gate_callee (f := 5) rfl ?_); refine goesL_ (some 18) rfl rfl Try.func5 (by kernel_rfl) rfl #[.agg #[.int .i64 a0_0, .int .i64 a0_1, .int .i64 a0_2, .bool a0_3]] rfl au22 ?_; (with_reducible refine (laws_toDate.calls a0_0 a0_1 a0_2 a0_3 t148 t149 t150 t151 _ A4.out).mono ?_); rintro e w53 ⟨rfl, hb⟩; refine ⟨_, rfl, ?_⟩; replace BK132 := Aside0.mk (blk_below (g := gb132) (o := .cells #[.int .i64 a0_0, .int .i64 a0_1, .int .i64 a0_2, .bool a0_3] 23 (0, 0)) (by (with_reducible repeat (first | refine blk_drewN ?_ _ | refine blk_drew ?_ | refine blk_alloc ?_ _)); refine blk_far ?_ NB132_147.out _; (with_reducible repeat (first | refine blk_drewN ?_ _ | refine blk_drew ?_ | refine blk_alloc ?_ _)); refine blk_far ?_ NB132_147.out _; (with_reducible repeat (first | refine blk_drewN ?_ _ | refine blk_drew ?_ | refine blk_alloc ?_ _)); refine blk_far ?_ NB132_147.out _; (with_reducible repeat (first | refine blk_drewN ?_ _ | refine blk_drew ?_ | refine blk_alloc ?_ _)); refine blk_far ?_ NB132_147.out _; (with_reducible repeat (first | refine blk_drewN ?_ _ | refine blk_drew ?_ | refine blk_alloc ?_ _)); refine blk_far ?_ NB132_146.out _; (with_reducible repeat (first | refine blk_drewN ?_ _ | refine blk_drew ?_ | refine blk_alloc ?_ _)); refine blk_far ?_ NB132_146.out _; (with_reducible repeat (first | refine blk_drewN ?_ _ | refine blk_drew ?_ | refine blk_alloc ?_ _)); refine blk_far ?_ NB132_146.out _; (with_reducible repeat (first | refine blk_drewN ?_ _ | refine blk_drew ?_ | refine blk_alloc ?_ _)); refine blk_far ?_ NB132_146.out _; (with_reducible repeat (first | refine blk_drewN ?_ _ | refine blk_drew ?_ | refine blk_alloc ?_ _)); exact BK132.out) hb); replace BK146 := Aside0.mk (blk_below (g := gb146) (o := .cells #[.int .i64 t137, .int .i64 t138, .int .i64 t139, .bool t140] 24 (0, 0)) (by (with_reducible repeat (first | refine blk_drewN ?_ _ | refine blk_drew ?_ | refine blk_alloc ?_ _)); refine blk_far ?_ NB146_147.out _; (with_reducible repeat (first | refine blk_drewN ?_ _ | refine blk_drew ?_ | refine blk_alloc ?_ _)); refine blk_far ?_ NB146_147.out _; (with_reducible repeat (first | refine blk_drewN ?_ _ | refine blk_drew ?_ | refine blk_alloc ?_ _)); refine blk_far ?_ NB146_147.out _; (with_reducible repeat (first | refine blk_drewN ?_ _ | refine blk_drew ?_ | refine blk_alloc ?_ _)); refine blk_far ?_ NB146_147.out _; (with_reducible repeat (first | refine blk_drewN ?_ _ | refine blk_drew ?_ | refine blk_alloc ?_ _)); refine blk_put (cs := #[.int .i64 t137, .int .i64 t138, .int .i64 t139, .bool false]) ?_ 3 _ rfl; (with_reducible repeat (first | refine blk_drewN ?_ _ | refine blk_drew ?_ | refine blk_alloc ?_ _)); refine blk_put (cs := #[.int .i64 t137, .int .i64 t138, .int .i64 0, .bool false]) ?_ 2 _ rfl; (with_reducible repeat (first | refine blk_drewN ?_ _ | refine blk_drew ?_ | refine blk_alloc ?_ _)); refine blk_put (cs := #[.int .i64 t137, .int .i64 0, .int .i64 0, .bool false]) ?_ 1 _ rfl; (with_reducible repeat (first | refine blk_drewN ?_ _ | refine blk_drew ?_ | refine blk_alloc ?_ _)); refine blk_put (cs := #[.int .i64 0, .int .i64 0, .int .i64 0, .bool false]) ?_ 0 _ rfl; (with_reducible repeat (first | refine blk_drewN ?_ _ | refine blk_drew ?_ | refine blk_alloc ?_ _)); exact BK146.out) hb); replace BK147 := Aside0.mk (blk_below (g := gb147) (o := .cells #[.int .i64 t141, .int .i64 t142, .int .i64 t143, .bool t144] 24 (0, 0)) (by (with_reducible repeat (first | refine blk_drewN ?_ _ | refine blk_drew ?_ | refine blk_alloc ?_ _)); refine blk_put (cs := #[.int .i64 t141, .int .i64 t142, .int .i64 t143, .bool false]) ?_ 3 _ rfl; (with_reducible repeat (first | refine blk_drewN ?_ _ | refine blk_drew ?_ | refine blk_alloc ?_ _)); refine blk_put (cs := #[.int .i64 t141, .int .i64 t142, .int .i64 0, .bool false]) ?_ 2 _ rfl; (with_reducible repeat (first | refine blk_drewN ?_ _ | refine blk_drew ?_ | refine blk_alloc ?_ _)); refine blk_put (cs := #[.int .i64 t141, .int .i64 0, .int .i64 0, .bool false]) ?_ 1 _ rfl; (with_reducible repeat (first | refine blk_drewN ?_ _ | refine blk_drew ?_ | refine blk_alloc ?_ _)); refine blk_put (cs := #[.int .i64 0, .int .i64 0, .int .i64 0, .bool false]) ?_ 0 _ rfl; (with_reducible repeat (first | refine blk_drewN ?_ _ | refine blk_drew ?_ | refine blk_alloc ?_ _)); refine blk_far ?_ NB147_146.out _; (with_reducible repeat (first | refine blk_drewN ?_ _ | refine blk_drew ?_ | refine blk_alloc ?_ _)); refine blk_far ?_ NB147_146.out _; (with_reducible repeat (first | refine blk_drewN ?_ _ | refine blk_drew ?_ | refine blk_alloc ?_ _)); refine blk_far ?_ NB147_146.out _; (with_reducible repeat (first | refine blk_drewN ?_ _ | refine blk_drew ?_ | refine blk_alloc ?_ _)); refine blk_far ?_ NB147_146.out _; (with_reducible repeat (first | refine blk_drewN ?_ _ | refine blk_drew ?_ | refine blk_alloc ?_ _)); exact BK147.out) hb); replace HB := Aside0.mk (below_step au12 hb); (try clear hb)) | ((with_reducible refine gate_callee (f := 6) rfl ?_); refine goesL_ (some 19) rfl rfl Try.func6 (by kernel_rfl) rfl #[.agg #[.int .i64 t148, .int .i64 t149, .int .i64 t150, .bool t151]] rfl au22 ?_; (with_reducible refine (impl_DateBounds.calls k t148 t149 t150 t151 t152 t153 t154 t155 t156 t157 t158 t159 t160 _ A5.out).mono ?_); rintro e w54 ⟨rfl, hb⟩; refine ⟨_, rfl, ?_⟩; replace BK132 := Aside0.mk (blk_below (g := gb132) au37 hb); replace BK146 := Aside0.mk (blk_below (g := gb146) au38 hb); replace BK147 := Aside0.mk (blk_below (g := gb147) au39 hb); replace HB := Aside0.mk (below_step au12 hb); (try clear hb)) | ((with_reducible refine gate_dst (N := 6) rfl ?_); refine box_event ?hg (N := 6) ?hd (cs := #[.int .i64 0, .int .i64 0, .int .i64 0, .bool false]) (t := 24) ?hr ?_; (case hd => rfl); (case hg => rfl); (case hr => first | (go_simp; done) | (go_simp; rfl)); intro gb161 hg w55 hbox hb; have BK161 := Aside0.mk (hbox); have GW161 := Aside0.mk (bsz hg au12); have GE161 := Aside0.mk (bsz hg au12); replace HB := Aside0.mk (below_step au12 hb); have NB132_161 := Aside0.mk (bne (g := gb132) hg au37); have NB161_132 := Aside0.mk (ben (g := gb132) hg au37); replace BK132 := Aside0.mk (blk_below (g := gb132) au37 hb); have NB146_161 := Aside0.mk (bne (g := gb146) hg au38); have NB161_146 := Aside0.mk (ben (g := gb146) hg au38); replace BK146 := Aside0.mk (blk_below (g := gb146) au38 hb); have NB147_161 := Aside0.mk (bne (g := gb147) hg au39); have NB161_147 := Aside0.mk (ben (g := gb147) hg au39); replace BK147 := Aside0.mk (blk_below (g := gb147) au39 hb); clear hb hbox hg) | ((with_reducible refine gate_dst (N := 7) rfl ?_); refine box_event ?hg (N := 7) ?hd (cs := #[.int .i64 0, .int .i64 0, .int .i64 0, .bool false]) (t := 24) ?hr ?_; (case hd => rfl); (case hg => rfl); (case hr => first | (go_simp; done) | (go_simp; rfl)); intro gb162 hg w56 hbox hb; have BK162 := Aside0.mk (hbox); have GW162 := Aside0.mk (bsz hg au9); have GE162 := Aside0.mk (bsz hg au9); replace HB := Aside0.mk (below_step au9 hb); have NB132_162 := Aside0.mk (bne (g := gb132) hg au37); have NB162_132 := Aside0.mk (ben (g := gb132) hg au37); replace BK132 := Aside0.mk (blk_below (g := gb132) au37 hb); have NB146_162 := Aside0.mk (bne (g := gb146) hg au38); have NB162_146 := Aside0.mk (ben (g := gb146) hg au38); replace BK146 := Aside0.mk (blk_below (g := gb146) au38 hb); have NB147_162 := Aside0.mk (bne (g := gb147) hg au39); have NB162_147 := Aside0.mk (ben (g := gb147) hg au39); replace BK147 := Aside0.mk (blk_below (g := gb147) au39 hb); have NB161_162 := Aside0.mk (bne (g := gb161) hg au40); have NB162_161 := Aside0.mk (ben (g := gb161) hg au40); replace BK161 := Aside0.mk (blk_below (g := gb161) au40 hb); clear hb hbox hg; have hnb57 := NB161_132.out; have hnc57 := NB132_161.out; have hnb58 := NB161_146.out; have hnc58 := NB146_161.out; have hnb59 := NB161_147.out; have hnc59 := NB147_161.out; have hnb60 := NB161_162.out; have hnc60 := NB162_161.out; obtain ⟨hcz61_0, hcz61_1, hcz61_2, hcz61_3, hfz61_0, hfz61_1, hfz61_2, hfz61_3⟩ := blkc4 BK161.out; have hnb62 := NB162_132.out; have hnc62 := NB132_162.out; have hnb63 := NB162_146.out; have hnc63 := NB146_162.out; have hnb64 := NB162_147.out; have hnc64 := NB147_162.out; obtain ⟨hcz65_0, hcz65_1, hcz65_2, hcz65_3, hfz65_0, hfz65_1, hfz65_2, hfz65_3⟩ := blkc4 BK162.out; obtain ⟨hcz66_0, hcz66_1, hcz66_2, hcz66_3, hfz66_0, hfz66_1, hfz66_2, hfz66_3⟩ := blkc4 BK146.out) | ((with_reducible refine gate_callee (f := 7) rfl ?_); refine goesL_ (some 25) rfl rfl Try.func7 (by kernel_rfl) rfl #[.agg #[.int .i64 t152, .int .i64 t153, .int .i64 t154, .bool t155], .agg #[.int .i64 t137, .int .i64 t138, .int .i64 t139, .bool t140]] rfl au22 ?_; (with_reducible refine (laws_eqDate.calls t152 t153 t154 t155 t137 t138 t139 t140 true _ A6.out).mono ?_); rintro e w67 ⟨rfl, hb⟩; refine ⟨_, rfl, ?_⟩; replace BK132 := Aside0.mk (blk_below (g := gb132) (o := .cells #[.int .i64 a0_0, .int .i64 a0_1, .int .i64 a0_2, .bool a0_3] 23 (0, 0)) (by (with_reducible repeat (first | refine blk_drewN ?_ _ | refine blk_drew ?_ | refine blk_alloc ?_ _)); refine blk_far ?_ NB132_162.out _; (with_reducible repeat (first | refine blk_drewN ?_ _ | refine blk_drew ?_ | refine blk_alloc ?_ _)); refine blk_far ?_ NB132_162.out _; (with_reducible repeat (first | refine blk_drewN ?_ _ | refine blk_drew ?_ | refine blk_alloc ?_ _)); refine blk_far ?_ NB132_162.out _; (with_reducible repeat (first | refine blk_drewN ?_ _ | refine blk_drew ?_ | refine blk_alloc ?_ _)); refine blk_far ?_ NB132_162.out _; (with_reducible repeat (first | refine blk_drewN ?_ _ | refine blk_drew ?_ | refine blk_alloc ?_ _)); refine blk_far ?_ NB132_161.out _; (with_reducible repeat (first | refine blk_drewN ?_ _ | refine blk_drew ?_ | refine blk_alloc ?_ _)); refine blk_far ?_ NB132_161.out _; (with_reducible repeat (first | refine blk_drewN ?_ _ | refine blk_drew ?_ | refine blk_alloc ?_ _)); refine blk_far ?_ NB132_161.out _; (with_reducible repeat (first | refine blk_drewN ?_ _ | refine blk_drew ?_ | refine blk_alloc ?_ _)); refine blk_far ?_ NB132_161.out _; (with_reducible repeat (first | refine blk_drewN ?_ _ | refine blk_drew ?_ | refine blk_alloc ?_ _)); exact BK132.out) hb); replace BK146 := Aside0.mk (blk_below (g := gb146) (o := .cells #[.int .i64 t137, .int .i64 t138, .int .i64 t139, .bool t140] 24 (0, 0)) (by (with_reducible repeat (first | refine blk_drewN ?_ _ | refine blk_drew ?_ | refine blk_alloc ?_ _)); refine blk_far ?_ NB146_162.out _; (with_reducible repeat (first | refine blk_drewN ?_ _ | refine blk_drew ?_ | refine blk_alloc ?_ _)); refine blk_far ?_ NB146_162.out _; (with_reducible repeat (first | refine blk_drewN ?_ _ | refine blk_drew ?_ | refine blk_alloc ?_ _)); refine blk_far ?_ NB146_162.out _; (with_reducible repeat (first | refine blk_drewN ?_ _ | refine blk_drew ?_ | refine blk_alloc ?_ _)); refine blk_far ?_ NB146_162.out _; (with_reducible repeat (first | refine blk_drewN ?_ _ | refine blk_drew ?_ | refine blk_alloc ?_ _)); refine blk_far ?_ NB146_161.out _; (with_reducible repeat (first | refine blk_drewN ?_ _ | refine blk_drew ?_ | refine blk_alloc ?_ _)); refine blk_far ?_ NB146_161.out _; (with_reducible repeat (first | refine blk_drewN ?_ _ | refine blk_drew ?_ | refine blk_alloc ?_ _)); refine blk_far ?_ NB146_161.out _; (with_reducible repeat (first | refine blk_drewN ?_ _ | refine blk_drew ?_ | refine blk_alloc ?_ _)); refine blk_far ?_ NB146_161.out _; (with_reducible repeat (first | refine blk_drewN ?_ _ | refine blk_drew ?_ | refine blk_alloc ?_ _)); exact BK146.out) hb); replace BK147 := Aside0.mk (blk_below (g := gb147) (o := .cells #[.int .i64 t141, .int .i64 t142, .int .i64 t143, .bool t144] 24 (0, 0)) (by (with_reducible repeat (first | refine blk_drewN ?_ _ | refine blk_drew ?_ | refine blk_alloc ?_ _)); refine blk_far ?_ NB147_162.out _; (with_reducible repeat (first | refine blk_drewN ?_ _ | refine blk_drew ?_ | refine blk_alloc ?_ _)); refine blk_far ?_ NB147_162.out _; (with_reducible repeat (first | refine blk_drewN ?_ _ | refine blk_drew ?_ | refine blk_alloc ?_ _)); refine blk_far ?_ NB147_162.out _; (with_reducible repeat (first | refine blk_drewN ?_ _ | refine blk_drew ?_ | refine blk_alloc ?_ _)); refine blk_far ?_ NB147_162.out _; (with_reducible repeat (first | refine blk_drewN ?_ _ | refine blk_drew ?_ | refine blk_alloc ?_ _)); refine blk_far ?_ NB147_161.out _; (with_reducible repeat (first | refine blk_drewN ?_ _ | refine blk_drew ?_ | refine blk_alloc ?_ _)); refine blk_far ?_ NB147_161.out _; (with_reducible repeat (first | refine blk_drewN ?_ _ | refine blk_drew ?_ | refine blk_alloc ?_ _)); refine blk_far ?_ NB147_161.out _; (with_reducible repeat (first | refine blk_drewN ?_ _ | refine blk_drew ?_ | refine blk_alloc ?_ _)); refine blk_far ?_ NB147_161.out _; (with_reducible repeat (first | refine blk_drewN ?_ _ | refine blk_drew ?_ | refine blk_alloc ?_ _)); exact BK147.out) hb); replace BK161 := Aside0.mk (blk_below (g := gb161) (o := .cells #[.int .i64 t152, .int .i64 t153, .int .i64 t154, .bool t155] 24 (0, 0)) (by (with_reducible repeat (first | refine blk_drewN ?_ _ | refine blk_drew ?_ | refine blk_alloc ?_ _)); refine blk_far ?_ NB161_162.out _; (with_reducible repeat (first | refine blk_drewN ?_ _ | refine blk_drew ?_ | refine blk_alloc ?_ _)); refine blk_far ?_ NB161_162.out _; (with_reducible repeat (first | refine blk_drewN ?_ _ | refine blk_drew ?_ | refine blk_alloc ?_ _)); refine blk_far ?_ NB161_162.out _; (with_reducible repeat (first | refine blk_drewN ?_ _ | refine blk_drew ?_ | refine blk_alloc ?_ _)); refine blk_far ?_ NB161_162.out _; (with_reducible repeat (first | refine blk_drewN ?_ _ | refine blk_drew ?_ | refine blk_alloc ?_ _)); refine blk_put (cs := #[.int .i64 t152, .int .i64 t153, .int .i64 t154, .bool false]) ?_ 3 _ rfl; (with_reducible repeat (first | refine blk_drewN ?_ _ | refine blk_drew ?_ | refine blk_alloc ?_ _)); refine blk_put (cs := #[.int .i64 t152, .int .i64 t153, .int .i64 0, .bool false]) ?_ 2 _ rfl; (with_reducible repeat (first | refine blk_drewN ?_ _ | refine blk_drew ?_ | refine blk_alloc ?_ _)); refine blk_put (cs := #[.int .i64 t152, .int .i64 0, .int .i64 0, .bool false]) ?_ 1 _ rfl; (with_reducible repeat (first | refine blk_drewN ?_ _ | refine blk_drew ?_ | refine blk_alloc ?_ _)); refine blk_put (cs := #[.int .i64 0, .int .i64 0, .int .i64 0, .bool false]) ?_ 0 _ rfl; (with_reducible repeat (first | refine blk_drewN ?_ _ | refine blk_drew ?_ | refine blk_alloc ?_ _)); exact BK161.out) hb); replace BK162 := Aside0.mk (blk_below (g := gb162) (o := .cells #[.int .i64 t156, .int .i64 t157, .int .i64 t158, .bool t159] 24 (0, 0)) (by (with_reducible repeat (first | refine blk_drewN ?_ _ | refine blk_drew ?_ | refine blk_alloc ?_ _)); refine blk_put (cs := #[.int .i64 t156, .int .i64 t157, .int .i64 t158, .bool false]) ?_ 3 _ rfl; (with_reducible repeat (first | refine blk_drewN ?_ _ | refine blk_drew ?_ | refine blk_alloc ?_ _)); refine blk_put (cs := #[.int .i64 t156, .int .i64 t157, .int .i64 0, .bool false]) ?_ 2 _ rfl; (with_reducible repeat (first | refine blk_drewN ?_ _ | refine blk_drew ?_ | refine blk_alloc ?_ _)); refine blk_put (cs := #[.int .i64 t156, .int .i64 0, .int .i64 0, .bool false]) ?_ 1 _ rfl; (with_reducible repeat (first | refine blk_drewN ?_ _ | refine blk_drew ?_ | refine blk_alloc ?_ _)); refine blk_put (cs := #[.int .i64 0, .int .i64 0, .int .i64 0, .bool false]) ?_ 0 _ rfl; (with_reducible repeat (first | refine blk_drewN ?_ _ | refine blk_drew ?_ | refine blk_alloc ?_ _)); refine blk_far ?_ NB162_161.out _; (with_reducible repeat (first | refine blk_drewN ?_ _ | refine blk_drew ?_ | refine blk_alloc ?_ _)); refine blk_far ?_ NB162_161.out _; (with_reducible repeat (first | refine blk_drewN ?_ _ | refine blk_drew ?_ | refine blk_alloc ?_ _)); refine blk_far ?_ NB162_161.out _; (with_reducible repeat (first | refine blk_drewN ?_ _ | refine blk_drew ?_ | refine blk_alloc ?_ _)); refine blk_far ?_ NB162_161.out _; (with_reducible repeat (first | refine blk_drewN ?_ _ | refine blk_drew ?_ | refine blk_alloc ?_ _)); exact BK162.out) hb); replace HB := Aside0.mk (below_step au4 hb); (try clear hb); obtain ⟨hcz68_0, hcz68_1, hcz68_2, hcz68_3, hfz68_0, hfz68_1, hfz68_2, hfz68_3⟩ := blkc4 BK162.out; obtain ⟨hcz69_0, hcz69_1, hcz69_2, hcz69_3, hfz69_0, hfz69_1, hfz69_2, hfz69_3⟩ := blkc4 BK147.out) | (go_at_call 7; (with_reducible refine (laws_eqDate.calls t156 t157 t158 t159 t141 t142 t143 t144 true _ A8.out).mono ?_); rintro e w70 ⟨rfl, hb⟩; replace BK132 := Aside0.mk (blk_below (g := gb132) au37 hb); replace BK146 := Aside0.mk (blk_below (g := gb146) au38 hb); replace BK147 := Aside0.mk (blk_below (g := gb147) au39 hb); replace BK161 := Aside0.mk (blk_below (g := gb161) au40 hb); replace BK162 := Aside0.mk (blk_below (g := gb162) (by (with_reducible repeat (first | refine blk_drewN ?_ _ | refine blk_drew ?_ | refine blk_alloc ?_ _)); exact BK162.out) hb); replace HB := Aside0.mk (below_step au4 hb); (try clear hb)))
    go_ret
    exact ⟨by first | rfl | (simp [errW_none, errW_some] <;> rfl) | (simp [*, errW_none, errW_some] <;> rfl), by repeat (first | (with_reducible first | exact HB.out | apply below_alloc | apply pw_below_drewN | apply below_drew1 | refine below_set ?_ GE132.out | refine below_set ?_ GE146.out | refine below_set ?_ GE147.out | refine below_set ?_ GE161.out | refine below_set ?_ GE162.out) | exact HB.out)⟩
  ·
   replace c9 := Bool.eq_false_iff.mpr c9
   subst c9
   replace H := (if_neg (show ¬ (false = true) by decide)).symm.trans H
   exact absurd H (by simp)
 ·
  replace c7 := Bool.eq_false_iff.mpr c7
  subst c7
  replace H := (if_neg (show ¬ (false = true) by decide)).symm.trans H
  exact absurd H (by simp)

end Go.Proofs.Ytahjjkfcgfjeaaa.G

namespace Go.Proofs.Ytahjjkfcgfjeaaa.Opn
open Go.RowKit Go.Proofs.YtahjjkfcgfjeaaaW.PrintWords
set_option linter.unusedVariables false
set_option linter.unusedSimpArgs false
variable {H : Type} {enc : TypeId × Value → H} {P : Program} {w : World} {base : Nat} {spare : Nat → Bool} {held : Bool}
def okInt (k : IntKind) (n : Int) : Prop := (Lit.int k n).wf = true
def okBool (_ : Bool) : Prop := True
theorem of_int {t : TypeId} {k : IntKind} {fuel : Nat} {cs : List Value} {x : DataW H × List MemPlace} (ht : P.underlying t = some (.int k)) (h : DataW.trod enc P w base spare held fuel t cs = some x) :
    ∃ n, (Kd.int k).K w n cs ∧ okInt k n := by
  obtain ⟨n, rfl, rfl, hw⟩ := DataW.trod_int ht h
  exact ⟨n, rfl, hw⟩
theorem of_bool {t : TypeId} {fuel : Nat} {cs : List Value} {x : DataW H × List MemPlace} (ht : P.underlying t = some .bool) (h : DataW.trod enc P w base spare held fuel t cs = some x) :
    ∃ n, Kd.bool.K w n cs ∧ okBool n := by
  cases fuel with
  | zero => simp [DataW.trod] at h
  | succ fuel =>
    match cs with
    | [] => simp [DataW.trod, ht] at h
    | [v] => cases v <;> simp [DataW.trod, ht] at h; exact ⟨_, rfl, trivial⟩
    | _ :: _ :: _ => simp [DataW.trod, ht] at h
theorem mapM_all {α β : Type} {f : α → Option β} : ∀ {l : List α} {ys : List β}, l.mapM f = some ys → ∀ x ∈ l, ∃ y, f x = some y
  | [], _, _, x, hx => by simp at hx
  | a :: l, ys, h, x, hx => by
    rw [List.mapM_cons] at h
    simp only [Option.bind_eq_bind, Option.bind_eq_some_iff] at h
    obtain ⟨y, h1, ys', h2, _⟩ := h
    rcases List.mem_cons.1 hx with rfl | hx
    · exact ⟨y, h1⟩
    · exact mapM_all h2 x hx
theorem of_fields {t : TypeId} {fs : Array Field} {fuel : Nat} {cs : List Value} {x : DataW H × List MemPlace} (ht : P.underlying t = some (.struct fs)) (h : DataW.trod enc P w base spare held fuel t cs = some x) :
    cs.length = P.cellsOf t ∧ ∃ n, ∀ f ∈ fs.toList, ∃ y, DataW.trod enc P w base spare held n f.type ((cs.drop f.offset).take (P.cellsOf f.type)) = some y := by
  cases fuel with
  | zero => simp [DataW.trod] at h
  | succ fuel =>
    simp only [DataW.trod, ht] at h
    split at h
    · rename_i hl
      refine ⟨hl, fuel, ?_⟩
      simp only [Option.map_eq_some_iff] at h
      obtain ⟨ys, h1, _⟩ := h
      exact mapM_all h1
    · simp at h
theorem pair_K {α β : Type} {a : Kd α} {b : Kd β} {x : α} {y : β} {cs : List Value} {n : Nat} (off : Nat) (hn : a.sz = n) (h0 : a.K w x ((cs.drop off).take n)) (h1 : b.K w y (cs.drop (off + n))) : (Kd.pair a b).K w (x, y) (cs.drop off) :=
  ⟨_, _, by rw [← List.drop_drop]; exact (List.take_append_drop n (cs.drop off)).symm, h0, h1⟩
theorem last_K {α : Type} {a : Kd α} {x : α} {cs : List Value} {n : Nat} (off : Nat) (hl : cs.length = off + n) (h0 : a.K w x ((cs.drop off).take n)) : a.K w x (cs.drop off) := by
  rwa [List.take_of_length_le (by rw [List.length_drop]; omega)] at h0
end Go.Proofs.Ytahjjkfcgfjeaaa.Opn

namespace Go.Proofs.Ytahjjkfcgfjeaaa.G
open Go.Proofs.Ytahjjkfcgfjeaaa.Opn
open Go.RowKit Go.Proofs.YtahjjkfcgfjeaaaW.PrintWords Go.Proofs.YtahjjkfcgfjeaaaW.PrintLast Go.Proofs.YtahjjkfcgfjeaaaW.PrintMore
open Go.Proofs.Ytahjjkfcgfjeaaa.Gl Go.Proofs.Ytahjjkfcgfjeaaa.Ext
attribute [local go_sem] max2_int min2_int max_two min_two max_three min_three max_four min_four   -- for this text's walks alone
set_option linter.unusedVariables false
set_option linter.unusedSimpArgs false

theorem cells3 : Try.prog.cellsOf 3 = 1 := by kernel_rfl
theorem cells4 : Try.prog.cellsOf 4 = 1 := by kernel_rfl
theorem cells23 : Try.prog.cellsOf 23 = 4 := by kernel_rfl
def ok23 (y : S23) : Prop := okInt .i64 y.f0 ∧ okInt .i64 y.f1 ∧ okInt .i64 y.f2 ∧ okBool y.f3
theorem of_T23 {H : Type} {enc : TypeId × Value → H} {w : World} {base : Nat} {spare : Nat → Bool} {held : Bool} {fuel : Nat} {cs : List Value} {x : DataW H × List MemPlace} (h : DataW.trod enc Try.prog w base spare held fuel 23 cs = some x) : ∃ y : S23, k23.K w y cs ∧ ok23 y := by
  obtain ⟨hl, n, hf⟩ := of_fields Try.underlying23 h
  rw [cells23] at hl
  simp only [List.mem_cons, List.not_mem_nil, or_false, forall_eq_or_imp, forall_eq] at hf
  obtain ⟨⟨y0, f0⟩, ⟨y1, f1⟩, ⟨y2, f2⟩, ⟨y3, f3⟩⟩ := hf
  rw [cells3] at f0
  obtain ⟨x0, g0, b0⟩ := of_int Try.underlying3 f0
  rw [cells3] at f1
  obtain ⟨x1, g1, b1⟩ := of_int Try.underlying3 f1
  rw [cells3] at f2
  obtain ⟨x2, g2, b2⟩ := of_int Try.underlying3 f2
  rw [cells4] at f3
  obtain ⟨x3, g3, b3⟩ := of_bool Try.underlying4 f3
  exact ⟨⟨x0, x1, x2, x3⟩, (pair_K (n := 1) 0 rfl g0 (pair_K (n := 1) 1 rfl g1 (pair_K (n := 1) 2 rfl g2 (last_K (n := 1) 3 hl g3)))), ⟨b0, b1, b2, b3⟩⟩

def laws_FnExactDateBounds.Pur : Prop := ∀ (a0_0 : Int) (a0_1 : Int) (a0_2 : Int) (a0_3 : Bool), okInt .i64 a0_0 → okInt .i64 a0_1 → okInt .i64 a0_2 → ∃ k, laws_FnExactDateBounds.f k a0_0 a0_1 a0_2 a0_3 = some true
theorem laws_FnExactDateBounds.wlk (P : laws_FnExactDateBounds.Pur) (a0_0 : Int) (a0_1 : Int) (a0_2 : Int) (a0_3 : Bool) (w : World)  (ba0_0 : okInt .i64 a0_0) (ba0_1 : okInt .i64 a0_1) (ba0_2 : okInt .i64 a0_2) :
    Calls Try.prog 3 #[.agg #[.int .i64 a0_0, .int .i64 a0_1, .int .i64 a0_2, .bool a0_3]] w fun e w' => e = .returned (.bool true) ∧ Below w.heap.size w w' := by
  obtain ⟨k, h⟩ := P a0_0 a0_1 a0_2 a0_3 ba0_0 ba0_1 ba0_2
  refine (laws_FnExactDateBounds.calls k a0_0 a0_1 a0_2 a0_3 w  h).mono ?_
  rintro e w' ⟨rfl, hd⟩
  exact ⟨rfl, hd⟩

end Go.Proofs.Ytahjjkfcgfjeaaa.G
