/- Texts of this session for the law FnDateForms, put together by a program (merge.py): each ends with its namespace; conditions stand with each theorem. -/
import Derived.Test.YtmjmjfkjlblgaaaDoorKFnDateForms2
namespace Go.Proofs.YtmjmjfkjlblgaaaDoor.G
open Go.RowKit Go.Proofs.YtmjmjfkjlblgaaaDoorW.PrintWords Go.Proofs.YtmjmjfkjlblgaaaDoorW.PrintLast Go.Proofs.YtmjmjfkjlblgaaaDoorW.PrintMore
open Go.Proofs.YtmjmjfkjlblgaaaDoor.Gl Go.Proofs.YtmjmjfkjlblgaaaDoor.Ext
attribute [local go_sem] max2_int min2_int max_two min_two max_three min_three max_four min_four   -- for this text's walks alone
set_option linter.unusedVariables false
set_option linter.unusedSimpArgs false

/-! ### spec_l1Cur_date: function 54 -/
def spec_l1Cur_date.f (s0_0 : List Int) (s0_1 : Int) (s0_2 : Int) : Option (Int × Int × Int × Bool × Int × Int) := (spec_l1Cur_among.f s0_0 s0_1 s0_2 (([1999, 2000, 1850, 987, 1900, 2024] : List Int))).bind fun bt296 => ((spec_l1Cur_pick.f s0_0 bt296.2.1 bt296.2.2 5).bind fun bt300 => (if bt300.1 = 0 then (some (0, 0, 0, false, bt300.2.1, bt300.2.2)) else (if bt300.1 = 1 then (some (bt296.1, 0, 0, true, bt300.2.1, bt300.2.2)) else (if bt300.1 = 2 then ((spec_l1Cur_pick.f s0_0 bt300.2.1 bt300.2.2 12).bind fun bt303 => (some (bt296.1, wrap64 (1 + bt303.1), 0, false, bt303.2.1, bt303.2.2))) else (if bt300.1 = 3 then ((spec_l1Cur_pick.f s0_0 bt300.2.1 bt300.2.2 12).bind fun bt306 => ((spec_l1Cur_pick.f s0_0 bt306.2.1 bt306.2.2 28).bind fun bt309 => (some (bt296.1, wrap64 (1 + bt306.1), wrap64 (1 + bt309.1), false, bt309.2.1, bt309.2.2)))) else (some (bt296.1, 0, 0, false, bt300.2.1, bt300.2.2)))))))
set_option maxRecDepth 100000 in
theorem spec_l1Cur_date.L0 {P : Prop} (h : P := by
  go_enter Tryd.func54, Tryd.ntmps54
  go_wp2_with (first | ((with_reducible refine gate_dst (N := 2) rfl ?_); refine box_event ?hg (N := 2) ?hd (cs := #[.int .i64 0, .int .i64 0, .int .i64 0, .bool false]) (t := 33) ?hr ?_; (case hd => rfl); (case hg => rfl); (case hr => first | (go_simp; done) | (go_simp; rfl)); intro gb292 hg w18 hbox hb; replace HB := Aside0.mk (below_step au82 hb); have BK292 := Aside0.mk (hbox); have GW292 := Aside0.mk ((by rw [hg]; exact (keep_size (w := w) (g := g) (row := none) au99) : w.heap.size ≤ gb292)); have GE292 := Aside0.mk ((Nat.le_trans HW0.out (by rw [hg]; exact (keep_size (w := w) (g := g) (row := none) au99) : w.heap.size ≤ gb292) : w0.heap.size ≤ gb292)); replace HK := Aside0.mk (KeepBut.trans au99 (KeepBut.of_below hb g none) (.inl rfl)); have NB0_292 := Aside0.mk ((by rw [hg]; exact Nat.ne_of_lt (IsS51.lt (show IsS51 w0 _ g s0_0 s0_1 s0_2 from by repeat (first | (with_reducible first | exact HI0.out | apply IsS51.alloc | apply IsS51.drewN | apply IsS51.drew | apply IsS51.set_1 | apply IsS51.set_2) | exact HI0.out))) : g ≠ gb292)); have NB292_0 := Aside0.mk ((by rw [hg]; exact Nat.ne_of_gt (IsS51.lt (show IsS51 w0 _ g s0_0 s0_1 s0_2 from by repeat (first | (with_reducible first | exact HI0.out | apply IsS51.alloc | apply IsS51.drewN | apply IsS51.drew | apply IsS51.set_1 | apply IsS51.set_2) | exact HI0.out))) : gb292 ≠ g)); replace HI0 := Aside0.mk (IsS51.below au83 hb); clear hb hbox hg) | ((with_reducible refine gate_dst (N := 5) rfl ?_); refine Kd.R_lit (Kd.int .i64) _ 3 ?hg (N := 5) ?hd (xs := ([1999, 2000, 1850, 987, 1900, 2024] : List Int)) (inner := [.int .i64 1999, .int .i64 2000, .int .i64 1850, .int .i64 987, .int .i64 1900, .int .i64 2024]) (ok := fun _ => True) (okp := fun _ => True) ?hr ?hp (fun _ hk => hk) trivial (Below.refl _ _) (Nat.le_refl _) (by simp) ?_; (case hd => rfl); (case hg => rfl); (case hr => first | (go_simp; done) | (go_simp; rfl)); (case hp => exact (Reps.one (show Kd.M (Kd.int .i64) _ _ _ 1999 [.int .i64 1999] from rfl) (Reps.one (show Kd.M (Kd.int .i64) _ _ _ 2000 [.int .i64 2000] from rfl) (Reps.one (show Kd.M (Kd.int .i64) _ _ _ 1850 [.int .i64 1850] from rfl) (Reps.one (show Kd.M (Kd.int .i64) _ _ _ 987 [.int .i64 987] from rfl) (Reps.one (show Kd.M (Kd.int .i64) _ _ _ 1900 [.int .i64 1900] from rfl) (Reps.one (show Kd.M (Kd.int .i64) _ _ _ 2024 [.int .i64 2024] from rfl) (Reps.none _ _)))))))); intro v294 w19 ho20 hb hg_ hnew_; clear hg_ hnew_; (first | rw [← Ny293.out] at ho20 | (simp only [Int.reduceToNat] at ho20; rw [← Ny293.out] at ho20)); have HO295 := Aside0.mk (Kd.R_lower ho20 (keep_size (w := w) (g := g) (row := none) au77)); replace BK292 := Aside0.mk (blk_below (g := gb292) au108 hb); replace HK := Aside0.mk (KeepBut.trans au77 (KeepBut.of_below hb g none) (.inl rfl)); replace HB := Aside0.mk (below_step au65 hb); replace HI0 := Aside0.mk (IsS51.below au62 hb); clear hb ho20; obtain ⟨Ao21, co21, eo21⟩ := Kd.R_slice HO295.out; subst eo21) | ((with_reducible refine gate_callee (f := 30) rfl ?_); refine goesL_ (some 6) rfl rfl Tryd.func30 (by kernel_rfl) rfl #[.pointer (some ⟨g, 0, none⟩), .slice Ao21 y293.length co21] rfl au100 ?_; (with_reducible refine (spec_l1Cur_among.calls g s0_0 s0_1 s0_2 _ _ y293 t296 t297 t298 w0 _ ?side1 ?side2 ?side3 ?side4 ?side5 A2.out).mono ?_); (case side1 => repeat (first | (with_reducible first | exact HI0.out | apply IsS51.alloc | apply IsS51.drewN | apply IsS51.drew | apply IsS51.set_1 | apply IsS51.set_2 | refine IsS51.far ?_ NB0_292.out _) | exact HI0.out)); (case side2 => repeat (first | (with_reducible first | exact HB.out | apply below_alloc | apply pw_below_drewN | apply below_drew1 | refine below_set ?_ (IsS51.ge HI0.out) | refine below_set ?_ GE292.out) | exact HB.out)); (case side3 => repeat (first | exact (Kd.R_reads' HO295.out).2.2 | (with_reducible refine Kd.C_alloc ?_ _) | (with_reducible refine Kd.C_drewN ?_ _) | (with_reducible refine Kd.C_drew ?_))); (case side4 => exact (Kd.R_reads' HO295.out).2.1); (case side5 => exact far_slice (IsS51.own_ne HI0.out HO295.out (by decide))); rintro e w22 ⟨rfl, hi, hb, hk⟩; refine ⟨_, rfl, ?_⟩; replace BK292 := Aside0.mk (KeepBut.blk hk (g' := gb292) (o := .cells #[.int .i64 0, .int .i64 0, .int .i64 0, .bool false] 33 (0, 0)) au108 NB292_0.out (by simp)); replace HO295 := Aside0.mk (Kd.R_mono (Kd.R_keep (IsS51.apart (show IsS51 w0 _ g s0_0 s0_1 s0_2 from by repeat (first | (with_reducible first | exact HI0.out | apply IsS51.alloc | apply IsS51.drewN | apply IsS51.drew | apply IsS51.set_1 | apply IsS51.set_2 | refine IsS51.far ?_ NB0_292.out _) | exact HI0.out)) au146 (by decide)) hk (fun _ h => h.2)) (fun _ h => h.1)); replace HK := Aside0.mk (KeepBut.trans au77 hk (.inl rfl)); replace HB := Aside0.mk (hb); replace HI0 := Aside0.mk (hi); (try clear hb); (try clear hk); (try clear hi)) | ((with_reducible refine gate_dst (N := 3) rfl ?_); refine box_event ?hg (N := 3) ?hd (cs := #[.int .i64 0, .int .i64 0, .int .i64 0, .bool false]) (t := 33) ?hr ?_; (case hd => rfl); (case hg => rfl); (case hr => first | (go_simp; done) | (go_simp; rfl)); intro gb299 hg w23 hbox hb; replace HO295 := Aside0.mk (Kd.R_below au146 hb); replace HB := Aside0.mk (below_step au65 hb); have BK299 := Aside0.mk (hbox); have GW299 := Aside0.mk ((by rw [hg]; exact (keep_size (w := w) (g := g) (row := none) au77) : w.heap.size ≤ gb299)); have GE299 := Aside0.mk ((Nat.le_trans HW0.out (by rw [hg]; exact (keep_size (w := w) (g := g) (row := none) au77) : w.heap.size ≤ gb299) : w0.heap.size ≤ gb299)); replace HK := Aside0.mk (KeepBut.trans au77 (KeepBut.of_below hb g none) (.inl rfl)); have NB292_299 := Aside0.mk (bne (g := gb292) hg au108); have NB299_292 := Aside0.mk (ben (g := gb292) hg au108); replace BK292 := Aside0.mk (blk_below (g := gb292) au108 hb); have NB0_299 := Aside0.mk ((by rw [hg]; exact Nat.ne_of_lt (IsS51.lt (show IsS51 w0 _ g s0_0 t297 t298 from by repeat (first | (with_reducible first | exact HI0.out | apply IsS51.alloc | apply IsS51.drewN | apply IsS51.drew | apply IsS51.set_1 | apply IsS51.set_2 | refine IsS51.far ?_ NB0_292.out _) | exact HI0.out))) : g ≠ gb299)); have NB299_0 := Aside0.mk ((by rw [hg]; exact Nat.ne_of_gt (IsS51.lt (show IsS51 w0 _ g s0_0 t297 t298 from by repeat (first | (with_reducible first | exact HI0.out | apply IsS51.alloc | apply IsS51.drewN | apply IsS51.drew | apply IsS51.set_1 | apply IsS51.set_2 | refine IsS51.far ?_ NB0_292.out _) | exact HI0.out))) : gb299 ≠ g)); replace HI0 := Aside0.mk (IsS51.below au62 hb); clear hb hbox hg; have hnb24 := NB299_292.out; have hnc24 := NB292_299.out; have hnb25 := NB299_0.out; have hnc25 := NB0_299.out; obtain ⟨hcz26_0, hcz26_1, hcz26_2, hcz26_3, hfz26_0, hfz26_1, hfz26_2, hfz26_3⟩ := blkc4 BK299.out) | ((with_reducible refine gate_callee (f := 31) rfl ?_); refine goesL_ (some 9) rfl rfl Tryd.func31 (by kernel_rfl) rfl #[.pointer (some ⟨g, 0, none⟩), .int .i64 5] rfl au100 ?_; (with_reducible refine (spec_l1Cur_pick.calls g s0_0 t297 t298 5 t300 t301 t302 w0 _ ?side1 ?side2 A3.out).mono ?_); (case side1 => repeat (first | (with_reducible first | exact HI0.out | apply IsS51.alloc | apply IsS51.drewN | apply IsS51.drew | apply IsS51.set_1 | apply IsS51.set_2 | refine IsS51.far ?_ NB0_292.out _ | refine IsS51.far ?_ NB0_299.out _) | exact HI0.out)); (case side2 => repeat (first | (with_reducible first | exact HB.out | apply below_alloc | apply pw_below_drewN | apply below_drew1 | refine below_set ?_ (IsS51.ge HI0.out) | refine below_set ?_ GE292.out | refine below_set ?_ GE299.out) | exact HB.out)); rintro e w27 ⟨rfl, hi, hb, hk⟩; refine ⟨_, rfl, ?_⟩; replace BK292 := Aside0.mk (KeepBut.blk hk (g' := gb292) (o := .cells #[.int .i64 0, .int .i64 0, .int .i64 0, .bool false] 33 (0, 0)) au28 NB292_0.out (by simp)); replace HO295 := Aside0.mk (Kd.R_mono (Kd.R_keep (IsS51.apart (show IsS51 w0 _ g s0_0 t297 t298 from by repeat (first | (with_reducible first | exact HI0.out | apply IsS51.alloc | apply IsS51.drewN | apply IsS51.drew | apply IsS51.set_1 | apply IsS51.set_2 | refine IsS51.far ?_ NB0_292.out _ | refine IsS51.far ?_ NB0_299.out _) | exact HI0.out)) au37 (by decide)) hk (fun _ h => h.2)) (fun _ h => h.1)); replace BK299 := Aside0.mk (KeepBut.blk hk (g' := gb299) (o := .cells #[.int .i64 t296, .int .i64 0, .int .i64 0, .bool false] 33 (0, 0)) au22 NB299_0.out (by simp)); replace HK := Aside0.mk (KeepBut.trans au59 hk (.inl rfl)); replace HB := Aside0.mk (hb); replace HI0 := Aside0.mk (hi); (try clear hb); (try clear hk); (try clear hi); obtain ⟨hcz28_0, hcz28_1, hcz28_2, hcz28_3, hfz28_0, hfz28_1, hfz28_2, hfz28_3⟩ := blkc4 BK299.out; have hnb29 := NB292_0.out; have hnc29 := NB0_292.out; obtain ⟨hcz30_0, hcz30_1, hcz30_2, hcz30_3, hfz30_0, hfz30_1, hfz30_2, hfz30_3⟩ := blkc4 BK292.out))
  first
  |
   have g_ : (t300 == 1) = true := c17b0
   clear g_
   refine bodyPost_ret (results_cell_row rfl _ _ gb292 33 #[.int .i64 t296, .int .i64 0, .int .i64 0, .bool true] (0, 0) _ rfl (by (with_reducible repeat (first | refine blk_drewN ?_ _ | refine blk_drew ?_ | refine blk_alloc ?_ _)); refine blk_put (cs := #[.int .i64 t296, .int .i64 0, .int .i64 0, .bool false]) ?_ 3 _ rfl; (with_reducible repeat (first | refine blk_drewN ?_ _ | refine blk_drew ?_ | refine blk_alloc ?_ _)); refine blk_put (cs := #[.int .i64 t296, .int .i64 0, .int .i64 0, .bool false]) ?_ 2 _ rfl; (with_reducible repeat (first | refine blk_drewN ?_ _ | refine blk_drew ?_ | refine blk_alloc ?_ _)); refine blk_put (cs := #[.int .i64 t296, .int .i64 0, .int .i64 0, .bool false]) ?_ 1 _ rfl; (with_reducible repeat (first | refine blk_drewN ?_ _ | refine blk_drew ?_ | refine blk_alloc ?_ _)); refine blk_put (cs := #[.int .i64 0, .int .i64 0, .int .i64 0, .bool false]) ?_ 0 _ rfl; (with_reducible repeat (first | refine blk_drewN ?_ _ | refine blk_drew ?_ | refine blk_alloc ?_ _)); refine blk_far ?_ NB292_299.out _; (with_reducible repeat (first | refine blk_drewN ?_ _ | refine blk_drew ?_ | refine blk_alloc ?_ _)); exact BK292.out) Tryd.underlying33 rfl (by kernel_rfl)) rfl ?_
   exact ax6
  |
   have g_ : (t300 == 3) = false := c47b0
   clear g_
   refine bodyPost_ret (results_cell_row rfl _ _ gb292 33 #[.int .i64 t296, .int .i64 0, .int .i64 0, .bool false] (0, 0) _ rfl (by (with_reducible repeat (first | refine blk_drewN ?_ _ | refine blk_drew ?_ | refine blk_alloc ?_ _)); refine blk_put (cs := #[.int .i64 t296, .int .i64 0, .int .i64 0, .bool false]) ?_ 3 _ rfl; (with_reducible repeat (first | refine blk_drewN ?_ _ | refine blk_drew ?_ | refine blk_alloc ?_ _)); refine blk_put (cs := #[.int .i64 t296, .int .i64 0, .int .i64 0, .bool false]) ?_ 2 _ rfl; (with_reducible repeat (first | refine blk_drewN ?_ _ | refine blk_drew ?_ | refine blk_alloc ?_ _)); refine blk_put (cs := #[.int .i64 t296, .int .i64 0, .int .i64 0, .bool false]) ?_ 1 _ rfl; (with_reducible repeat (first | refine blk_drewN ?_ _ | refine blk_drew ?_ | refine blk_alloc ?_ _)); refine blk_put (cs := #[.int .i64 0, .int .i64 0, .int .i64 0, .bool false]) ?_ 0 _ rfl; (with_reducible repeat (first | refine blk_drewN ?_ _ | refine blk_drew ?_ | refine blk_alloc ?_ _)); exact BK292.out) Tryd.underlying33 rfl (by kernel_rfl)) rfl ?_
   exact ax6) : P := h
set_option maxHeartbeats 8000000 in
set_option maxRecDepth 100000 in
theorem spec_l1Cur_date.calls (g : Nat) (s0_0 : List Int) (s0_1 : Int) (s0_2 : Int) (r1 : Int) (r2 : Int) (r3 : Int) (r4 : Bool) (r5 : Int) (r6 : Int) (w0 w : World) (hI : IsS51 w0 w g s0_0 s0_1 s0_2) (hB : Below w0.heap.size w0 w) (h : spec_l1Cur_date.f s0_0 s0_1 s0_2 = some (r1, r2, r3, r4, r5, r6)) :
  Calls Tryd.prog 54 #[.pointer (some ⟨g, 0, none⟩)] w fun e w' => e = .returned (.agg #[.int .i64 r1, .int .i64 r2, .int .i64 r3, .bool r4]) ∧ IsS51 w0 w' g s0_0 r5 r6 ∧ Below w0.heap.size w0 w' ∧ KeepBut w w' g none := by
 have hu33 := Tryd.underlying33
 have HI0 := Aside0.mk hI
 have HK := Aside0.mk (KeepBut.refl w g none)
 have HL := Aside0.mk hB.size
 clear hI
 have HW0 := Aside0.mk hB.size
 have HB := Aside0.mk hB
 clear hB
 have H : ((spec_l1Cur_among.f s0_0 s0_1 s0_2 (([1999, 2000, 1850, 987, 1900, 2024] : List Int))).bind fun bt296 => ((spec_l1Cur_pick.f s0_0 bt296.2.1 bt296.2.2 5).bind fun bt300 => (if bt300.1 = 0 then (some (0, 0, 0, false, bt300.2.1, bt300.2.2)) else (if bt300.1 = 1 then (some (bt296.1, 0, 0, true, bt300.2.1, bt300.2.2)) else (if bt300.1 = 2 then ((spec_l1Cur_pick.f s0_0 bt300.2.1 bt300.2.2 12).bind fun bt303 => (some (bt296.1, wrap64 (1 + bt303.1), 0, false, bt303.2.1, bt303.2.2))) else (if bt300.1 = 3 then ((spec_l1Cur_pick.f s0_0 bt300.2.1 bt300.2.2 12).bind fun bt306 => ((spec_l1Cur_pick.f s0_0 bt306.2.1 bt306.2.2 28).bind fun bt309 => (some (bt296.1, wrap64 (1 + bt306.1), wrap64 (1 + bt309.1), false, bt309.2.1, bt309.2.2)))) else (some (bt296.1, 0, 0, false, bt300.2.1, bt300.2.2)))))))) = some (r1, r2, r3, r4, r5, r6) := h
 clear h
 obtain ⟨y293, hy293⟩ : ∃ y_ : List Int, y_ = (([1999, 2000, 1850, 987, 1900, 2024] : List Int)) := ⟨_, rfl⟩
 replace H : ((spec_l1Cur_among.f s0_0 s0_1 s0_2 y293).bind fun bt296 => ((spec_l1Cur_pick.f s0_0 bt296.2.1 bt296.2.2 5).bind fun bt300 => (if bt300.1 = 0 then (some (0, 0, 0, false, bt300.2.1, bt300.2.2)) else (if bt300.1 = 1 then (some (bt296.1, 0, 0, true, bt300.2.1, bt300.2.2)) else (if bt300.1 = 2 then ((spec_l1Cur_pick.f s0_0 bt300.2.1 bt300.2.2 12).bind fun bt303 => (some (bt296.1, wrap64 (1 + bt303.1), 0, false, bt303.2.1, bt303.2.2))) else (if bt300.1 = 3 then ((spec_l1Cur_pick.f s0_0 bt300.2.1 bt300.2.2 12).bind fun bt306 => ((spec_l1Cur_pick.f s0_0 bt306.2.1 bt306.2.2 28).bind fun bt309 => (some (bt296.1, wrap64 (1 + bt306.1), wrap64 (1 + bt309.1), false, bt309.2.1, bt309.2.2)))) else (some (bt296.1, 0, 0, false, bt300.2.1, bt300.2.2)))))))) = some (r1, r2, r3, r4, r5, r6) := by first | (rw [hy293]; with_reducible exact H) | (have H2_ := (Option.bind_some _ _).symm.trans H; rw [hy293]; with_reducible exact H2_) | (have H2_ := (Option.bind_some _ _).symm.trans H; with_reducible exact H2_) | with_reducible exact H | (rw [hy293]; exact H) | exact H
 have Ny293 := Aside0.mk hy293
 clear hy293
 replace H := Option.bind_eq_some_iff.mp H
 obtain ⟨⟨t296, t297, t298⟩, A20, H⟩ := H
 replace H : ((spec_l1Cur_pick.f s0_0 t297 t298 5).bind fun bt300 => (if bt300.1 = 0 then (some (0, 0, 0, false, bt300.2.1, bt300.2.2)) else (if bt300.1 = 1 then (some (t296, 0, 0, true, bt300.2.1, bt300.2.2)) else (if bt300.1 = 2 then ((spec_l1Cur_pick.f s0_0 bt300.2.1 bt300.2.2 12).bind fun bt303 => (some (t296, wrap64 (1 + bt303.1), 0, false, bt303.2.1, bt303.2.2))) else (if bt300.1 = 3 then ((spec_l1Cur_pick.f s0_0 bt300.2.1 bt300.2.2 12).bind fun bt306 => ((spec_l1Cur_pick.f s0_0 bt306.2.1 bt306.2.2 28).bind fun bt309 => (some (t296, wrap64 (1 + bt306.1), wrap64 (1 + bt309.1), false, bt309.2.1, bt309.2.2)))) else (some (t296, 0, 0, false, bt300.2.1, bt300.2.2))))))) = some (r1, r2, r3, r4, r5, r6) := H
 have A2 := Aside0.mk A20
 clear A20
 replace H := Option.bind_eq_some_iff.mp H
 obtain ⟨⟨t300, t301, t302⟩, A30, H⟩ := H
 replace H : (if t300 = 0 then (some (0, 0, 0, false, t301, t302)) else (if t300 = 1 then (some (t296, 0, 0, true, t301, t302)) else (if t300 = 2 then ((spec_l1Cur_pick.f s0_0 t301 t302 12).bind fun bt303 => (some (t296, wrap64 (1 + bt303.1), 0, false, bt303.2.1, bt303.2.2))) else (if t300 = 3 then ((spec_l1Cur_pick.f s0_0 t301 t302 12).bind fun bt306 => ((spec_l1Cur_pick.f s0_0 bt306.2.1 bt306.2.2 28).bind fun bt309 => (some (t296, wrap64 (1 + bt306.1), wrap64 (1 + bt309.1), false, bt309.2.1, bt309.2.2)))) else (some (t296, 0, 0, false, t301, t302)))))) = some (r1, r2, r3, r4, r5, r6) := H
 have A3 := Aside0.mk A30
 clear A30
 by_cases c4 : t300 = 0
 ·
  rw [if_pos c4] at H
  have c4b0 : (t300 == 0) = true := beq_iff_eq.mpr c4
  have c4b1 : (t300 != 0) = false := bne_eq_false_iff_eq.mpr c4
  clear c4
  simp only [Option.some.injEq, Prod.mk.injEq] at H
  obtain ⟨rfl, rfl, rfl, rfl, rfl, rfl⟩ := H
  go_enter Tryd.func54, Tryd.ntmps54
  go_wp2_with (first | ((with_reducible refine gate_dst (N := 2) rfl ?_); refine box_event ?hg (N := 2) ?hd (cs := #[.int .i64 0, .int .i64 0, .int .i64 0, .bool false]) (t := 33) ?hr ?_; (case hd => rfl); (case hg => rfl); (case hr => first | (go_simp; done) | (go_simp; rfl)); intro gb292 hg w5 hbox hb; replace HB := Aside0.mk (below_step au82 hb); have BK292 := Aside0.mk (hbox); have GW292 := Aside0.mk ((by rw [hg]; exact (keep_size (w := w) (g := g) (row := none) au99) : w.heap.size ≤ gb292)); have GE292 := Aside0.mk ((Nat.le_trans HW0.out (by rw [hg]; exact (keep_size (w := w) (g := g) (row := none) au99) : w.heap.size ≤ gb292) : w0.heap.size ≤ gb292)); replace HK := Aside0.mk (KeepBut.trans au99 (KeepBut.of_below hb g none) (.inl rfl)); have NB0_292 := Aside0.mk ((by rw [hg]; exact Nat.ne_of_lt (IsS51.lt (show IsS51 w0 _ g s0_0 s0_1 s0_2 from by repeat (first | (with_reducible first | exact HI0.out | apply IsS51.alloc | apply IsS51.drewN | apply IsS51.drew | apply IsS51.set_1 | apply IsS51.set_2) | exact HI0.out))) : g ≠ gb292)); have NB292_0 := Aside0.mk ((by rw [hg]; exact Nat.ne_of_gt (IsS51.lt (show IsS51 w0 _ g s0_0 s0_1 s0_2 from by repeat (first | (with_reducible first | exact HI0.out | apply IsS51.alloc | apply IsS51.drewN | apply IsS51.drew | apply IsS51.set_1 | apply IsS51.set_2) | exact HI0.out))) : gb292 ≠ g)); replace HI0 := Aside0.mk (IsS51.below au83 hb); clear hb hbox hg) | ((with_reducible refine gate_dst (N := 5) rfl ?_); refine Kd.R_lit (Kd.int .i64) _ 3 ?hg (N := 5) ?hd (xs := ([1999, 2000, 1850, 987, 1900, 2024] : List Int)) (inner := [.int .i64 1999, .int .i64 2000, .int .i64 1850, .int .i64 987, .int .i64 1900, .int .i64 2024]) (ok := fun _ => True) (okp := fun _ => True) ?hr ?hp (fun _ hk => hk) trivial (Below.refl _ _) (Nat.le_refl _) (by simp) ?_; (case hd => rfl); (case hg => rfl); (case hr => first | (go_simp; done) | (go_simp; rfl)); (case hp => exact (Reps.one (show Kd.M (Kd.int .i64) _ _ _ 1999 [.int .i64 1999] from rfl) (Reps.one (show Kd.M (Kd.int .i64) _ _ _ 2000 [.int .i64 2000] from rfl) (Reps.one (show Kd.M (Kd.int .i64) _ _ _ 1850 [.int .i64 1850] from rfl) (Reps.one (show Kd.M (Kd.int .i64) _ _ _ 987 [.int .i64 987] from rfl) (Reps.one (show Kd.M (Kd.int .i64) _ _ _ 1900 [.int .i64 1900] from rfl) (Reps.one (show Kd.M (Kd.int .i64) _ _ _ 2024 [.int .i64 2024] from rfl) (Reps.none _ _)))))))); intro v294 w6 ho7 hb hg_ hnew_; clear hg_ hnew_; (first | rw [← Ny293.out] at ho7 | (simp only [Int.reduceToNat] at ho7; rw [← Ny293.out] at ho7)); have HO295 := Aside0.mk (Kd.R_lower ho7 (keep_size (w := w) (g := g) (row := none) au77)); replace BK292 := Aside0.mk (blk_below (g := gb292) au108 hb); replace HK := Aside0.mk (KeepBut.trans au77 (KeepBut.of_below hb g none) (.inl rfl)); replace HB := Aside0.mk (below_step au65 hb); replace HI0 := Aside0.mk (IsS51.below au62 hb); clear hb ho7; obtain ⟨Ao8, co8, eo8⟩ := Kd.R_slice HO295.out; subst eo8) | ((with_reducible refine gate_callee (f := 30) rfl ?_); refine goesL_ (some 6) rfl rfl Tryd.func30 (by kernel_rfl) rfl #[.pointer (some ⟨g, 0, none⟩), .slice Ao8 y293.length co8] rfl au100 ?_; (with_reducible refine (spec_l1Cur_among.calls g s0_0 s0_1 s0_2 _ _ y293 t296 t297 t298 w0 _ ?side1 ?side2 ?side3 ?side4 ?side5 A2.out).mono ?_); (case side1 => repeat (first | (with_reducible first | exact HI0.out | apply IsS51.alloc | apply IsS51.drewN | apply IsS51.drew | apply IsS51.set_1 | apply IsS51.set_2 | refine IsS51.far ?_ NB0_292.out _) | exact HI0.out)); (case side2 => repeat (first | (with_reducible first | exact HB.out | apply below_alloc | apply pw_below_drewN | apply below_drew1 | refine below_set ?_ (IsS51.ge HI0.out) | refine below_set ?_ GE292.out) | exact HB.out)); (case side3 => repeat (first | exact (Kd.R_reads' HO295.out).2.2 | (with_reducible refine Kd.C_alloc ?_ _) | (with_reducible refine Kd.C_drewN ?_ _) | (with_reducible refine Kd.C_drew ?_))); (case side4 => exact (Kd.R_reads' HO295.out).2.1); (case side5 => exact far_slice (IsS51.own_ne HI0.out HO295.out (by decide))); rintro e w9 ⟨rfl, hi, hb, hk⟩; refine ⟨_, rfl, ?_⟩; replace BK292 := Aside0.mk (KeepBut.blk hk (g' := gb292) (o := .cells #[.int .i64 0, .int .i64 0, .int .i64 0, .bool false] 33 (0, 0)) au108 NB292_0.out (by simp)); replace HO295 := Aside0.mk (Kd.R_mono (Kd.R_keep (IsS51.apart (show IsS51 w0 _ g s0_0 s0_1 s0_2 from by repeat (first | (with_reducible first | exact HI0.out | apply IsS51.alloc | apply IsS51.drewN | apply IsS51.drew | apply IsS51.set_1 | apply IsS51.set_2 | refine IsS51.far ?_ NB0_292.out _) | exact HI0.out)) au146 (by decide)) hk (fun _ h => h.2)) (fun _ h => h.1)); replace HK := Aside0.mk (KeepBut.trans au77 hk (.inl rfl)); replace HB := Aside0.mk (hb); replace HI0 := Aside0.mk (hi); (try clear hb); (try clear hk); (try clear hi)) | ((with_reducible refine gate_dst (N := 3) rfl ?_); refine box_event ?hg (N := 3) ?hd (cs := #[.int .i64 0, .int .i64 0, .int .i64 0, .bool false]) (t := 33) ?hr ?_; (case hd => rfl); (case hg => rfl); (case hr => first | (go_simp; done) | (go_simp; rfl)); intro gb299 hg w10 hbox hb; replace HO295 := Aside0.mk (Kd.R_below au146 hb); replace HB := Aside0.mk (below_step au65 hb); have BK299 := Aside0.mk (hbox); have GW299 := Aside0.mk ((by rw [hg]; exact (keep_size (w := w) (g := g) (row := none) au77) : w.heap.size ≤ gb299)); have GE299 := Aside0.mk ((Nat.le_trans HW0.out (by rw [hg]; exact (keep_size (w := w) (g := g) (row := none) au77) : w.heap.size ≤ gb299) : w0.heap.size ≤ gb299)); replace HK := Aside0.mk (KeepBut.trans au77 (KeepBut.of_below hb g none) (.inl rfl)); have NB292_299 := Aside0.mk (bne (g := gb292) hg au108); have NB299_292 := Aside0.mk (ben (g := gb292) hg au108); replace BK292 := Aside0.mk (blk_below (g := gb292) au108 hb); have NB0_299 := Aside0.mk ((by rw [hg]; exact Nat.ne_of_lt (IsS51.lt (show IsS51 w0 _ g s0_0 t297 t298 from by repeat (first | (with_reducible first | exact HI0.out | apply IsS51.alloc | apply IsS51.drewN | apply IsS51.drew | apply IsS51.set_1 | apply IsS51.set_2 | refine IsS51.far ?_ NB0_292.out _) | exact HI0.out))) : g ≠ gb299)); have NB299_0 := Aside0.mk ((by rw [hg]; exact Nat.ne_of_gt (IsS51.lt (show IsS51 w0 _ g s0_0 t297 t298 from by repeat (first | (with_reducible first | exact HI0.out | apply IsS51.alloc | apply IsS51.drewN | apply IsS51.drew | apply IsS51.set_1 | apply IsS51.set_2 | refine IsS51.far ?_ NB0_292.out _) | exact HI0.out))) : gb299 ≠ g)); replace HI0 := Aside0.mk (IsS51.below au62 hb); clear hb hbox hg; have hnb11 := NB299_292.out; have hnc11 := NB292_299.out; have hnb12 := NB299_0.out; have hnc12 := NB0_299.out; obtain ⟨hcz13_0, hcz13_1, hcz13_2, hcz13_3, hfz13_0, hfz13_1, hfz13_2, hfz13_3⟩ := blkc4 BK299.out) | ((with_reducible refine gate_callee (f := 31) rfl ?_); refine goesL_ (some 9) rfl rfl Tryd.func31 (by kernel_rfl) rfl #[.pointer (some ⟨g, 0, none⟩), .int .i64 5] rfl au100 ?_; (with_reducible refine (spec_l1Cur_pick.calls g s0_0 t297 t298 5 t300 t301 t302 w0 _ ?side1 ?side2 A3.out).mono ?_); (case side1 => repeat (first | (with_reducible first | exact HI0.out | apply IsS51.alloc | apply IsS51.drewN | apply IsS51.drew | apply IsS51.set_1 | apply IsS51.set_2 | refine IsS51.far ?_ NB0_292.out _ | refine IsS51.far ?_ NB0_299.out _) | exact HI0.out)); (case side2 => repeat (first | (with_reducible first | exact HB.out | apply below_alloc | apply pw_below_drewN | apply below_drew1 | refine below_set ?_ (IsS51.ge HI0.out) | refine below_set ?_ GE292.out | refine below_set ?_ GE299.out) | exact HB.out)); rintro e w14 ⟨rfl, hi, hb, hk⟩; refine ⟨_, rfl, ?_⟩; replace BK292 := Aside0.mk (KeepBut.blk hk (g' := gb292) (o := .cells #[.int .i64 0, .int .i64 0, .int .i64 0, .bool false] 33 (0, 0)) au28 NB292_0.out (by simp)); replace HO295 := Aside0.mk (Kd.R_mono (Kd.R_keep (IsS51.apart (show IsS51 w0 _ g s0_0 t297 t298 from by repeat (first | (with_reducible first | exact HI0.out | apply IsS51.alloc | apply IsS51.drewN | apply IsS51.drew | apply IsS51.set_1 | apply IsS51.set_2 | refine IsS51.far ?_ NB0_292.out _ | refine IsS51.far ?_ NB0_299.out _) | exact HI0.out)) au37 (by decide)) hk (fun _ h => h.2)) (fun _ h => h.1)); replace BK299 := Aside0.mk (KeepBut.blk hk (g' := gb299) (o := .cells #[.int .i64 t296, .int .i64 0, .int .i64 0, .bool false] 33 (0, 0)) au22 NB299_0.out (by simp)); replace HK := Aside0.mk (KeepBut.trans au59 hk (.inl rfl)); replace HB := Aside0.mk (hb); replace HI0 := Aside0.mk (hi); (try clear hb); (try clear hk); (try clear hi); have hnb15 := NB292_0.out; have hnc15 := NB0_292.out; obtain ⟨hcz16_0, hcz16_1, hcz16_2, hcz16_3, hfz16_0, hfz16_1, hfz16_2, hfz16_3⟩ := blkc4 BK292.out))
  refine bodyPost_ret (results_cell_row rfl _ _ gb292 33 #[.int .i64 0, .int .i64 0, .int .i64 0, .bool false] (0, 0) _ rfl (by (with_reducible repeat (first | refine blk_drewN ?_ _ | refine blk_drew ?_ | refine blk_alloc ?_ _)); refine blk_put (cs := #[.int .i64 0, .int .i64 0, .int .i64 0, .bool false]) ?_ 3 _ rfl; (with_reducible repeat (first | refine blk_drewN ?_ _ | refine blk_drew ?_ | refine blk_alloc ?_ _)); refine blk_put (cs := #[.int .i64 0, .int .i64 0, .int .i64 0, .bool false]) ?_ 2 _ rfl; (with_reducible repeat (first | refine blk_drewN ?_ _ | refine blk_drew ?_ | refine blk_alloc ?_ _)); refine blk_put (cs := #[.int .i64 0, .int .i64 0, .int .i64 0, .bool false]) ?_ 1 _ rfl; (with_reducible repeat (first | refine blk_drewN ?_ _ | refine blk_drew ?_ | refine blk_alloc ?_ _)); refine blk_put (cs := #[.int .i64 0, .int .i64 0, .int .i64 0, .bool false]) ?_ 0 _ rfl; (with_reducible repeat (first | refine blk_drewN ?_ _ | refine blk_drew ?_ | refine blk_alloc ?_ _)); exact BK292.out) Tryd.underlying33 rfl (by kernel_rfl)) rfl ?_
  exact ax6
 ·
  rw [if_neg c4] at H
  have c4b0 : (t300 == 0) = false := beq_eq_false_iff_ne.mpr c4
  have c4b1 : (t300 != 0) = true := bne_iff_ne.mpr c4
  by_cases c17 : t300 = 1
  ·
   rw [if_pos c17] at H
   have c17b0 : (t300 == 1) = true := beq_iff_eq.mpr c17
   have c17b1 : (t300 != 1) = false := bne_eq_false_iff_eq.mpr c17
   clear c17
   simp only [Option.some.injEq, Prod.mk.injEq] at H
   obtain ⟨rfl, rfl, rfl, rfl, rfl, rfl⟩ := H
   exact spec_l1Cur_date.L0
  ·
   rw [if_neg c17] at H
   have c17b0 : (t300 == 1) = false := beq_eq_false_iff_ne.mpr c17
   have c17b1 : (t300 != 1) = true := bne_iff_ne.mpr c17
   by_cases c31 : t300 = 2
   ·
    rw [if_pos c31] at H
    have c31b0 : (t300 == 2) = true := beq_iff_eq.mpr c31
    have c31b1 : (t300 != 2) = false := bne_eq_false_iff_eq.mpr c31
    clear c31
    replace H := Option.bind_eq_some_iff.mp H
    obtain ⟨⟨t303, t304, t305⟩, A320, H⟩ := H
    replace H : (some (t296, wrap64 (1 + t303), 0, false, t304, t305)) = some (r1, r2, r3, r4, r5, r6) := H
    have A32 := Aside0.mk A320
    clear A320
    simp only [Option.some.injEq, Prod.mk.injEq] at H
    obtain ⟨rfl, rfl, rfl, rfl, rfl, rfl⟩ := H
    go_enter Tryd.func54, Tryd.ntmps54
    go_wp2_with (first | ((with_reducible refine gate_dst (N := 2) rfl ?_); refine box_event ?hg (N := 2) ?hd (cs := #[.int .i64 0, .int .i64 0, .int .i64 0, .bool false]) (t := 33) ?hr ?_; (case hd => rfl); (case hg => rfl); (case hr => first | (go_simp; done) | (go_simp; rfl)); intro gb292 hg w33 hbox hb; replace HB := Aside0.mk (below_step au82 hb); have BK292 := Aside0.mk (hbox); have GW292 := Aside0.mk ((by rw [hg]; exact (keep_size (w := w) (g := g) (row := none) au99) : w.heap.size ≤ gb292)); have GE292 := Aside0.mk ((Nat.le_trans HW0.out (by rw [hg]; exact (keep_size (w := w) (g := g) (row := none) au99) : w.heap.size ≤ gb292) : w0.heap.size ≤ gb292)); replace HK := Aside0.mk (KeepBut.trans au99 (KeepBut.of_below hb g none) (.inl rfl)); have NB0_292 := Aside0.mk ((by rw [hg]; exact Nat.ne_of_lt (IsS51.lt (show IsS51 w0 _ g s0_0 s0_1 s0_2 from by repeat (first | (with_reducible first | exact HI0.out | apply IsS51.alloc | apply IsS51.drewN | apply IsS51.drew | apply IsS51.set_1 | apply IsS51.set_2) | exact HI0.out))) : g ≠ gb292)); have NB292_0 := Aside0.mk ((by rw [hg]; exact Nat.ne_of_gt (IsS51.lt (show IsS51 w0 _ g s0_0 s0_1 s0_2 from by repeat (first | (with_reducible first | exact HI0.out | apply IsS51.alloc | apply IsS51.drewN | apply IsS51.drew | apply IsS51.set_1 | apply IsS51.set_2) | exact HI0.out))) : gb292 ≠ g)); replace HI0 := Aside0.mk (IsS51.below au83 hb); clear hb hbox hg) | ((with_reducible refine gate_dst (N := 5) rfl ?_); refine Kd.R_lit (Kd.int .i64) _ 3 ?hg (N := 5) ?hd (xs := ([1999, 2000, 1850, 987, 1900, 2024] : List Int)) (inner := [.int .i64 1999, .int .i64 2000, .int .i64 1850, .int .i64 987, .int .i64 1900, .int .i64 2024]) (ok := fun _ => True) (okp := fun _ => True) ?hr ?hp (fun _ hk => hk) trivial (Below.refl _ _) (Nat.le_refl _) (by simp) ?_; (case hd => rfl); (case hg => rfl); (case hr => first | (go_simp; done) | (go_simp; rfl)); (case hp => exact (Reps.one (show Kd.M (Kd.int .i64) _ _ _ 1999 [.int .i64 1999] from rfl) (Reps.one (show Kd.M (Kd.int .i64) _ _ _ 2000 [.int .i64 2000] from rfl) (Reps.one (show Kd.M (Kd.int .i64) _ _ _ 1850 [.int .i64 1850] from rfl) (Reps.one (show Kd.M (Kd.int .i64) _ _ _ 987 [.int .i64 987] from rfl) (Reps.one (show Kd.M (Kd.int .i64) _ _ _ 1900 [.int .i64 1900] from rfl) (Reps.one (show Kd.M (Kd.int .i64) _ _ _ 2024 [.int .i64 2024] from rfl) (Reps.none _ _)))))))); intro v294 w34 ho35 hb hg_ hnew_; clear hg_ hnew_; (first | rw [← Ny293.out] at ho35 | (simp only [Int.reduceToNat] at ho35; rw [← Ny293.out] at ho35)); have HO295 := Aside0.mk (Kd.R_lower ho35 (keep_size (w := w) (g := g) (row := none) au77)); replace BK292 := Aside0.mk (blk_below (g := gb292) au108 hb); replace HK := Aside0.mk (KeepBut.trans au77 (KeepBut.of_below hb g none) (.inl rfl)); replace HB := Aside0.mk (below_step au65 hb); replace HI0 := Aside0.mk (IsS51.below au62 hb); clear hb ho35; obtain ⟨Ao36, co36, eo36⟩ := Kd.R_slice HO295.out; subst eo36) | ((with_reducible refine gate_callee (f := 30) rfl ?_); refine goesL_ (some 6) rfl rfl Tryd.func30 (by kernel_rfl) rfl #[.pointer (some ⟨g, 0, none⟩), .slice Ao36 y293.length co36] rfl au100 ?_; (with_reducible refine (spec_l1Cur_among.calls g s0_0 s0_1 s0_2 _ _ y293 t296 t297 t298 w0 _ ?side1 ?side2 ?side3 ?side4 ?side5 A2.out).mono ?_); (case side1 => repeat (first | (with_reducible first | exact HI0.out | apply IsS51.alloc | apply IsS51.drewN | apply IsS51.drew | apply IsS51.set_1 | apply IsS51.set_2 | refine IsS51.far ?_ NB0_292.out _) | exact HI0.out)); (case side2 => repeat (first | (with_reducible first | exact HB.out | apply below_alloc | apply pw_below_drewN | apply below_drew1 | refine below_set ?_ (IsS51.ge HI0.out) | refine below_set ?_ GE292.out) | exact HB.out)); (case side3 => repeat (first | exact (Kd.R_reads' HO295.out).2.2 | (with_reducible refine Kd.C_alloc ?_ _) | (with_reducible refine Kd.C_drewN ?_ _) | (with_reducible refine Kd.C_drew ?_))); (case side4 => exact (Kd.R_reads' HO295.out).2.1); (case side5 => exact far_slice (IsS51.own_ne HI0.out HO295.out (by decide))); rintro e w37 ⟨rfl, hi, hb, hk⟩; refine ⟨_, rfl, ?_⟩; replace BK292 := Aside0.mk (KeepBut.blk hk (g' := gb292) (o := .cells #[.int .i64 0, .int .i64 0, .int .i64 0, .bool false] 33 (0, 0)) au108 NB292_0.out (by simp)); replace HO295 := Aside0.mk (Kd.R_mono (Kd.R_keep (IsS51.apart (show IsS51 w0 _ g s0_0 s0_1 s0_2 from by repeat (first | (with_reducible first | exact HI0.out | apply IsS51.alloc | apply IsS51.drewN | apply IsS51.drew | apply IsS51.set_1 | apply IsS51.set_2 | refine IsS51.far ?_ NB0_292.out _) | exact HI0.out)) au146 (by decide)) hk (fun _ h => h.2)) (fun _ h => h.1)); replace HK := Aside0.mk (KeepBut.trans au77 hk (.inl rfl)); replace HB := Aside0.mk (hb); replace HI0 := Aside0.mk (hi); (try clear hb); (try clear hk); (try clear hi)) | ((with_reducible refine gate_dst (N := 3) rfl ?_); refine box_event ?hg (N := 3) ?hd (cs := #[.int .i64 0, .int .i64 0, .int .i64 0, .bool false]) (t := 33) ?hr ?_; (case hd => rfl); (case hg => rfl); (case hr => first | (go_simp; done) | (go_simp; rfl)); intro gb299 hg w38 hbox hb; replace HO295 := Aside0.mk (Kd.R_below au146 hb); replace HB := Aside0.mk (below_step au65 hb); have BK299 := Aside0.mk (hbox); have GW299 := Aside0.mk ((by rw [hg]; exact (keep_size (w := w) (g := g) (row := none) au77) : w.heap.size ≤ gb299)); have GE299 := Aside0.mk ((Nat.le_trans HW0.out (by rw [hg]; exact (keep_size (w := w) (g := g) (row := none) au77) : w.heap.size ≤ gb299) : w0.heap.size ≤ gb299)); replace HK := Aside0.mk (KeepBut.trans au77 (KeepBut.of_below hb g none) (.inl rfl)); have NB292_299 := Aside0.mk (bne (g := gb292) hg au108); have NB299_292 := Aside0.mk (ben (g := gb292) hg au108); replace BK292 := Aside0.mk (blk_below (g := gb292) au108 hb); have NB0_299 := Aside0.mk ((by rw [hg]; exact Nat.ne_of_lt (IsS51.lt (show IsS51 w0 _ g s0_0 t297 t298 from by repeat (first | (with_reducible first | exact HI0.out | apply IsS51.alloc | apply IsS51.drewN | apply IsS51.drew | apply IsS51.set_1 | apply IsS51.set_2 | refine IsS51.far ?_ NB0_292.out _) | exact HI0.out))) : g ≠ gb299)); have NB299_0 := Aside0.mk ((by rw [hg]; exact Nat.ne_of_gt (IsS51.lt (show IsS51 w0 _ g s0_0 t297 t298 from by repeat (first | (with_reducible first | exact HI0.out | apply IsS51.alloc | apply IsS51.drewN | apply IsS51.drew | apply IsS51.set_1 | apply IsS51.set_2 | refine IsS51.far ?_ NB0_292.out _) | exact HI0.out))) : gb299 ≠ g)); replace HI0 := Aside0.mk (IsS51.below au62 hb); clear hb hbox hg; have hnb39 := NB299_292.out; have hnc39 := NB292_299.out; have hnb40 := NB299_0.out; have hnc40 := NB0_299.out; obtain ⟨hcz41_0, hcz41_1, hcz41_2, hcz41_3, hfz41_0, hfz41_1, hfz41_2, hfz41_3⟩ := blkc4 BK299.out) | ((with_reducible refine gate_callee (f := 31) rfl ?_); refine goesL_ (some 9) rfl rfl Tryd.func31 (by kernel_rfl) rfl #[.pointer (some ⟨g, 0, none⟩), .int .i64 5] rfl au100 ?_; (with_reducible refine (spec_l1Cur_pick.calls g s0_0 t297 t298 5 t300 t301 t302 w0 _ ?side1 ?side2 A3.out).mono ?_); (case side1 => repeat (first | (with_reducible first | exact HI0.out | apply IsS51.alloc | apply IsS51.drewN | apply IsS51.drew | apply IsS51.set_1 | apply IsS51.set_2 | refine IsS51.far ?_ NB0_292.out _ | refine IsS51.far ?_ NB0_299.out _) | exact HI0.out)); (case side2 => repeat (first | (with_reducible first | exact HB.out | apply below_alloc | apply pw_below_drewN | apply below_drew1 | refine below_set ?_ (IsS51.ge HI0.out) | refine below_set ?_ GE292.out | refine below_set ?_ GE299.out) | exact HB.out)); rintro e w42 ⟨rfl, hi, hb, hk⟩; refine ⟨_, rfl, ?_⟩; replace BK292 := Aside0.mk (KeepBut.blk hk (g' := gb292) (o := .cells #[.int .i64 0, .int .i64 0, .int .i64 0, .bool false] 33 (0, 0)) au28 NB292_0.out (by simp)); replace HO295 := Aside0.mk (Kd.R_mono (Kd.R_keep (IsS51.apart (show IsS51 w0 _ g s0_0 t297 t298 from by repeat (first | (with_reducible first | exact HI0.out | apply IsS51.alloc | apply IsS51.drewN | apply IsS51.drew | apply IsS51.set_1 | apply IsS51.set_2 | refine IsS51.far ?_ NB0_292.out _ | refine IsS51.far ?_ NB0_299.out _) | exact HI0.out)) au37 (by decide)) hk (fun _ h => h.2)) (fun _ h => h.1)); replace BK299 := Aside0.mk (KeepBut.blk hk (g' := gb299) (o := .cells #[.int .i64 t296, .int .i64 0, .int .i64 0, .bool false] 33 (0, 0)) au22 NB299_0.out (by simp)); replace HK := Aside0.mk (KeepBut.trans au59 hk (.inl rfl)); replace HB := Aside0.mk (hb); replace HI0 := Aside0.mk (hi); (try clear hb); (try clear hk); (try clear hi)) | ((with_reducible refine gate_callee (f := 31) rfl ?_); refine goesL_ (some 19) rfl rfl Tryd.func31 (by kernel_rfl) rfl #[.pointer (some ⟨g, 0, none⟩), .int .i64 12] rfl au100 ?_; (with_reducible refine (spec_l1Cur_pick.calls g s0_0 t301 t302 12 t303 t304 t305 w0 _ ?side1 ?side2 A32.out).mono ?_); (case side1 => repeat (first | (with_reducible first | exact HI0.out | apply IsS51.alloc | apply IsS51.drewN | apply IsS51.drew | apply IsS51.set_1 | apply IsS51.set_2 | refine IsS51.far ?_ NB0_292.out _ | refine IsS51.far ?_ NB0_299.out _) | exact HI0.out)); (case side2 => repeat (first | (with_reducible first | exact HB.out | apply below_alloc | apply pw_below_drewN | apply below_drew1 | refine below_set ?_ (IsS51.ge HI0.out) | refine below_set ?_ GE292.out | refine below_set ?_ GE299.out) | exact HB.out)); rintro e w43 ⟨rfl, hi, hb, hk⟩; refine ⟨_, rfl, ?_⟩; replace BK292 := Aside0.mk (KeepBut.blk hk (g' := gb292) (o := .cells #[.int .i64 0, .int .i64 0, .int .i64 0, .bool false] 33 (0, 0)) au108 NB292_0.out (by simp)); replace HO295 := Aside0.mk (Kd.R_mono (Kd.R_keep (IsS51.apart (show IsS51 w0 _ g s0_0 t301 t302 from by repeat (first | (with_reducible first | exact HI0.out | apply IsS51.alloc | apply IsS51.drewN | apply IsS51.drew | apply IsS51.set_1 | apply IsS51.set_2 | refine IsS51.far ?_ NB0_292.out _ | refine IsS51.far ?_ NB0_299.out _) | exact HI0.out)) au146 (by decide)) hk (fun _ h => h.2)) (fun _ h => h.1)); replace BK299 := Aside0.mk (KeepBut.blk hk (g' := gb299) (o := .cells #[.int .i64 t296, .int .i64 0, .int .i64 0, .bool false] 33 (0, 0)) au109 NB299_0.out (by simp)); replace HK := Aside0.mk (KeepBut.trans au59 hk (.inl rfl)); replace HB := Aside0.mk (hb); replace HI0 := Aside0.mk (hi); (try clear hb); (try clear hk); (try clear hi); obtain ⟨hcz44_0, hcz44_1, hcz44_2, hcz44_3, hfz44_0, hfz44_1, hfz44_2, hfz44_3⟩ := blkc4 BK299.out; have hnb45 := NB292_0.out; have hnc45 := NB0_292.out; obtain ⟨hcz46_0, hcz46_1, hcz46_2, hcz46_3, hfz46_0, hfz46_1, hfz46_2, hfz46_3⟩ := blkc4 BK292.out))
    refine bodyPost_ret (results_cell_row rfl _ _ gb292 33 #[.int .i64 t296, .int .i64 (wrap64 (1 + t303)), .int .i64 0, .bool false] (0, 0) _ rfl (by (with_reducible repeat (first | refine blk_drewN ?_ _ | refine blk_drew ?_ | refine blk_alloc ?_ _)); refine blk_put (cs := #[.int .i64 t296, .int .i64 (wrap64 (1 + t303)), .int .i64 0, .bool false]) ?_ 3 _ rfl; (with_reducible repeat (first | refine blk_drewN ?_ _ | refine blk_drew ?_ | refine blk_alloc ?_ _)); refine blk_put (cs := #[.int .i64 t296, .int .i64 (wrap64 (1 + t303)), .int .i64 0, .bool false]) ?_ 2 _ rfl; (with_reducible repeat (first | refine blk_drewN ?_ _ | refine blk_drew ?_ | refine blk_alloc ?_ _)); refine blk_put (cs := #[.int .i64 t296, .int .i64 0, .int .i64 0, .bool false]) ?_ 1 _ rfl; (with_reducible repeat (first | refine blk_drewN ?_ _ | refine blk_drew ?_ | refine blk_alloc ?_ _)); refine blk_put (cs := #[.int .i64 0, .int .i64 0, .int .i64 0, .bool false]) ?_ 0 _ rfl; (with_reducible repeat (first | refine blk_drewN ?_ _ | refine blk_drew ?_ | refine blk_alloc ?_ _)); refine blk_far ?_ NB292_299.out _; (with_reducible repeat (first | refine blk_drewN ?_ _ | refine blk_drew ?_ | refine blk_alloc ?_ _)); exact BK292.out) Tryd.underlying33 rfl (by kernel_rfl)) rfl ?_
    exact ax6
   ·
    rw [if_neg c31] at H
    have c31b0 : (t300 == 2) = false := beq_eq_false_iff_ne.mpr c31
    have c31b1 : (t300 != 2) = true := bne_iff_ne.mpr c31
    by_cases c47 : t300 = 3
    ·
     rw [if_pos c47] at H
     have c47b0 : (t300 == 3) = true := beq_iff_eq.mpr c47
     have c47b1 : (t300 != 3) = false := bne_eq_false_iff_eq.mpr c47
     clear c47
     replace H := Option.bind_eq_some_iff.mp H
     obtain ⟨⟨t306, t307, t308⟩, A480, H⟩ := H
     replace H : ((spec_l1Cur_pick.f s0_0 t307 t308 28).bind fun bt309 => (some (t296, wrap64 (1 + t306), wrap64 (1 + bt309.1), false, bt309.2.1, bt309.2.2))) = some (r1, r2, r3, r4, r5, r6) := H
     have A48 := Aside0.mk A480
     clear A480
     replace H := Option.bind_eq_some_iff.mp H
     obtain ⟨⟨t309, t310, t311⟩, A490, H⟩ := H
     replace H : (some (t296, wrap64 (1 + t306), wrap64 (1 + t309), false, t310, t311)) = some (r1, r2, r3, r4, r5, r6) := H
     have A49 := Aside0.mk A490
     clear A490
     simp only [Option.some.injEq, Prod.mk.injEq] at H
     obtain ⟨rfl, rfl, rfl, rfl, rfl, rfl⟩ := H
     go_enter Tryd.func54, Tryd.ntmps54
     go_wp2_with (first | ((with_reducible refine gate_dst (N := 2) rfl ?_); refine box_event ?hg (N := 2) ?hd (cs := #[.int .i64 0, .int .i64 0, .int .i64 0, .bool false]) (t := 33) ?hr ?_; (case hd => rfl); (case hg => rfl); (case hr => first | (go_simp; done) | (go_simp; rfl)); intro gb292 hg w50 hbox hb; replace HB := Aside0.mk (below_step au82 hb); have BK292 := Aside0.mk (hbox); have GW292 := Aside0.mk ((by rw [hg]; exact (keep_size (w := w) (g := g) (row := none) au99) : w.heap.size ≤ gb292)); have GE292 := Aside0.mk ((Nat.le_trans HW0.out (by rw [hg]; exact (keep_size (w := w) (g := g) (row := none) au99) : w.heap.size ≤ gb292) : w0.heap.size ≤ gb292)); replace HK := Aside0.mk (KeepBut.trans au99 (KeepBut.of_below hb g none) (.inl rfl)); have NB0_292 := Aside0.mk ((by rw [hg]; exact Nat.ne_of_lt (IsS51.lt (show IsS51 w0 _ g s0_0 s0_1 s0_2 from by repeat (first | (with_reducible first | exact HI0.out | apply IsS51.alloc | apply IsS51.drewN | apply IsS51.drew | apply IsS51.set_1 | apply IsS51.set_2) | exact HI0.out))) : g ≠ gb292)); have NB292_0 := Aside0.mk ((by rw [hg]; exact Nat.ne_of_gt (IsS51.lt (show IsS51 w0 _ g s0_0 s0_1 s0_2 from by repeat (first | (with_reducible first | exact HI0.out | apply IsS51.alloc | apply IsS51.drewN | apply IsS51.drew | apply IsS51.set_1 | apply IsS51.set_2) | exact HI0.out))) : gb292 ≠ g)); replace HI0 := Aside0.mk (IsS51.below au83 hb); clear hb hbox hg) | ((with_reducible refine gate_dst (N := 5) rfl ?_); refine Kd.R_lit (Kd.int .i64) _ 3 ?hg (N := 5) ?hd (xs := ([1999, 2000, 1850, 987, 1900, 2024] : List Int)) (inner := [.int .i64 1999, .int .i64 2000, .int .i64 1850, .int .i64 987, .int .i64 1900, .int .i64 2024]) (ok := fun _ => True) (okp := fun _ => True) ?hr ?hp (fun _ hk => hk) trivial (Below.refl _ _) (Nat.le_refl _) (by simp) ?_; (case hd => rfl); (case hg => rfl); (case hr => first | (go_simp; done) | (go_simp; rfl)); (case hp => exact (Reps.one (show Kd.M (Kd.int .i64) _ _ _ 1999 [.int .i64 1999] from rfl) (Reps.one (show Kd.M (Kd.int .i64) _ _ _ 2000 [.int .i64 2000] from rfl) (Reps.one (show Kd.M (Kd.int .i64) _ _ _ 1850 [.int .i64 1850] from rfl) (Reps.one (show Kd.M (Kd.int .i64) _ _ _ 987 [.int .i64 987] from rfl) (Reps.one (show Kd.M (Kd.int .i64) _ _ _ 1900 [.int .i64 1900] from rfl) (Reps.one (show Kd.M (Kd.int .i64) _ _ _ 2024 [.int .i64 2024] from rfl) (Reps.none _ _)))))))); intro v294 w51 ho52 hb hg_ hnew_; clear hg_ hnew_; (first | rw [← Ny293.out] at ho52 | (simp only [Int.reduceToNat] at ho52; rw [← Ny293.out] at ho52)); have HO295 := Aside0.mk (Kd.R_lower ho52 (keep_size (w := w) (g := g) (row := none) au77)); replace BK292 := Aside0.mk (blk_below (g := gb292) au108 hb); replace HK := Aside0.mk (KeepBut.trans au77 (KeepBut.of_below hb g none) (.inl rfl)); replace HB := Aside0.mk (below_step au65 hb); replace HI0 := Aside0.mk (IsS51.below au62 hb); clear hb ho52; obtain ⟨Ao53, co53, eo53⟩ := Kd.R_slice HO295.out; subst eo53) | ((with_reducible refine gate_callee (f := 30) rfl ?_); refine goesL_ (some 6) rfl rfl Tryd.func30 (by kernel_rfl) rfl #[.pointer (some ⟨g, 0, none⟩), .slice Ao53 y293.length co53] rfl au100 ?_; (with_reducible refine (spec_l1Cur_among.calls g s0_0 s0_1 s0_2 _ _ y293 t296 t297 t298 w0 _ ?side1 ?side2 ?side3 ?side4 ?side5 A2.out).mono ?_); (case side1 => repeat (first | (with_reducible first | exact HI0.out | apply IsS51.alloc | apply IsS51.drewN | apply IsS51.drew | apply IsS51.set_1 | apply IsS51.set_2 | refine IsS51.far ?_ NB0_292.out _) | exact HI0.out)); (case side2 => repeat (first | (with_reducible first | exact HB.out | apply below_alloc | apply pw_below_drewN | apply below_drew1 | refine below_set ?_ (IsS51.ge HI0.out) | refine below_set ?_ GE292.out) | exact HB.out)); (case side3 => repeat (first | exact (Kd.R_reads' HO295.out).2.2 | (with_reducible refine Kd.C_alloc ?_ _) | (with_reducible refine Kd.C_drewN ?_ _) | (with_reducible refine Kd.C_drew ?_))); (case side4 => exact (Kd.R_reads' HO295.out).2.1); (case side5 => exact far_slice (IsS51.own_ne HI0.out HO295.out (by decide))); rintro e w54 ⟨rfl, hi, hb, hk⟩; refine ⟨_, rfl, ?_⟩; replace BK292 := Aside0.mk (KeepBut.blk hk (g' := gb292) (o := .cells #[.int .i64 0, .int .i64 0, .int .i64 0, .bool false] 33 (0, 0)) au108 NB292_0.out (by simp)); replace HO295 := Aside0.mk (Kd.R_mono (Kd.R_keep (IsS51.apart (show IsS51 w0 _ g s0_0 s0_1 s0_2 from by repeat (first | (with_reducible first | exact HI0.out | apply IsS51.alloc | apply IsS51.drewN | apply IsS51.drew | apply IsS51.set_1 | apply IsS51.set_2 | refine IsS51.far ?_ NB0_292.out _) | exact HI0.out)) au146 (by decide)) hk (fun _ h => h.2)) (fun _ h => h.1)); replace HK := Aside0.mk (KeepBut.trans au77 hk (.inl rfl)); replace HB := Aside0.mk (hb); replace HI0 := Aside0.mk (hi); (try clear hb); (try clear hk); (try clear hi)) | ((with_reducible refine gate_dst (N := 3) rfl ?_); refine box_event ?hg (N := 3) ?hd (cs := #[.int .i64 0, .int .i64 0, .int .i64 0, .bool false]) (t := 33) ?hr ?_; (case hd => rfl); (case hg => rfl); (case hr => first | (go_simp; done) | (go_simp; rfl)); intro gb299 hg w55 hbox hb; replace HO295 := Aside0.mk (Kd.R_below au146 hb); replace HB := Aside0.mk (below_step au65 hb); have BK299 := Aside0.mk (hbox); have GW299 := Aside0.mk ((by rw [hg]; exact (keep_size (w := w) (g := g) (row := none) au77) : w.heap.size ≤ gb299)); have GE299 := Aside0.mk ((Nat.le_trans HW0.out (by rw [hg]; exact (keep_size (w := w) (g := g) (row := none) au77) : w.heap.size ≤ gb299) : w0.heap.size ≤ gb299)); replace HK := Aside0.mk (KeepBut.trans au77 (KeepBut.of_below hb g none) (.inl rfl)); have NB292_299 := Aside0.mk (bne (g := gb292) hg au108); have NB299_292 := Aside0.mk (ben (g := gb292) hg au108); replace BK292 := Aside0.mk (blk_below (g := gb292) au108 hb); have NB0_299 := Aside0.mk ((by rw [hg]; exact Nat.ne_of_lt (IsS51.lt (show IsS51 w0 _ g s0_0 t297 t298 from by repeat (first | (with_reducible first | exact HI0.out | apply IsS51.alloc | apply IsS51.drewN | apply IsS51.drew | apply IsS51.set_1 | apply IsS51.set_2 | refine IsS51.far ?_ NB0_292.out _) | exact HI0.out))) : g ≠ gb299)); have NB299_0 := Aside0.mk ((by rw [hg]; exact Nat.ne_of_gt (IsS51.lt (show IsS51 w0 _ g s0_0 t297 t298 from by repeat (first | (with_reducible first | exact HI0.out | apply IsS51.alloc | apply IsS51.drewN | apply IsS51.drew | apply IsS51.set_1 | apply IsS51.set_2 | refine IsS51.far ?_ NB0_292.out _) | exact HI0.out))) : gb299 ≠ g)); replace HI0 := Aside0.mk (IsS51.below au62 hb); clear hb hbox hg; have hnb56 := NB299_292.out; have hnc56 := NB292_299.out; have hnb57 := NB299_0.out; have hnc57 := NB0_299.out; obtain ⟨hcz58_0, hcz58_1, hcz58_2, hcz58_3, hfz58_0, hfz58_1, hfz58_2, hfz58_3⟩ := blkc4 BK299.out) | ((with_reducible refine gate_callee (f := 31) rfl ?_); refine goesL_ (some 9) rfl rfl Tryd.func31 (by kernel_rfl) rfl #[.pointer (some ⟨g, 0, none⟩), .int .i64 5] rfl au100 ?_; (with_reducible refine (spec_l1Cur_pick.calls g s0_0 t297 t298 5 t300 t301 t302 w0 _ ?side1 ?side2 A3.out).mono ?_); (case side1 => repeat (first | (with_reducible first | exact HI0.out | apply IsS51.alloc | apply IsS51.drewN | apply IsS51.drew | apply IsS51.set_1 | apply IsS51.set_2 | refine IsS51.far ?_ NB0_292.out _ | refine IsS51.far ?_ NB0_299.out _) | exact HI0.out)); (case side2 => repeat (first | (with_reducible first | exact HB.out | apply below_alloc | apply pw_below_drewN | apply below_drew1 | refine below_set ?_ (IsS51.ge HI0.out) | refine below_set ?_ GE292.out | refine below_set ?_ GE299.out) | exact HB.out)); rintro e w59 ⟨rfl, hi, hb, hk⟩; refine ⟨_, rfl, ?_⟩; replace BK292 := Aside0.mk (KeepBut.blk hk (g' := gb292) (o := .cells #[.int .i64 0, .int .i64 0, .int .i64 0, .bool false] 33 (0, 0)) au28 NB292_0.out (by simp)); replace HO295 := Aside0.mk (Kd.R_mono (Kd.R_keep (IsS51.apart (show IsS51 w0 _ g s0_0 t297 t298 from by repeat (first | (with_reducible first | exact HI0.out | apply IsS51.alloc | apply IsS51.drewN | apply IsS51.drew | apply IsS51.set_1 | apply IsS51.set_2 | refine IsS51.far ?_ NB0_292.out _ | refine IsS51.far ?_ NB0_299.out _) | exact HI0.out)) au37 (by decide)) hk (fun _ h => h.2)) (fun _ h => h.1)); replace BK299 := Aside0.mk (KeepBut.blk hk (g' := gb299) (o := .cells #[.int .i64 t296, .int .i64 0, .int .i64 0, .bool false] 33 (0, 0)) au22 NB299_0.out (by simp)); replace HK := Aside0.mk (KeepBut.trans au59 hk (.inl rfl)); replace HB := Aside0.mk (hb); replace HI0 := Aside0.mk (hi); (try clear hb); (try clear hk); (try clear hi)) | ((with_reducible refine gate_callee (f := 31) rfl ?_); refine goesL_ (some 25) rfl rfl Tryd.func31 (by kernel_rfl) rfl #[.pointer (some ⟨g, 0, none⟩), .int .i64 12] rfl au100 ?_; (with_reducible refine (spec_l1Cur_pick.calls g s0_0 t301 t302 12 t306 t307 t308 w0 _ ?side1 ?side2 A48.out).mono ?_); (case side1 => repeat (first | (with_reducible first | exact HI0.out | apply IsS51.alloc | apply IsS51.drewN | apply IsS51.drew | apply IsS51.set_1 | apply IsS51.set_2 | refine IsS51.far ?_ NB0_292.out _ | refine IsS51.far ?_ NB0_299.out _) | exact HI0.out)); (case side2 => repeat (first | (with_reducible first | exact HB.out | apply below_alloc | apply pw_below_drewN | apply below_drew1 | refine below_set ?_ (IsS51.ge HI0.out) | refine below_set ?_ GE292.out | refine below_set ?_ GE299.out) | exact HB.out)); rintro e w60 ⟨rfl, hi, hb, hk⟩; refine ⟨_, rfl, ?_⟩; replace BK292 := Aside0.mk (KeepBut.blk hk (g' := gb292) (o := .cells #[.int .i64 0, .int .i64 0, .int .i64 0, .bool false] 33 (0, 0)) au108 NB292_0.out (by simp)); replace HO295 := Aside0.mk (Kd.R_mono (Kd.R_keep (IsS51.apart (show IsS51 w0 _ g s0_0 t301 t302 from by repeat (first | (with_reducible first | exact HI0.out | apply IsS51.alloc | apply IsS51.drewN | apply IsS51.drew | apply IsS51.set_1 | apply IsS51.set_2 | refine IsS51.far ?_ NB0_292.out _ | refine IsS51.far ?_ NB0_299.out _) | exact HI0.out)) au146 (by decide)) hk (fun _ h => h.2)) (fun _ h => h.1)); replace BK299 := Aside0.mk (KeepBut.blk hk (g' := gb299) (o := .cells #[.int .i64 t296, .int .i64 0, .int .i64 0, .bool false] 33 (0, 0)) au109 NB299_0.out (by simp)); replace HK := Aside0.mk (KeepBut.trans au59 hk (.inl rfl)); replace HB := Aside0.mk (hb); replace HI0 := Aside0.mk (hi); (try clear hb); (try clear hk); (try clear hi); obtain ⟨hcz61_0, hcz61_1, hcz61_2, hcz61_3, hfz61_0, hfz61_1, hfz61_2, hfz61_3⟩ := blkc4 BK299.out) | ((with_reducible refine gate_callee (f := 31) rfl ?_); refine goesL_ (some 29) rfl rfl Tryd.func31 (by kernel_rfl) rfl #[.pointer (some ⟨g, 0, none⟩), .int .i64 28] rfl au100 ?_; (with_reducible refine (spec_l1Cur_pick.calls g s0_0 t307 t308 28 t309 t310 t311 w0 _ ?side1 ?side2 A49.out).mono ?_); (case side1 => repeat (first | (with_reducible first | exact HI0.out | apply IsS51.alloc | apply IsS51.drewN | apply IsS51.drew | apply IsS51.set_1 | apply IsS51.set_2 | refine IsS51.far ?_ NB0_292.out _ | refine IsS51.far ?_ NB0_299.out _) | exact HI0.out)); (case side2 => repeat (first | (with_reducible first | exact HB.out | apply below_alloc | apply pw_below_drewN | apply below_drew1 | refine below_set ?_ (IsS51.ge HI0.out) | refine below_set ?_ GE292.out | refine below_set ?_ GE299.out) | exact HB.out)); rintro e w62 ⟨rfl, hi, hb, hk⟩; refine ⟨_, rfl, ?_⟩; replace BK292 := Aside0.mk (KeepBut.blk hk (g' := gb292) (o := .cells #[.int .i64 0, .int .i64 0, .int .i64 0, .bool false] 33 (0, 0)) (by (with_reducible repeat (first | refine blk_drewN ?_ _ | refine blk_drew ?_ | refine blk_alloc ?_ _)); refine blk_far ?_ NB292_299.out _; (with_reducible repeat (first | refine blk_drewN ?_ _ | refine blk_drew ?_ | refine blk_alloc ?_ _)); exact BK292.out) NB292_0.out (by simp)); replace HO295 := Aside0.mk (Kd.R_mono (Kd.R_keep (IsS51.apart (show IsS51 w0 _ g s0_0 t307 t308 from by repeat (first | (with_reducible first | exact HI0.out | apply IsS51.alloc | apply IsS51.drewN | apply IsS51.drew | apply IsS51.set_1 | apply IsS51.set_2 | refine IsS51.far ?_ NB0_292.out _ | refine IsS51.far ?_ NB0_299.out _) | exact HI0.out)) (by (with_reducible repeat (first | apply Kd.R_alloc | apply Kd.R_drewN | apply Kd.R_drew)); exact (Kd.R_mono (Kd.R_far (p := ⟨gb299, 1, none⟩) (Kd.R_types HO295.out BK299.out (by decide)) (fun _ hk => hk.2) (.int .i64 (wrap64 (1 + t306)))) (fun _ h_ => h_.1))) (by decide)) hk (fun _ h => h.2)) (fun _ h => h.1)); replace BK299 := Aside0.mk (KeepBut.blk hk (g' := gb299) (o := .cells #[.int .i64 t296, .int .i64 (wrap64 (1 + t306)), .int .i64 0, .bool false] 33 (0, 0)) (by (with_reducible repeat (first | refine blk_drewN ?_ _ | refine blk_drew ?_ | refine blk_alloc ?_ _)); refine blk_put (cs := #[.int .i64 t296, .int .i64 0, .int .i64 0, .bool false]) ?_ 1 _ rfl; (with_reducible repeat (first | refine blk_drewN ?_ _ | refine blk_drew ?_ | refine blk_alloc ?_ _)); exact BK299.out) NB299_0.out (by simp)); replace HK := Aside0.mk (KeepBut.trans au59 hk (.inl rfl)); replace HB := Aside0.mk (hb); replace HI0 := Aside0.mk (hi); (try clear hb); (try clear hk); (try clear hi); obtain ⟨hcz63_0, hcz63_1, hcz63_2, hcz63_3, hfz63_0, hfz63_1, hfz63_2, hfz63_3⟩ := blkc4 BK299.out; have hnb64 := NB292_0.out; have hnc64 := NB0_292.out; obtain ⟨hcz65_0, hcz65_1, hcz65_2, hcz65_3, hfz65_0, hfz65_1, hfz65_2, hfz65_3⟩ := blkc4 BK292.out))
     refine bodyPost_ret (results_cell_row rfl _ _ gb292 33 #[.int .i64 t296, .int .i64 (wrap64 (1 + t306)), .int .i64 (wrap64 (1 + t309)), .bool false] (0, 0) _ rfl (by (with_reducible repeat (first | refine blk_drewN ?_ _ | refine blk_drew ?_ | refine blk_alloc ?_ _)); refine blk_put (cs := #[.int .i64 t296, .int .i64 (wrap64 (1 + t306)), .int .i64 (wrap64 (1 + t309)), .bool false]) ?_ 3 _ rfl; (with_reducible repeat (first | refine blk_drewN ?_ _ | refine blk_drew ?_ | refine blk_alloc ?_ _)); refine blk_put (cs := #[.int .i64 t296, .int .i64 (wrap64 (1 + t306)), .int .i64 0, .bool false]) ?_ 2 _ rfl; (with_reducible repeat (first | refine blk_drewN ?_ _ | refine blk_drew ?_ | refine blk_alloc ?_ _)); refine blk_put (cs := #[.int .i64 t296, .int .i64 0, .int .i64 0, .bool false]) ?_ 1 _ rfl; (with_reducible repeat (first | refine blk_drewN ?_ _ | refine blk_drew ?_ | refine blk_alloc ?_ _)); refine blk_put (cs := #[.int .i64 0, .int .i64 0, .int .i64 0, .bool false]) ?_ 0 _ rfl; (with_reducible repeat (first | refine blk_drewN ?_ _ | refine blk_drew ?_ | refine blk_alloc ?_ _)); refine blk_far ?_ NB292_299.out _; (with_reducible repeat (first | refine blk_drewN ?_ _ | refine blk_drew ?_ | refine blk_alloc ?_ _)); exact BK292.out) Tryd.underlying33 rfl (by kernel_rfl)) rfl ?_
     exact ax6
    ·
     rw [if_neg c47] at H
     have c47b0 : (t300 == 3) = false := beq_eq_false_iff_ne.mpr c47
     have c47b1 : (t300 != 3) = true := bne_iff_ne.mpr c47
     simp only [Option.some.injEq, Prod.mk.injEq] at H
     obtain ⟨rfl, rfl, rfl, rfl, rfl, rfl⟩ := H
     exact spec_l1Cur_date.L0


/-! ### spec_l1Cur_anyDate: function 72 -/
def spec_l1Cur_anyDate.f (s0_0 : List Int) (s0_1 : Int) (s0_2 : Int) : Option (Int × Int × Int × Bool × Int × Int) := (spec_l1Cur_date.f s0_0 s0_1 s0_2).bind fun bt313 => ((spec_l1Cur_pick.f s0_0 bt313.2.2.2.2.1 bt313.2.2.2.2.2 14).bind fun bt320 => (if bt320.1 = 0 then ((spec_l1Cur_among.f s0_0 bt320.2.1 bt320.2.2 (([0, (-1), 2999, 3000, 1] : List Int))).bind fun bt326 => (some (bt326.1, bt313.2.1, bt313.2.2.1, bt313.2.2.2.1, bt326.2.1, bt326.2.2))) else (if bt320.1 = 1 then ((spec_l1Cur_among.f s0_0 bt320.2.1 bt320.2.2 (([13, (-1), 2] : List Int))).bind fun bt332 => (some (bt313.1, bt332.1, bt313.2.2.1, bt313.2.2.2.1, bt332.2.1, bt332.2.2))) else (if bt320.1 = 2 then ((spec_l1Cur_among.f s0_0 bt320.2.1 bt320.2.2 (([29, 30, 31, 32, (-1)] : List Int))).bind fun bt338 => (some (bt313.1, bt313.2.1, bt338.1, bt313.2.2.2.1, bt338.2.1, bt338.2.2))) else (if bt320.1 = 3 then (some (bt313.1, bt313.2.1, bt313.2.2.1, !bt313.2.2.2.1, bt320.2.1, bt320.2.2)) else (some (bt313.1, bt313.2.1, bt313.2.2.1, bt313.2.2.2.1, bt320.2.1, bt320.2.2)))))))
set_option maxRecDepth 100000 in
theorem spec_l1Cur_anyDate.L0 {P : Prop} (h : P := by
  go_enter Tryd.func72, Tryd.ntmps72
  go_wp2_with (first | ((with_reducible refine gate_dst (N := 2) rfl ?_); refine box_event ?hg (N := 2) ?hd (cs := #[.int .i64 0, .int .i64 0, .int .i64 0, .bool false]) (t := 33) ?hr ?_; (case hd => rfl); (case hg => rfl); (case hr => first | (go_simp; done) | (go_simp; rfl)); intro gb312 hg w53 hbox hb; replace HB := Aside0.mk (below_step au82 hb); have BK312 := Aside0.mk (hbox); have GW312 := Aside0.mk ((by rw [hg]; exact (keep_size (w := w) (g := g) (row := none) au99) : w.heap.size ≤ gb312)); have GE312 := Aside0.mk ((Nat.le_trans HW0.out (by rw [hg]; exact (keep_size (w := w) (g := g) (row := none) au99) : w.heap.size ≤ gb312) : w0.heap.size ≤ gb312)); replace HK := Aside0.mk (KeepBut.trans au99 (KeepBut.of_below hb g none) (.inl rfl)); have NB0_312 := Aside0.mk ((by rw [hg]; exact Nat.ne_of_lt (IsS51.lt (show IsS51 w0 _ g s0_0 s0_1 s0_2 from by repeat (first | (with_reducible first | exact HI0.out | apply IsS51.alloc | apply IsS51.drewN | apply IsS51.drew | apply IsS51.set_1 | apply IsS51.set_2) | exact HI0.out))) : g ≠ gb312)); have NB312_0 := Aside0.mk ((by rw [hg]; exact Nat.ne_of_gt (IsS51.lt (show IsS51 w0 _ g s0_0 s0_1 s0_2 from by repeat (first | (with_reducible first | exact HI0.out | apply IsS51.alloc | apply IsS51.drewN | apply IsS51.drew | apply IsS51.set_1 | apply IsS51.set_2) | exact HI0.out))) : gb312 ≠ g)); replace HI0 := Aside0.mk (IsS51.below au83 hb); clear hb hbox hg) | ((with_reducible refine gate_callee (f := 54) rfl ?_); refine goesL_ (some 5) rfl rfl Tryd.func54 (by kernel_rfl) rfl #[.pointer (some ⟨g, 0, none⟩)] rfl au100 ?_; (with_reducible refine (spec_l1Cur_date.calls g s0_0 s0_1 s0_2 t313 t314 t315 t316 t317 t318 w0 _ ?side1 ?side2 A2.out).mono ?_); (case side1 => repeat (first | (with_reducible first | exact HI0.out | apply IsS51.alloc | apply IsS51.drewN | apply IsS51.drew | apply IsS51.set_1 | apply IsS51.set_2 | refine IsS51.far ?_ NB0_312.out _) | exact HI0.out)); (case side2 => repeat (first | (with_reducible first | exact HB.out | apply below_alloc | apply pw_below_drewN | apply below_drew1 | refine below_set ?_ (IsS51.ge HI0.out) | refine below_set ?_ GE312.out) | exact HB.out)); rintro e w54 ⟨rfl, hi, hb, hk⟩; refine ⟨_, rfl, ?_⟩; replace BK312 := Aside0.mk (KeepBut.blk hk (g' := gb312) (o := .cells #[.int .i64 0, .int .i64 0, .int .i64 0, .bool false] 33 (0, 0)) au110 NB312_0.out (by simp)); replace HK := Aside0.mk (KeepBut.trans au78 hk (.inl rfl)); replace HB := Aside0.mk (hb); replace HI0 := Aside0.mk (hi); (try clear hb); (try clear hk); (try clear hi)) | ((with_reducible refine gate_dst (N := 3) rfl ?_); refine box_event ?hg (N := 3) ?hd (cs := #[.int .i64 0, .int .i64 0, .int .i64 0, .bool false]) (t := 33) ?hr ?_; (case hd => rfl); (case hg => rfl); (case hr => first | (go_simp; done) | (go_simp; rfl)); intro gb319 hg w55 hbox hb; replace HB := Aside0.mk (below_step au66 hb); have BK319 := Aside0.mk (hbox); have GW319 := Aside0.mk ((by rw [hg]; exact (keep_size (w := w) (g := g) (row := none) au78) : w.heap.size ≤ gb319)); have GE319 := Aside0.mk ((Nat.le_trans HW0.out (by rw [hg]; exact (keep_size (w := w) (g := g) (row := none) au78) : w.heap.size ≤ gb319) : w0.heap.size ≤ gb319)); replace HK := Aside0.mk (KeepBut.trans au78 (KeepBut.of_below hb g none) (.inl rfl)); have NB312_319 := Aside0.mk (bne (g := gb312) hg au110); have NB319_312 := Aside0.mk (ben (g := gb312) hg au110); replace BK312 := Aside0.mk (blk_below (g := gb312) au110 hb); have NB0_319 := Aside0.mk ((by rw [hg]; exact Nat.ne_of_lt (IsS51.lt (show IsS51 w0 _ g s0_0 t317 t318 from by repeat (first | (with_reducible first | exact HI0.out | apply IsS51.alloc | apply IsS51.drewN | apply IsS51.drew | apply IsS51.set_1 | apply IsS51.set_2 | refine IsS51.far ?_ NB0_312.out _) | exact HI0.out))) : g ≠ gb319)); have NB319_0 := Aside0.mk ((by rw [hg]; exact Nat.ne_of_gt (IsS51.lt (show IsS51 w0 _ g s0_0 t317 t318 from by repeat (first | (with_reducible first | exact HI0.out | apply IsS51.alloc | apply IsS51.drewN | apply IsS51.drew | apply IsS51.set_1 | apply IsS51.set_2 | refine IsS51.far ?_ NB0_312.out _) | exact HI0.out))) : gb319 ≠ g)); replace HI0 := Aside0.mk (IsS51.below au63 hb); clear hb hbox hg; have hnb56 := NB319_312.out; have hnc56 := NB312_319.out; have hnb57 := NB319_0.out; have hnc57 := NB0_319.out; obtain ⟨hcz58_0, hcz58_1, hcz58_2, hcz58_3, hfz58_0, hfz58_1, hfz58_2, hfz58_3⟩ := blkc4 BK319.out) | ((with_reducible refine gate_callee (f := 31) rfl ?_); refine goesL_ (some 7) rfl rfl Tryd.func31 (by kernel_rfl) rfl #[.pointer (some ⟨g, 0, none⟩), .int .i64 14] rfl au100 ?_; (with_reducible refine (spec_l1Cur_pick.calls g s0_0 t317 t318 14 t320 t321 t322 w0 _ ?side1 ?side2 A3.out).mono ?_); (case side1 => repeat (first | (with_reducible first | exact HI0.out | apply IsS51.alloc | apply IsS51.drewN | apply IsS51.drew | apply IsS51.set_1 | apply IsS51.set_2 | refine IsS51.far ?_ NB0_312.out _ | refine IsS51.far ?_ NB0_319.out _) | exact HI0.out)); (case side2 => repeat (first | (with_reducible first | exact HB.out | apply below_alloc | apply pw_below_drewN | apply below_drew1 | refine below_set ?_ (IsS51.ge HI0.out) | refine below_set ?_ GE312.out | refine below_set ?_ GE319.out) | exact HB.out)); rintro e w59 ⟨rfl, hi, hb, hk⟩; refine ⟨_, rfl, ?_⟩; replace BK312 := Aside0.mk (KeepBut.blk hk (g' := gb312) (o := .cells #[.int .i64 0, .int .i64 0, .int .i64 0, .bool false] 33 (0, 0)) au29 NB312_0.out (by simp)); replace BK319 := Aside0.mk (KeepBut.blk hk (g' := gb319) (o := .cells #[.int .i64 t313, .int .i64 t314, .int .i64 t315, .bool t316] 33 (0, 0)) au18 NB319_0.out (by simp)); replace HK := Aside0.mk (KeepBut.trans au60 hk (.inl rfl)); replace HB := Aside0.mk (hb); replace HI0 := Aside0.mk (hi); (try clear hb); (try clear hk); (try clear hi); obtain ⟨hcz60_0, hcz60_1, hcz60_2, hcz60_3, hfz60_0, hfz60_1, hfz60_2, hfz60_3⟩ := blkc4 BK319.out; have hnb61 := NB312_0.out; have hnc61 := NB0_312.out; obtain ⟨hcz62_0, hcz62_1, hcz62_2, hcz62_3, hfz62_0, hfz62_1, hfz62_2, hfz62_3⟩ := blkc4 BK312.out))
  first
  |
   have g_ : (t320 == 3) = true := c52b0
   clear g_
   refine bodyPost_ret (results_cell_row rfl _ _ gb312 33 #[.int .i64 t313, .int .i64 t314, .int .i64 t315, .bool (!t316)] (0, 0) _ rfl (by (with_reducible repeat (first | refine blk_drewN ?_ _ | refine blk_drew ?_ | refine blk_alloc ?_ _)); refine blk_put (cs := #[.int .i64 t313, .int .i64 t314, .int .i64 t315, .bool false]) ?_ 3 _ rfl; (with_reducible repeat (first | refine blk_drewN ?_ _ | refine blk_drew ?_ | refine blk_alloc ?_ _)); refine blk_put (cs := #[.int .i64 t313, .int .i64 t314, .int .i64 0, .bool false]) ?_ 2 _ rfl; (with_reducible repeat (first | refine blk_drewN ?_ _ | refine blk_drew ?_ | refine blk_alloc ?_ _)); refine blk_put (cs := #[.int .i64 t313, .int .i64 0, .int .i64 0, .bool false]) ?_ 1 _ rfl; (with_reducible repeat (first | refine blk_drewN ?_ _ | refine blk_drew ?_ | refine blk_alloc ?_ _)); refine blk_put (cs := #[.int .i64 0, .int .i64 0, .int .i64 0, .bool false]) ?_ 0 _ rfl; (with_reducible repeat (first | refine blk_drewN ?_ _ | refine blk_drew ?_ | refine blk_alloc ?_ _)); refine blk_far ?_ NB312_319.out _; (with_reducible repeat (first | refine blk_drewN ?_ _ | refine blk_drew ?_ | refine blk_alloc ?_ _)); exact BK312.out) Tryd.underlying33 rfl (by kernel_rfl)) rfl ?_
   exact ax7
  |
   have g_ : (t320 == 3) = false := c52b0
   clear g_
   refine bodyPost_ret (results_cell_row rfl _ _ gb312 33 #[.int .i64 t313, .int .i64 t314, .int .i64 t315, .bool t316] (0, 0) _ rfl (by (with_reducible repeat (first | refine blk_drewN ?_ _ | refine blk_drew ?_ | refine blk_alloc ?_ _)); refine blk_put (cs := #[.int .i64 t313, .int .i64 t314, .int .i64 t315, .bool false]) ?_ 3 _ rfl; (with_reducible repeat (first | refine blk_drewN ?_ _ | refine blk_drew ?_ | refine blk_alloc ?_ _)); refine blk_put (cs := #[.int .i64 t313, .int .i64 t314, .int .i64 0, .bool false]) ?_ 2 _ rfl; (with_reducible repeat (first | refine blk_drewN ?_ _ | refine blk_drew ?_ | refine blk_alloc ?_ _)); refine blk_put (cs := #[.int .i64 t313, .int .i64 0, .int .i64 0, .bool false]) ?_ 1 _ rfl; (with_reducible repeat (first | refine blk_drewN ?_ _ | refine blk_drew ?_ | refine blk_alloc ?_ _)); refine blk_put (cs := #[.int .i64 0, .int .i64 0, .int .i64 0, .bool false]) ?_ 0 _ rfl; (with_reducible repeat (first | refine blk_drewN ?_ _ | refine blk_drew ?_ | refine blk_alloc ?_ _)); exact BK312.out) Tryd.underlying33 rfl (by kernel_rfl)) rfl ?_
   exact ax7) : P := h
set_option maxHeartbeats 8000000 in
set_option maxRecDepth 100000 in
theorem spec_l1Cur_anyDate.calls (g : Nat) (s0_0 : List Int) (s0_1 : Int) (s0_2 : Int) (r1 : Int) (r2 : Int) (r3 : Int) (r4 : Bool) (r5 : Int) (r6 : Int) (w0 w : World) (hI : IsS51 w0 w g s0_0 s0_1 s0_2) (hB : Below w0.heap.size w0 w) (h : spec_l1Cur_anyDate.f s0_0 s0_1 s0_2 = some (r1, r2, r3, r4, r5, r6)) :
  Calls Tryd.prog 72 #[.pointer (some ⟨g, 0, none⟩)] w fun e w' => e = .returned (.agg #[.int .i64 r1, .int .i64 r2, .int .i64 r3, .bool r4]) ∧ IsS51 w0 w' g s0_0 r5 r6 ∧ Below w0.heap.size w0 w' ∧ KeepBut w w' g none := by
 have hu33 := Tryd.underlying33
 have HI0 := Aside0.mk hI
 have HK := Aside0.mk (KeepBut.refl w g none)
 have HL := Aside0.mk hB.size
 clear hI
 have HW0 := Aside0.mk hB.size
 have HB := Aside0.mk hB
 clear hB
 have H : ((spec_l1Cur_date.f s0_0 s0_1 s0_2).bind fun bt313 => ((spec_l1Cur_pick.f s0_0 bt313.2.2.2.2.1 bt313.2.2.2.2.2 14).bind fun bt320 => (if bt320.1 = 0 then ((spec_l1Cur_among.f s0_0 bt320.2.1 bt320.2.2 (([0, (-1), 2999, 3000, 1] : List Int))).bind fun bt326 => (some (bt326.1, bt313.2.1, bt313.2.2.1, bt313.2.2.2.1, bt326.2.1, bt326.2.2))) else (if bt320.1 = 1 then ((spec_l1Cur_among.f s0_0 bt320.2.1 bt320.2.2 (([13, (-1), 2] : List Int))).bind fun bt332 => (some (bt313.1, bt332.1, bt313.2.2.1, bt313.2.2.2.1, bt332.2.1, bt332.2.2))) else (if bt320.1 = 2 then ((spec_l1Cur_among.f s0_0 bt320.2.1 bt320.2.2 (([29, 30, 31, 32, (-1)] : List Int))).bind fun bt338 => (some (bt313.1, bt313.2.1, bt338.1, bt313.2.2.2.1, bt338.2.1, bt338.2.2))) else (if bt320.1 = 3 then (some (bt313.1, bt313.2.1, bt313.2.2.1, !bt313.2.2.2.1, bt320.2.1, bt320.2.2)) else (some (bt313.1, bt313.2.1, bt313.2.2.1, bt313.2.2.2.1, bt320.2.1, bt320.2.2)))))))) = some (r1, r2, r3, r4, r5, r6) := h
 clear h
 replace H := Option.bind_eq_some_iff.mp H
 obtain ⟨⟨t313, t314, t315, t316, t317, t318⟩, A20, H⟩ := H
 replace H : ((spec_l1Cur_pick.f s0_0 t317 t318 14).bind fun bt320 => (if bt320.1 = 0 then ((spec_l1Cur_among.f s0_0 bt320.2.1 bt320.2.2 (([0, (-1), 2999, 3000, 1] : List Int))).bind fun bt326 => (some (bt326.1, t314, t315, t316, bt326.2.1, bt326.2.2))) else (if bt320.1 = 1 then ((spec_l1Cur_among.f s0_0 bt320.2.1 bt320.2.2 (([13, (-1), 2] : List Int))).bind fun bt332 => (some (t313, bt332.1, t315, t316, bt332.2.1, bt332.2.2))) else (if bt320.1 = 2 then ((spec_l1Cur_among.f s0_0 bt320.2.1 bt320.2.2 (([29, 30, 31, 32, (-1)] : List Int))).bind fun bt338 => (some (t313, t314, bt338.1, t316, bt338.2.1, bt338.2.2))) else (if bt320.1 = 3 then (some (t313, t314, t315, !t316, bt320.2.1, bt320.2.2)) else (some (t313, t314, t315, t316, bt320.2.1, bt320.2.2))))))) = some (r1, r2, r3, r4, r5, r6) := H
 have A2 := Aside0.mk A20
 clear A20
 replace H := Option.bind_eq_some_iff.mp H
 obtain ⟨⟨t320, t321, t322⟩, A30, H⟩ := H
 replace H : (if t320 = 0 then ((spec_l1Cur_among.f s0_0 t321 t322 (([0, (-1), 2999, 3000, 1] : List Int))).bind fun bt326 => (some (bt326.1, t314, t315, t316, bt326.2.1, bt326.2.2))) else (if t320 = 1 then ((spec_l1Cur_among.f s0_0 t321 t322 (([13, (-1), 2] : List Int))).bind fun bt332 => (some (t313, bt332.1, t315, t316, bt332.2.1, bt332.2.2))) else (if t320 = 2 then ((spec_l1Cur_among.f s0_0 t321 t322 (([29, 30, 31, 32, (-1)] : List Int))).bind fun bt338 => (some (t313, t314, bt338.1, t316, bt338.2.1, bt338.2.2))) else (if t320 = 3 then (some (t313, t314, t315, !t316, t321, t322)) else (some (t313, t314, t315, t316, t321, t322)))))) = some (r1, r2, r3, r4, r5, r6) := H
 have A3 := Aside0.mk A30
 clear A30
 by_cases c4 : t320 = 0
 ·
  rw [if_pos c4] at H
  have c4b0 : (t320 == 0) = true := beq_iff_eq.mpr c4
  have c4b1 : (t320 != 0) = false := bne_eq_false_iff_eq.mpr c4
  clear c4
  obtain ⟨y323, hy323⟩ : ∃ y_ : List Int, y_ = (([0, (-1), 2999, 3000, 1] : List Int)) := ⟨_, rfl⟩
  replace H : ((spec_l1Cur_among.f s0_0 t321 t322 y323).bind fun bt326 => (some (bt326.1, t314, t315, t316, bt326.2.1, bt326.2.2))) = some (r1, r2, r3, r4, r5, r6) := by first | (rw [hy323]; with_reducible exact H) | (have H2_ := (Option.bind_some _ _).symm.trans H; rw [hy323]; with_reducible exact H2_) | (have H2_ := (Option.bind_some _ _).symm.trans H; with_reducible exact H2_) | with_reducible exact H | (rw [hy323]; exact H) | exact H
  have Ny323 := Aside0.mk hy323
  clear hy323
  replace H := Option.bind_eq_some_iff.mp H
  obtain ⟨⟨t326, t327, t328⟩, A50, H⟩ := H
  replace H : (some (t326, t314, t315, t316, t327, t328)) = some (r1, r2, r3, r4, r5, r6) := H
  have A5 := Aside0.mk A50
  clear A50
  simp only [Option.some.injEq, Prod.mk.injEq] at H
  obtain ⟨rfl, rfl, rfl, rfl, rfl, rfl⟩ := H
  go_enter Tryd.func72, Tryd.ntmps72
  go_wp2_with (first | ((with_reducible refine gate_dst (N := 2) rfl ?_); refine box_event ?hg (N := 2) ?hd (cs := #[.int .i64 0, .int .i64 0, .int .i64 0, .bool false]) (t := 33) ?hr ?_; (case hd => rfl); (case hg => rfl); (case hr => first | (go_simp; done) | (go_simp; rfl)); intro gb312 hg w6 hbox hb; replace HB := Aside0.mk (below_step au82 hb); have BK312 := Aside0.mk (hbox); have GW312 := Aside0.mk ((by rw [hg]; exact (keep_size (w := w) (g := g) (row := none) au99) : w.heap.size ≤ gb312)); have GE312 := Aside0.mk ((Nat.le_trans HW0.out (by rw [hg]; exact (keep_size (w := w) (g := g) (row := none) au99) : w.heap.size ≤ gb312) : w0.heap.size ≤ gb312)); replace HK := Aside0.mk (KeepBut.trans au99 (KeepBut.of_below hb g none) (.inl rfl)); have NB0_312 := Aside0.mk ((by rw [hg]; exact Nat.ne_of_lt (IsS51.lt (show IsS51 w0 _ g s0_0 s0_1 s0_2 from by repeat (first | (with_reducible first | exact HI0.out | apply IsS51.alloc | apply IsS51.drewN | apply IsS51.drew | apply IsS51.set_1 | apply IsS51.set_2) | exact HI0.out))) : g ≠ gb312)); have NB312_0 := Aside0.mk ((by rw [hg]; exact Nat.ne_of_gt (IsS51.lt (show IsS51 w0 _ g s0_0 s0_1 s0_2 from by repeat (first | (with_reducible first | exact HI0.out | apply IsS51.alloc | apply IsS51.drewN | apply IsS51.drew | apply IsS51.set_1 | apply IsS51.set_2) | exact HI0.out))) : gb312 ≠ g)); replace HI0 := Aside0.mk (IsS51.below au83 hb); clear hb hbox hg) | ((with_reducible refine gate_callee (f := 54) rfl ?_); refine goesL_ (some 5) rfl rfl Tryd.func54 (by kernel_rfl) rfl #[.pointer (some ⟨g, 0, none⟩)] rfl au100 ?_; (with_reducible refine (spec_l1Cur_date.calls g s0_0 s0_1 s0_2 t313 t314 t315 t316 t317 t318 w0 _ ?side1 ?side2 A2.out).mono ?_); (case side1 => repeat (first | (with_reducible first | exact HI0.out | apply IsS51.alloc | apply IsS51.drewN | apply IsS51.drew | apply IsS51.set_1 | apply IsS51.set_2 | refine IsS51.far ?_ NB0_312.out _) | exact HI0.out)); (case side2 => repeat (first | (with_reducible first | exact HB.out | apply below_alloc | apply pw_below_drewN | apply below_drew1 | refine below_set ?_ (IsS51.ge HI0.out) | refine below_set ?_ GE312.out) | exact HB.out)); rintro e w7 ⟨rfl, hi, hb, hk⟩; refine ⟨_, rfl, ?_⟩; replace BK312 := Aside0.mk (KeepBut.blk hk (g' := gb312) (o := .cells #[.int .i64 0, .int .i64 0, .int .i64 0, .bool false] 33 (0, 0)) au110 NB312_0.out (by simp)); replace HK := Aside0.mk (KeepBut.trans au78 hk (.inl rfl)); replace HB := Aside0.mk (hb); replace HI0 := Aside0.mk (hi); (try clear hb); (try clear hk); (try clear hi)) | ((with_reducible refine gate_dst (N := 3) rfl ?_); refine box_event ?hg (N := 3) ?hd (cs := #[.int .i64 0, .int .i64 0, .int .i64 0, .bool false]) (t := 33) ?hr ?_; (case hd => rfl); (case hg => rfl); (case hr => first | (go_simp; done) | (go_simp; rfl)); intro gb319 hg w8 hbox hb; replace HB := Aside0.mk (below_step au66 hb); have BK319 := Aside0.mk (hbox); have GW319 := Aside0.mk ((by rw [hg]; exact (keep_size (w := w) (g := g) (row := none) au78) : w.heap.size ≤ gb319)); have GE319 := Aside0.mk ((Nat.le_trans HW0.out (by rw [hg]; exact (keep_size (w := w) (g := g) (row := none) au78) : w.heap.size ≤ gb319) : w0.heap.size ≤ gb319)); replace HK := Aside0.mk (KeepBut.trans au78 (KeepBut.of_below hb g none) (.inl rfl)); have NB312_319 := Aside0.mk (bne (g := gb312) hg au110); have NB319_312 := Aside0.mk (ben (g := gb312) hg au110); replace BK312 := Aside0.mk (blk_below (g := gb312) au110 hb); have NB0_319 := Aside0.mk ((by rw [hg]; exact Nat.ne_of_lt (IsS51.lt (show IsS51 w0 _ g s0_0 t317 t318 from by repeat (first | (with_reducible first | exact HI0.out | apply IsS51.alloc | apply IsS51.drewN | apply IsS51.drew | apply IsS51.set_1 | apply IsS51.set_2 | refine IsS51.far ?_ NB0_312.out _) | exact HI0.out))) : g ≠ gb319)); have NB319_0 := Aside0.mk ((by rw [hg]; exact Nat.ne_of_gt (IsS51.lt (show IsS51 w0 _ g s0_0 t317 t318 from by repeat (first | (with_reducible first | exact HI0.out | apply IsS51.alloc | apply IsS51.drewN | apply IsS51.drew | apply IsS51.set_1 | apply IsS51.set_2 | refine IsS51.far ?_ NB0_312.out _) | exact HI0.out))) : gb319 ≠ g)); replace HI0 := Aside0.mk (IsS51.below au63 hb); clear hb hbox hg; have hnb9 := NB319_312.out; have hnc9 := NB312_319.out; have hnb10 := NB319_0.out; have hnc10 := NB0_319.out; obtain ⟨hcz11_0, hcz11_1, hcz11_2, hcz11_3, hfz11_0, hfz11_1, hfz11_2, hfz11_3⟩ := blkc4 BK319.out) | ((with_reducible refine gate_callee (f := 31) rfl ?_); refine goesL_ (some 7) rfl rfl Tryd.func31 (by kernel_rfl) rfl #[.pointer (some ⟨g, 0, none⟩), .int .i64 14] rfl au100 ?_; (with_reducible refine (spec_l1Cur_pick.calls g s0_0 t317 t318 14 t320 t321 t322 w0 _ ?side1 ?side2 A3.out).mono ?_); (case side1 => repeat (first | (with_reducible first | exact HI0.out | apply IsS51.alloc | apply IsS51.drewN | apply IsS51.drew | apply IsS51.set_1 | apply IsS51.set_2 | refine IsS51.far ?_ NB0_312.out _ | refine IsS51.far ?_ NB0_319.out _) | exact HI0.out)); (case side2 => repeat (first | (with_reducible first | exact HB.out | apply below_alloc | apply pw_below_drewN | apply below_drew1 | refine below_set ?_ (IsS51.ge HI0.out) | refine below_set ?_ GE312.out | refine below_set ?_ GE319.out) | exact HB.out)); rintro e w12 ⟨rfl, hi, hb, hk⟩; refine ⟨_, rfl, ?_⟩; replace BK312 := Aside0.mk (KeepBut.blk hk (g' := gb312) (o := .cells #[.int .i64 0, .int .i64 0, .int .i64 0, .bool false] 33 (0, 0)) au29 NB312_0.out (by simp)); replace BK319 := Aside0.mk (KeepBut.blk hk (g' := gb319) (o := .cells #[.int .i64 t313, .int .i64 t314, .int .i64 t315, .bool t316] 33 (0, 0)) au18 NB319_0.out (by simp)); replace HK := Aside0.mk (KeepBut.trans au60 hk (.inl rfl)); replace HB := Aside0.mk (hb); replace HI0 := Aside0.mk (hi); (try clear hb); (try clear hk); (try clear hi)) | ((with_reducible refine gate_dst (N := 11) rfl ?_); refine Kd.R_lit (Kd.int .i64) _ 3 ?hg (N := 11) ?hd (xs := ([0, (-1), 2999, 3000, 1] : List Int)) (inner := [.int .i64 0, .int .i64 (-1), .int .i64 2999, .int .i64 3000, .int .i64 1]) (ok := fun _ => True) (okp := fun _ => True) ?hr ?hp (fun _ hk => hk) trivial (Below.refl _ _) (Nat.le_refl _) (by simp) ?_; (case hd => rfl); (case hg => rfl); (case hr => first | (go_simp; done) | (go_simp; rfl)); (case hp => exact (Reps.one (show Kd.M (Kd.int .i64) _ _ _ 0 [.int .i64 0] from rfl) (Reps.one (show Kd.M (Kd.int .i64) _ _ _ (-1) [.int .i64 (-1)] from rfl) (Reps.one (show Kd.M (Kd.int .i64) _ _ _ 2999 [.int .i64 2999] from rfl) (Reps.one (show Kd.M (Kd.int .i64) _ _ _ 3000 [.int .i64 3000] from rfl) (Reps.one (show Kd.M (Kd.int .i64) _ _ _ 1 [.int .i64 1] from rfl) (Reps.none _ _))))))); intro v324 w13 ho14 hb hg_ hnew_; clear hg_ hnew_; (first | rw [← Ny323.out] at ho14 | (simp only [Int.reduceToNat] at ho14; rw [← Ny323.out] at ho14)); have HO325 := Aside0.mk (Kd.R_lower ho14 (keep_size (w := w) (g := g) (row := none) au60)); replace BK312 := Aside0.mk (blk_below (g := gb312) au110 hb); replace BK319 := Aside0.mk (blk_below (g := gb319) au111 hb); replace HK := Aside0.mk (KeepBut.trans au60 (KeepBut.of_below hb g none) (.inl rfl)); replace HB := Aside0.mk (below_step au55 hb); replace HI0 := Aside0.mk (IsS51.below au53 hb); clear hb ho14; obtain ⟨Ao15, co15, eo15⟩ := Kd.R_slice HO325.out; subst eo15) | ((with_reducible refine gate_callee (f := 30) rfl ?_); refine goesL_ (some 12) rfl rfl Tryd.func30 (by kernel_rfl) rfl #[.pointer (some ⟨g, 0, none⟩), .slice Ao15 y323.length co15] rfl au100 ?_; (with_reducible refine (spec_l1Cur_among.calls g s0_0 t321 t322 _ _ y323 t326 t327 t328 w0 _ ?side1 ?side2 ?side3 ?side4 ?side5 A5.out).mono ?_); (case side1 => repeat (first | (with_reducible first | exact HI0.out | apply IsS51.alloc | apply IsS51.drewN | apply IsS51.drew | apply IsS51.set_1 | apply IsS51.set_2 | refine IsS51.far ?_ NB0_312.out _ | refine IsS51.far ?_ NB0_319.out _) | exact HI0.out)); (case side2 => repeat (first | (with_reducible first | exact HB.out | apply below_alloc | apply pw_below_drewN | apply below_drew1 | refine below_set ?_ (IsS51.ge HI0.out) | refine below_set ?_ GE312.out | refine below_set ?_ GE319.out) | exact HB.out)); (case side3 => repeat (first | exact (Kd.R_reads' HO325.out).2.2 | (with_reducible refine Kd.C_alloc ?_ _) | (with_reducible refine Kd.C_drewN ?_ _) | (with_reducible refine Kd.C_drew ?_))); (case side4 => exact (Kd.R_reads' HO325.out).2.1); (case side5 => exact far_slice (IsS51.own_ne HI0.out HO325.out (by decide))); rintro e w16 ⟨rfl, hi, hb, hk⟩; refine ⟨_, rfl, ?_⟩; replace BK312 := Aside0.mk (KeepBut.blk hk (g' := gb312) (o := .cells #[.int .i64 0, .int .i64 0, .int .i64 0, .bool false] 33 (0, 0)) au110 NB312_0.out (by simp)); replace BK319 := Aside0.mk (KeepBut.blk hk (g' := gb319) (o := .cells #[.int .i64 t313, .int .i64 t314, .int .i64 t315, .bool t316] 33 (0, 0)) au111 NB319_0.out (by simp)); replace HO325 := Aside0.mk (Kd.R_mono (Kd.R_keep (IsS51.apart (show IsS51 w0 _ g s0_0 t321 t322 from by repeat (first | (with_reducible first | exact HI0.out | apply IsS51.alloc | apply IsS51.drewN | apply IsS51.drew | apply IsS51.set_1 | apply IsS51.set_2 | refine IsS51.far ?_ NB0_312.out _ | refine IsS51.far ?_ NB0_319.out _) | exact HI0.out)) (by (with_reducible repeat (first | apply Kd.R_alloc | apply Kd.R_drewN | apply Kd.R_drew)); exact HO325.out) (by decide)) hk (fun _ h => h.2)) (fun _ h => h.1)); replace HK := Aside0.mk (KeepBut.trans au60 hk (.inl rfl)); replace HB := Aside0.mk (hb); replace HI0 := Aside0.mk (hi); (try clear hb); (try clear hk); (try clear hi); obtain ⟨hcz17_0, hcz17_1, hcz17_2, hcz17_3, hfz17_0, hfz17_1, hfz17_2, hfz17_3⟩ := blkc4 BK319.out; have hnb18 := NB312_0.out; have hnc18 := NB0_312.out; obtain ⟨hcz19_0, hcz19_1, hcz19_2, hcz19_3, hfz19_0, hfz19_1, hfz19_2, hfz19_3⟩ := blkc4 BK312.out))
  refine bodyPost_ret (results_cell_row rfl _ _ gb312 33 #[.int .i64 t326, .int .i64 t314, .int .i64 t315, .bool t316] (0, 0) _ rfl (by (with_reducible repeat (first | refine blk_drewN ?_ _ | refine blk_drew ?_ | refine blk_alloc ?_ _)); refine blk_put (cs := #[.int .i64 t326, .int .i64 t314, .int .i64 t315, .bool false]) ?_ 3 _ rfl; (with_reducible repeat (first | refine blk_drewN ?_ _ | refine blk_drew ?_ | refine blk_alloc ?_ _)); refine blk_put (cs := #[.int .i64 t326, .int .i64 t314, .int .i64 0, .bool false]) ?_ 2 _ rfl; (with_reducible repeat (first | refine blk_drewN ?_ _ | refine blk_drew ?_ | refine blk_alloc ?_ _)); refine blk_put (cs := #[.int .i64 t326, .int .i64 0, .int .i64 0, .bool false]) ?_ 1 _ rfl; (with_reducible repeat (first | refine blk_drewN ?_ _ | refine blk_drew ?_ | refine blk_alloc ?_ _)); refine blk_put (cs := #[.int .i64 0, .int .i64 0, .int .i64 0, .bool false]) ?_ 0 _ rfl; (with_reducible repeat (first | refine blk_drewN ?_ _ | refine blk_drew ?_ | refine blk_alloc ?_ _)); refine blk_far ?_ NB312_319.out _; (with_reducible repeat (first | refine blk_drewN ?_ _ | refine blk_drew ?_ | refine blk_alloc ?_ _)); exact BK312.out) Tryd.underlying33 rfl (by kernel_rfl)) rfl ?_
  exact ax7
 ·
  rw [if_neg c4] at H
  have c4b0 : (t320 == 0) = false := beq_eq_false_iff_ne.mpr c4
  have c4b1 : (t320 != 0) = true := bne_iff_ne.mpr c4
  by_cases c20 : t320 = 1
  ·
   rw [if_pos c20] at H
   have c20b0 : (t320 == 1) = true := beq_iff_eq.mpr c20
   have c20b1 : (t320 != 1) = false := bne_eq_false_iff_eq.mpr c20
   clear c20
   obtain ⟨y329, hy329⟩ : ∃ y_ : List Int, y_ = (([13, (-1), 2] : List Int)) := ⟨_, rfl⟩
   replace H : ((spec_l1Cur_among.f s0_0 t321 t322 y329).bind fun bt332 => (some (t313, bt332.1, t315, t316, bt332.2.1, bt332.2.2))) = some (r1, r2, r3, r4, r5, r6) := by first | (rw [hy329]; with_reducible exact H) | (have H2_ := (Option.bind_some _ _).symm.trans H; rw [hy329]; with_reducible exact H2_) | (have H2_ := (Option.bind_some _ _).symm.trans H; with_reducible exact H2_) | with_reducible exact H | (rw [hy329]; exact H) | exact H
   have Ny329 := Aside0.mk hy329
   clear hy329
   replace H := Option.bind_eq_some_iff.mp H
   obtain ⟨⟨t332, t333, t334⟩, A210, H⟩ := H
   replace H : (some (t313, t332, t315, t316, t333, t334)) = some (r1, r2, r3, r4, r5, r6) := H
   have A21 := Aside0.mk A210
   clear A210
   simp only [Option.some.injEq, Prod.mk.injEq] at H
   obtain ⟨rfl, rfl, rfl, rfl, rfl, rfl⟩ := H
   go_enter Tryd.func72, Tryd.ntmps72
   go_wp2_with (first | ((with_reducible refine gate_dst (N := 2) rfl ?_); refine box_event ?hg (N := 2) ?hd (cs := #[.int .i64 0, .int .i64 0, .int .i64 0, .bool false]) (t := 33) ?hr ?_; (case hd => rfl); (case hg => rfl); (case hr => first | (go_simp; done) | (go_simp; rfl)); intro gb312 hg w22 hbox hb; replace HB := Aside0.mk (below_step au82 hb); have BK312 := Aside0.mk (hbox); have GW312 := Aside0.mk ((by rw [hg]; exact (keep_size (w := w) (g := g) (row := none) au99) : w.heap.size ≤ gb312)); have GE312 := Aside0.mk ((Nat.le_trans HW0.out (by rw [hg]; exact (keep_size (w := w) (g := g) (row := none) au99) : w.heap.size ≤ gb312) : w0.heap.size ≤ gb312)); replace HK := Aside0.mk (KeepBut.trans au99 (KeepBut.of_below hb g none) (.inl rfl)); have NB0_312 := Aside0.mk ((by rw [hg]; exact Nat.ne_of_lt (IsS51.lt (show IsS51 w0 _ g s0_0 s0_1 s0_2 from by repeat (first | (with_reducible first | exact HI0.out | apply IsS51.alloc | apply IsS51.drewN | apply IsS51.drew | apply IsS51.set_1 | apply IsS51.set_2) | exact HI0.out))) : g ≠ gb312)); have NB312_0 := Aside0.mk ((by rw [hg]; exact Nat.ne_of_gt (IsS51.lt (show IsS51 w0 _ g s0_0 s0_1 s0_2 from by repeat (first | (with_reducible first | exact HI0.out | apply IsS51.alloc | apply IsS51.drewN | apply IsS51.drew | apply IsS51.set_1 | apply IsS51.set_2) | exact HI0.out))) : gb312 ≠ g)); replace HI0 := Aside0.mk (IsS51.below au83 hb); clear hb hbox hg) | ((with_reducible refine gate_callee (f := 54) rfl ?_); refine goesL_ (some 5) rfl rfl Tryd.func54 (by kernel_rfl) rfl #[.pointer (some ⟨g, 0, none⟩)] rfl au100 ?_; (with_reducible refine (spec_l1Cur_date.calls g s0_0 s0_1 s0_2 t313 t314 t315 t316 t317 t318 w0 _ ?side1 ?side2 A2.out).mono ?_); (case side1 => repeat (first | (with_reducible first | exact HI0.out | apply IsS51.alloc | apply IsS51.drewN | apply IsS51.drew | apply IsS51.set_1 | apply IsS51.set_2 | refine IsS51.far ?_ NB0_312.out _) | exact HI0.out)); (case side2 => repeat (first | (with_reducible first | exact HB.out | apply below_alloc | apply pw_below_drewN | apply below_drew1 | refine below_set ?_ (IsS51.ge HI0.out) | refine below_set ?_ GE312.out) | exact HB.out)); rintro e w23 ⟨rfl, hi, hb, hk⟩; refine ⟨_, rfl, ?_⟩; replace BK312 := Aside0.mk (KeepBut.blk hk (g' := gb312) (o := .cells #[.int .i64 0, .int .i64 0, .int .i64 0, .bool false] 33 (0, 0)) au110 NB312_0.out (by simp)); replace HK := Aside0.mk (KeepBut.trans au78 hk (.inl rfl)); replace HB := Aside0.mk (hb); replace HI0 := Aside0.mk (hi); (try clear hb); (try clear hk); (try clear hi)) | ((with_reducible refine gate_dst (N := 3) rfl ?_); refine box_event ?hg (N := 3) ?hd (cs := #[.int .i64 0, .int .i64 0, .int .i64 0, .bool false]) (t := 33) ?hr ?_; (case hd => rfl); (case hg => rfl); (case hr => first | (go_simp; done) | (go_simp; rfl)); intro gb319 hg w24 hbox hb; replace HB := Aside0.mk (below_step au66 hb); have BK319 := Aside0.mk (hbox); have GW319 := Aside0.mk ((by rw [hg]; exact (keep_size (w := w) (g := g) (row := none) au78) : w.heap.size ≤ gb319)); have GE319 := Aside0.mk ((Nat.le_trans HW0.out (by rw [hg]; exact (keep_size (w := w) (g := g) (row := none) au78) : w.heap.size ≤ gb319) : w0.heap.size ≤ gb319)); replace HK := Aside0.mk (KeepBut.trans au78 (KeepBut.of_below hb g none) (.inl rfl)); have NB312_319 := Aside0.mk (bne (g := gb312) hg au110); have NB319_312 := Aside0.mk (ben (g := gb312) hg au110); replace BK312 := Aside0.mk (blk_below (g := gb312) au110 hb); have NB0_319 := Aside0.mk ((by rw [hg]; exact Nat.ne_of_lt (IsS51.lt (show IsS51 w0 _ g s0_0 t317 t318 from by repeat (first | (with_reducible first | exact HI0.out | apply IsS51.alloc | apply IsS51.drewN | apply IsS51.drew | apply IsS51.set_1 | apply IsS51.set_2 | refine IsS51.far ?_ NB0_312.out _) | exact HI0.out))) : g ≠ gb319)); have NB319_0 := Aside0.mk ((by rw [hg]; exact Nat.ne_of_gt (IsS51.lt (show IsS51 w0 _ g s0_0 t317 t318 from by repeat (first | (with_reducible first | exact HI0.out | apply IsS51.alloc | apply IsS51.drewN | apply IsS51.drew | apply IsS51.set_1 | apply IsS51.set_2 | refine IsS51.far ?_ NB0_312.out _) | exact HI0.out))) : gb319 ≠ g)); replace HI0 := Aside0.mk (IsS51.below au63 hb); clear hb hbox hg; have hnb25 := NB319_312.out; have hnc25 := NB312_319.out; have hnb26 := NB319_0.out; have hnc26 := NB0_319.out; obtain ⟨hcz27_0, hcz27_1, hcz27_2, hcz27_3, hfz27_0, hfz27_1, hfz27_2, hfz27_3⟩ := blkc4 BK319.out) | ((with_reducible refine gate_callee (f := 31) rfl ?_); refine goesL_ (some 7) rfl rfl Tryd.func31 (by kernel_rfl) rfl #[.pointer (some ⟨g, 0, none⟩), .int .i64 14] rfl au100 ?_; (with_reducible refine (spec_l1Cur_pick.calls g s0_0 t317 t318 14 t320 t321 t322 w0 _ ?side1 ?side2 A3.out).mono ?_); (case side1 => repeat (first | (with_reducible first | exact HI0.out | apply IsS51.alloc | apply IsS51.drewN | apply IsS51.drew | apply IsS51.set_1 | apply IsS51.set_2 | refine IsS51.far ?_ NB0_312.out _ | refine IsS51.far ?_ NB0_319.out _) | exact HI0.out)); (case side2 => repeat (first | (with_reducible first | exact HB.out | apply below_alloc | apply pw_below_drewN | apply below_drew1 | refine below_set ?_ (IsS51.ge HI0.out) | refine below_set ?_ GE312.out | refine below_set ?_ GE319.out) | exact HB.out)); rintro e w28 ⟨rfl, hi, hb, hk⟩; refine ⟨_, rfl, ?_⟩; replace BK312 := Aside0.mk (KeepBut.blk hk (g' := gb312) (o := .cells #[.int .i64 0, .int .i64 0, .int .i64 0, .bool false] 33 (0, 0)) au29 NB312_0.out (by simp)); replace BK319 := Aside0.mk (KeepBut.blk hk (g' := gb319) (o := .cells #[.int .i64 t313, .int .i64 t314, .int .i64 t315, .bool t316] 33 (0, 0)) au18 NB319_0.out (by simp)); replace HK := Aside0.mk (KeepBut.trans au60 hk (.inl rfl)); replace HB := Aside0.mk (hb); replace HI0 := Aside0.mk (hi); (try clear hb); (try clear hk); (try clear hi)) | ((with_reducible refine gate_dst (N := 17) rfl ?_); refine Kd.R_lit (Kd.int .i64) _ 3 ?hg (N := 17) ?hd (xs := ([13, (-1), 2] : List Int)) (inner := [.int .i64 13, .int .i64 (-1), .int .i64 2]) (ok := fun _ => True) (okp := fun _ => True) ?hr ?hp (fun _ hk => hk) trivial (Below.refl _ _) (Nat.le_refl _) (by simp) ?_; (case hd => rfl); (case hg => rfl); (case hr => first | (go_simp; done) | (go_simp; rfl)); (case hp => exact (Reps.one (show Kd.M (Kd.int .i64) _ _ _ 13 [.int .i64 13] from rfl) (Reps.one (show Kd.M (Kd.int .i64) _ _ _ (-1) [.int .i64 (-1)] from rfl) (Reps.one (show Kd.M (Kd.int .i64) _ _ _ 2 [.int .i64 2] from rfl) (Reps.none _ _))))); intro v330 w29 ho30 hb hg_ hnew_; clear hg_ hnew_; (first | rw [← Ny329.out] at ho30 | (simp only [Int.reduceToNat] at ho30; rw [← Ny329.out] at ho30)); have HO331 := Aside0.mk (Kd.R_lower ho30 (keep_size (w := w) (g := g) (row := none) au60)); replace BK312 := Aside0.mk (blk_below (g := gb312) au110 hb); replace BK319 := Aside0.mk (blk_below (g := gb319) au111 hb); replace HK := Aside0.mk (KeepBut.trans au60 (KeepBut.of_below hb g none) (.inl rfl)); replace HB := Aside0.mk (below_step au55 hb); replace HI0 := Aside0.mk (IsS51.below au53 hb); clear hb ho30; obtain ⟨Ao31, co31, eo31⟩ := Kd.R_slice HO331.out; subst eo31) | ((with_reducible refine gate_callee (f := 30) rfl ?_); refine goesL_ (some 18) rfl rfl Tryd.func30 (by kernel_rfl) rfl #[.pointer (some ⟨g, 0, none⟩), .slice Ao31 y329.length co31] rfl au100 ?_; (with_reducible refine (spec_l1Cur_among.calls g s0_0 t321 t322 _ _ y329 t332 t333 t334 w0 _ ?side1 ?side2 ?side3 ?side4 ?side5 A21.out).mono ?_); (case side1 => repeat (first | (with_reducible first | exact HI0.out | apply IsS51.alloc | apply IsS51.drewN | apply IsS51.drew | apply IsS51.set_1 | apply IsS51.set_2 | refine IsS51.far ?_ NB0_312.out _ | refine IsS51.far ?_ NB0_319.out _) | exact HI0.out)); (case side2 => repeat (first | (with_reducible first | exact HB.out | apply below_alloc | apply pw_below_drewN | apply below_drew1 | refine below_set ?_ (IsS51.ge HI0.out) | refine below_set ?_ GE312.out | refine below_set ?_ GE319.out) | exact HB.out)); (case side3 => repeat (first | exact (Kd.R_reads' HO331.out).2.2 | (with_reducible refine Kd.C_alloc ?_ _) | (with_reducible refine Kd.C_drewN ?_ _) | (with_reducible refine Kd.C_drew ?_))); (case side4 => exact (Kd.R_reads' HO331.out).2.1); (case side5 => exact far_slice (IsS51.own_ne HI0.out HO331.out (by decide))); rintro e w32 ⟨rfl, hi, hb, hk⟩; refine ⟨_, rfl, ?_⟩; replace BK312 := Aside0.mk (KeepBut.blk hk (g' := gb312) (o := .cells #[.int .i64 0, .int .i64 0, .int .i64 0, .bool false] 33 (0, 0)) au110 NB312_0.out (by simp)); replace BK319 := Aside0.mk (KeepBut.blk hk (g' := gb319) (o := .cells #[.int .i64 t313, .int .i64 t314, .int .i64 t315, .bool t316] 33 (0, 0)) au111 NB319_0.out (by simp)); replace HO331 := Aside0.mk (Kd.R_mono (Kd.R_keep (IsS51.apart (show IsS51 w0 _ g s0_0 t321 t322 from by repeat (first | (with_reducible first | exact HI0.out | apply IsS51.alloc | apply IsS51.drewN | apply IsS51.drew | apply IsS51.set_1 | apply IsS51.set_2 | refine IsS51.far ?_ NB0_312.out _ | refine IsS51.far ?_ NB0_319.out _) | exact HI0.out)) (by (with_reducible repeat (first | apply Kd.R_alloc | apply Kd.R_drewN | apply Kd.R_drew)); exact HO331.out) (by decide)) hk (fun _ h => h.2)) (fun _ h => h.1)); replace HK := Aside0.mk (KeepBut.trans au60 hk (.inl rfl)); replace HB := Aside0.mk (hb); replace HI0 := Aside0.mk (hi); (try clear hb); (try clear hk); (try clear hi); obtain ⟨hcz33_0, hcz33_1, hcz33_2, hcz33_3, hfz33_0, hfz33_1, hfz33_2, hfz33_3⟩ := blkc4 BK319.out; have hnb34 := NB312_0.out; have hnc34 := NB0_312.out; obtain ⟨hcz35_0, hcz35_1, hcz35_2, hcz35_3, hfz35_0, hfz35_1, hfz35_2, hfz35_3⟩ := blkc4 BK312.out))
   refine bodyPost_ret (results_cell_row rfl _ _ gb312 33 #[.int .i64 t313, .int .i64 t332, .int .i64 t315, .bool t316] (0, 0) _ rfl (by (with_reducible repeat (first | refine blk_drewN ?_ _ | refine blk_drew ?_ | refine blk_alloc ?_ _)); refine blk_put (cs := #[.int .i64 t313, .int .i64 t332, .int .i64 t315, .bool false]) ?_ 3 _ rfl; (with_reducible repeat (first | refine blk_drewN ?_ _ | refine blk_drew ?_ | refine blk_alloc ?_ _)); refine blk_put (cs := #[.int .i64 t313, .int .i64 t332, .int .i64 0, .bool false]) ?_ 2 _ rfl; (with_reducible repeat (first | refine blk_drewN ?_ _ | refine blk_drew ?_ | refine blk_alloc ?_ _)); refine blk_put (cs := #[.int .i64 t313, .int .i64 0, .int .i64 0, .bool false]) ?_ 1 _ rfl; (with_reducible repeat (first | refine blk_drewN ?_ _ | refine blk_drew ?_ | refine blk_alloc ?_ _)); refine blk_put (cs := #[.int .i64 0, .int .i64 0, .int .i64 0, .bool false]) ?_ 0 _ rfl; (with_reducible repeat (first | refine blk_drewN ?_ _ | refine blk_drew ?_ | refine blk_alloc ?_ _)); refine blk_far ?_ NB312_319.out _; (with_reducible repeat (first | refine blk_drewN ?_ _ | refine blk_drew ?_ | refine blk_alloc ?_ _)); exact BK312.out) Tryd.underlying33 rfl (by kernel_rfl)) rfl ?_
   exact ax7
  ·
   rw [if_neg c20] at H
   have c20b0 : (t320 == 1) = false := beq_eq_false_iff_ne.mpr c20
   have c20b1 : (t320 != 1) = true := bne_iff_ne.mpr c20
   by_cases c36 : t320 = 2
   ·
    rw [if_pos c36] at H
    have c36b0 : (t320 == 2) = true := beq_iff_eq.mpr c36
    have c36b1 : (t320 != 2) = false := bne_eq_false_iff_eq.mpr c36
    clear c36
    obtain ⟨y335, hy335⟩ : ∃ y_ : List Int, y_ = (([29, 30, 31, 32, (-1)] : List Int)) := ⟨_, rfl⟩
    replace H : ((spec_l1Cur_among.f s0_0 t321 t322 y335).bind fun bt338 => (some (t313, t314, bt338.1, t316, bt338.2.1, bt338.2.2))) = some (r1, r2, r3, r4, r5, r6) := by first | (rw [hy335]; with_reducible exact H) | (have H2_ := (Option.bind_some _ _).symm.trans H; rw [hy335]; with_reducible exact H2_) | (have H2_ := (Option.bind_some _ _).symm.trans H; with_reducible exact H2_) | with_reducible exact H | (rw [hy335]; exact H) | exact H
    have Ny335 := Aside0.mk hy335
    clear hy335
    replace H := Option.bind_eq_some_iff.mp H
    obtain ⟨⟨t338, t339, t340⟩, A370, H⟩ := H
    replace H : (some (t313, t314, t338, t316, t339, t340)) = some (r1, r2, r3, r4, r5, r6) := H
    have A37 := Aside0.mk A370
    clear A370
    simp only [Option.some.injEq, Prod.mk.injEq] at H
    obtain ⟨rfl, rfl, rfl, rfl, rfl, rfl⟩ := H
    go_enter Tryd.func72, Tryd.ntmps72
    go_wp2_with (first | ((with_reducible refine gate_dst (N := 2) rfl ?_); refine box_event ?hg (N := 2) ?hd (cs := #[.int .i64 0, .int .i64 0, .int .i64 0, .bool false]) (t := 33) ?hr ?_; (case hd => rfl); (case hg => rfl); (case hr => first | (go_simp; done) | (go_simp; rfl)); intro gb312 hg w38 hbox hb; replace HB := Aside0.mk (below_step au82 hb); have BK312 := Aside0.mk (hbox); have GW312 := Aside0.mk ((by rw [hg]; exact (keep_size (w := w) (g := g) (row := none) au99) : w.heap.size ≤ gb312)); have GE312 := Aside0.mk ((Nat.le_trans HW0.out (by rw [hg]; exact (keep_size (w := w) (g := g) (row := none) au99) : w.heap.size ≤ gb312) : w0.heap.size ≤ gb312)); replace HK := Aside0.mk (KeepBut.trans au99 (KeepBut.of_below hb g none) (.inl rfl)); have NB0_312 := Aside0.mk ((by rw [hg]; exact Nat.ne_of_lt (IsS51.lt (show IsS51 w0 _ g s0_0 s0_1 s0_2 from by repeat (first | (with_reducible first | exact HI0.out | apply IsS51.alloc | apply IsS51.drewN | apply IsS51.drew | apply IsS51.set_1 | apply IsS51.set_2) | exact HI0.out))) : g ≠ gb312)); have NB312_0 := Aside0.mk ((by rw [hg]; exact Nat.ne_of_gt (IsS51.lt (show IsS51 w0 _ g s0_0 s0_1 s0_2 from by repeat (first | (with_reducible first | exact HI0.out | apply IsS51.alloc | apply IsS51.drewN | apply IsS51.drew | apply IsS51.set_1 | apply IsS51.set_2) | exact HI0.out))) : gb312 ≠ g)); replace HI0 := Aside0.mk (IsS51.below au83 hb); clear hb hbox hg) | ((with_reducible refine gate_callee (f := 54) rfl ?_); refine goesL_ (some 5) rfl rfl Tryd.func54 (by kernel_rfl) rfl #[.pointer (some ⟨g, 0, none⟩)] rfl au100 ?_; (with_reducible refine (spec_l1Cur_date.calls g s0_0 s0_1 s0_2 t313 t314 t315 t316 t317 t318 w0 _ ?side1 ?side2 A2.out).mono ?_); (case side1 => repeat (first | (with_reducible first | exact HI0.out | apply IsS51.alloc | apply IsS51.drewN | apply IsS51.drew | apply IsS51.set_1 | apply IsS51.set_2 | refine IsS51.far ?_ NB0_312.out _) | exact HI0.out)); (case side2 => repeat (first | (with_reducible first | exact HB.out | apply below_alloc | apply pw_below_drewN | apply below_drew1 | refine below_set ?_ (IsS51.ge HI0.out) | refine below_set ?_ GE312.out) | exact HB.out)); rintro e w39 ⟨rfl, hi, hb, hk⟩; refine ⟨_, rfl, ?_⟩; replace BK312 := Aside0.mk (KeepBut.blk hk (g' := gb312) (o := .cells #[.int .i64 0, .int .i64 0, .int .i64 0, .bool false] 33 (0, 0)) au110 NB312_0.out (by simp)); replace HK := Aside0.mk (KeepBut.trans au78 hk (.inl rfl)); replace HB := Aside0.mk (hb); replace HI0 := Aside0.mk (hi); (try clear hb); (try clear hk); (try clear hi)) | ((with_reducible refine gate_dst (N := 3) rfl ?_); refine box_event ?hg (N := 3) ?hd (cs := #[.int .i64 0, .int .i64 0, .int .i64 0, .bool false]) (t := 33) ?hr ?_; (case hd => rfl); (case hg => rfl); (case hr => first | (go_simp; done) | (go_simp; rfl)); intro gb319 hg w40 hbox hb; replace HB := Aside0.mk (below_step au66 hb); have BK319 := Aside0.mk (hbox); have GW319 := Aside0.mk ((by rw [hg]; exact (keep_size (w := w) (g := g) (row := none) au78) : w.heap.size ≤ gb319)); have GE319 := Aside0.mk ((Nat.le_trans HW0.out (by rw [hg]; exact (keep_size (w := w) (g := g) (row := none) au78) : w.heap.size ≤ gb319) : w0.heap.size ≤ gb319)); replace HK := Aside0.mk (KeepBut.trans au78 (KeepBut.of_below hb g none) (.inl rfl)); have NB312_319 := Aside0.mk (bne (g := gb312) hg au110); have NB319_312 := Aside0.mk (ben (g := gb312) hg au110); replace BK312 := Aside0.mk (blk_below (g := gb312) au110 hb); have NB0_319 := Aside0.mk ((by rw [hg]; exact Nat.ne_of_lt (IsS51.lt (show IsS51 w0 _ g s0_0 t317 t318 from by repeat (first | (with_reducible first | exact HI0.out | apply IsS51.alloc | apply IsS51.drewN | apply IsS51.drew | apply IsS51.set_1 | apply IsS51.set_2 | refine IsS51.far ?_ NB0_312.out _) | exact HI0.out))) : g ≠ gb319)); have NB319_0 := Aside0.mk ((by rw [hg]; exact Nat.ne_of_gt (IsS51.lt (show IsS51 w0 _ g s0_0 t317 t318 from by repeat (first | (with_reducible first | exact HI0.out | apply IsS51.alloc | apply IsS51.drewN | apply IsS51.drew | apply IsS51.set_1 | apply IsS51.set_2 | refine IsS51.far ?_ NB0_312.out _) | exact HI0.out))) : gb319 ≠ g)); replace HI0 := Aside0.mk (IsS51.below au63 hb); clear hb hbox hg; have hnb41 := NB319_312.out; have hnc41 := NB312_319.out; have hnb42 := NB319_0.out; have hnc42 := NB0_319.out; obtain ⟨hcz43_0, hcz43_1, hcz43_2, hcz43_3, hfz43_0, hfz43_1, hfz43_2, hfz43_3⟩ := blkc4 BK319.out) | ((with_reducible refine gate_callee (f := 31) rfl ?_); refine goesL_ (some 7) rfl rfl Tryd.func31 (by kernel_rfl) rfl #[.pointer (some ⟨g, 0, none⟩), .int .i64 14] rfl au100 ?_; (with_reducible refine (spec_l1Cur_pick.calls g s0_0 t317 t318 14 t320 t321 t322 w0 _ ?side1 ?side2 A3.out).mono ?_); (case side1 => repeat (first | (with_reducible first | exact HI0.out | apply IsS51.alloc | apply IsS51.drewN | apply IsS51.drew | apply IsS51.set_1 | apply IsS51.set_2 | refine IsS51.far ?_ NB0_312.out _ | refine IsS51.far ?_ NB0_319.out _) | exact HI0.out)); (case side2 => repeat (first | (with_reducible first | exact HB.out | apply below_alloc | apply pw_below_drewN | apply below_drew1 | refine below_set ?_ (IsS51.ge HI0.out) | refine below_set ?_ GE312.out | refine below_set ?_ GE319.out) | exact HB.out)); rintro e w44 ⟨rfl, hi, hb, hk⟩; refine ⟨_, rfl, ?_⟩; replace BK312 := Aside0.mk (KeepBut.blk hk (g' := gb312) (o := .cells #[.int .i64 0, .int .i64 0, .int .i64 0, .bool false] 33 (0, 0)) au29 NB312_0.out (by simp)); replace BK319 := Aside0.mk (KeepBut.blk hk (g' := gb319) (o := .cells #[.int .i64 t313, .int .i64 t314, .int .i64 t315, .bool t316] 33 (0, 0)) au18 NB319_0.out (by simp)); replace HK := Aside0.mk (KeepBut.trans au60 hk (.inl rfl)); replace HB := Aside0.mk (hb); replace HI0 := Aside0.mk (hi); (try clear hb); (try clear hk); (try clear hi)) | ((with_reducible refine gate_dst (N := 23) rfl ?_); refine Kd.R_lit (Kd.int .i64) _ 3 ?hg (N := 23) ?hd (xs := ([29, 30, 31, 32, (-1)] : List Int)) (inner := [.int .i64 29, .int .i64 30, .int .i64 31, .int .i64 32, .int .i64 (-1)]) (ok := fun _ => True) (okp := fun _ => True) ?hr ?hp (fun _ hk => hk) trivial (Below.refl _ _) (Nat.le_refl _) (by simp) ?_; (case hd => rfl); (case hg => rfl); (case hr => first | (go_simp; done) | (go_simp; rfl)); (case hp => exact (Reps.one (show Kd.M (Kd.int .i64) _ _ _ 29 [.int .i64 29] from rfl) (Reps.one (show Kd.M (Kd.int .i64) _ _ _ 30 [.int .i64 30] from rfl) (Reps.one (show Kd.M (Kd.int .i64) _ _ _ 31 [.int .i64 31] from rfl) (Reps.one (show Kd.M (Kd.int .i64) _ _ _ 32 [.int .i64 32] from rfl) (Reps.one (show Kd.M (Kd.int .i64) _ _ _ (-1) [.int .i64 (-1)] from rfl) (Reps.none _ _))))))); intro v336 w45 ho46 hb hg_ hnew_; clear hg_ hnew_; (first | rw [← Ny335.out] at ho46 | (simp only [Int.reduceToNat] at ho46; rw [← Ny335.out] at ho46)); have HO337 := Aside0.mk (Kd.R_lower ho46 (keep_size (w := w) (g := g) (row := none) au60)); replace BK312 := Aside0.mk (blk_below (g := gb312) au110 hb); replace BK319 := Aside0.mk (blk_below (g := gb319) au111 hb); replace HK := Aside0.mk (KeepBut.trans au60 (KeepBut.of_below hb g none) (.inl rfl)); replace HB := Aside0.mk (below_step au55 hb); replace HI0 := Aside0.mk (IsS51.below au53 hb); clear hb ho46; obtain ⟨Ao47, co47, eo47⟩ := Kd.R_slice HO337.out; subst eo47) | ((with_reducible refine gate_callee (f := 30) rfl ?_); refine goesL_ (some 24) rfl rfl Tryd.func30 (by kernel_rfl) rfl #[.pointer (some ⟨g, 0, none⟩), .slice Ao47 y335.length co47] rfl au100 ?_; (with_reducible refine (spec_l1Cur_among.calls g s0_0 t321 t322 _ _ y335 t338 t339 t340 w0 _ ?side1 ?side2 ?side3 ?side4 ?side5 A37.out).mono ?_); (case side1 => repeat (first | (with_reducible first | exact HI0.out | apply IsS51.alloc | apply IsS51.drewN | apply IsS51.drew | apply IsS51.set_1 | apply IsS51.set_2 | refine IsS51.far ?_ NB0_312.out _ | refine IsS51.far ?_ NB0_319.out _) | exact HI0.out)); (case side2 => repeat (first | (with_reducible first | exact HB.out | apply below_alloc | apply pw_below_drewN | apply below_drew1 | refine below_set ?_ (IsS51.ge HI0.out) | refine below_set ?_ GE312.out | refine below_set ?_ GE319.out) | exact HB.out)); (case side3 => repeat (first | exact (Kd.R_reads' HO337.out).2.2 | (with_reducible refine Kd.C_alloc ?_ _) | (with_reducible refine Kd.C_drewN ?_ _) | (with_reducible refine Kd.C_drew ?_))); (case side4 => exact (Kd.R_reads' HO337.out).2.1); (case side5 => exact far_slice (IsS51.own_ne HI0.out HO337.out (by decide))); rintro e w48 ⟨rfl, hi, hb, hk⟩; refine ⟨_, rfl, ?_⟩; replace BK312 := Aside0.mk (KeepBut.blk hk (g' := gb312) (o := .cells #[.int .i64 0, .int .i64 0, .int .i64 0, .bool false] 33 (0, 0)) au110 NB312_0.out (by simp)); replace BK319 := Aside0.mk (KeepBut.blk hk (g' := gb319) (o := .cells #[.int .i64 t313, .int .i64 t314, .int .i64 t315, .bool t316] 33 (0, 0)) au111 NB319_0.out (by simp)); replace HO337 := Aside0.mk (Kd.R_mono (Kd.R_keep (IsS51.apart (show IsS51 w0 _ g s0_0 t321 t322 from by repeat (first | (with_reducible first | exact HI0.out | apply IsS51.alloc | apply IsS51.drewN | apply IsS51.drew | apply IsS51.set_1 | apply IsS51.set_2 | refine IsS51.far ?_ NB0_312.out _ | refine IsS51.far ?_ NB0_319.out _) | exact HI0.out)) (by (with_reducible repeat (first | apply Kd.R_alloc | apply Kd.R_drewN | apply Kd.R_drew)); exact HO337.out) (by decide)) hk (fun _ h => h.2)) (fun _ h => h.1)); replace HK := Aside0.mk (KeepBut.trans au60 hk (.inl rfl)); replace HB := Aside0.mk (hb); replace HI0 := Aside0.mk (hi); (try clear hb); (try clear hk); (try clear hi); obtain ⟨hcz49_0, hcz49_1, hcz49_2, hcz49_3, hfz49_0, hfz49_1, hfz49_2, hfz49_3⟩ := blkc4 BK319.out; have hnb50 := NB312_0.out; have hnc50 := NB0_312.out; obtain ⟨hcz51_0, hcz51_1, hcz51_2, hcz51_3, hfz51_0, hfz51_1, hfz51_2, hfz51_3⟩ := blkc4 BK312.out))
    refine bodyPost_ret (results_cell_row rfl _ _ gb312 33 #[.int .i64 t313, .int .i64 t314, .int .i64 t338, .bool t316] (0, 0) _ rfl (by (with_reducible repeat (first | refine blk_drewN ?_ _ | refine blk_drew ?_ | refine blk_alloc ?_ _)); refine blk_put (cs := #[.int .i64 t313, .int .i64 t314, .int .i64 t338, .bool false]) ?_ 3 _ rfl; (with_reducible repeat (first | refine blk_drewN ?_ _ | refine blk_drew ?_ | refine blk_alloc ?_ _)); refine blk_put (cs := #[.int .i64 t313, .int .i64 t314, .int .i64 0, .bool false]) ?_ 2 _ rfl; (with_reducible repeat (first | refine blk_drewN ?_ _ | refine blk_drew ?_ | refine blk_alloc ?_ _)); refine blk_put (cs := #[.int .i64 t313, .int .i64 0, .int .i64 0, .bool false]) ?_ 1 _ rfl; (with_reducible repeat (first | refine blk_drewN ?_ _ | refine blk_drew ?_ | refine blk_alloc ?_ _)); refine blk_put (cs := #[.int .i64 0, .int .i64 0, .int .i64 0, .bool false]) ?_ 0 _ rfl; (with_reducible repeat (first | refine blk_drewN ?_ _ | refine blk_drew ?_ | refine blk_alloc ?_ _)); refine blk_far ?_ NB312_319.out _; (with_reducible repeat (first | refine blk_drewN ?_ _ | refine blk_drew ?_ | refine blk_alloc ?_ _)); exact BK312.out) Tryd.underlying33 rfl (by kernel_rfl)) rfl ?_
    exact ax7
   ·
    rw [if_neg c36] at H
    have c36b0 : (t320 == 2) = false := beq_eq_false_iff_ne.mpr c36
    have c36b1 : (t320 != 2) = true := bne_iff_ne.mpr c36
    by_cases c52 : t320 = 3
    ·
     rw [if_pos c52] at H
     have c52b0 : (t320 == 3) = true := beq_iff_eq.mpr c52
     have c52b1 : (t320 != 3) = false := bne_eq_false_iff_eq.mpr c52
     clear c52
     simp only [Option.some.injEq, Prod.mk.injEq] at H
     obtain ⟨rfl, rfl, rfl, rfl, rfl, rfl⟩ := H
     exact spec_l1Cur_anyDate.L0
    ·
     rw [if_neg c52] at H
     have c52b0 : (t320 == 3) = false := beq_eq_false_iff_ne.mpr c52
     have c52b1 : (t320 != 3) = true := bne_iff_ne.mpr c52
     simp only [Option.some.injEq, Prod.mk.injEq] at H
     obtain ⟨rfl, rfl, rfl, rfl, rfl, rfl⟩ := H
     exact spec_l1Cur_anyDate.L0


/-! ### spec_DrawIsValidDate: function 51 -/
def spec_DrawIsValidDate.f (l0 : List Int) : Option (Int × Int × Int × Bool) := (spec_l1Cur_anyDate.f l0 0 0).bind fun bt343 => (some (bt343.1, bt343.2.1, bt343.2.2.1, bt343.2.2.2.1))
set_option maxHeartbeats 8000000 in
set_option maxRecDepth 100000 in
theorem spec_DrawIsValidDate.calls (A0 : Option Addr) (c0 : Nat) (l0 : List Int) (r1 : Int) (r2 : Int) (r3 : Int) (r4 : Bool) (w : World) (hr0 : Kd.C (Kd.int .u8) w A0 l0.length l0) (hc0 : l0.length ≤ c0) (h : spec_DrawIsValidDate.f l0 = some (r1, r2, r3, r4)) :
  Calls Tryd.prog 51 #[.slice A0 l0.length c0] w fun e w' => e = .returned (.agg #[.int .i64 r1, .int .i64 r2, .int .i64 r3, .bool r4]) ∧ Below w.heap.size w w' := by
 have hu33 := Tryd.underlying33
 have hu51 := Tryd.underlying51
 have HR0 := Aside0.mk hr0
 have HC0 := Aside0.mk hc0
 clear hr0 hc0
 have HB := Aside0.mk (Below.refl w.heap.size w)
 have H : ((spec_l1Cur_anyDate.f l0 0 0).bind fun bt343 => (some (bt343.1, bt343.2.1, bt343.2.2.1, bt343.2.2.2.1))) = some (r1, r2, r3, r4) := h
 clear h
 replace H := Option.bind_eq_some_iff.mp H
 obtain ⟨⟨t343, t344, t345, t346, t347, t348⟩, A20, H⟩ := H
 replace H : (some (t343, t344, t345, t346)) = some (r1, r2, r3, r4) := H
 have A2 := Aside0.mk A20
 clear A20
 simp only [Option.some.injEq, Prod.mk.injEq] at H
 obtain ⟨rfl, rfl, rfl, rfl⟩ := H
 go_enter Tryd.func51, Tryd.ntmps51
 go_wp2_with (first | ((with_reducible refine gate_dst (N := 2) rfl ?_); refine box_event ?hg (N := 2) ?hd (cs := #[.int .i64 0, .int .i64 0, .int .i64 0, .bool false]) (t := 33) ?hr ?_; (case hd => rfl); (case hg => rfl); (case hr => first | (go_simp; done) | (go_simp; rfl)); intro gb341 hg w3 hbox hb; have BK341 := Aside0.mk (hbox); have GW341 := Aside0.mk (bsz hg au101); have GE341 := Aside0.mk (bsz hg au101); replace HB := Aside0.mk (below_step au101 hb); clear hb hbox hg) | ((with_reducible refine gate_dst (N := 6) rfl ?_); refine box_event ?hg (N := 6) ?hd (cs := #[.slice A0 l0.length c0, .int .i64 0, .int .u64 0]) (t := 51) ?hr ?_; (case hd => rfl); (case hg => rfl); (case hr => first | (go_simp; done) | (go_simp; rfl)); intro gb342 hg w4 hbox hb; have HI342 := Aside0.mk ((show IsS51 w w4 gb342 l0 0 0 from ⟨_, _, hbox, by rw [hg]; exact (below_size au86), HR0.out⟩)); replace HB := Aside0.mk (below_step au86 hb); have NB341_342 := Aside0.mk (bne (g := gb341) hg au112); have NB342_341 := Aside0.mk (ben (g := gb341) hg au112); replace BK341 := Aside0.mk (blk_below (g := gb341) au112 hb); clear hb hbox hg) | ((with_reducible refine gate_callee (f := 72) rfl ?_); refine goesL_ (some 8) rfl rfl Tryd.func72 (by kernel_rfl) rfl #[.pointer (some ⟨gb342, 0, none⟩)] rfl au100 ?_; (with_reducible refine (spec_l1Cur_anyDate.calls gb342 l0 0 0 t343 t344 t345 t346 t347 t348 w _ ?side1 ?side2 A2.out).mono ?_); (case side1 => repeat (first | (with_reducible first | exact HI342.out | apply IsS51.alloc | apply IsS51.drewN | apply IsS51.drew | apply IsS51.set_1 | apply IsS51.set_2 | refine IsS51.far ?_ NB342_341.out _) | exact HI342.out)); (case side2 => repeat (first | (with_reducible first | exact HB.out | apply below_alloc | apply pw_below_drewN | apply below_drew1 | refine below_set ?_ (IsS51.ge HI342.out) | refine below_set ?_ GE341.out) | exact HB.out)); rintro e w5 ⟨rfl, hi, hb, hk⟩; refine ⟨_, rfl, ?_⟩; replace BK341 := Aside0.mk (KeepBut.blk hk (g' := gb341) (o := .cells #[.int .i64 0, .int .i64 0, .int .i64 0, .bool false] 33 (0, 0)) au112 NB341_342.out (by simp)); replace HB := Aside0.mk (hb); replace HI342 := Aside0.mk (hi); (try clear hb); (try clear hk); (try clear hi); have hnb6 := NB341_342.out; have hnc6 := NB342_341.out; obtain ⟨hcz7_0, hcz7_1, hcz7_2, hcz7_3, hfz7_0, hfz7_1, hfz7_2, hfz7_3⟩ := blkc4 BK341.out))
 refine bodyPost_ret (results_cell_row rfl _ _ gb341 33 #[.int .i64 t343, .int .i64 t344, .int .i64 t345, .bool t346] (0, 0) _ rfl (by (with_reducible repeat (first | refine blk_drewN ?_ _ | refine blk_drew ?_ | refine blk_alloc ?_ _)); refine blk_put (cs := #[.int .i64 t343, .int .i64 t344, .int .i64 t345, .bool false]) ?_ 3 _ rfl; (with_reducible repeat (first | refine blk_drewN ?_ _ | refine blk_drew ?_ | refine blk_alloc ?_ _)); refine blk_put (cs := #[.int .i64 t343, .int .i64 t344, .int .i64 0, .bool false]) ?_ 2 _ rfl; (with_reducible repeat (first | refine blk_drewN ?_ _ | refine blk_drew ?_ | refine blk_alloc ?_ _)); refine blk_put (cs := #[.int .i64 t343, .int .i64 0, .int .i64 0, .bool false]) ?_ 1 _ rfl; (with_reducible repeat (first | refine blk_drewN ?_ _ | refine blk_drew ?_ | refine blk_alloc ?_ _)); refine blk_put (cs := #[.int .i64 0, .int .i64 0, .int .i64 0, .bool false]) ?_ 0 _ rfl; (with_reducible repeat (first | refine blk_drewN ?_ _ | refine blk_drew ?_ | refine blk_alloc ?_ _)); exact BK341.out) Tryd.underlying33 rfl (by kernel_rfl)) rfl ?_
 exact ⟨by first | rfl | (simp [errW_none, errW_some] <;> rfl) | (simp [*, errW_none, errW_some] <;> rfl), by repeat (first | (with_reducible first | exact HB.out | apply below_alloc | apply pw_below_drewN | apply below_drew1 | refine below_set ?_ (IsS51.ge HI342.out) | refine below_set ?_ GE341.out) | exact HB.out)⟩


/-! ### spec_DrawFormatDate: function 21 -/
def spec_DrawFormatDate.f (l0 : List Int) : Option (Int × Int × Int × Bool) := (spec_DrawIsValidDate.f l0).bind fun bt350 => (some (bt350.1, bt350.2.1, bt350.2.2.1, bt350.2.2.2))
set_option maxHeartbeats 8000000 in
set_option maxRecDepth 100000 in
theorem spec_DrawFormatDate.calls (A0 : Option Addr) (c0 : Nat) (l0 : List Int) (r1 : Int) (r2 : Int) (r3 : Int) (r4 : Bool) (w : World) (hr0 : Kd.C (Kd.int .u8) w A0 l0.length l0) (hc0 : l0.length ≤ c0) (h : spec_DrawFormatDate.f l0 = some (r1, r2, r3, r4)) :
  Calls Tryd.prog 21 #[.slice A0 l0.length c0] w fun e w' => e = .returned (.agg #[.int .i64 r1, .int .i64 r2, .int .i64 r3, .bool r4]) ∧ Below w.heap.size w w' := by
 have hu33 := Tryd.underlying33
 have HR0 := Aside0.mk hr0
 have HC0 := Aside0.mk hc0
 clear hr0 hc0
 have HB := Aside0.mk (Below.refl w.heap.size w)
 have H : ((spec_DrawIsValidDate.f l0).bind fun bt350 => (some (bt350.1, bt350.2.1, bt350.2.2.1, bt350.2.2.2))) = some (r1, r2, r3, r4) := h
 clear h
 replace H := Option.bind_eq_some_iff.mp H
 obtain ⟨⟨t350, t351, t352, t353⟩, A20, H⟩ := H
 replace H : (some (t350, t351, t352, t353)) = some (r1, r2, r3, r4) := H
 have A2 := Aside0.mk A20
 clear A20
 simp only [Option.some.injEq, Prod.mk.injEq] at H
 obtain ⟨rfl, rfl, rfl, rfl⟩ := H
 go_enter Tryd.func21, Tryd.ntmps21
 go_wp2_with (first | ((with_reducible refine gate_dst (N := 2) rfl ?_); refine box_event ?hg (N := 2) ?hd (cs := #[.int .i64 0, .int .i64 0, .int .i64 0, .bool false]) (t := 33) ?hr ?_; (case hd => rfl); (case hg => rfl); (case hr => first | (go_simp; done) | (go_simp; rfl)); intro gb349 hg w3 hbox hb; have BK349 := Aside0.mk (hbox); have GW349 := Aside0.mk (bsz hg au101); have GE349 := Aside0.mk (bsz hg au101); replace HB := Aside0.mk (below_step au101 hb); clear hb hbox hg) | ((with_reducible refine gate_callee (f := 51) rfl ?_); refine goesL_ (some 4) rfl rfl Tryd.func51 (by kernel_rfl) rfl #[.slice A0 l0.length c0] rfl au100 ?_; (with_reducible refine (spec_DrawIsValidDate.calls _ _ l0 t350 t351 t352 t353 _ ?side1 ?side2 A2.out).mono ?_); (case side1 => repeat (first | exact (Kd.C_below HR0.out HB.out) | (with_reducible refine Kd.C_alloc ?_ _) | (with_reducible refine Kd.C_drewN ?_ _) | (with_reducible refine Kd.C_drew ?_))); (case side2 => exact HC0.out); rintro e w4 ⟨rfl, hb⟩; refine ⟨_, rfl, ?_⟩; replace BK349 := Aside0.mk (blk_below (g := gb349) (by (with_reducible repeat (first | refine blk_drewN ?_ _ | refine blk_drew ?_ | refine blk_alloc ?_ _)); exact BK349.out) hb); replace HB := Aside0.mk (below_step (by repeat (first | (with_reducible first | exact HB.out | apply below_alloc | apply pw_below_drewN | apply below_drew1 | refine below_set ?_ GE349.out) | exact HB.out)) hb); (try clear hb); obtain ⟨hcz5_0, hcz5_1, hcz5_2, hcz5_3, hfz5_0, hfz5_1, hfz5_2, hfz5_3⟩ := blkc4 BK349.out))
 refine bodyPost_ret (results_cell_row rfl _ _ gb349 33 #[.int .i64 t350, .int .i64 t351, .int .i64 t352, .bool t353] (0, 0) _ rfl (by (with_reducible repeat (first | refine blk_drewN ?_ _ | refine blk_drew ?_ | refine blk_alloc ?_ _)); refine blk_put (cs := #[.int .i64 t350, .int .i64 t351, .int .i64 t352, .bool false]) ?_ 3 _ rfl; (with_reducible repeat (first | refine blk_drewN ?_ _ | refine blk_drew ?_ | refine blk_alloc ?_ _)); refine blk_put (cs := #[.int .i64 t350, .int .i64 t351, .int .i64 0, .bool false]) ?_ 2 _ rfl; (with_reducible repeat (first | refine blk_drewN ?_ _ | refine blk_drew ?_ | refine blk_alloc ?_ _)); refine blk_put (cs := #[.int .i64 t350, .int .i64 0, .int .i64 0, .bool false]) ?_ 1 _ rfl; (with_reducible repeat (first | refine blk_drewN ?_ _ | refine blk_drew ?_ | refine blk_alloc ?_ _)); refine blk_put (cs := #[.int .i64 0, .int .i64 0, .int .i64 0, .bool false]) ?_ 0 _ rfl; (with_reducible repeat (first | refine blk_drewN ?_ _ | refine blk_drew ?_ | refine blk_alloc ?_ _)); exact BK349.out) Tryd.underlying33 rfl (by kernel_rfl)) rfl ?_
 exact ⟨by first | rfl | (simp [errW_none, errW_some] <;> rfl) | (simp [*, errW_none, errW_some] <;> rfl), by repeat (first | (with_reducible first | exact HB.out | apply below_alloc | apply pw_below_drewN | apply below_drew1 | refine below_set ?_ GE349.out) | exact HB.out)⟩


/-! ### impl_FormatDate: function 22 -/
def impl_FormatDate.f (k : Nat) (a0_0 : Int) (a0_1 : Int) (a0_2 : Int) (a0_3 : Bool) : Option (ByteArray × Bool) := (impl_IsValidDate.f k a0_0 a0_1 a0_2 a0_3).bind fun t355 => (if t355 = true then ((impl_formatDate.f k a0_0 a0_1 a0_2 a0_3).bind fun t356 => (some (t356, true))) else (some ((⟨#[]⟩ : ByteArray), false)))
theorem impl_FormatDate.mono : ∀ a0 a1 a2 a3 k, LeO (impl_FormatDate.f k a0 a1 a2 a3) (impl_FormatDate.f (k + 1) a0 a1 a2 a3) := by
 intro a0 a1 a2 a3 k
 unfold impl_FormatDate.f
 repeat' first
   | (with_reducible exact impl_IsValidDate.mono _ _ _ _ _)
   | (with_reducible exact impl_formatDate.mono _ _ _ _ _)
   | (with_reducible exact LeO.refl _)
   | (with_reducible exact LeO.none _)
   | (with_reducible refine LeO.ite ?_ ?_)
   | (with_reducible refine LeO.bind ?_ (fun _ => ?_))
   | exact impl_IsValidDate.mono _ _ _ _ _
   | exact impl_formatDate.mono _ _ _ _ _
   | exact LeO.none _
   | refine LeO.ite ?_ ?_
   | refine LeO.bind ?_ (fun _ => ?_)
set_option maxHeartbeats 8000000 in
set_option maxRecDepth 100000 in
theorem impl_FormatDate.calls (k : Nat) (a0_0 : Int) (a0_1 : Int) (a0_2 : Int) (a0_3 : Bool) (r1 : ByteArray) (r2 : Bool) (w : World) {gF2 gF3 : Bool} (hG : GL true gF2 gF3 w) (h : impl_FormatDate.f k a0_0 a0_1 a0_2 a0_3 = some (r1, r2)) :
  Calls Tryd.prog 22 #[.agg #[.int .i64 a0_0, .int .i64 a0_1, .int .i64 a0_2, .bool a0_3]] w fun e w' => e = .returned (.tuple #[.string r1, .bool r2]) ∧ Below w.heap.size w w' := by
 have HG := Aside0.mk hG
 clear hG
 have hu33 := Tryd.underlying33
 have HB := Aside0.mk (Below.refl w.heap.size w)
 have H : ((impl_IsValidDate.f k a0_0 a0_1 a0_2 a0_3).bind fun t355 => (if t355 = true then ((impl_formatDate.f k a0_0 a0_1 a0_2 a0_3).bind fun t356 => (some (t356, true))) else (some ((⟨#[]⟩ : ByteArray), false)))) = some (r1, r2) := h
 clear h
 replace H := Option.bind_eq_some_iff.mp H
 obtain ⟨t355, A20, H⟩ := H
 try dsimp only at H
 have A2 := Aside0.mk A20
 clear A20
 by_cases c3 : t355 = true
 ·
  subst c3
  replace H := (if_pos rfl).symm.trans H
  replace H := Option.bind_eq_some_iff.mp H
  obtain ⟨t356, A40, H⟩ := H
  try dsimp only at H
  have A4 := Aside0.mk A40
  clear A40
  simp only [Option.some.injEq, Prod.mk.injEq] at H
  obtain ⟨rfl, rfl⟩ := H
  go_enter Tryd.func22, Tryd.ntmps22
  go_wp2_with (first | ((with_reducible refine gate_dst (N := 1) rfl ?_); refine box_event ?hg (N := 1) ?hd (cs := #[.int .i64 a0_0, .int .i64 a0_1, .int .i64 a0_2, .bool a0_3]) (t := 33) ?hr ?_; (case hd => rfl); (case hg => rfl); (case hr => first | (go_simp; done) | (go_simp; rfl)); intro gb354 hg w5 hbox hb; have BK354 := Aside0.mk (hbox); have GW354 := Aside0.mk (bsz hg au101); have GE354 := Aside0.mk (bsz hg au101); replace HB := Aside0.mk (below_step au101 hb); clear hb hbox hg; obtain ⟨hcz6_0, hcz6_1, hcz6_2, hcz6_3, hfz6_0, hfz6_1, hfz6_2, hfz6_3⟩ := blkc4 BK354.out) | ((with_reducible refine gate_callee (f := 49) rfl ?_); refine goesL_ (some 5) rfl rfl Tryd.func49 (by kernel_rfl) rfl #[.agg #[.int .i64 a0_0, .int .i64 a0_1, .int .i64 a0_2, .bool a0_3]] rfl au100 ?_; (with_reducible refine (impl_IsValidDate.calls k a0_0 a0_1 a0_2 a0_3 true _ A2.out).mono ?_); rintro e w7 ⟨rfl, hb⟩; refine ⟨_, rfl, ?_⟩; replace BK354 := Aside0.mk (blk_below (g := gb354) au113 hb); replace HB := Aside0.mk (below_step au87 hb); (try clear hb); obtain ⟨hcz8_0, hcz8_1, hcz8_2, hcz8_3, hfz8_0, hfz8_1, hfz8_2, hfz8_3⟩ := blkc4 BK354.out) | ((with_reducible refine gate_callee (f := 50) rfl ?_); refine goesL_ (some 8) rfl rfl Tryd.func50 (by kernel_rfl) rfl #[.agg #[.int .i64 a0_0, .int .i64 a0_1, .int .i64 a0_2, .bool a0_3]] rfl au100 ?_; (with_reducible refine (impl_formatDate.calls (hG := au40) k a0_0 a0_1 a0_2 a0_3 t356 _ A4.out).mono ?_); rintro e w9 ⟨rfl, hb⟩; refine ⟨_, rfl, ?_⟩; replace BK354 := Aside0.mk (blk_below (g := gb354) au113 hb); replace HB := Aside0.mk (below_step au87 hb); (try clear hb)))
  go_ret2
  exact ax8
 ·
  replace c3 := Bool.eq_false_iff.mpr c3
  subst c3
  replace H := (if_neg (show ¬ (false = true) by decide)).symm.trans H
  simp only [Option.some.injEq, Prod.mk.injEq] at H
  obtain ⟨rfl, rfl⟩ := H
  go_enter Tryd.func22, Tryd.ntmps22
  go_wp2_with (first | ((with_reducible refine gate_dst (N := 1) rfl ?_); refine box_event ?hg (N := 1) ?hd (cs := #[.int .i64 a0_0, .int .i64 a0_1, .int .i64 a0_2, .bool a0_3]) (t := 33) ?hr ?_; (case hd => rfl); (case hg => rfl); (case hr => first | (go_simp; done) | (go_simp; rfl)); intro gb354 hg w10 hbox hb; have BK354 := Aside0.mk (hbox); have GW354 := Aside0.mk (bsz hg au101); have GE354 := Aside0.mk (bsz hg au101); replace HB := Aside0.mk (below_step au101 hb); clear hb hbox hg; obtain ⟨hcz11_0, hcz11_1, hcz11_2, hcz11_3, hfz11_0, hfz11_1, hfz11_2, hfz11_3⟩ := blkc4 BK354.out) | ((with_reducible refine gate_callee (f := 49) rfl ?_); refine goesL_ (some 5) rfl rfl Tryd.func49 (by kernel_rfl) rfl #[.agg #[.int .i64 a0_0, .int .i64 a0_1, .int .i64 a0_2, .bool a0_3]] rfl au100 ?_; (with_reducible refine (impl_IsValidDate.calls k a0_0 a0_1 a0_2 a0_3 false _ A2.out).mono ?_); rintro e w12 ⟨rfl, hb⟩; refine ⟨_, rfl, ?_⟩; replace BK354 := Aside0.mk (blk_below (g := gb354) au113 hb); replace HB := Aside0.mk (below_step au87 hb); (try clear hb)))
  go_ret2
  exact ax8


/-! ### spec_l1In: function 34 -/
def spec_l1In.f (a0 : Int) (a1 : Int) (a2 : Int) : Option (Bool) := if a0 ≥ a1 then (some (decide (a0 ≤ a2))) else (some false)
set_option maxHeartbeats 8000000 in
set_option maxRecDepth 100000 in
theorem spec_l1In.calls (a0 : Int) (a1 : Int) (a2 : Int) (r : Bool) (w : World) (h : spec_l1In.f a0 a1 a2 = some r) :
  Calls Tryd.prog 34 #[.int .i64 a0, .int .i64 a1, .int .i64 a2] w fun e w' => e = .returned (.bool r) ∧ Drawn0 w w' := by
 have H : (if a0 ≥ a1 then (some (decide (a0 ≤ a2))) else (some false)) = some r := h
 clear h
 by_cases c4 : a0 ≥ a1
 ·
  rw [if_pos c4] at H
  have c4b0 : decide (a1 ≤ a0) = true := decide_eq_true c4
  clear c4
  obtain rfl := Option.some.inj H
  go_enter Tryd.func34, Tryd.ntmps34
  go_wp2
  go_ret
  exact ax0
 ·
  rw [if_neg c4] at H
  have c4b0 : decide (a1 ≤ a0) = false := decide_eq_false c4
  clear c4
  obtain rfl := Option.some.inj H
  go_enter Tryd.func34, Tryd.ntmps34
  go_wp2
  go_ret
  exact ax0


/-! ### spec_l3Days: function 73 -/
def spec_l3Days.j0 : Nat → Bool → Option (Int)
 | 0, _ => none
 | k + 1, x19 => if x19 = true then (some 29) else (some 28)
def spec_l3Days.f (k : Nat) (a0 : Int) (a1 : Int) : Option (Int) := if a1 = 2 then (if (Int.tmod a0 4) = 0 then (if (Int.tmod a0 100) = 0 then (spec_l3Days.j0 k ((Int.tmod a0 400) == 0)) else (spec_l3Days.j0 k true)) else (spec_l3Days.j0 k ((Int.tmod a0 400) == 0))) else (if a1 = 4 then (some 30) else (if a1 = 6 then (some 30) else (if a1 = 9 then (some 30) else (if a1 = 11 then (some 30) else (some 31)))))
theorem spec_l3Days.mono_l : ∀ k, (∀ y0, LeO (spec_l3Days.j0 k y0) (spec_l3Days.j0 (k + 1) y0))
 | 0 => fun _ r h => by simp [spec_l3Days.j0] at h
 | k + 1 => by
  have ih0 := spec_l3Days.mono_l k
  ·
   intro y0
   unfold spec_l3Days.j0
   repeat' first
   | (with_reducible exact ih0 _)
   | (with_reducible exact LeO.refl _)
   | (with_reducible exact LeO.none _)
   | (with_reducible refine LeO.ite ?_ ?_)
   | (with_reducible refine LeO.bind ?_ (fun _ => ?_))
   | exact ih0 _
   | exact LeO.none _
   | refine LeO.ite ?_ ?_
   | refine LeO.bind ?_ (fun _ => ?_)
theorem spec_l3Days.mono : ∀ a0 a1 k, LeO (spec_l3Days.f k a0 a1) (spec_l3Days.f (k + 1) a0 a1) := by
 intro a0 a1 k
 have ih0 := spec_l3Days.mono_l k
 unfold spec_l3Days.f
 repeat' first
   | (with_reducible exact ih0 _)
   | (with_reducible exact LeO.refl _)
   | (with_reducible exact LeO.none _)
   | (with_reducible refine LeO.ite ?_ ?_)
   | (with_reducible refine LeO.bind ?_ (fun _ => ?_))
   | exact ih0 _
   | exact LeO.none _
   | refine LeO.ite ?_ ?_
   | refine LeO.bind ?_ (fun _ => ?_)
set_option maxHeartbeats 8000000 in
set_option maxRecDepth 100000 in
theorem spec_l3Days.calls (k : Nat) (a0 : Int) (a1 : Int) (r : Int) (w : World) (h : spec_l3Days.f k a0 a1 = some r) :
  Calls Tryd.prog 73 #[.int .i64 a0, .int .i64 a1] w fun e w' => e = .returned (.int .i64 r) ∧ Drawn0 w w' := by
 have H : (if a1 = 2 then (if (Int.tmod a0 4) = 0 then (if (Int.tmod a0 100) = 0 then (spec_l3Days.j0 k ((Int.tmod a0 400) == 0)) else (spec_l3Days.j0 k true)) else (spec_l3Days.j0 k ((Int.tmod a0 400) == 0))) else (if a1 = 4 then (some 30) else (if a1 = 6 then (some 30) else (if a1 = 9 then (some 30) else (if a1 = 11 then (some 30) else (some 31)))))) = some r := h
 clear h
 by_cases c3 : a1 = 2
 ·
  rw [if_pos c3] at H
  have c3b0 : (a1 == 2) = true := beq_iff_eq.mpr c3
  have c3b1 : (a1 != 2) = false := bne_eq_false_iff_eq.mpr c3
  clear c3
  have HC4 := Aside0.mk H
  clear H
  go_enter Tryd.func73, Tryd.ntmps73
  go_upto_region 2 with (fail)
  go_cut [19] (fun v19 wc => ∃ (kq : Nat) (x19_3 : Bool), v19 = .bool x19_3 ∧ Aside0 (spec_l3Days.j0 kq x19_3 = some r) ∧ Aside0 (kq ≤ k) ∧ Drawn0 w wc)
  case first =>
   have H := HC4.out
   clear HC4
   by_cases c5 : (Int.tmod a0 4) = 0
   ·
    rw [if_pos c5] at H
    have c5b0 : ((Int.tmod a0 4) == 0) = true := beq_iff_eq.mpr c5
    have c5b1 : ((Int.tmod a0 4) != 0) = false := bne_eq_false_iff_eq.mpr c5
    clear c5
    (first | rw [c5b0] | (simp only [i64_w, i32_w]; rw [c5b0]) | skip)
    by_cases c6 : (Int.tmod a0 100) = 0
    ·
     rw [if_pos c6] at H
     have c6b0 : ((Int.tmod a0 100) == 0) = true := beq_iff_eq.mpr c6
     have c6b1 : ((Int.tmod a0 100) != 0) = false := bne_eq_false_iff_eq.mpr c6
     clear c6
     have H' := Aside0.mk H
     clear H
     go_wp2
     go_meet
     case rel => exact ⟨_, (((Int.tmod a0 400) == 0)), au153, H', ⟨by first | omega | exact Nat.le_refl _⟩, by repeat (first | exact Drawn0.refl _ | apply Drawn0.step)⟩
    ·
     rw [if_neg c6] at H
     have c6b0 : ((Int.tmod a0 100) == 0) = false := beq_eq_false_iff_ne.mpr c6
     have c6b1 : ((Int.tmod a0 100) != 0) = true := bne_iff_ne.mpr c6
     have H' := Aside0.mk H
     clear H
     go_wp2
     go_meet
     case rel => exact ⟨_, (true), au153, H', ⟨by first | omega | exact Nat.le_refl _⟩, by repeat (first | exact Drawn0.refl _ | apply Drawn0.step)⟩
   ·
    rw [if_neg c5] at H
    have c5b0 : ((Int.tmod a0 4) == 0) = false := beq_eq_false_iff_ne.mpr c5
    have c5b1 : ((Int.tmod a0 4) != 0) = true := bne_iff_ne.mpr c5
    (first | rw [c5b0] | (simp only [i64_w, i32_w]; rw [c5b0]) | skip)
    have H' := Aside0.mk H
    clear H
    go_wp2
    go_meet
    case rel => exact ⟨_, (((Int.tmod a0 400) == 0)), au153, H', ⟨by first | omega | exact Nat.le_refl _⟩, by repeat (first | exact Drawn0.refl _ | apply Drawn0.step)⟩
  case rest =>
   clear HC4
   try clear p2
   try clear c3
   try clear c3b0
   try clear c3b1
   try clear c5
   try clear c5b0
   try clear c5b1
   try clear c6
   try clear c6b0
   try clear c6b1
   obtain ⟨kq, x19_3, rfl, HA, HJ3, ⟨mc3, rfl⟩⟩ := hcut
   cases kq with
   | zero => exact absurd HA.out (by simp [spec_l3Days.j0])
   | succ kj3 =>
    have H := HA.out
    clear HA
    simp only [spec_l3Days.j0] at H
    by_cases c7 : x19_3 = true
    ·
     subst c7
     replace H := (if_pos rfl).symm.trans H
     obtain rfl := Option.some.inj H
     go_wp2
     go_ret
     exact ax0
    ·
     replace c7 := Bool.eq_false_iff.mpr c7
     subst c7
     replace H := (if_neg (show ¬ (false = true) by decide)).symm.trans H
     obtain rfl := Option.some.inj H
     go_wp2
     go_ret
     exact ax0
 ·
  rw [if_neg c3] at H
  have c3b0 : (a1 == 2) = false := beq_eq_false_iff_ne.mpr c3
  have c3b1 : (a1 != 2) = true := bne_iff_ne.mpr c3
  by_cases c8 : a1 = 4
  ·
   rw [if_pos c8] at H
   have c8b0 : (a1 == 4) = true := beq_iff_eq.mpr c8
   have c8b1 : (a1 != 4) = false := bne_eq_false_iff_eq.mpr c8
   clear c8
   obtain rfl := Option.some.inj H
   go_enter Tryd.func73, Tryd.ntmps73
   go_wp2
   go_ret
   exact ax0
  ·
   rw [if_neg c8] at H
   have c8b0 : (a1 == 4) = false := beq_eq_false_iff_ne.mpr c8
   have c8b1 : (a1 != 4) = true := bne_iff_ne.mpr c8
   by_cases c9 : a1 = 6
   ·
    rw [if_pos c9] at H
    have c9b0 : (a1 == 6) = true := beq_iff_eq.mpr c9
    have c9b1 : (a1 != 6) = false := bne_eq_false_iff_eq.mpr c9
    clear c9
    obtain rfl := Option.some.inj H
    go_enter Tryd.func73, Tryd.ntmps73
    go_wp2
    go_ret
    exact ax0
   ·
    rw [if_neg c9] at H
    have c9b0 : (a1 == 6) = false := beq_eq_false_iff_ne.mpr c9
    have c9b1 : (a1 != 6) = true := bne_iff_ne.mpr c9
    by_cases c10 : a1 = 9
    ·
     rw [if_pos c10] at H
     have c10b0 : (a1 == 9) = true := beq_iff_eq.mpr c10
     have c10b1 : (a1 != 9) = false := bne_eq_false_iff_eq.mpr c10
     clear c10
     obtain rfl := Option.some.inj H
     go_enter Tryd.func73, Tryd.ntmps73
     go_wp2
     go_ret
     exact ax0
    ·
     rw [if_neg c10] at H
     have c10b0 : (a1 == 9) = false := beq_eq_false_iff_ne.mpr c10
     have c10b1 : (a1 != 9) = true := bne_iff_ne.mpr c10
     by_cases c11 : a1 = 11
     ·
      rw [if_pos c11] at H
      have c11b0 : (a1 == 11) = true := beq_iff_eq.mpr c11
      have c11b1 : (a1 != 11) = false := bne_eq_false_iff_eq.mpr c11
      clear c11
      obtain rfl := Option.some.inj H
      go_enter Tryd.func73, Tryd.ntmps73
      go_wp2
      go_ret
      exact ax0
     ·
      rw [if_neg c11] at H
      have c11b0 : (a1 == 11) = false := beq_eq_false_iff_ne.mpr c11
      have c11b1 : (a1 != 11) = true := bne_iff_ne.mpr c11
      obtain rfl := Option.some.inj H
      go_enter Tryd.func73, Tryd.ntmps73
      go_wp2
      go_ret
      exact ax0


attribute [local go_sem high] eqA33
/-! ### spec_l3Good: function 52 -/
def spec_l3Good.j0 : Nat → Bool → Int → Int → Int → Bool → Option (Bool)
 | 0, _, _, _, _, _ => none
 | k + 1, x7, x208000, x208001, x208002, x208003 => if x7 = true then (some false) else (if x208003 = true then (if x208001 = 0 then (some (x208002 == 0)) else (some false)) else (if x208001 = 0 then (some (x208002 == 0)) else ((spec_l3Days.f k x208000 x208001).bind fun t210 => ((spec_l1In.f x208002 0 t210).bind fun t211 => (some t211)))))
def spec_l3Good.f (k : Nat) (a0_0 : Int) (a0_1 : Int) (a0_2 : Int) (a0_3 : Bool) : Option (Bool) := if (a0_0 == 0 && (a0_1 == 0 && (a0_2 == 0 && (!a0_3)))) = true then (some true) else ((spec_l1In.f a0_0 1 2999).bind fun t208 => (if t208 = true then ((spec_l1In.f a0_1 0 12).bind fun t209 => (spec_l3Good.j0 k (!t209) a0_0 a0_1 a0_2 a0_3)) else (spec_l3Good.j0 k true a0_0 a0_1 a0_2 a0_3)))
theorem spec_l3Good.mono_l : ∀ k, (∀ y0 y1 y2 y3 y4, LeO (spec_l3Good.j0 k y0 y1 y2 y3 y4) (spec_l3Good.j0 (k + 1) y0 y1 y2 y3 y4))
 | 0 => fun _ _ _ _ _ r h => by simp [spec_l3Good.j0] at h
 | k + 1 => by
  have ih0 := spec_l3Good.mono_l k
  ·
   intro y0 y1 y2 y3 y4
   unfold spec_l3Good.j0
   repeat' first
   | (with_reducible exact ih0 _ _ _ _ _)
   | (with_reducible exact spec_l3Days.mono _ _ _)
   | (with_reducible exact LeO.refl _)
   | (with_reducible exact LeO.none _)
   | (with_reducible refine LeO.ite ?_ ?_)
   | (with_reducible refine LeO.bind ?_ (fun _ => ?_))
   | exact ih0 _ _ _ _ _
   | exact spec_l3Days.mono _ _ _
   | exact LeO.none _
   | refine LeO.ite ?_ ?_
   | refine LeO.bind ?_ (fun _ => ?_)
theorem spec_l3Good.mono : ∀ a0 a1 a2 a3 k, LeO (spec_l3Good.f k a0 a1 a2 a3) (spec_l3Good.f (k + 1) a0 a1 a2 a3) := by
 intro a0 a1 a2 a3 k
 have ih0 := spec_l3Good.mono_l k
 unfold spec_l3Good.f
 repeat' first
   | (with_reducible exact ih0 _ _ _ _ _)
   | (with_reducible exact spec_l3Days.mono _ _ _)
   | (with_reducible exact LeO.refl _)
   | (with_reducible exact LeO.none _)
   | (with_reducible refine LeO.ite ?_ ?_)
   | (with_reducible refine LeO.bind ?_ (fun _ => ?_))
   | exact ih0 _ _ _ _ _
   | exact spec_l3Days.mono _ _ _
   | exact LeO.none _
   | refine LeO.ite ?_ ?_
   | refine LeO.bind ?_ (fun _ => ?_)
set_option maxHeartbeats 8000000 in
set_option maxRecDepth 100000 in
theorem spec_l3Good.calls (k : Nat) (a0_0 : Int) (a0_1 : Int) (a0_2 : Int) (a0_3 : Bool) (r : Bool) (w : World) (h : spec_l3Good.f k a0_0 a0_1 a0_2 a0_3 = some r) :
  Calls Tryd.prog 52 #[.agg #[.int .i64 a0_0, .int .i64 a0_1, .int .i64 a0_2, .bool a0_3]] w fun e w' => e = .returned (.bool r) ∧ Below w.heap.size w w' := by
 have hu33 := Tryd.underlying33
 have HB := Aside0.mk (Below.refl w.heap.size w)
 have H : (if (a0_0 == 0 && (a0_1 == 0 && (a0_2 == 0 && (!a0_3)))) = true then (some true) else ((spec_l1In.f a0_0 1 2999).bind fun t208 => (if t208 = true then ((spec_l1In.f a0_1 0 12).bind fun t209 => (spec_l3Good.j0 k (!t209) a0_0 a0_1 a0_2 a0_3)) else (spec_l3Good.j0 k true a0_0 a0_1 a0_2 a0_3)))) = some r := h
 clear h
 by_cases c2 : (a0_0 == 0 && (a0_1 == 0 && (a0_2 == 0 && (!a0_3)))) = true
 ·
  rw [if_pos c2] at H
  have c2b0 : (a0_0 == 0 && (a0_1 == 0 && (a0_2 == 0 && (!a0_3)))) = true := c2
  (try (have c2b1 : decide (a0_0 = 0 && (a0_1 == 0 && (a0_2 == 0 && (!a0_3)))) = true := by simpa using c2))
  (try (have c2b2 : (a0_0 == 0 && (a0_1 == 0 && (a0_2 == 0 && (!a0_3)))) = true := by simpa using c2))
  clear c2
  obtain rfl := Option.some.inj H
  go_enter Tryd.func52, Tryd.ntmps52
  go_wp2_with (first | ((with_reducible refine gate_dst (N := 1) rfl ?_); refine box_event ?hg (N := 1) ?hd (cs := #[.int .i64 a0_0, .int .i64 a0_1, .int .i64 a0_2, .bool a0_3]) (t := 33) ?hr ?_; (case hd => rfl); (case hg => rfl); (case hr => first | (go_simp; done) | (go_simp; rfl)); intro gb207 hg w3 hbox hb; have BK207 := Aside0.mk (hbox); have GW207 := Aside0.mk (bsz hg au101); have GE207 := Aside0.mk (bsz hg au101); replace HB := Aside0.mk (below_step au101 hb); clear hb hbox hg; obtain ⟨hcz4_0, hcz4_1, hcz4_2, hcz4_3, hfz4_0, hfz4_1, hfz4_2, hfz4_3⟩ := blkc4 BK207.out))
  repeat (go_quiet (first | ((with_reducible refine gate_dst (N := 1) rfl ?_); refine box_event ?hg (N := 1) ?hd (cs := #[.int .i64 a0_0, .int .i64 a0_1, .int .i64 a0_2, .bool a0_3]) (t := 33) ?hr ?_; (case hd => rfl); (case hg => rfl); (case hr => first | (go_simp; done) | (go_simp; rfl)); intro gb207 hg w3 hbox hb; have BK207 := Aside0.mk (hbox); have GW207 := Aside0.mk (bsz hg au101); have GE207 := Aside0.mk (bsz hg au101); replace HB := Aside0.mk (below_step au101 hb); clear hb hbox hg; obtain ⟨hcz4_0, hcz4_1, hcz4_2, hcz4_3, hfz4_0, hfz4_1, hfz4_2, hfz4_3⟩ := blkc4 BK207.out)); try go_wp2_with (first | ((with_reducible refine gate_dst (N := 1) rfl ?_); refine box_event ?hg (N := 1) ?hd (cs := #[.int .i64 a0_0, .int .i64 a0_1, .int .i64 a0_2, .bool a0_3]) (t := 33) ?hr ?_; (case hd => rfl); (case hg => rfl); (case hr => first | (go_simp; done) | (go_simp; rfl)); intro gb207 hg w3 hbox hb; have BK207 := Aside0.mk (hbox); have GW207 := Aside0.mk (bsz hg au101); have GE207 := Aside0.mk (bsz hg au101); replace HB := Aside0.mk (below_step au101 hb); clear hb hbox hg; obtain ⟨hcz4_0, hcz4_1, hcz4_2, hcz4_3, hfz4_0, hfz4_1, hfz4_2, hfz4_3⟩ := blkc4 BK207.out)))
  go_ret
  exact ax9
 ·
  rw [if_neg c2] at H
  have c2b0 : (a0_0 == 0 && (a0_1 == 0 && (a0_2 == 0 && (!a0_3)))) = false := by simpa using c2
  (try (have c2b1 : decide (a0_0 = 0 && (a0_1 == 0 && (a0_2 == 0 && (!a0_3)))) = false := by simpa using c2))
  (try (have c2b2 : (a0_0 == 0 && (a0_1 == 0 && (a0_2 == 0 && (!a0_3)))) = false := by simpa using c2))
  (try (have c2b3 : ¬ (a0_0 = 0 && (a0_1 == 0 && (a0_2 == 0 && (!a0_3)))) := by simpa using c2))
  clear c2
  have HC5 := Aside0.mk H
  clear H
  go_enter Tryd.func52, Tryd.ntmps52
  go_upto_region 3 with (first | ((with_reducible refine gate_dst (N := 1) rfl ?_); refine box_event ?hg (N := 1) ?hd (cs := #[.int .i64 a0_0, .int .i64 a0_1, .int .i64 a0_2, .bool a0_3]) (t := 33) ?hr ?_; (case hd => rfl); (case hg => rfl); (case hr => first | (go_simp; done) | (go_simp; rfl)); intro gb207 hg w6 hbox hb; have BK207 := Aside0.mk (hbox); have GW207 := Aside0.mk (bsz hg au101); have GE207 := Aside0.mk (bsz hg au101); replace HB := Aside0.mk (below_step au101 hb); clear hb hbox hg; obtain ⟨hcz7_0, hcz7_1, hcz7_2, hcz7_3, hfz7_0, hfz7_1, hfz7_2, hfz7_3⟩ := blkc4 BK207.out))
  repeat (go_quiet (first | ((with_reducible refine gate_dst (N := 1) rfl ?_); refine box_event ?hg (N := 1) ?hd (cs := #[.int .i64 a0_0, .int .i64 a0_1, .int .i64 a0_2, .bool a0_3]) (t := 33) ?hr ?_; (case hd => rfl); (case hg => rfl); (case hr => first | (go_simp; done) | (go_simp; rfl)); intro gb207 hg w6 hbox hb; have BK207 := Aside0.mk (hbox); have GW207 := Aside0.mk (bsz hg au101); have GE207 := Aside0.mk (bsz hg au101); replace HB := Aside0.mk (below_step au101 hb); clear hb hbox hg; obtain ⟨hcz7_0, hcz7_1, hcz7_2, hcz7_3, hfz7_0, hfz7_1, hfz7_2, hfz7_3⟩ := blkc4 BK207.out)); go_upto_region 3 with (first | ((with_reducible refine gate_dst (N := 1) rfl ?_); refine box_event ?hg (N := 1) ?hd (cs := #[.int .i64 a0_0, .int .i64 a0_1, .int .i64 a0_2, .bool a0_3]) (t := 33) ?hr ?_; (case hd => rfl); (case hg => rfl); (case hr => first | (go_simp; done) | (go_simp; rfl)); intro gb207 hg w6 hbox hb; have BK207 := Aside0.mk (hbox); have GW207 := Aside0.mk (bsz hg au101); have GE207 := Aside0.mk (bsz hg au101); replace HB := Aside0.mk (below_step au101 hb); clear hb hbox hg; obtain ⟨hcz7_0, hcz7_1, hcz7_2, hcz7_3, hfz7_0, hfz7_1, hfz7_2, hfz7_3⟩ := blkc4 BK207.out)))
  (try simp only [Act.put, List.setIfInBounds_toArray, List.set_cons_zero, List.set_cons_succ])
  go_cut [7] (fun v7 wc => ∃ (kq : Nat) (x7_4 : Bool), v7 = .bool x7_4 ∧ Aside0 (spec_l3Good.j0 kq x7_4 a0_0 a0_1 a0_2 a0_3 = some r) ∧ Aside0 (kq ≤ k) ∧ Aside0 (wc.heap[gb207]? = some (.cells #[.int .i64 a0_0, .int .i64 a0_1, .int .i64 a0_2, .bool a0_3] 33 (0, 0))) ∧ Aside0 (Below w.heap.size w wc))
  case first =>
   have H := HC5.out
   clear HC5
   replace H := Option.bind_eq_some_iff.mp H
   obtain ⟨t208, A80, H⟩ := H
   try dsimp only at H
   have A8 := Aside0.mk A80
   clear A80
   by_cases c9 : t208 = true
   ·
    subst c9
    replace H := (if_pos rfl).symm.trans H
    replace H := Option.bind_eq_some_iff.mp H
    obtain ⟨t209, A100, H⟩ := H
    try dsimp only at H
    have A10 := Aside0.mk A100
    clear A100
    have H' := Aside0.mk H
    clear H
    obtain ⟨hcz11_0, hcz11_1, hcz11_2, hcz11_3, hfz11_0, hfz11_1, hfz11_2, hfz11_3⟩ := blkc4 BK207.out
    go_wp2_with (first | (go_at_call 34; (with_reducible refine (spec_l1In.calls a0_0 1 2999 true _ A8.out).mono ?_); rintro e w' ⟨rfl, ⟨nd, rfl⟩⟩; (try first | exact ⟨rfl, _, World.drewN_drewN _ _ _⟩ | exact ⟨rfl, _, Eq.trans (World.drewN_drewN _ _ _) (congrArg (World.drewN _) (Nat.add_assoc _ _ _))⟩)) | (go_at_call 34; (with_reducible refine (spec_l1In.calls a0_1 0 12 t209 _ A10.out).mono ?_); rintro e w' ⟨rfl, ⟨nd, rfl⟩⟩; (try first | exact ⟨rfl, _, World.drewN_drewN _ _ _⟩ | exact ⟨rfl, _, Eq.trans (World.drewN_drewN _ _ _) (congrArg (World.drewN _) (Nat.add_assoc _ _ _))⟩)))
    repeat (go_quiet (first | (go_at_call 34; (with_reducible refine (spec_l1In.calls a0_0 1 2999 true _ A8.out).mono ?_); rintro e w' ⟨rfl, ⟨nd, rfl⟩⟩; (try first | exact ⟨rfl, _, World.drewN_drewN _ _ _⟩ | exact ⟨rfl, _, Eq.trans (World.drewN_drewN _ _ _) (congrArg (World.drewN _) (Nat.add_assoc _ _ _))⟩)) | (go_at_call 34; (with_reducible refine (spec_l1In.calls a0_1 0 12 t209 _ A10.out).mono ?_); rintro e w' ⟨rfl, ⟨nd, rfl⟩⟩; (try first | exact ⟨rfl, _, World.drewN_drewN _ _ _⟩ | exact ⟨rfl, _, Eq.trans (World.drewN_drewN _ _ _) (congrArg (World.drewN _) (Nat.add_assoc _ _ _))⟩))); try go_wp2_with (first | (go_at_call 34; (with_reducible refine (spec_l1In.calls a0_0 1 2999 true _ A8.out).mono ?_); rintro e w' ⟨rfl, ⟨nd, rfl⟩⟩; (try first | exact ⟨rfl, _, World.drewN_drewN _ _ _⟩ | exact ⟨rfl, _, Eq.trans (World.drewN_drewN _ _ _) (congrArg (World.drewN _) (Nat.add_assoc _ _ _))⟩)) | (go_at_call 34; (with_reducible refine (spec_l1In.calls a0_1 0 12 t209 _ A10.out).mono ?_); rintro e w' ⟨rfl, ⟨nd, rfl⟩⟩; (try first | exact ⟨rfl, _, World.drewN_drewN _ _ _⟩ | exact ⟨rfl, _, Eq.trans (World.drewN_drewN _ _ _) (congrArg (World.drewN _) (Nat.add_assoc _ _ _))⟩))))
    go_meet
    case rel => exact ⟨_, (!t209), au153, H', ⟨by first | omega | exact Nat.le_refl _⟩, ⟨by (with_reducible repeat (first | refine blk_drewN ?_ _ | refine blk_drew ?_ | refine blk_alloc ?_ _)); exact BK207.out⟩, ⟨by repeat (first | (with_reducible first | exact HB.out | apply below_alloc | apply pw_below_drewN | apply below_drew1 | refine below_set ?_ GE207.out) | exact HB.out)⟩⟩
   ·
    replace c9 := Bool.eq_false_iff.mpr c9
    subst c9
    replace H := (if_neg (show ¬ (false = true) by decide)).symm.trans H
    have H' := Aside0.mk H
    clear H
    obtain ⟨hcz12_0, hcz12_1, hcz12_2, hcz12_3, hfz12_0, hfz12_1, hfz12_2, hfz12_3⟩ := blkc4 BK207.out
    go_wp2_with (first | (go_at_call 34; (with_reducible refine (spec_l1In.calls a0_0 1 2999 false _ A8.out).mono ?_); rintro e w' ⟨rfl, ⟨nd, rfl⟩⟩; (try first | exact ⟨rfl, _, World.drewN_drewN _ _ _⟩ | exact ⟨rfl, _, Eq.trans (World.drewN_drewN _ _ _) (congrArg (World.drewN _) (Nat.add_assoc _ _ _))⟩)))
    repeat (go_quiet (first | (go_at_call 34; (with_reducible refine (spec_l1In.calls a0_0 1 2999 false _ A8.out).mono ?_); rintro e w' ⟨rfl, ⟨nd, rfl⟩⟩; (try first | exact ⟨rfl, _, World.drewN_drewN _ _ _⟩ | exact ⟨rfl, _, Eq.trans (World.drewN_drewN _ _ _) (congrArg (World.drewN _) (Nat.add_assoc _ _ _))⟩))); try go_wp2_with (first | (go_at_call 34; (with_reducible refine (spec_l1In.calls a0_0 1 2999 false _ A8.out).mono ?_); rintro e w' ⟨rfl, ⟨nd, rfl⟩⟩; (try first | exact ⟨rfl, _, World.drewN_drewN _ _ _⟩ | exact ⟨rfl, _, Eq.trans (World.drewN_drewN _ _ _) (congrArg (World.drewN _) (Nat.add_assoc _ _ _))⟩))))
    go_meet
    case rel => exact ⟨_, (true), au153, H', ⟨by first | omega | exact Nat.le_refl _⟩, ⟨by (with_reducible repeat (first | refine blk_drewN ?_ _ | refine blk_drew ?_ | refine blk_alloc ?_ _)); exact BK207.out⟩, ⟨by repeat (first | (with_reducible first | exact HB.out | apply below_alloc | apply pw_below_drewN | apply below_drew1 | refine below_set ?_ GE207.out) | exact HB.out)⟩⟩
  case rest =>
   clear HC5
   try clear c2
   try clear c2b0
   try clear c2b1
   try clear c2b2
   try clear p2
   try clear c5
   try clear c9
   try clear hcz11_0
   try clear hcz11_1
   try clear hcz11_2
   try clear hcz11_3
   try clear hcz12_0
   try clear hcz12_1
   try clear hcz12_2
   try clear hcz12_3
   try clear hcz4_0
   try clear hcz4_1
   try clear hcz4_2
   try clear hcz4_3
   try clear hcz7_0
   try clear hcz7_1
   try clear hcz7_2
   try clear hcz7_3
   try clear hfz11_0
   try clear hfz11_1
   try clear hfz11_2
   try clear hfz11_3
   try clear hfz12_0
   try clear hfz12_1
   try clear hfz12_2
   try clear hfz12_3
   try clear hfz4_0
   try clear hfz4_1
   try clear hfz4_2
   try clear hfz4_3
   try clear hfz7_0
   try clear hfz7_1
   try clear hfz7_2
   try clear hfz7_3
   obtain ⟨kq, x7_4, rfl, HA, HJ4, BK207, HB⟩ := hcut
   cases kq with
   | zero => exact absurd HA.out (by simp [spec_l3Good.j0])
   | succ kj4 =>
    have H := HA.out
    clear HA
    simp only [spec_l3Good.j0] at H
    by_cases c13 : x7_4 = true
    ·
     subst c13
     replace H := (if_pos rfl).symm.trans H
     obtain rfl := Option.some.inj H
     go_wp2
     repeat (go_quiet (fail); try go_wp2)
     go_ret
     exact ax9
    ·
     replace c13 := Bool.eq_false_iff.mpr c13
     subst c13
     replace H := (if_neg (show ¬ (false = true) by decide)).symm.trans H
     by_cases c14 : a0_3 = true
     ·
      subst c14
      replace H := (if_pos rfl).symm.trans H
      by_cases c15 : a0_1 = 0
      ·
       rw [if_pos c15] at H
       have c15b0 : (a0_1 == 0) = true := beq_iff_eq.mpr c15
       have c15b1 : (a0_1 != 0) = false := bne_eq_false_iff_eq.mpr c15
       clear c15
       obtain rfl := Option.some.inj H
       obtain ⟨hcz16_0, hcz16_1, hcz16_2, hcz16_3, hfz16_0, hfz16_1, hfz16_2, hfz16_3⟩ := blkc4 BK207.out
       go_wp2
       repeat (go_quiet (fail); try go_wp2)
       go_ret
       exact ax9
      ·
       rw [if_neg c15] at H
       have c15b0 : (a0_1 == 0) = false := beq_eq_false_iff_ne.mpr c15
       have c15b1 : (a0_1 != 0) = true := bne_iff_ne.mpr c15
       obtain rfl := Option.some.inj H
       obtain ⟨hcz17_0, hcz17_1, hcz17_2, hcz17_3, hfz17_0, hfz17_1, hfz17_2, hfz17_3⟩ := blkc4 BK207.out
       go_wp2
       repeat (go_quiet (fail); try go_wp2)
       go_ret
       exact ax9
     ·
      replace c14 := Bool.eq_false_iff.mpr c14
      subst c14
      replace H := (if_neg (show ¬ (false = true) by decide)).symm.trans H
      by_cases c18 : a0_1 = 0
      ·
       rw [if_pos c18] at H
       have c18b0 : (a0_1 == 0) = true := beq_iff_eq.mpr c18
       have c18b1 : (a0_1 != 0) = false := bne_eq_false_iff_eq.mpr c18
       clear c18
       obtain rfl := Option.some.inj H
       obtain ⟨hcz19_0, hcz19_1, hcz19_2, hcz19_3, hfz19_0, hfz19_1, hfz19_2, hfz19_3⟩ := blkc4 BK207.out
       go_wp2
       repeat (go_quiet (fail); try go_wp2)
       go_ret
       exact ax9
      ·
       rw [if_neg c18] at H
       have c18b0 : (a0_1 == 0) = false := beq_eq_false_iff_ne.mpr c18
       have c18b1 : (a0_1 != 0) = true := bne_iff_ne.mpr c18
       replace H := Option.bind_eq_some_iff.mp H
       obtain ⟨t210, A200, H⟩ := H
       try dsimp only at H
       have A20 := Aside0.mk A200
       clear A200
       replace H := Option.bind_eq_some_iff.mp H
       obtain ⟨t211, A210, H⟩ := H
       try dsimp only at H
       have A21 := Aside0.mk A210
       clear A210
       obtain rfl := Option.some.inj H
       obtain ⟨hcz22_0, hcz22_1, hcz22_2, hcz22_3, hfz22_0, hfz22_1, hfz22_2, hfz22_3⟩ := blkc4 BK207.out
       go_wp2_with (first | (go_at_call 73; (with_reducible refine (spec_l3Days.calls kj4 a0_0 a0_1 t210 _ A20.out).mono ?_); rintro e w' ⟨rfl, ⟨nd, rfl⟩⟩; (try first | exact ⟨rfl, _, World.drewN_drewN _ _ _⟩ | exact ⟨rfl, _, Eq.trans (World.drewN_drewN _ _ _) (congrArg (World.drewN _) (Nat.add_assoc _ _ _))⟩)) | (go_at_call 34; (with_reducible refine (spec_l1In.calls a0_2 0 t210 t211 _ A21.out).mono ?_); rintro e w' ⟨rfl, ⟨nd, rfl⟩⟩; (try first | exact ⟨rfl, _, World.drewN_drewN _ _ _⟩ | exact ⟨rfl, _, Eq.trans (World.drewN_drewN _ _ _) (congrArg (World.drewN _) (Nat.add_assoc _ _ _))⟩)))
       repeat (go_quiet (first | (go_at_call 73; (with_reducible refine (spec_l3Days.calls kj4 a0_0 a0_1 t210 _ A20.out).mono ?_); rintro e w' ⟨rfl, ⟨nd, rfl⟩⟩; (try first | exact ⟨rfl, _, World.drewN_drewN _ _ _⟩ | exact ⟨rfl, _, Eq.trans (World.drewN_drewN _ _ _) (congrArg (World.drewN _) (Nat.add_assoc _ _ _))⟩)) | (go_at_call 34; (with_reducible refine (spec_l1In.calls a0_2 0 t210 t211 _ A21.out).mono ?_); rintro e w' ⟨rfl, ⟨nd, rfl⟩⟩; (try first | exact ⟨rfl, _, World.drewN_drewN _ _ _⟩ | exact ⟨rfl, _, Eq.trans (World.drewN_drewN _ _ _) (congrArg (World.drewN _) (Nat.add_assoc _ _ _))⟩))); try go_wp2_with (first | (go_at_call 73; (with_reducible refine (spec_l3Days.calls kj4 a0_0 a0_1 t210 _ A20.out).mono ?_); rintro e w' ⟨rfl, ⟨nd, rfl⟩⟩; (try first | exact ⟨rfl, _, World.drewN_drewN _ _ _⟩ | exact ⟨rfl, _, Eq.trans (World.drewN_drewN _ _ _) (congrArg (World.drewN _) (Nat.add_assoc _ _ _))⟩)) | (go_at_call 34; (with_reducible refine (spec_l1In.calls a0_2 0 t210 t211 _ A21.out).mono ?_); rintro e w' ⟨rfl, ⟨nd, rfl⟩⟩; (try first | exact ⟨rfl, _, World.drewN_drewN _ _ _⟩ | exact ⟨rfl, _, Eq.trans (World.drewN_drewN _ _ _) (congrArg (World.drewN _) (Nat.add_assoc _ _ _))⟩))))
       go_ret
       exact ax9


/-! ### spec_IsValidDate: function 23 -/
def spec_IsValidDate.f (k : Nat) (a0_0 : Int) (a0_1 : Int) (a0_2 : Int) (a0_3 : Bool) : Option (Bool) := (spec_l3Good.f k a0_0 a0_1 a0_2 a0_3).bind fun t358 => (some t358)
theorem spec_IsValidDate.mono : ∀ a0 a1 a2 a3 k, LeO (spec_IsValidDate.f k a0 a1 a2 a3) (spec_IsValidDate.f (k + 1) a0 a1 a2 a3) := by
 intro a0 a1 a2 a3 k
 unfold spec_IsValidDate.f
 repeat' first
   | (with_reducible exact spec_l3Good.mono _ _ _ _ _)
   | (with_reducible exact LeO.refl _)
   | (with_reducible exact LeO.none _)
   | (with_reducible refine LeO.ite ?_ ?_)
   | (with_reducible refine LeO.bind ?_ (fun _ => ?_))
   | exact spec_l3Good.mono _ _ _ _ _
   | exact LeO.none _
   | refine LeO.ite ?_ ?_
   | refine LeO.bind ?_ (fun _ => ?_)
set_option maxHeartbeats 8000000 in
set_option maxRecDepth 100000 in
theorem spec_IsValidDate.calls (k : Nat) (a0_0 : Int) (a0_1 : Int) (a0_2 : Int) (a0_3 : Bool) (r : Bool) (w : World) (h : spec_IsValidDate.f k a0_0 a0_1 a0_2 a0_3 = some r) :
  Calls Tryd.prog 23 #[.agg #[.int .i64 a0_0, .int .i64 a0_1, .int .i64 a0_2, .bool a0_3]] w fun e w' => e = .returned (.bool r) ∧ Below w.heap.size w w' := by
 have hu33 := Tryd.underlying33
 have HB := Aside0.mk (Below.refl w.heap.size w)
 have H : ((spec_l3Good.f k a0_0 a0_1 a0_2 a0_3).bind fun t358 => (some t358)) = some r := h
 clear h
 replace H := Option.bind_eq_some_iff.mp H
 obtain ⟨t358, A20, H⟩ := H
 try dsimp only at H
 have A2 := Aside0.mk A20
 clear A20
 obtain rfl := Option.some.inj H
 go_enter Tryd.func23, Tryd.ntmps23
 go_wp2_with (first | ((with_reducible refine gate_dst (N := 1) rfl ?_); refine box_event ?hg (N := 1) ?hd (cs := #[.int .i64 a0_0, .int .i64 a0_1, .int .i64 a0_2, .bool a0_3]) (t := 33) ?hr ?_; (case hd => rfl); (case hg => rfl); (case hr => first | (go_simp; done) | (go_simp; rfl)); intro gb357 hg w3 hbox hb; have BK357 := Aside0.mk (hbox); have GW357 := Aside0.mk (bsz hg au101); have GE357 := Aside0.mk (bsz hg au101); replace HB := Aside0.mk (below_step au101 hb); clear hb hbox hg; obtain ⟨hcz4_0, hcz4_1, hcz4_2, hcz4_3, hfz4_0, hfz4_1, hfz4_2, hfz4_3⟩ := blkc4 BK357.out) | ((with_reducible refine gate_callee (f := 52) rfl ?_); refine goesL_ (some 4) rfl rfl Tryd.func52 (by kernel_rfl) rfl #[.agg #[.int .i64 a0_0, .int .i64 a0_1, .int .i64 a0_2, .bool a0_3]] rfl au100 ?_; (with_reducible refine (spec_l3Good.calls k a0_0 a0_1 a0_2 a0_3 t358 _ A2.out).mono ?_); rintro e w5 ⟨rfl, hb⟩; refine ⟨_, rfl, ?_⟩; replace BK357 := Aside0.mk (blk_below (g := gb357) (by (with_reducible repeat (first | refine blk_drewN ?_ _ | refine blk_drew ?_ | refine blk_alloc ?_ _)); exact BK357.out) hb); replace HB := Aside0.mk (below_step (by repeat (first | (with_reducible first | exact HB.out | apply below_alloc | apply pw_below_drewN | apply below_drew1 | refine below_set ?_ GE357.out) | exact HB.out)) hb); (try clear hb)))
 go_ret
 exact ⟨by first | rfl | (simp [errW_none, errW_some] <;> rfl) | (simp [*, errW_none, errW_some] <;> rfl), by repeat (first | (with_reducible first | exact HB.out | apply below_alloc | apply pw_below_drewN | apply below_drew1 | refine below_set ?_ GE357.out) | exact HB.out)⟩


/-! ### spec_l1Cur_one: function 36 -/
def spec_l1Cur_one.f (s0_0 : List Int) (s0_1 : Int) (s0_2 : Int) (a1 : Int) : Option (Bool × Int × Int) := (spec_l1Cur_pick.f s0_0 s0_1 s0_2 a1).bind fun bt128 => (some ((bt128.1 == 0), bt128.2.1, bt128.2.2))
set_option maxHeartbeats 8000000 in
set_option maxRecDepth 100000 in
theorem spec_l1Cur_one.calls (g : Nat) (s0_0 : List Int) (s0_1 : Int) (s0_2 : Int) (a1 : Int) (r1 : Bool) (r2 : Int) (r3 : Int) (w0 w : World) (hI : IsS51 w0 w g s0_0 s0_1 s0_2) (hB : Below w0.heap.size w0 w) (h : spec_l1Cur_one.f s0_0 s0_1 s0_2 a1 = some (r1, r2, r3)) :
  Calls Tryd.prog 36 #[.pointer (some ⟨g, 0, none⟩), .int .i64 a1] w fun e w' => e = .returned (.bool r1) ∧ IsS51 w0 w' g s0_0 r2 r3 ∧ Below w0.heap.size w0 w' ∧ KeepBut w w' g none := by
 have HI0 := Aside0.mk hI
 have HK := Aside0.mk (KeepBut.refl w g none)
 have HL := Aside0.mk hB.size
 clear hI
 have HW0 := Aside0.mk hB.size
 have HB := Aside0.mk hB
 clear hB
 have H : ((spec_l1Cur_pick.f s0_0 s0_1 s0_2 a1).bind fun bt128 => (some ((bt128.1 == 0), bt128.2.1, bt128.2.2))) = some (r1, r2, r3) := h
 clear h
 replace H := Option.bind_eq_some_iff.mp H
 obtain ⟨⟨t128, t129, t130⟩, A30, H⟩ := H
 replace H : (some ((t128 == 0), t129, t130)) = some (r1, r2, r3) := H
 have A3 := Aside0.mk A30
 clear A30
 simp only [Option.some.injEq, Prod.mk.injEq] at H
 obtain ⟨rfl, rfl, rfl⟩ := H
 go_enter Tryd.func36, Tryd.ntmps36
 go_wp2_with (first | ((with_reducible refine gate_callee (f := 31) rfl ?_); refine goesL_ (some 7) rfl rfl Tryd.func31 (by kernel_rfl) rfl #[.pointer (some ⟨g, 0, none⟩), .int .i64 a1] rfl au100 ?_; (with_reducible refine (spec_l1Cur_pick.calls g s0_0 s0_1 s0_2 a1 t128 t129 t130 w0 _ ?side1 ?side2 A3.out).mono ?_); (case side1 => repeat (first | (with_reducible first | exact HI0.out | apply IsS51.alloc | apply IsS51.drewN | apply IsS51.drew | apply IsS51.set_1 | apply IsS51.set_2) | exact HI0.out)); (case side2 => repeat (first | (with_reducible first | exact HB.out | apply below_alloc | apply pw_below_drewN | apply below_drew1 | refine below_set ?_ (IsS51.ge HI0.out)) | exact HB.out)); rintro e w4 ⟨rfl, hi, hb, hk⟩; refine ⟨_, rfl, ?_⟩; replace HK := Aside0.mk (KeepBut.trans au99 hk (.inl rfl)); replace HB := Aside0.mk (hb); replace HI0 := Aside0.mk (hi); (try clear hb); (try clear hk); (try clear hi)))
 go_ret
 exact ax5


/-! ### spec_l1Num: function 35 -/
def spec_l1Num.f : Nat → Int → Option (ByteArray)
 | 0, _ => none
 | k + 1, a0 => if a0 < 0 then ((spec_l1Num.f k (wrap64 (-a0))).bind fun t124 => (if 1 + t124.size ≤ 9223372036854775807 then (some ((⟨#[45]⟩ : ByteArray) ++ t124)) else (none))) else (if a0 < 10 then (if 0 ≤ a0 then (if a0 ≤ (wrap64 (a0 + 1)) then (if (wrap64 (a0 + 1)) ≤ 10 then (some ((⟨#[48, 49, 50, 51, 52, 53, 54, 55, 56, 57]⟩ : ByteArray).extract (a0 : Int).toNat ((wrap64 (a0 + 1)) : Int).toNat)) else (none)) else (none)) else (none)) else ((spec_l1Num.f k (wrap64 (Int.tdiv a0 10))).bind fun t125 => (if 0 ≤ (Int.tmod a0 10) then (if (Int.tmod a0 10) ≤ (wrap64 ((Int.tmod a0 10) + 1)) then (if (wrap64 ((Int.tmod a0 10) + 1)) ≤ 10 then (if t125.size + ((⟨#[48, 49, 50, 51, 52, 53, 54, 55, 56, 57]⟩ : ByteArray).extract ((Int.tmod a0 10) : Int).toNat ((wrap64 ((Int.tmod a0 10) + 1)) : Int).toNat).size ≤ 9223372036854775807 then (some (t125 ++ ((⟨#[48, 49, 50, 51, 52, 53, 54, 55, 56, 57]⟩ : ByteArray).extract ((Int.tmod a0 10) : Int).toNat ((wrap64 ((Int.tmod a0 10) + 1)) : Int).toNat))) else (none)) else (none)) else (none)) else (none))))
theorem spec_l1Num.mono_l : ∀ k, (∀ y0, LeO (spec_l1Num.f k y0) (spec_l1Num.f (k + 1) y0))
 | 0 => fun _ r h => by simp [spec_l1Num.f] at h
 | k + 1 => by
  have ih0 := spec_l1Num.mono_l k
  ·
   intro y0
   unfold spec_l1Num.f
   repeat' first
   | (with_reducible exact ih0 _)
   | (with_reducible exact LeO.refl _)
   | (with_reducible exact LeO.none _)
   | (with_reducible refine LeO.ite ?_ ?_)
   | (with_reducible refine LeO.bind ?_ (fun _ => ?_))
   | exact ih0 _
   | exact LeO.none _
   | refine LeO.ite ?_ ?_
   | refine LeO.bind ?_ (fun _ => ?_)
theorem spec_l1Num.mono : ∀ a0 k, LeO (spec_l1Num.f k a0) (spec_l1Num.f (k + 1) a0) := by
 intro a0 k
 have ih0 := spec_l1Num.mono_l k
 exact ih0 a0
def spec_l1Num.T5 : Bool × List (List Nat × List Nat) := (true, [([], []), ([0], [0]), ([1], [1]), ([], []), ([3], [3]), ([], []), ([5], [5]), ([6], [6]), ([4, 7], [4, 7]), ([2, 8], [2, 8]), ([9, 2, 0, 1, 2, 3, 4, 5, 6, 7, 8, 9], [9])])
def spec_l1Num.B5 : List Nat := [0, 1, 3, 0, 8, 0, 32, 96, 248, 511, 1023]
theorem spec_l1Num.tab5 : rtab .any (opsOf Tryd.f35 5) = spec_l1Num.T5 := by kernel_rfl
theorem spec_l1Num.bits5 : waitsOk spec_l1Num.T5.2 spec_l1Num.B5 = true := by kernel_rfl
set_option maxHeartbeats 8000000 in
set_option maxRecDepth 100000 in
theorem spec_l1Num.calls (k : Nat) : ∀ (a0 : Int) (r : ByteArray) (w : World) (h : spec_l1Num.f k a0 = some r),
  Calls Tryd.prog 35 #[.int .i64 a0] w fun e w' => e = .returned (.string r) ∧ Below w.heap.size w w' := by
 induction k using Nat.strongRecOn with
 | _ k ih =>
 intro a0 r w h
 cases k with
 | zero => exact absurd h (by simp [spec_l1Num.f])
 | succ k =>
 simp only [spec_l1Num.f] at h
 have HB := Aside0.mk (Below.refl w.heap.size w)
 have H : (if a0 < 0 then ((spec_l1Num.f k (wrap64 (-a0))).bind fun t124 => (if 1 + t124.size ≤ 9223372036854775807 then (some ((⟨#[45]⟩ : ByteArray) ++ t124)) else (none))) else (if a0 < 10 then (if 0 ≤ a0 then (if a0 ≤ (wrap64 (a0 + 1)) then (if (wrap64 (a0 + 1)) ≤ 10 then (some ((⟨#[48, 49, 50, 51, 52, 53, 54, 55, 56, 57]⟩ : ByteArray).extract (a0 : Int).toNat ((wrap64 (a0 + 1)) : Int).toNat)) else (none)) else (none)) else (none)) else ((spec_l1Num.f k (wrap64 (Int.tdiv a0 10))).bind fun t125 => (if 0 ≤ (Int.tmod a0 10) then (if (Int.tmod a0 10) ≤ (wrap64 ((Int.tmod a0 10) + 1)) then (if (wrap64 ((Int.tmod a0 10) + 1)) ≤ 10 then (if t125.size + ((⟨#[48, 49, 50, 51, 52, 53, 54, 55, 56, 57]⟩ : ByteArray).extract ((Int.tmod a0 10) : Int).toNat ((wrap64 ((Int.tmod a0 10) + 1)) : Int).toNat).size ≤ 9223372036854775807 then (some (t125 ++ ((⟨#[48, 49, 50, 51, 52, 53, 54, 55, 56, 57]⟩ : ByteArray).extract ((Int.tmod a0 10) : Int).toNat ((wrap64 ((Int.tmod a0 10) + 1)) : Int).toNat))) else (none)) else (none)) else (none)) else (none))))) = some r := h
 clear h
 by_cases c2 : a0 < 0
 ·
  rw [if_pos c2] at H
  have c2b0 : decide (a0 < 0) = true := decide_eq_true c2
  clear c2
  replace H := Option.bind_eq_some_iff.mp H
  obtain ⟨t124, A30, H⟩ := H
  try dsimp only at H
  have A3 := Aside0.mk A30
  clear A30
  by_cases c4 : 1 + t124.size ≤ 9223372036854775807
  ·
   rw [if_pos c4] at H
   have c4b0 := eq_true c4
   have c4b1 : decide (1 + t124.size ≤ 9223372036854775807) = true := decide_eq_true c4
   try have c4b2 : (9223372036854775807 < 1 + t124.size) = False := eq_false (Nat.not_lt.2 c4)
   obtain rfl := Option.some.inj H
   go_enter Tryd.func35, Tryd.ntmps35
   go_wp2_with (first | ((with_reducible refine gate_callee (f := 35) rfl ?_); refine goesL_ (some 7) rfl rfl Tryd.func35 (by kernel_rfl) rfl #[.int .i64 (wrap64 (-a0))] rfl au100 ?_; (with_reducible refine (ih k (by omega) (wrap64 (-a0)) t124 _ A3.out).mono ?_); rintro e w5 ⟨rfl, hb⟩; refine ⟨_, rfl, ?_⟩; replace HB := Aside0.mk (below_step au101 hb); (try clear hb)))
   go_ret
   exact ax2
  ·
   rw [if_neg c4] at H
   exact absurd H (by simp)
 ·
  rw [if_neg c2] at H
  have c2b0 : decide (a0 < 0) = false := decide_eq_false c2
  clear c2
  by_cases c6 : a0 < 10
  ·
   rw [if_pos c6] at H
   have c6b0 : decide (a0 < 10) = true := decide_eq_true c6
   clear c6
   by_cases c7 : 0 ≤ a0
   ·
    rw [if_pos c7] at H
    have c7b0 := eq_true c7
    have c7b1 : decide (0 ≤ a0) = true := decide_eq_true c7
    clear c7
    by_cases c8 : a0 ≤ (wrap64 (a0 + 1))
    ·
     rw [if_pos c8] at H
     have c8b0 := eq_true c8
     have c8b1 : decide (a0 ≤ (wrap64 (a0 + 1))) = true := decide_eq_true c8
     by_cases c9 : (wrap64 (a0 + 1)) ≤ 10
     ·
      rw [if_pos c9] at H
      have c9b0 := eq_true c9
      have c9b1 : decide ((wrap64 (a0 + 1)) ≤ 10) = true := decide_eq_true c9
      obtain rfl := Option.some.inj H
      go_enter Tryd.func35, Tryd.ntmps35
      go_wp2
      go_ret
      exact ax2
     ·
      rw [if_neg c9] at H
      exact absurd H (by simp)
    ·
     rw [if_neg c8] at H
     exact absurd H (by simp)
   ·
    rw [if_neg c7] at H
    exact absurd H (by simp)
  ·
   rw [if_neg c6] at H
   have c6b0 : decide (a0 < 10) = false := decide_eq_false c6
   clear c6
   replace H := Option.bind_eq_some_iff.mp H
   obtain ⟨t125, A100, H⟩ := H
   try dsimp only at H
   have A10 := Aside0.mk A100
   clear A100
   obtain ⟨ji11, hji11⟩ : ∃ j_ : Int, (Int.tmod a0 10) = j_ := ⟨_, rfl⟩
   replace H : (if 0 ≤ (ji11) then (if (ji11) ≤ (wrap64 ((ji11) + 1)) then (if (wrap64 ((ji11) + 1)) ≤ 10 then (if t125.size + ((⟨#[48, 49, 50, 51, 52, 53, 54, 55, 56, 57]⟩ : ByteArray).extract ((ji11) : Int).toNat ((wrap64 ((ji11) + 1)) : Int).toNat).size ≤ 9223372036854775807 then (some (t125 ++ ((⟨#[48, 49, 50, 51, 52, 53, 54, 55, 56, 57]⟩ : ByteArray).extract ((ji11) : Int).toNat ((wrap64 ((ji11) + 1)) : Int).toNat))) else (none)) else (none)) else (none)) else (none)) = some r := by first | (rw [hji11] at H; exact H) | (simp only [hji11] at H ⊢; exact H)
   (try rw [hji11] at A10)
   by_cases c12 : 0 ≤ (ji11)
   ·
    rw [if_pos c12] at H
    have c12b0 := eq_true c12
    have c12b1 : decide (0 ≤ (ji11)) = true := decide_eq_true c12
    clear c12
    by_cases c13 : (ji11) ≤ (wrap64 ((ji11) + 1))
    ·
     rw [if_pos c13] at H
     have c13b0 := eq_true c13
     have c13b1 : decide ((ji11) ≤ (wrap64 ((ji11) + 1))) = true := decide_eq_true c13
     by_cases c14 : (wrap64 ((ji11) + 1)) ≤ 10
     ·
      rw [if_pos c14] at H
      have c14b0 := eq_true c14
      have c14b1 : decide ((wrap64 ((ji11) + 1)) ≤ 10) = true := decide_eq_true c14
      by_cases c15 : t125.size + ((⟨#[48, 49, 50, 51, 52, 53, 54, 55, 56, 57]⟩ : ByteArray).extract ((ji11) : Int).toNat ((wrap64 ((ji11) + 1)) : Int).toNat).size ≤ 9223372036854775807
      ·
       rw [if_pos c15] at H
       have c15b0 := eq_true c15
       have c15b1 : decide (t125.size + ((⟨#[48, 49, 50, 51, 52, 53, 54, 55, 56, 57]⟩ : ByteArray).extract ((ji11) : Int).toNat ((wrap64 ((ji11) + 1)) : Int).toNat).size ≤ 9223372036854775807) = true := decide_eq_true c15
       try have c15b2 : (9223372036854775807 < t125.size + ((⟨#[48, 49, 50, 51, 52, 53, 54, 55, 56, 57]⟩ : ByteArray).extract ((ji11) : Int).toNat ((wrap64 ((ji11) + 1)) : Int).toNat).size) = False := eq_false (Nat.not_lt.2 c15)
       try have c15x : (9223372036854775807 < t125.size + (((wrap64 ((ji11) + 1)) : Int).toNat - ((ji11) : Int).toNat)) = False := eq_false (by have z_ := c15; have hsz_ : (⟨#[48, 49, 50, 51, 52, 53, 54, 55, 56, 57]⟩ : ByteArray).size = 10 := rfl; rw [ByteArray.size_extract, hsz_] at z_; omega)
       obtain rfl := Option.some.inj H
       go_enter Tryd.func35, Tryd.ntmps35
       try go_wp2
       replace HB := Aside0.mk (below_drew1 HB.out)
       refine start_ (n := 11) (S := fun w' => True) (ds := []) #[false, false, false, false, false, false, false, false, false, false, false] (by kernel_rfl) rfl rfl trivial (fun hHeld => ?_); refine with_tabW spec_l1Num.tab5 spec_l1Num.bits5 (fun HT_ HW_ => ?_)
       generalize w.drew = w16 at HB hHeld ⊢
       refine pu_ 0 (some 15) #[true, false, false, false, false, false, false, false, false, false, false] HT_.out ?_
       refine pu_ 1 (some 16) #[true, true, false, false, false, false, false, false, false, false, false] HT_.out ?_
       refine pu_ 3 (some 18) #[true, true, false, true, false, false, false, false, false, false, false] HT_.out ?_
       refine pu_ 4 (some 19) #[true, true, false, true, true, false, false, false, false, false, false] HT_.out ?_
       refine pu_ 5 (some 20) #[true, true, false, true, true, true, false, false, false, false, false] HT_.out ?_
       refine pu_ 6 (some 21) #[true, true, false, true, true, true, true, false, false, false, false] HT_.out ?_
       refine pu_ 7 (some 22) #[true, true, false, true, true, true, true, true, false, false, false] HT_.out ?_
       refine pu_ 8 (some 23) #[true, true, false, true, true, true, true, true, true, false, false] HT_.out ?_
       refine on_ 2 (some 17) #[true, true, true, true, true, true, true, true, true, false, false] HT_.out (fun K hK => ?_)
       refine gs_ Tryd.func35 #[.int .i64 (wrap64 (Int.tdiv a0 10))] ?_
       with_reducible refine (ih k (by omega) (wrap64 (Int.tdiv a0 10)) t125 _ A10.out).mono ?_
       rintro e w17 ⟨rfl, hb⟩
       refine ⟨_, rfl, ?_⟩
       replace HB := Aside0.mk (below_step au101 hb)
       (try clear hb)
       refine hK.out _ _ trivial (fun hHeld => ?_)
       clear hK K
       refine no_ (some 17) ?_
       refine pu_ 9 (some 24) #[true, true, true, true, true, true, true, true, true, true, false] HT_.out ?_
       refine pu_ 10 (some 2) #[true, true, true, true, true, true, true, true, true, true, true] HT_.out ?_
       refine done_ (done_of HT_.out (by kernel_rfl)) ?_
       try go_wp2
       go_ret
       exact ⟨by first | rfl | (simp [errW_none, errW_some] <;> rfl) | (simp only [← hji11]; first | rfl | (simp [errW_none, errW_some] <;> rfl)) | (simp [*, errW_none, errW_some] <;> rfl), by repeat (first | (with_reducible first | exact HB.out | apply below_alloc | apply pw_below_drewN | apply below_drew1) | exact HB.out)⟩
      ·
       rw [if_neg c15] at H
       exact absurd H (by simp)
     ·
      rw [if_neg c14] at H
      exact absurd H (by simp)
    ·
     rw [if_neg c13] at H
     exact absurd H (by simp)
   ·
    rw [if_neg c12] at H
    exact absurd H (by simp)


/-! ### spec_l3Pad: function 74 -/
def spec_l3Pad.l0 : Nat → Int → ByteArray → Option (ByteArray)
 | 0, _, _ => none
 | k + 1, x1, x5 => if (x5.size : Int) < x1 then (if 1 + x5.size ≤ 9223372036854775807 then (spec_l3Pad.l0 k x1 ((⟨#[48]⟩ : ByteArray) ++ x5)) else (none)) else (some x5)
def spec_l3Pad.f (k : Nat) (a0 : Int) (a1 : Int) : Option (ByteArray) := (spec_l1Num.f k a0).bind fun t212 => (spec_l3Pad.l0 k a1 t212)
theorem spec_l3Pad.mono_l : ∀ k, (∀ y0 y1, LeO (spec_l3Pad.l0 k y0 y1) (spec_l3Pad.l0 (k + 1) y0 y1))
 | 0 => fun _ _ r h => by simp [spec_l3Pad.l0] at h
 | k + 1 => by
  have ih0 := spec_l3Pad.mono_l k
  ·
   intro y0 y1
   unfold spec_l3Pad.l0
   repeat' first
   | (with_reducible exact ih0 _ _)
   | (with_reducible exact spec_l1Num.mono _ _)
   | (with_reducible exact LeO.refl _)
   | (with_reducible exact LeO.none _)
   | (with_reducible refine LeO.ite ?_ ?_)
   | (with_reducible refine LeO.bind ?_ (fun _ => ?_))
   | exact ih0 _ _
   | exact spec_l1Num.mono _ _
   | exact LeO.none _
   | refine LeO.ite ?_ ?_
   | refine LeO.bind ?_ (fun _ => ?_)
theorem spec_l3Pad.mono : ∀ a0 a1 k, LeO (spec_l3Pad.f k a0 a1) (spec_l3Pad.f (k + 1) a0 a1) := by
 intro a0 a1 k
 have ih0 := spec_l3Pad.mono_l k
 unfold spec_l3Pad.f
 repeat' first
   | (with_reducible exact ih0 _ _)
   | (with_reducible exact spec_l1Num.mono _ _)
   | (with_reducible exact LeO.refl _)
   | (with_reducible exact LeO.none _)
   | (with_reducible refine LeO.ite ?_ ?_)
   | (with_reducible refine LeO.bind ?_ (fun _ => ?_))
   | exact ih0 _ _
   | exact spec_l1Num.mono _ _
   | exact LeO.none _
   | refine LeO.ite ?_ ?_
   | refine LeO.bind ?_ (fun _ => ?_)
set_option maxHeartbeats 8000000 in
set_option maxRecDepth 100000 in
theorem spec_l3Pad.calls (k : Nat) (a0 : Int) (a1 : Int) (r : ByteArray) (w : World) (h : spec_l3Pad.f k a0 a1 = some r) :
  Calls Tryd.prog 74 #[.int .i64 a0, .int .i64 a1] w fun e w' => e = .returned (.string r) ∧ Below w.heap.size w w' := by
 have HB := Aside0.mk (Below.refl w.heap.size w)
 have H : ((spec_l1Num.f k a0).bind fun t212 => (spec_l3Pad.l0 k a1 t212)) = some r := h
 clear h
 replace H := Option.bind_eq_some_iff.mp H
 obtain ⟨t212, A30, H⟩ := H
 try dsimp only at H
 have A3 := Aside0.mk A30
 clear A30
 have H' := Aside0.mk H
 clear H
 go_enter Tryd.func74, Tryd.ntmps74
 go_wp2_with (first | ((with_reducible refine gate_callee (f := 35) rfl ?_); refine goesL_ (some 7) rfl rfl Tryd.func35 (by kernel_rfl) rfl #[.int .i64 a0] rfl au100 ?_; (with_reducible refine (spec_l1Num.calls k a0 t212 _ A3.out).mono ?_); rintro e w4 ⟨rfl, hb⟩; refine ⟨_, rfl, ?_⟩; replace HB := Aside0.mk (below_step au101 hb); (try clear hb)))
 go_loopg [5] k (fun kq v5 w' => ∃ (x5_1 : ByteArray), v5 = .string x5_1 ∧ Aside0 (spec_l3Pad.l0 kq a1 x5_1 = some r) ∧ Aside0 (kq ≤ k) ∧ Aside0 (Below w.heap.size w w'))
 case atStart => exact ⟨(t212), au153, H', ⟨Nat.le_refl _⟩, ⟨by repeat (first | (with_reducible first | exact HB.out | apply below_alloc | apply pw_below_drewN | apply below_drew1) | exact HB.out)⟩⟩
 case round =>
  clear H'
  try clear p2
  try clear c3
  obtain ⟨x5_1, rfl, HA, HK1, HB⟩ := hrel
  cases gk with
  | zero => exact absurd HA.out (by simp [spec_l3Pad.l0])
  | succ k1 =>
   have H := HA.out
   clear HA
   simp only [spec_l3Pad.l0] at H
   by_cases c5 : (x5_1.size : Int) < a1
   ·
    rw [if_pos c5] at H
    have c5b0 : decide ((x5_1.size : Int) < a1) = true := decide_eq_true c5
    clear c5
    by_cases c6 : 1 + x5_1.size ≤ 9223372036854775807
    ·
     rw [if_pos c6] at H
     have c6b0 := eq_true c6
     have c6b1 : decide (1 + x5_1.size ≤ 9223372036854775807) = true := decide_eq_true c6
     try have c6b2 : (9223372036854775807 < 1 + x5_1.size) = False := eq_false (Nat.not_lt.2 c6)
     have H' := Aside0.mk H
     clear H
     go_wp2
     go_roundg k1
     case measure => have := HK1.out; omega
     case rel => exact ⟨((⟨#[48]⟩ : ByteArray) ++ x5_1), au153, H', ⟨by have := HK1.out; omega⟩, ⟨by repeat (first | (with_reducible first | exact HB.out | apply below_alloc | apply pw_below_drewN | apply below_drew1) | exact HB.out)⟩⟩
    ·
     rw [if_neg c6] at H
     exact absurd H (by simp)
   ·
    rw [if_neg c5] at H
    have c5b0 : decide ((x5_1.size : Int) < a1) = false := decide_eq_false c5
    clear c5
    obtain rfl := Option.some.inj H
    go_wp2
    go_ret
    exact ax2


/-! ### spec_l3Text: function 53 -/
def spec_l3Text.j0 : Nat → ByteArray → Int → Int → Int → Bool → Option (ByteArray)
 | 0, _, _, _, _, _ => none
 | k + 1, x3, x214000, x214001, x214002, x214003 => if x214002 > 0 then (if x3.size + 1 ≤ 9223372036854775807 then ((spec_l3Pad.f k x214002 2).bind fun t216 => (if (x3 ++ (⟨#[45]⟩ : ByteArray)).size + t216.size ≤ 9223372036854775807 then (if x214003 = true then (if 1 + ((x3 ++ (⟨#[45]⟩ : ByteArray)) ++ t216).size ≤ 9223372036854775807 then (some ((⟨#[99]⟩ : ByteArray) ++ ((x3 ++ (⟨#[45]⟩ : ByteArray)) ++ t216))) else (none)) else (some ((x3 ++ (⟨#[45]⟩ : ByteArray)) ++ t216))) else (none))) else (none)) else (if x214003 = true then (if 1 + x3.size ≤ 9223372036854775807 then (some ((⟨#[99]⟩ : ByteArray) ++ x3)) else (none)) else (some x3))
def spec_l3Text.f (k : Nat) (a0_0 : Int) (a0_1 : Int) (a0_2 : Int) (a0_3 : Bool) : Option (ByteArray) := if a0_0 = 0 then (some (⟨#[117, 110, 107, 110, 111, 119, 110]⟩ : ByteArray)) else ((spec_l3Pad.f k a0_0 4).bind fun t214 => (if a0_1 > 0 then (if t214.size + 1 ≤ 9223372036854775807 then ((spec_l3Pad.f k a0_1 2).bind fun t215 => (if (t214 ++ (⟨#[45]⟩ : ByteArray)).size + t215.size ≤ 9223372036854775807 then (spec_l3Text.j0 k ((t214 ++ (⟨#[45]⟩ : ByteArray)) ++ t215) a0_0 a0_1 a0_2 a0_3) else (none))) else (none)) else (spec_l3Text.j0 k t214 a0_0 a0_1 a0_2 a0_3)))
theorem spec_l3Text.mono_l : ∀ k, (∀ y0 y1 y2 y3 y4, LeO (spec_l3Text.j0 k y0 y1 y2 y3 y4) (spec_l3Text.j0 (k + 1) y0 y1 y2 y3 y4))
 | 0 => fun _ _ _ _ _ r h => by simp [spec_l3Text.j0] at h
 | k + 1 => by
  have ih0 := spec_l3Text.mono_l k
  ·
   intro y0 y1 y2 y3 y4
   unfold spec_l3Text.j0
   repeat' first
   | (with_reducible exact ih0 _ _ _ _ _)
   | (with_reducible exact spec_l3Pad.mono _ _ _)
   | (with_reducible exact LeO.refl _)
   | (with_reducible exact LeO.none _)
   | (with_reducible refine LeO.ite ?_ ?_)
   | (with_reducible refine LeO.bind ?_ (fun _ => ?_))
   | exact ih0 _ _ _ _ _
   | exact spec_l3Pad.mono _ _ _
   | exact LeO.none _
   | refine LeO.ite ?_ ?_
   | refine LeO.bind ?_ (fun _ => ?_)
theorem spec_l3Text.mono : ∀ a0 a1 a2 a3 k, LeO (spec_l3Text.f k a0 a1 a2 a3) (spec_l3Text.f (k + 1) a0 a1 a2 a3) := by
 intro a0 a1 a2 a3 k
 have ih0 := spec_l3Text.mono_l k
 unfold spec_l3Text.f
 repeat' first
   | (with_reducible exact ih0 _ _ _ _ _)
   | (with_reducible exact spec_l3Pad.mono _ _ _)
   | (with_reducible exact LeO.refl _)
   | (with_reducible exact LeO.none _)
   | (with_reducible refine LeO.ite ?_ ?_)
   | (with_reducible refine LeO.bind ?_ (fun _ => ?_))
   | exact ih0 _ _ _ _ _
   | exact spec_l3Pad.mono _ _ _
   | exact LeO.none _
   | refine LeO.ite ?_ ?_
   | refine LeO.bind ?_ (fun _ => ?_)
set_option maxRecDepth 100000 in
theorem spec_l3Text.L0 {P : Prop} (h : P := by
  go_wp2_with (first | ((with_reducible refine gate_callee (f := 74) rfl ?_); refine goesL_ (some 26) rfl rfl Tryd.func74 (by kernel_rfl) rfl #[.int .i64 a0_2, .int .i64 2] rfl au100 ?_; (with_reducible refine (spec_l3Pad.calls kj5 a0_2 2 t216 _ A19.out).mono ?_); rintro e w24 ⟨rfl, hb⟩; refine ⟨_, rfl, ?_⟩; replace BK213 := Aside0.mk (blk_below (g := gb213) au114 hb); replace HB := Aside0.mk (below_step au88 hb); (try clear hb); obtain ⟨hcz25_0, hcz25_1, hcz25_2, hcz25_3, hfz25_0, hfz25_1, hfz25_2, hfz25_3⟩ := blkc4 BK213.out))
  go_ret
  exact ⟨by first | rfl | (simp [errW_none, errW_some] <;> rfl) | (simp [*, errW_none, errW_some] <;> rfl), by repeat (first | (with_reducible first | exact HB.out | apply below_alloc | apply pw_below_drewN | apply below_drew1 | refine below_set ?_ GE213.out) | exact HB.out)⟩) : P := h
set_option maxHeartbeats 8000000 in
set_option maxRecDepth 100000 in
theorem spec_l3Text.calls (k : Nat) (a0_0 : Int) (a0_1 : Int) (a0_2 : Int) (a0_3 : Bool) (r : ByteArray) (w : World) (h : spec_l3Text.f k a0_0 a0_1 a0_2 a0_3 = some r) :
  Calls Tryd.prog 53 #[.agg #[.int .i64 a0_0, .int .i64 a0_1, .int .i64 a0_2, .bool a0_3]] w fun e w' => e = .returned (.string r) ∧ Below w.heap.size w w' := by
 have hu33 := Tryd.underlying33
 have HB := Aside0.mk (Below.refl w.heap.size w)
 have H : (if a0_0 = 0 then (some (⟨#[117, 110, 107, 110, 111, 119, 110]⟩ : ByteArray)) else ((spec_l3Pad.f k a0_0 4).bind fun t214 => (if a0_1 > 0 then (if t214.size + 1 ≤ 9223372036854775807 then ((spec_l3Pad.f k a0_1 2).bind fun t215 => (if (t214 ++ (⟨#[45]⟩ : ByteArray)).size + t215.size ≤ 9223372036854775807 then (spec_l3Text.j0 k ((t214 ++ (⟨#[45]⟩ : ByteArray)) ++ t215) a0_0 a0_1 a0_2 a0_3) else (none))) else (none)) else (spec_l3Text.j0 k t214 a0_0 a0_1 a0_2 a0_3)))) = some r := h
 clear h
 by_cases c2 : a0_0 = 0
 ·
  rw [if_pos c2] at H
  have c2b0 : (a0_0 == 0) = true := beq_iff_eq.mpr c2
  have c2b1 : (a0_0 != 0) = false := bne_eq_false_iff_eq.mpr c2
  clear c2
  obtain rfl := Option.some.inj H
  go_enter Tryd.func53, Tryd.ntmps53
  go_wp2_with (first | ((with_reducible refine gate_dst (N := 1) rfl ?_); refine box_event ?hg (N := 1) ?hd (cs := #[.int .i64 a0_0, .int .i64 a0_1, .int .i64 a0_2, .bool a0_3]) (t := 33) ?hr ?_; (case hd => rfl); (case hg => rfl); (case hr => first | (go_simp; done) | (go_simp; rfl)); intro gb213 hg w3 hbox hb; have BK213 := Aside0.mk (hbox); have GW213 := Aside0.mk (bsz hg au101); have GE213 := Aside0.mk (bsz hg au101); replace HB := Aside0.mk (below_step au101 hb); clear hb hbox hg; obtain ⟨hcz4_0, hcz4_1, hcz4_2, hcz4_3, hfz4_0, hfz4_1, hfz4_2, hfz4_3⟩ := blkc4 BK213.out))
  go_ret
  exact ⟨by first | rfl | (simp [errW_none, errW_some] <;> rfl) | (simp [*, errW_none, errW_some] <;> rfl), by repeat (first | (with_reducible first | exact HB.out | apply below_alloc | apply pw_below_drewN | apply below_drew1 | refine below_set ?_ GE213.out) | exact HB.out)⟩
 ·
  rw [if_neg c2] at H
  have c2b0 : (a0_0 == 0) = false := beq_eq_false_iff_ne.mpr c2
  have c2b1 : (a0_0 != 0) = true := bne_iff_ne.mpr c2
  replace H := Option.bind_eq_some_iff.mp H
  obtain ⟨t214, A50, H⟩ := H
  try dsimp only at H
  have A5 := Aside0.mk A50
  clear A50
  have HC6 := Aside0.mk H
  clear H
  go_enter Tryd.func53, Tryd.ntmps53
  go_upto_if 12 with (first | ((with_reducible refine gate_dst (N := 1) rfl ?_); refine box_event ?hg (N := 1) ?hd (cs := #[.int .i64 a0_0, .int .i64 a0_1, .int .i64 a0_2, .bool a0_3]) (t := 33) ?hr ?_; (case hd => rfl); (case hg => rfl); (case hr => first | (go_simp; done) | (go_simp; rfl)); intro gb213 hg w7 hbox hb; have BK213 := Aside0.mk (hbox); have GW213 := Aside0.mk (bsz hg au101); have GE213 := Aside0.mk (bsz hg au101); replace HB := Aside0.mk (below_step au101 hb); clear hb hbox hg; obtain ⟨hcz8_0, hcz8_1, hcz8_2, hcz8_3, hfz8_0, hfz8_1, hfz8_2, hfz8_3⟩ := blkc4 BK213.out) | ((with_reducible refine gate_callee (f := 74) rfl ?_); refine goesL_ (some 9) rfl rfl Tryd.func74 (by kernel_rfl) rfl #[.int .i64 a0_0, .int .i64 4] rfl au100 ?_; (with_reducible refine (spec_l3Pad.calls k a0_0 4 t214 _ A5.out).mono ?_); rintro e w9 ⟨rfl, hb⟩; refine ⟨_, rfl, ?_⟩; replace BK213 := Aside0.mk (blk_below (g := gb213) au114 hb); replace HB := Aside0.mk (below_step au88 hb); (try clear hb); obtain ⟨hcz10_0, hcz10_1, hcz10_2, hcz10_3, hfz10_0, hfz10_1, hfz10_2, hfz10_3⟩ := blkc4 BK213.out))
  (try simp only [Act.put, List.setIfInBounds_toArray, List.set_cons_zero, List.set_cons_succ])
  go_cut [3] (fun v3 wc => ∃ (kq : Nat) (x3_5 : ByteArray), v3 = .string x3_5 ∧ Aside0 (spec_l3Text.j0 kq x3_5 a0_0 a0_1 a0_2 a0_3 = some r) ∧ Aside0 (kq ≤ k) ∧ Aside0 (wc.heap[gb213]? = some (.cells #[.int .i64 a0_0, .int .i64 a0_1, .int .i64 a0_2, .bool a0_3] 33 (0, 0))) ∧ Aside0 (Below w.heap.size w wc))
  case first =>
   have H := HC6.out
   clear HC6
   by_cases c11 : a0_1 > 0
   ·
    rw [if_pos c11] at H
    have c11b0 : decide (0 < a0_1) = true := decide_eq_true c11
    clear c11
    (first | rw [c11b0] | (simp only [i64_w, i32_w]; rw [c11b0]) | skip)
    by_cases c12 : t214.size + 1 ≤ 9223372036854775807
    ·
     rw [if_pos c12] at H
     have c12b0 := eq_true c12
     have c12b1 : decide (t214.size + 1 ≤ 9223372036854775807) = true := decide_eq_true c12
     try have c12b2 : (9223372036854775807 < t214.size + 1) = False := eq_false (Nat.not_lt.2 c12)
     replace H := Option.bind_eq_some_iff.mp H
     obtain ⟨t215, A130, H⟩ := H
     try dsimp only at H
     have A13 := Aside0.mk A130
     clear A130
     by_cases c14 : (t214 ++ (⟨#[45]⟩ : ByteArray)).size + t215.size ≤ 9223372036854775807
     ·
      rw [if_pos c14] at H
      have c14b0 := eq_true c14
      have c14b1 : decide ((t214 ++ (⟨#[45]⟩ : ByteArray)).size + t215.size ≤ 9223372036854775807) = true := decide_eq_true c14
      try have c14b2 : (9223372036854775807 < (t214 ++ (⟨#[45]⟩ : ByteArray)).size + t215.size) = False := eq_false (Nat.not_lt.2 c14)
      try have c14x : (9223372036854775807 < t214.size + 1 + t215.size) = False := eq_false (by have z_ := c14; simp only [ByteArray.size_append] at z_; have hl0_ : (⟨#[45]⟩ : ByteArray).size = 1 := rfl; omega)
      have H' := Aside0.mk H
      clear H
      obtain ⟨hcz15_0, hcz15_1, hcz15_2, hcz15_3, hfz15_0, hfz15_1, hfz15_2, hfz15_3⟩ := blkc4 BK213.out
      go_wp2_with (first | ((with_reducible refine gate_callee (f := 74) rfl ?_); refine goesL_ (some 17) rfl rfl Tryd.func74 (by kernel_rfl) rfl #[.int .i64 a0_1, .int .i64 2] rfl au100 ?_; (with_reducible refine (spec_l3Pad.calls k a0_1 2 t215 _ A13.out).mono ?_); rintro e w16 ⟨rfl, hb⟩; refine ⟨_, rfl, ?_⟩; replace BK213 := Aside0.mk (blk_below (g := gb213) au114 hb); replace HB := Aside0.mk (below_step au88 hb); (try clear hb)))
      go_meet
      case rel => exact ⟨_, ((t214 ++ (⟨#[45]⟩ : ByteArray)) ++ t215), au153, H', ⟨by first | omega | exact Nat.le_refl _⟩, ⟨by (with_reducible repeat (first | refine blk_drewN ?_ _ | refine blk_drew ?_ | refine blk_alloc ?_ _)); exact BK213.out⟩, ⟨by repeat (first | (with_reducible first | exact HB.out | apply below_alloc | apply pw_below_drewN | apply below_drew1 | refine below_set ?_ GE213.out) | exact HB.out)⟩⟩
     ·
      rw [if_neg c14] at H
      exact absurd H (by simp)
    ·
     rw [if_neg c12] at H
     exact absurd H (by simp)
   ·
    rw [if_neg c11] at H
    have c11b0 : decide (0 < a0_1) = false := decide_eq_false c11
    clear c11
    (first | rw [c11b0] | (simp only [i64_w, i32_w]; rw [c11b0]) | skip)
    have H' := Aside0.mk H
    clear H
    go_wp2
    go_meet
    case rel => exact ⟨_, (t214), au153, H', ⟨by first | omega | exact Nat.le_refl _⟩, ⟨by (with_reducible repeat (first | refine blk_drewN ?_ _ | refine blk_drew ?_ | refine blk_alloc ?_ _)); exact BK213.out⟩, ⟨by repeat (first | (with_reducible first | exact HB.out | apply below_alloc | apply pw_below_drewN | apply below_drew1 | refine below_set ?_ GE213.out) | exact HB.out)⟩⟩
  case rest =>
   clear HC6
   try clear c1
   try clear c2
   try clear c2b0
   try clear c2b1
   try clear p2
   try clear c5
   try clear c7
   try clear c11
   try clear c11b0
   try clear c12
   try clear c12b0
   try clear c12b1
   try clear c12b2
   try clear c14
   try clear c14b0
   try clear c14b1
   try clear c14b2
   try clear hcz10_0
   try clear hcz10_1
   try clear hcz10_2
   try clear hcz10_3
   try clear hcz15_0
   try clear hcz15_1
   try clear hcz15_2
   try clear hcz15_3
   try clear hcz4_0
   try clear hcz4_1
   try clear hcz4_2
   try clear hcz4_3
   try clear hcz8_0
   try clear hcz8_1
   try clear hcz8_2
   try clear hcz8_3
   try clear hfz10_0
   try clear hfz10_1
   try clear hfz10_2
   try clear hfz10_3
   try clear hfz15_0
   try clear hfz15_1
   try clear hfz15_2
   try clear hfz15_3
   try clear hfz4_0
   try clear hfz4_1
   try clear hfz4_2
   try clear hfz4_3
   try clear hfz8_0
   try clear hfz8_1
   try clear hfz8_2
   try clear hfz8_3
   obtain ⟨kq, x3_5, rfl, HA, HJ5, BK213, HB⟩ := hcut
   cases kq with
   | zero => exact absurd HA.out (by simp [spec_l3Text.j0])
   | succ kj5 =>
    have H := HA.out
    clear HA
    simp only [spec_l3Text.j0] at H
    by_cases c17 : a0_2 > 0
    ·
     rw [if_pos c17] at H
     have c17b0 : decide (0 < a0_2) = true := decide_eq_true c17
     clear c17
     by_cases c18 : x3_5.size + 1 ≤ 9223372036854775807
     ·
      rw [if_pos c18] at H
      have c18b0 := eq_true c18
      have c18b1 : decide (x3_5.size + 1 ≤ 9223372036854775807) = true := decide_eq_true c18
      try have c18b2 : (9223372036854775807 < x3_5.size + 1) = False := eq_false (Nat.not_lt.2 c18)
      replace H := Option.bind_eq_some_iff.mp H
      obtain ⟨t216, A190, H⟩ := H
      try dsimp only at H
      have A19 := Aside0.mk A190
      clear A190
      by_cases c20 : (x3_5 ++ (⟨#[45]⟩ : ByteArray)).size + t216.size ≤ 9223372036854775807
      ·
       rw [if_pos c20] at H
       have c20b0 := eq_true c20
       have c20b1 : decide ((x3_5 ++ (⟨#[45]⟩ : ByteArray)).size + t216.size ≤ 9223372036854775807) = true := decide_eq_true c20
       try have c20b2 : (9223372036854775807 < (x3_5 ++ (⟨#[45]⟩ : ByteArray)).size + t216.size) = False := eq_false (Nat.not_lt.2 c20)
       try have c20x : (9223372036854775807 < x3_5.size + 1 + t216.size) = False := eq_false (by have z_ := c20; simp only [ByteArray.size_append] at z_; have hl0_ : (⟨#[45]⟩ : ByteArray).size = 1 := rfl; omega)
       by_cases c21 : a0_3 = true
       ·
        subst c21
        replace H := (if_pos rfl).symm.trans H
        by_cases c22 : 1 + ((x3_5 ++ (⟨#[45]⟩ : ByteArray)) ++ t216).size ≤ 9223372036854775807
        ·
         rw [if_pos c22] at H
         have c22b0 := eq_true c22
         have c22b1 : decide (1 + ((x3_5 ++ (⟨#[45]⟩ : ByteArray)) ++ t216).size ≤ 9223372036854775807) = true := decide_eq_true c22
         try have c22b2 : (9223372036854775807 < 1 + ((x3_5 ++ (⟨#[45]⟩ : ByteArray)) ++ t216).size) = False := eq_false (Nat.not_lt.2 c22)
         try have c22x : (9223372036854775807 < 1 + (x3_5.size + 1 + t216.size)) = False := eq_false (by have z_ := c22; simp only [ByteArray.size_append] at z_; have hl0_ : (⟨#[45]⟩ : ByteArray).size = 1 := rfl; omega)
         obtain rfl := Option.some.inj H
         obtain ⟨hcz23_0, hcz23_1, hcz23_2, hcz23_3, hfz23_0, hfz23_1, hfz23_2, hfz23_3⟩ := blkc4 BK213.out
         exact spec_l3Text.L0
        ·
         rw [if_neg c22] at H
         exact absurd H (by simp)
       ·
        replace c21 := Bool.eq_false_iff.mpr c21
        subst c21
        replace H := (if_neg (show ¬ (false = true) by decide)).symm.trans H
        obtain rfl := Option.some.inj H
        obtain ⟨hcz26_0, hcz26_1, hcz26_2, hcz26_3, hfz26_0, hfz26_1, hfz26_2, hfz26_3⟩ := blkc4 BK213.out
        exact spec_l3Text.L0
      ·
       rw [if_neg c20] at H
       exact absurd H (by simp)
     ·
      rw [if_neg c18] at H
      exact absurd H (by simp)
    ·
     rw [if_neg c17] at H
     have c17b0 : decide (0 < a0_2) = false := decide_eq_false c17
     clear c17
     by_cases c29 : a0_3 = true
     ·
      subst c29
      replace H := (if_pos rfl).symm.trans H
      by_cases c30 : 1 + x3_5.size ≤ 9223372036854775807
      ·
       rw [if_pos c30] at H
       have c30b0 := eq_true c30
       have c30b1 : decide (1 + x3_5.size ≤ 9223372036854775807) = true := decide_eq_true c30
       try have c30b2 : (9223372036854775807 < 1 + x3_5.size) = False := eq_false (Nat.not_lt.2 c30)
       obtain rfl := Option.some.inj H
       obtain ⟨hcz31_0, hcz31_1, hcz31_2, hcz31_3, hfz31_0, hfz31_1, hfz31_2, hfz31_3⟩ := blkc4 BK213.out
       exact spec_l3Text.L0
      ·
       rw [if_neg c30] at H
       exact absurd H (by simp)
     ·
      replace c29 := Bool.eq_false_iff.mpr c29
      subst c29
      replace H := (if_neg (show ¬ (false = true) by decide)).symm.trans H
      obtain rfl := Option.some.inj H
      obtain ⟨hcz32_0, hcz32_1, hcz32_2, hcz32_3, hfz32_0, hfz32_1, hfz32_2, hfz32_3⟩ := blkc4 BK213.out
      exact spec_l3Text.L0


/-! ### spec_l1Cur_spoilt: function 55 -/
def spec_l1Cur_spoilt.f (s0_0 : List Int) (s0_1 : Int) (s0_2 : Int) (a1 : ByteArray) (a2 : ByteArray) : Option (ByteArray × Int × Int) := if a1.toList = ([] : List UInt8) then (if 0 ≤ 1 then (if 1 ≤ (a2.size : Int) then (some (a2.extract 0 1, s0_1, s0_2)) else (none)) else (none)) else ((spec_l1Cur_pick.f s0_0 s0_1 s0_2 (a1.size : Int)).bind fun bt359 => ((spec_l1Cur_pick.f s0_0 bt359.2.1 bt359.2.2 (a2.size : Int)).bind fun bt362 => (if 0 ≤ bt362.1 then (if bt362.1 ≤ (a2.size : Int) then (if 0 ≤ 1 then (if 1 ≤ ((a2.extract (bt362.1 : Int).toNat a2.size).size : Int) then ((spec_l1Cur_pick.f s0_0 bt362.2.1 bt362.2.2 3).bind fun bt365 => (if bt365.1 = 0 then (if 0 ≤ bt359.1 then (if bt359.1 ≤ (a1.size : Int) then (if (a1.extract 0 (bt359.1 : Int).toNat).size + ((a2.extract (bt362.1 : Int).toNat a2.size).extract 0 1).size ≤ 9223372036854775807 then (if ((a1.extract 0 (bt359.1 : Int).toNat) ++ ((a2.extract (bt362.1 : Int).toNat a2.size).extract 0 1)).size + (a1.extract (bt359.1 : Int).toNat a1.size).size ≤ 9223372036854775807 then (some (((a1.extract 0 (bt359.1 : Int).toNat) ++ ((a2.extract (bt362.1 : Int).toNat a2.size).extract 0 1)) ++ (a1.extract (bt359.1 : Int).toNat a1.size), bt365.2.1, bt365.2.2)) else (none)) else (none)) else (none)) else (none)) else (if bt365.1 = 1 then (if 0 ≤ bt359.1 then (if bt359.1 ≤ (a1.size : Int) then (if (a1.extract 0 (bt359.1 : Int).toNat).size + ((a2.extract (bt362.1 : Int).toNat a2.size).extract 0 1).size ≤ 9223372036854775807 then (if 0 ≤ (wrap64 (bt359.1 + 1)) then (if (wrap64 (bt359.1 + 1)) ≤ (a1.size : Int) then (if ((a1.extract 0 (bt359.1 : Int).toNat) ++ ((a2.extract (bt362.1 : Int).toNat a2.size).extract 0 1)).size + (a1.extract ((wrap64 (bt359.1 + 1)) : Int).toNat a1.size).size ≤ 9223372036854775807 then (some (((a1.extract 0 (bt359.1 : Int).toNat) ++ ((a2.extract (bt362.1 : Int).toNat a2.size).extract 0 1)) ++ (a1.extract ((wrap64 (bt359.1 + 1)) : Int).toNat a1.size), bt365.2.1, bt365.2.2)) else (none)) else (none)) else (none)) else (none)) else (none)) else (none)) else (if 0 ≤ bt359.1 then (if bt359.1 ≤ (a1.size : Int) then (if 0 ≤ (wrap64 (bt359.1 + 1)) then (if (wrap64 (bt359.1 + 1)) ≤ (a1.size : Int) then (if (a1.extract 0 (bt359.1 : Int).toNat).size + (a1.extract ((wrap64 (bt359.1 + 1)) : Int).toNat a1.size).size ≤ 9223372036854775807 then (some ((a1.extract 0 (bt359.1 : Int).toNat) ++ (a1.extract ((wrap64 (bt359.1 + 1)) : Int).toNat a1.size), bt365.2.1, bt365.2.2)) else (none)) else (none)) else (none)) else (none)) else (none))))) else (none)) else (none)) else (none)) else (none))))
set_option maxHeartbeats 8000000 in
set_option maxRecDepth 100000 in
theorem spec_l1Cur_spoilt.calls (g : Nat) (s0_0 : List Int) (s0_1 : Int) (s0_2 : Int) (a1 : ByteArray) (a2 : ByteArray) (r1 : ByteArray) (r2 : Int) (r3 : Int) (w0 w : World) (hI : IsS51 w0 w g s0_0 s0_1 s0_2) (hB : Below w0.heap.size w0 w) (h : spec_l1Cur_spoilt.f s0_0 s0_1 s0_2 a1 a2 = some (r1, r2, r3)) :
  Calls Tryd.prog 55 #[.pointer (some ⟨g, 0, none⟩), .string a1, .string a2] w fun e w' => e = .returned (.string r1) ∧ IsS51 w0 w' g s0_0 r2 r3 ∧ Below w0.heap.size w0 w' ∧ KeepBut w w' g none := by
 have HI0 := Aside0.mk hI
 have HK := Aside0.mk (KeepBut.refl w g none)
 have HL := Aside0.mk hB.size
 clear hI
 have HW0 := Aside0.mk hB.size
 have HB := Aside0.mk hB
 clear hB
 have H : (if a1.toList = ([] : List UInt8) then (if 0 ≤ 1 then (if 1 ≤ (a2.size : Int) then (some (a2.extract 0 1, s0_1, s0_2)) else (none)) else (none)) else ((spec_l1Cur_pick.f s0_0 s0_1 s0_2 (a1.size : Int)).bind fun bt359 => ((spec_l1Cur_pick.f s0_0 bt359.2.1 bt359.2.2 (a2.size : Int)).bind fun bt362 => (if 0 ≤ bt362.1 then (if bt362.1 ≤ (a2.size : Int) then (if 0 ≤ 1 then (if 1 ≤ ((a2.extract (bt362.1 : Int).toNat a2.size).size : Int) then ((spec_l1Cur_pick.f s0_0 bt362.2.1 bt362.2.2 3).bind fun bt365 => (if bt365.1 = 0 then (if 0 ≤ bt359.1 then (if bt359.1 ≤ (a1.size : Int) then (if (a1.extract 0 (bt359.1 : Int).toNat).size + ((a2.extract (bt362.1 : Int).toNat a2.size).extract 0 1).size ≤ 9223372036854775807 then (if ((a1.extract 0 (bt359.1 : Int).toNat) ++ ((a2.extract (bt362.1 : Int).toNat a2.size).extract 0 1)).size + (a1.extract (bt359.1 : Int).toNat a1.size).size ≤ 9223372036854775807 then (some (((a1.extract 0 (bt359.1 : Int).toNat) ++ ((a2.extract (bt362.1 : Int).toNat a2.size).extract 0 1)) ++ (a1.extract (bt359.1 : Int).toNat a1.size), bt365.2.1, bt365.2.2)) else (none)) else (none)) else (none)) else (none)) else (if bt365.1 = 1 then (if 0 ≤ bt359.1 then (if bt359.1 ≤ (a1.size : Int) then (if (a1.extract 0 (bt359.1 : Int).toNat).size + ((a2.extract (bt362.1 : Int).toNat a2.size).extract 0 1).size ≤ 9223372036854775807 then (if 0 ≤ (wrap64 (bt359.1 + 1)) then (if (wrap64 (bt359.1 + 1)) ≤ (a1.size : Int) then (if ((a1.extract 0 (bt359.1 : Int).toNat) ++ ((a2.extract (bt362.1 : Int).toNat a2.size).extract 0 1)).size + (a1.extract ((wrap64 (bt359.1 + 1)) : Int).toNat a1.size).size ≤ 9223372036854775807 then (some (((a1.extract 0 (bt359.1 : Int).toNat) ++ ((a2.extract (bt362.1 : Int).toNat a2.size).extract 0 1)) ++ (a1.extract ((wrap64 (bt359.1 + 1)) : Int).toNat a1.size), bt365.2.1, bt365.2.2)) else (none)) else (none)) else (none)) else (none)) else (none)) else (none)) else (if 0 ≤ bt359.1 then (if bt359.1 ≤ (a1.size : Int) then (if 0 ≤ (wrap64 (bt359.1 + 1)) then (if (wrap64 (bt359.1 + 1)) ≤ (a1.size : Int) then (if (a1.extract 0 (bt359.1 : Int).toNat).size + (a1.extract ((wrap64 (bt359.1 + 1)) : Int).toNat a1.size).size ≤ 9223372036854775807 then (some ((a1.extract 0 (bt359.1 : Int).toNat) ++ (a1.extract ((wrap64 (bt359.1 + 1)) : Int).toNat a1.size), bt365.2.1, bt365.2.2)) else (none)) else (none)) else (none)) else (none)) else (none))))) else (none)) else (none)) else (none)) else (none))))) = some (r1, r2, r3) := h
 clear h
 by_cases c4 : a1.toList = ([] : List UInt8)
 ·
  rw [if_pos c4] at H
  have c4b0 : (a1.toList == ([] : List UInt8)) = true := beq_iff_eq.mpr c4
  have c4b1 : (a1.toList != ([] : List UInt8)) = false := bne_eq_false_iff_eq.mpr c4
  clear c4
  by_cases c5 : 0 ≤ 1
  ·
   rw [if_pos c5] at H
   have c5b0 := eq_true c5
   have c5b1 : decide (0 ≤ 1) = true := decide_eq_true c5
   clear c5
   by_cases c6 : 1 ≤ (a2.size : Int)
   ·
    rw [if_pos c6] at H
    have c6b0 := eq_true c6
    have c6b1 : decide (1 ≤ (a2.size : Int)) = true := decide_eq_true c6
    clear c6
    simp only [Option.some.injEq, Prod.mk.injEq] at H
    obtain ⟨rfl, rfl, rfl⟩ := H
    go_enter Tryd.func55, Tryd.ntmps55
    go_wp2
    repeat (go_quiet (fail); try go_wp2)
    go_ret
    exact ax5
   ·
    rw [if_neg c6] at H
    exact absurd H (by simp)
  ·
   rw [if_neg c5] at H
   exact absurd H (by simp)
 ·
  rw [if_neg c4] at H
  have c4b0 : (a1.toList == ([] : List UInt8)) = false := beq_eq_false_iff_ne.mpr c4
  have c4b1 : (a1.toList != ([] : List UInt8)) = true := bne_iff_ne.mpr c4
  replace H := Option.bind_eq_some_iff.mp H
  obtain ⟨⟨t359, t360, t361⟩, A70, H⟩ := H
  replace H : ((spec_l1Cur_pick.f s0_0 t360 t361 (a2.size : Int)).bind fun bt362 => (if 0 ≤ bt362.1 then (if bt362.1 ≤ (a2.size : Int) then (if 0 ≤ 1 then (if 1 ≤ ((a2.extract (bt362.1 : Int).toNat a2.size).size : Int) then ((spec_l1Cur_pick.f s0_0 bt362.2.1 bt362.2.2 3).bind fun bt365 => (if bt365.1 = 0 then (if 0 ≤ t359 then (if t359 ≤ (a1.size : Int) then (if (a1.extract 0 (t359 : Int).toNat).size + ((a2.extract (bt362.1 : Int).toNat a2.size).extract 0 1).size ≤ 9223372036854775807 then (if ((a1.extract 0 (t359 : Int).toNat) ++ ((a2.extract (bt362.1 : Int).toNat a2.size).extract 0 1)).size + (a1.extract (t359 : Int).toNat a1.size).size ≤ 9223372036854775807 then (some (((a1.extract 0 (t359 : Int).toNat) ++ ((a2.extract (bt362.1 : Int).toNat a2.size).extract 0 1)) ++ (a1.extract (t359 : Int).toNat a1.size), bt365.2.1, bt365.2.2)) else (none)) else (none)) else (none)) else (none)) else (if bt365.1 = 1 then (if 0 ≤ t359 then (if t359 ≤ (a1.size : Int) then (if (a1.extract 0 (t359 : Int).toNat).size + ((a2.extract (bt362.1 : Int).toNat a2.size).extract 0 1).size ≤ 9223372036854775807 then (if 0 ≤ (wrap64 (t359 + 1)) then (if (wrap64 (t359 + 1)) ≤ (a1.size : Int) then (if ((a1.extract 0 (t359 : Int).toNat) ++ ((a2.extract (bt362.1 : Int).toNat a2.size).extract 0 1)).size + (a1.extract ((wrap64 (t359 + 1)) : Int).toNat a1.size).size ≤ 9223372036854775807 then (some (((a1.extract 0 (t359 : Int).toNat) ++ ((a2.extract (bt362.1 : Int).toNat a2.size).extract 0 1)) ++ (a1.extract ((wrap64 (t359 + 1)) : Int).toNat a1.size), bt365.2.1, bt365.2.2)) else (none)) else (none)) else (none)) else (none)) else (none)) else (none)) else (if 0 ≤ t359 then (if t359 ≤ (a1.size : Int) then (if 0 ≤ (wrap64 (t359 + 1)) then (if (wrap64 (t359 + 1)) ≤ (a1.size : Int) then (if (a1.extract 0 (t359 : Int).toNat).size + (a1.extract ((wrap64 (t359 + 1)) : Int).toNat a1.size).size ≤ 9223372036854775807 then (some ((a1.extract 0 (t359 : Int).toNat) ++ (a1.extract ((wrap64 (t359 + 1)) : Int).toNat a1.size), bt365.2.1, bt365.2.2)) else (none)) else (none)) else (none)) else (none)) else (none))))) else (none)) else (none)) else (none)) else (none))) = some (r1, r2, r3) := H
  have A7 := Aside0.mk A70
  clear A70
  replace H := Option.bind_eq_some_iff.mp H
  obtain ⟨⟨t362, t363, t364⟩, A80, H⟩ := H
  replace H : (if 0 ≤ t362 then (if t362 ≤ (a2.size : Int) then (if 0 ≤ 1 then (if 1 ≤ ((a2.extract (t362 : Int).toNat a2.size).size : Int) then ((spec_l1Cur_pick.f s0_0 t363 t364 3).bind fun bt365 => (if bt365.1 = 0 then (if 0 ≤ t359 then (if t359 ≤ (a1.size : Int) then (if (a1.extract 0 (t359 : Int).toNat).size + ((a2.extract (t362 : Int).toNat a2.size).extract 0 1).size ≤ 9223372036854775807 then (if ((a1.extract 0 (t359 : Int).toNat) ++ ((a2.extract (t362 : Int).toNat a2.size).extract 0 1)).size + (a1.extract (t359 : Int).toNat a1.size).size ≤ 9223372036854775807 then (some (((a1.extract 0 (t359 : Int).toNat) ++ ((a2.extract (t362 : Int).toNat a2.size).extract 0 1)) ++ (a1.extract (t359 : Int).toNat a1.size), bt365.2.1, bt365.2.2)) else (none)) else (none)) else (none)) else (none)) else (if bt365.1 = 1 then (if 0 ≤ t359 then (if t359 ≤ (a1.size : Int) then (if (a1.extract 0 (t359 : Int).toNat).size + ((a2.extract (t362 : Int).toNat a2.size).extract 0 1).size ≤ 9223372036854775807 then (if 0 ≤ (wrap64 (t359 + 1)) then (if (wrap64 (t359 + 1)) ≤ (a1.size : Int) then (if ((a1.extract 0 (t359 : Int).toNat) ++ ((a2.extract (t362 : Int).toNat a2.size).extract 0 1)).size + (a1.extract ((wrap64 (t359 + 1)) : Int).toNat a1.size).size ≤ 9223372036854775807 then (some (((a1.extract 0 (t359 : Int).toNat) ++ ((a2.extract (t362 : Int).toNat a2.size).extract 0 1)) ++ (a1.extract ((wrap64 (t359 + 1)) : Int).toNat a1.size), bt365.2.1, bt365.2.2)) else (none)) else (none)) else (none)) else (none)) else (none)) else (none)) else (if 0 ≤ t359 then (if t359 ≤ (a1.size : Int) then (if 0 ≤ (wrap64 (t359 + 1)) then (if (wrap64 (t359 + 1)) ≤ (a1.size : Int) then (if (a1.extract 0 (t359 : Int).toNat).size + (a1.extract ((wrap64 (t359 + 1)) : Int).toNat a1.size).size ≤ 9223372036854775807 then (some ((a1.extract 0 (t359 : Int).toNat) ++ (a1.extract ((wrap64 (t359 + 1)) : Int).toNat a1.size), bt365.2.1, bt365.2.2)) else (none)) else (none)) else (none)) else (none)) else (none))))) else (none)) else (none)) else (none)) else (none)) = some (r1, r2, r3) := H
  have A8 := Aside0.mk A80
  clear A80
  by_cases c9 : 0 ≤ t362
  ·
   rw [if_pos c9] at H
   have c9b0 := eq_true c9
   have c9b1 : decide (0 ≤ t362) = true := decide_eq_true c9
   clear c9
   by_cases c10 : t362 ≤ (a2.size : Int)
   ·
    rw [if_pos c10] at H
    have c10b0 := eq_true c10
    have c10b1 : decide (t362 ≤ (a2.size : Int)) = true := decide_eq_true c10
    clear c10
    by_cases c11 : 0 ≤ 1
    ·
     rw [if_pos c11] at H
     have c11b0 := eq_true c11
     have c11b1 : decide (0 ≤ 1) = true := decide_eq_true c11
     clear c11
     by_cases c12 : 1 ≤ ((a2.extract (t362 : Int).toNat a2.size).size : Int)
     ·
      rw [if_pos c12] at H
      have c12b0 := eq_true c12
      have c12x : (1 ≤ ((a2.size - (t362 : Int).toNat : Nat) : Int)) = True := eq_true (by have z_ := c12; simp only [ByteArray.size_extract] at z_; omega)
      have c12b1 : decide (1 ≤ ((a2.extract (t362 : Int).toNat a2.size).size : Int)) = true := decide_eq_true c12
      clear c12
      replace H := Option.bind_eq_some_iff.mp H
      obtain ⟨⟨t365, t366, t367⟩, A130, H⟩ := H
      replace H : (if t365 = 0 then (if 0 ≤ t359 then (if t359 ≤ (a1.size : Int) then (if (a1.extract 0 (t359 : Int).toNat).size + ((a2.extract (t362 : Int).toNat a2.size).extract 0 1).size ≤ 9223372036854775807 then (if ((a1.extract 0 (t359 : Int).toNat) ++ ((a2.extract (t362 : Int).toNat a2.size).extract 0 1)).size + (a1.extract (t359 : Int).toNat a1.size).size ≤ 9223372036854775807 then (some (((a1.extract 0 (t359 : Int).toNat) ++ ((a2.extract (t362 : Int).toNat a2.size).extract 0 1)) ++ (a1.extract (t359 : Int).toNat a1.size), t366, t367)) else (none)) else (none)) else (none)) else (none)) else (if t365 = 1 then (if 0 ≤ t359 then (if t359 ≤ (a1.size : Int) then (if (a1.extract 0 (t359 : Int).toNat).size + ((a2.extract (t362 : Int).toNat a2.size).extract 0 1).size ≤ 9223372036854775807 then (if 0 ≤ (wrap64 (t359 + 1)) then (if (wrap64 (t359 + 1)) ≤ (a1.size : Int) then (if ((a1.extract 0 (t359 : Int).toNat) ++ ((a2.extract (t362 : Int).toNat a2.size).extract 0 1)).size + (a1.extract ((wrap64 (t359 + 1)) : Int).toNat a1.size).size ≤ 9223372036854775807 then (some (((a1.extract 0 (t359 : Int).toNat) ++ ((a2.extract (t362 : Int).toNat a2.size).extract 0 1)) ++ (a1.extract ((wrap64 (t359 + 1)) : Int).toNat a1.size), t366, t367)) else (none)) else (none)) else (none)) else (none)) else (none)) else (none)) else (if 0 ≤ t359 then (if t359 ≤ (a1.size : Int) then (if 0 ≤ (wrap64 (t359 + 1)) then (if (wrap64 (t359 + 1)) ≤ (a1.size : Int) then (if (a1.extract 0 (t359 : Int).toNat).size + (a1.extract ((wrap64 (t359 + 1)) : Int).toNat a1.size).size ≤ 9223372036854775807 then (some ((a1.extract 0 (t359 : Int).toNat) ++ (a1.extract ((wrap64 (t359 + 1)) : Int).toNat a1.size), t366, t367)) else (none)) else (none)) else (none)) else (none)) else (none)))) = some (r1, r2, r3) := H
      have A13 := Aside0.mk A130
      clear A130
      by_cases c14 : t365 = 0
      ·
       rw [if_pos c14] at H
       have c14b0 : (t365 == 0) = true := beq_iff_eq.mpr c14
       have c14b1 : (t365 != 0) = false := bne_eq_false_iff_eq.mpr c14
       clear c14
       by_cases c15 : 0 ≤ t359
       ·
        rw [if_pos c15] at H
        have c15b0 := eq_true c15
        have c15b1 : decide (0 ≤ t359) = true := decide_eq_true c15
        clear c15
        by_cases c16 : t359 ≤ (a1.size : Int)
        ·
         rw [if_pos c16] at H
         have c16b0 := eq_true c16
         have c16b1 : decide (t359 ≤ (a1.size : Int)) = true := decide_eq_true c16
         clear c16
         by_cases c17 : (a1.extract 0 (t359 : Int).toNat).size + ((a2.extract (t362 : Int).toNat a2.size).extract 0 1).size ≤ 9223372036854775807
         ·
          rw [if_pos c17] at H
          have c17b0 := eq_true c17
          have c17b1 : decide ((a1.extract 0 (t359 : Int).toNat).size + ((a2.extract (t362 : Int).toNat a2.size).extract 0 1).size ≤ 9223372036854775807) = true := decide_eq_true c17
          try have c17b2 : (9223372036854775807 < (a1.extract 0 (t359 : Int).toNat).size + ((a2.extract (t362 : Int).toNat a2.size).extract 0 1).size) = False := eq_false (Nat.not_lt.2 c17)
          have c18b0 := eq_true (of_decide_eq_true au152 : 0 ≤ t359)
          have c19b0 := eq_true (of_decide_eq_true au152 : t359 ≤ (a1.size : Int))
          by_cases c20 : ((a1.extract 0 (t359 : Int).toNat) ++ ((a2.extract (t362 : Int).toNat a2.size).extract 0 1)).size + (a1.extract (t359 : Int).toNat a1.size).size ≤ 9223372036854775807
          ·
           rw [if_pos c20] at H
           have c20b0 := eq_true c20
           have c20b1 : decide (((a1.extract 0 (t359 : Int).toNat) ++ ((a2.extract (t362 : Int).toNat a2.size).extract 0 1)).size + (a1.extract (t359 : Int).toNat a1.size).size ≤ 9223372036854775807) = true := decide_eq_true c20
           try have c20b2 : (9223372036854775807 < ((a1.extract 0 (t359 : Int).toNat) ++ ((a2.extract (t362 : Int).toNat a2.size).extract 0 1)).size + (a1.extract (t359 : Int).toNat a1.size).size) = False := eq_false (Nat.not_lt.2 c20)
           try have c20x : (9223372036854775807 < (a1.extract 0 (t359 : Int).toNat).size + ((a2.extract (t362 : Int).toNat a2.size).extract 0 1).size + (a1.extract (t359 : Int).toNat a1.size).size) = False := eq_false (by have z_ := c20; simp only [ByteArray.size_append] at z_; omega)
           simp only [Option.some.injEq, Prod.mk.injEq] at H
           obtain ⟨rfl, rfl, rfl⟩ := H
           (try (have d_c15b0 := Aside0.mk c15b0; clear c15b0))
           (try (have d_c15b1 := Aside0.mk c15b1; clear c15b1))
           (try (have d_c16b0 := Aside0.mk c16b0; clear c16b0))
           (try (have d_c16b1 := Aside0.mk c16b1; clear c16b1))
           (try (have d_c17b0 := Aside0.mk c17b0; clear c17b0))
           (try (have d_c17b1 := Aside0.mk c17b1; clear c17b1))
           (try (have d_c17b2 := Aside0.mk c17b2; clear c17b2))
           (try (have d_c20b0 := Aside0.mk c20b0; clear c20b0))
           (try (have d_c20b1 := Aside0.mk c20b1; clear c20b1))
           (try (have d_c20b2 := Aside0.mk c20b2; clear c20b2))
           (try (have d_c20x := Aside0.mk c20x; clear c20x))
           (try (have d_c18b0 := Aside0.mk c18b0; clear c18b0))
           (try (have d_c19b0 := Aside0.mk c19b0; clear c19b0))
           (try clear c20)
           (try clear c17)
           (try clear c16)
           (try clear c15)
           go_enter Tryd.func55, Tryd.ntmps55
           go_upto_region 7 with (first | (go_at_call 31; (with_reducible refine (spec_l1Cur_pick.calls g s0_0 s0_1 s0_2 (a1.size : Int) t359 t360 t361 w0 _ ?side1 ?side2 A7.out).mono ?_); (case side1 => repeat (first | (with_reducible first | exact HI0.out | apply IsS51.alloc | apply IsS51.drewN | apply IsS51.drew | apply IsS51.set_1 | apply IsS51.set_2) | exact HI0.out)); (case side2 => repeat (first | (with_reducible first | exact HB.out | apply below_alloc | apply pw_below_drewN | apply below_drew1 | refine below_set ?_ (IsS51.ge HI0.out)) | exact HB.out)); rintro e w21 ⟨rfl, hi, hb, hk⟩; replace HK := Aside0.mk (KeepBut.trans au99 hk (.inl rfl)); replace HB := Aside0.mk (hb); replace HI0 := Aside0.mk (hi); (try clear hb); (try clear hk); (try clear hi)) | (go_at_call 31; (with_reducible refine (spec_l1Cur_pick.calls g s0_0 t360 t361 (a2.size : Int) t362 t363 t364 w0 _ ?side1 ?side2 A8.out).mono ?_); (case side1 => repeat (first | (with_reducible first | exact HI0.out | apply IsS51.alloc | apply IsS51.drewN | apply IsS51.drew | apply IsS51.set_1 | apply IsS51.set_2) | exact HI0.out)); (case side2 => repeat (first | (with_reducible first | exact HB.out | apply below_alloc | apply pw_below_drewN | apply below_drew1 | refine below_set ?_ (IsS51.ge HI0.out)) | exact HB.out)); rintro e w22 ⟨rfl, hi, hb, hk⟩; replace HK := Aside0.mk (KeepBut.trans au99 hk (.inl rfl)); replace HB := Aside0.mk (hb); replace HI0 := Aside0.mk (hi); (try clear hb); (try clear hk); (try clear hi)) | (go_at_call 31; (with_reducible refine (spec_l1Cur_pick.calls g s0_0 t363 t364 3 t365 t366 t367 w0 _ ?side1 ?side2 A13.out).mono ?_); (case side1 => repeat (first | (with_reducible first | exact HI0.out | apply IsS51.alloc | apply IsS51.drewN | apply IsS51.drew | apply IsS51.set_1 | apply IsS51.set_2) | exact HI0.out)); (case side2 => repeat (first | (with_reducible first | exact HB.out | apply below_alloc | apply pw_below_drewN | apply below_drew1 | refine below_set ?_ (IsS51.ge HI0.out)) | exact HB.out)); rintro e w23 ⟨rfl, hi, hb, hk⟩; replace HK := Aside0.mk (KeepBut.trans au99 hk (.inl rfl)); replace HB := Aside0.mk (hb); replace HI0 := Aside0.mk (hi); (try clear hb); (try clear hk); (try clear hi)))
           (try (have c19b0 := d_c19b0.out; clear d_c19b0))
           (try (have c18b0 := d_c18b0.out; clear d_c18b0))
           (try (have c20x := d_c20x.out; clear d_c20x))
           (try (have c20b2 := d_c20b2.out; clear d_c20b2))
           (try (have c20b1 := d_c20b1.out; clear d_c20b1))
           (try (have c20b0 := d_c20b0.out; clear d_c20b0))
           (try (have c17b2 := d_c17b2.out; clear d_c17b2))
           (try (have c17b1 := d_c17b1.out; clear d_c17b1))
           (try (have c17b0 := d_c17b0.out; clear d_c17b0))
           (try (have c16b1 := d_c16b1.out; clear d_c16b1))
           (try (have c16b0 := d_c16b0.out; clear d_c16b0))
           (try (have c15b1 := d_c15b1.out; clear d_c15b1))
           (try (have c15b0 := d_c15b0.out; clear d_c15b0))
           have c17y : (9223372036854775807 < (t359 : Int).toNat + min 1 (a2.size - (t362 : Int).toNat)) = False := eq_false (by have z_ := c17b1; simp only [ByteArray.size_append, ByteArray.size_extract, decide_eq_true_eq] at z_; have y_ := of_decide_eq_true c16b1; omega)
           have c20y : (9223372036854775807 < (t359 : Int).toNat + min 1 (a2.size - (t362 : Int).toNat) + (a1.size - (t359 : Int).toNat)) = False := eq_false (by have z_ := c20b1; simp only [ByteArray.size_append, ByteArray.size_extract, decide_eq_true_eq] at z_; have y_ := of_decide_eq_true c16b1; omega)
           (try simp only [Act.put, List.setIfInBounds_toArray, List.set_cons_zero, List.set_cons_succ])
           go_quiet (fail)
           try go_wp2
           go_ret
           exact ax5
          ·
           rw [if_neg c20] at H
           exact absurd H (by simp)
         ·
          rw [if_neg c17] at H
          exact absurd H (by simp)
        ·
         rw [if_neg c16] at H
         exact absurd H (by simp)
       ·
        rw [if_neg c15] at H
        exact absurd H (by simp)
      ·
       rw [if_neg c14] at H
       have c14b0 : (t365 == 0) = false := beq_eq_false_iff_ne.mpr c14
       have c14b1 : (t365 != 0) = true := bne_iff_ne.mpr c14
       by_cases c24 : t365 = 1
       ·
        rw [if_pos c24] at H
        have c24b0 : (t365 == 1) = true := beq_iff_eq.mpr c24
        have c24b1 : (t365 != 1) = false := bne_eq_false_iff_eq.mpr c24
        clear c24
        by_cases c25 : 0 ≤ t359
        ·
         rw [if_pos c25] at H
         have c25b0 := eq_true c25
         have c25b1 : decide (0 ≤ t359) = true := decide_eq_true c25
         clear c25
         by_cases c26 : t359 ≤ (a1.size : Int)
         ·
          rw [if_pos c26] at H
          have c26b0 := eq_true c26
          have c26b1 : decide (t359 ≤ (a1.size : Int)) = true := decide_eq_true c26
          clear c26
          by_cases c27 : (a1.extract 0 (t359 : Int).toNat).size + ((a2.extract (t362 : Int).toNat a2.size).extract 0 1).size ≤ 9223372036854775807
          ·
           rw [if_pos c27] at H
           have c27b0 := eq_true c27
           have c27b1 : decide ((a1.extract 0 (t359 : Int).toNat).size + ((a2.extract (t362 : Int).toNat a2.size).extract 0 1).size ≤ 9223372036854775807) = true := decide_eq_true c27
           try have c27b2 : (9223372036854775807 < (a1.extract 0 (t359 : Int).toNat).size + ((a2.extract (t362 : Int).toNat a2.size).extract 0 1).size) = False := eq_false (Nat.not_lt.2 c27)
           obtain ⟨ji28, hji28⟩ : ∃ j_ : Int, (wrap64 (t359 + 1)) = j_ := ⟨_, rfl⟩
           replace H : (if 0 ≤ (ji28) then (if (ji28) ≤ (a1.size : Int) then (if ((a1.extract 0 (t359 : Int).toNat) ++ ((a2.extract (t362 : Int).toNat a2.size).extract 0 1)).size + (a1.extract ((ji28) : Int).toNat a1.size).size ≤ 9223372036854775807 then (some (((a1.extract 0 (t359 : Int).toNat) ++ ((a2.extract (t362 : Int).toNat a2.size).extract 0 1)) ++ (a1.extract ((ji28) : Int).toNat a1.size), t366, t367)) else (none)) else (none)) else (none)) = some (r1, r2, r3) := by first | (rw [hji28] at H; exact H) | (simp only [hji28] at H ⊢; exact H)
           (try rw [hji28] at A7)
           (try rw [hji28] at A8)
           (try rw [hji28] at A13)
           have hji28w : (IntKind.i64.wrap (t359 + 1)) = ji28 := (i64_w _).trans hji28
           by_cases c29 : 0 ≤ (ji28)
           ·
            rw [if_pos c29] at H
            have c29b0 := eq_true c29
            have c29b1 : decide (0 ≤ (ji28)) = true := decide_eq_true c29
            clear c29
            by_cases c30 : (ji28) ≤ (a1.size : Int)
            ·
             rw [if_pos c30] at H
             have c30b0 := eq_true c30
             have c30b1 : decide ((ji28) ≤ (a1.size : Int)) = true := decide_eq_true c30
             clear c30
             by_cases c31 : ((a1.extract 0 (t359 : Int).toNat) ++ ((a2.extract (t362 : Int).toNat a2.size).extract 0 1)).size + (a1.extract ((ji28) : Int).toNat a1.size).size ≤ 9223372036854775807
             ·
              rw [if_pos c31] at H
              have c31b0 := eq_true c31
              have c31b1 : decide (((a1.extract 0 (t359 : Int).toNat) ++ ((a2.extract (t362 : Int).toNat a2.size).extract 0 1)).size + (a1.extract ((ji28) : Int).toNat a1.size).size ≤ 9223372036854775807) = true := decide_eq_true c31
              try have c31b2 : (9223372036854775807 < ((a1.extract 0 (t359 : Int).toNat) ++ ((a2.extract (t362 : Int).toNat a2.size).extract 0 1)).size + (a1.extract ((ji28) : Int).toNat a1.size).size) = False := eq_false (Nat.not_lt.2 c31)
              try have c31x : (9223372036854775807 < (a1.extract 0 (t359 : Int).toNat).size + ((a2.extract (t362 : Int).toNat a2.size).extract 0 1).size + (a1.extract ((ji28) : Int).toNat a1.size).size) = False := eq_false (by have z_ := c31; simp only [ByteArray.size_append] at z_; omega)
              simp only [Option.some.injEq, Prod.mk.injEq] at H
              obtain ⟨rfl, rfl, rfl⟩ := H
              (try (have d_c25b0 := Aside0.mk c25b0; clear c25b0))
              (try (have d_c25b1 := Aside0.mk c25b1; clear c25b1))
              (try (have d_c26b0 := Aside0.mk c26b0; clear c26b0))
              (try (have d_c26b1 := Aside0.mk c26b1; clear c26b1))
              (try (have d_c27b0 := Aside0.mk c27b0; clear c27b0))
              (try (have d_c27b1 := Aside0.mk c27b1; clear c27b1))
              (try (have d_c27b2 := Aside0.mk c27b2; clear c27b2))
              (try (have d_c29b0 := Aside0.mk c29b0; clear c29b0))
              (try (have d_c29b1 := Aside0.mk c29b1; clear c29b1))
              (try (have d_c30b0 := Aside0.mk c30b0; clear c30b0))
              (try (have d_c30b1 := Aside0.mk c30b1; clear c30b1))
              (try (have d_c31b0 := Aside0.mk c31b0; clear c31b0))
              (try (have d_c31b1 := Aside0.mk c31b1; clear c31b1))
              (try (have d_c31b2 := Aside0.mk c31b2; clear c31b2))
              (try (have d_c31x := Aside0.mk c31x; clear c31x))
              (try clear c31)
              (try clear c30)
              (try clear c29)
              (try clear c27)
              (try clear c26)
              (try clear c25)
              go_enter Tryd.func55, Tryd.ntmps55
              go_upto_region 9 with (first | (go_at_call 31; (with_reducible refine (spec_l1Cur_pick.calls g s0_0 s0_1 s0_2 (a1.size : Int) t359 t360 t361 w0 _ ?side1 ?side2 A7.out).mono ?_); (case side1 => repeat (first | (with_reducible first | exact HI0.out | apply IsS51.alloc | apply IsS51.drewN | apply IsS51.drew | apply IsS51.set_1 | apply IsS51.set_2) | exact HI0.out)); (case side2 => repeat (first | (with_reducible first | exact HB.out | apply below_alloc | apply pw_below_drewN | apply below_drew1 | refine below_set ?_ (IsS51.ge HI0.out)) | exact HB.out)); rintro e w32 ⟨rfl, hi, hb, hk⟩; replace HK := Aside0.mk (KeepBut.trans au99 hk (.inl rfl)); replace HB := Aside0.mk (hb); replace HI0 := Aside0.mk (hi); (try clear hb); (try clear hk); (try clear hi)) | (go_at_call 31; (with_reducible refine (spec_l1Cur_pick.calls g s0_0 t360 t361 (a2.size : Int) t362 t363 t364 w0 _ ?side1 ?side2 A8.out).mono ?_); (case side1 => repeat (first | (with_reducible first | exact HI0.out | apply IsS51.alloc | apply IsS51.drewN | apply IsS51.drew | apply IsS51.set_1 | apply IsS51.set_2) | exact HI0.out)); (case side2 => repeat (first | (with_reducible first | exact HB.out | apply below_alloc | apply pw_below_drewN | apply below_drew1 | refine below_set ?_ (IsS51.ge HI0.out)) | exact HB.out)); rintro e w33 ⟨rfl, hi, hb, hk⟩; replace HK := Aside0.mk (KeepBut.trans au99 hk (.inl rfl)); replace HB := Aside0.mk (hb); replace HI0 := Aside0.mk (hi); (try clear hb); (try clear hk); (try clear hi)) | (go_at_call 31; (with_reducible refine (spec_l1Cur_pick.calls g s0_0 t363 t364 3 t365 t366 t367 w0 _ ?side1 ?side2 A13.out).mono ?_); (case side1 => repeat (first | (with_reducible first | exact HI0.out | apply IsS51.alloc | apply IsS51.drewN | apply IsS51.drew | apply IsS51.set_1 | apply IsS51.set_2) | exact HI0.out)); (case side2 => repeat (first | (with_reducible first | exact HB.out | apply below_alloc | apply pw_below_drewN | apply below_drew1 | refine below_set ?_ (IsS51.ge HI0.out)) | exact HB.out)); rintro e w34 ⟨rfl, hi, hb, hk⟩; replace HK := Aside0.mk (KeepBut.trans au99 hk (.inl rfl)); replace HB := Aside0.mk (hb); replace HI0 := Aside0.mk (hi); (try clear hb); (try clear hk); (try clear hi)))
              (try (have c31x := d_c31x.out; clear d_c31x))
              (try (have c31b2 := d_c31b2.out; clear d_c31b2))
              (try (have c31b1 := d_c31b1.out; clear d_c31b1))
              (try (have c31b0 := d_c31b0.out; clear d_c31b0))
              (try (have c30b1 := d_c30b1.out; clear d_c30b1))
              (try (have c30b0 := d_c30b0.out; clear d_c30b0))
              (try (have c29b1 := d_c29b1.out; clear d_c29b1))
              (try (have c29b0 := d_c29b0.out; clear d_c29b0))
              (try (have c27b2 := d_c27b2.out; clear d_c27b2))
              (try (have c27b1 := d_c27b1.out; clear d_c27b1))
              (try (have c27b0 := d_c27b0.out; clear d_c27b0))
              (try (have c26b1 := d_c26b1.out; clear d_c26b1))
              (try (have c26b0 := d_c26b0.out; clear d_c26b0))
              (try (have c25b1 := d_c25b1.out; clear d_c25b1))
              (try (have c25b0 := d_c25b0.out; clear d_c25b0))
              have c27y : (9223372036854775807 < (t359 : Int).toNat + min 1 (a2.size - (t362 : Int).toNat)) = False := eq_false (by have z_ := c27b1; simp only [ByteArray.size_append, ByteArray.size_extract, decide_eq_true_eq] at z_; have y_ := of_decide_eq_true c26b1; omega)
              have c31y : (9223372036854775807 < (t359 : Int).toNat + min 1 (a2.size - (t362 : Int).toNat) + (a1.size - (ji28 : Int).toNat)) = False := eq_false (by have z_ := c31b1; simp only [ByteArray.size_append, ByteArray.size_extract, decide_eq_true_eq] at z_; have y_ := of_decide_eq_true c26b1; omega)
              (try simp only [Act.put, List.setIfInBounds_toArray, List.set_cons_zero, List.set_cons_succ])
              go_quiet (fail)
              try go_wp2
              go_ret
              exact ⟨by first | rfl | (simp [errW_none, errW_some] <;> rfl) | (simp only [← hji28]; first | rfl | (simp [errW_none, errW_some] <;> rfl)) | (simp [*, errW_none, errW_some] <;> rfl), by repeat (first | (with_reducible first | exact HI0.out | apply IsS51.alloc | apply IsS51.drewN | apply IsS51.drew | apply IsS51.set_1 | apply IsS51.set_2) | exact HI0.out), by repeat (first | (with_reducible first | exact HB.out | apply below_alloc | apply pw_below_drewN | apply below_drew1 | refine below_set ?_ (IsS51.ge HI0.out)) | exact HB.out), by repeat (first | (with_reducible first | exact HK.out | apply KeepBut.set_ | apply keep_drewN | apply keep_drew | apply keep_alloc) | exact HK.out)⟩
             ·
              rw [if_neg c31] at H
              exact absurd H (by simp)
            ·
             rw [if_neg c30] at H
             exact absurd H (by simp)
           ·
            rw [if_neg c29] at H
            exact absurd H (by simp)
          ·
           rw [if_neg c27] at H
           exact absurd H (by simp)
         ·
          rw [if_neg c26] at H
          exact absurd H (by simp)
        ·
         rw [if_neg c25] at H
         exact absurd H (by simp)
       ·
        rw [if_neg c24] at H
        have c24b0 : (t365 == 1) = false := beq_eq_false_iff_ne.mpr c24
        have c24b1 : (t365 != 1) = true := bne_iff_ne.mpr c24
        by_cases c35 : 0 ≤ t359
        ·
         rw [if_pos c35] at H
         have c35b0 := eq_true c35
         have c35b1 : decide (0 ≤ t359) = true := decide_eq_true c35
         clear c35
         by_cases c36 : t359 ≤ (a1.size : Int)
         ·
          rw [if_pos c36] at H
          have c36b0 := eq_true c36
          have c36b1 : decide (t359 ≤ (a1.size : Int)) = true := decide_eq_true c36
          clear c36
          obtain ⟨ji37, hji37⟩ : ∃ j_ : Int, (wrap64 (t359 + 1)) = j_ := ⟨_, rfl⟩
          replace H : (if 0 ≤ (ji37) then (if (ji37) ≤ (a1.size : Int) then (if (a1.extract 0 (t359 : Int).toNat).size + (a1.extract ((ji37) : Int).toNat a1.size).size ≤ 9223372036854775807 then (some ((a1.extract 0 (t359 : Int).toNat) ++ (a1.extract ((ji37) : Int).toNat a1.size), t366, t367)) else (none)) else (none)) else (none)) = some (r1, r2, r3) := by first | (rw [hji37] at H; exact H) | (simp only [hji37] at H ⊢; exact H)
          (try rw [hji37] at A7)
          (try rw [hji37] at A8)
          (try rw [hji37] at A13)
          have hji37w : (IntKind.i64.wrap (t359 + 1)) = ji37 := (i64_w _).trans hji37
          by_cases c38 : 0 ≤ (ji37)
          ·
           rw [if_pos c38] at H
           have c38b0 := eq_true c38
           have c38b1 : decide (0 ≤ (ji37)) = true := decide_eq_true c38
           clear c38
           by_cases c39 : (ji37) ≤ (a1.size : Int)
           ·
            rw [if_pos c39] at H
            have c39b0 := eq_true c39
            have c39b1 : decide ((ji37) ≤ (a1.size : Int)) = true := decide_eq_true c39
            clear c39
            by_cases c40 : (a1.extract 0 (t359 : Int).toNat).size + (a1.extract ((ji37) : Int).toNat a1.size).size ≤ 9223372036854775807
            ·
             rw [if_pos c40] at H
             have c40b0 := eq_true c40
             have c40b1 : decide ((a1.extract 0 (t359 : Int).toNat).size + (a1.extract ((ji37) : Int).toNat a1.size).size ≤ 9223372036854775807) = true := decide_eq_true c40
             try have c40b2 : (9223372036854775807 < (a1.extract 0 (t359 : Int).toNat).size + (a1.extract ((ji37) : Int).toNat a1.size).size) = False := eq_false (Nat.not_lt.2 c40)
             simp only [Option.some.injEq, Prod.mk.injEq] at H
             obtain ⟨rfl, rfl, rfl⟩ := H
             (try (have d_c35b0 := Aside0.mk c35b0; clear c35b0))
             (try (have d_c35b1 := Aside0.mk c35b1; clear c35b1))
             (try (have d_c36b0 := Aside0.mk c36b0; clear c36b0))
             (try (have d_c36b1 := Aside0.mk c36b1; clear c36b1))
             (try (have d_c38b0 := Aside0.mk c38b0; clear c38b0))
             (try (have d_c38b1 := Aside0.mk c38b1; clear c38b1))
             (try (have d_c39b0 := Aside0.mk c39b0; clear c39b0))
             (try (have d_c39b1 := Aside0.mk c39b1; clear c39b1))
             (try (have d_c40b0 := Aside0.mk c40b0; clear c40b0))
             (try (have d_c40b1 := Aside0.mk c40b1; clear c40b1))
             (try (have d_c40b2 := Aside0.mk c40b2; clear c40b2))
             (try clear c40)
             (try clear c39)
             (try clear c38)
             (try clear c36)
             (try clear c35)
             go_enter Tryd.func55, Tryd.ntmps55
             go_upto_region 10 with (first | (go_at_call 31; (with_reducible refine (spec_l1Cur_pick.calls g s0_0 s0_1 s0_2 (a1.size : Int) t359 t360 t361 w0 _ ?side1 ?side2 A7.out).mono ?_); (case side1 => repeat (first | (with_reducible first | exact HI0.out | apply IsS51.alloc | apply IsS51.drewN | apply IsS51.drew | apply IsS51.set_1 | apply IsS51.set_2) | exact HI0.out)); (case side2 => repeat (first | (with_reducible first | exact HB.out | apply below_alloc | apply pw_below_drewN | apply below_drew1 | refine below_set ?_ (IsS51.ge HI0.out)) | exact HB.out)); rintro e w41 ⟨rfl, hi, hb, hk⟩; replace HK := Aside0.mk (KeepBut.trans au99 hk (.inl rfl)); replace HB := Aside0.mk (hb); replace HI0 := Aside0.mk (hi); (try clear hb); (try clear hk); (try clear hi)) | (go_at_call 31; (with_reducible refine (spec_l1Cur_pick.calls g s0_0 t360 t361 (a2.size : Int) t362 t363 t364 w0 _ ?side1 ?side2 A8.out).mono ?_); (case side1 => repeat (first | (with_reducible first | exact HI0.out | apply IsS51.alloc | apply IsS51.drewN | apply IsS51.drew | apply IsS51.set_1 | apply IsS51.set_2) | exact HI0.out)); (case side2 => repeat (first | (with_reducible first | exact HB.out | apply below_alloc | apply pw_below_drewN | apply below_drew1 | refine below_set ?_ (IsS51.ge HI0.out)) | exact HB.out)); rintro e w42 ⟨rfl, hi, hb, hk⟩; replace HK := Aside0.mk (KeepBut.trans au99 hk (.inl rfl)); replace HB := Aside0.mk (hb); replace HI0 := Aside0.mk (hi); (try clear hb); (try clear hk); (try clear hi)) | (go_at_call 31; (with_reducible refine (spec_l1Cur_pick.calls g s0_0 t363 t364 3 t365 t366 t367 w0 _ ?side1 ?side2 A13.out).mono ?_); (case side1 => repeat (first | (with_reducible first | exact HI0.out | apply IsS51.alloc | apply IsS51.drewN | apply IsS51.drew | apply IsS51.set_1 | apply IsS51.set_2) | exact HI0.out)); (case side2 => repeat (first | (with_reducible first | exact HB.out | apply below_alloc | apply pw_below_drewN | apply below_drew1 | refine below_set ?_ (IsS51.ge HI0.out)) | exact HB.out)); rintro e w43 ⟨rfl, hi, hb, hk⟩; replace HK := Aside0.mk (KeepBut.trans au99 hk (.inl rfl)); replace HB := Aside0.mk (hb); replace HI0 := Aside0.mk (hi); (try clear hb); (try clear hk); (try clear hi)))
             (try (have c40b2 := d_c40b2.out; clear d_c40b2))
             (try (have c40b1 := d_c40b1.out; clear d_c40b1))
             (try (have c40b0 := d_c40b0.out; clear d_c40b0))
             (try (have c39b1 := d_c39b1.out; clear d_c39b1))
             (try (have c39b0 := d_c39b0.out; clear d_c39b0))
             (try (have c38b1 := d_c38b1.out; clear d_c38b1))
             (try (have c38b0 := d_c38b0.out; clear d_c38b0))
             (try (have c36b1 := d_c36b1.out; clear d_c36b1))
             (try (have c36b0 := d_c36b0.out; clear d_c36b0))
             (try (have c35b1 := d_c35b1.out; clear d_c35b1))
             (try (have c35b0 := d_c35b0.out; clear d_c35b0))
             have c40y : (9223372036854775807 < (t359 : Int).toNat + (a1.size - (ji37 : Int).toNat)) = False := eq_false (by have z_ := c40b1; simp only [ByteArray.size_append, ByteArray.size_extract, decide_eq_true_eq] at z_; have y_ := of_decide_eq_true c36b1; omega)
             (try simp only [Act.put, List.setIfInBounds_toArray, List.set_cons_zero, List.set_cons_succ])
             go_quiet (fail)
             try go_wp2
             go_ret
             exact ⟨by first | rfl | (simp [errW_none, errW_some] <;> rfl) | (simp only [← hji37]; first | rfl | (simp [errW_none, errW_some] <;> rfl)) | (simp [*, errW_none, errW_some] <;> rfl), by repeat (first | (with_reducible first | exact HI0.out | apply IsS51.alloc | apply IsS51.drewN | apply IsS51.drew | apply IsS51.set_1 | apply IsS51.set_2) | exact HI0.out), by repeat (first | (with_reducible first | exact HB.out | apply below_alloc | apply pw_below_drewN | apply below_drew1 | refine below_set ?_ (IsS51.ge HI0.out)) | exact HB.out), by repeat (first | (with_reducible first | exact HK.out | apply KeepBut.set_ | apply keep_drewN | apply keep_drew | apply keep_alloc) | exact HK.out)⟩
            ·
             rw [if_neg c40] at H
             exact absurd H (by simp)
           ·
            rw [if_neg c39] at H
            exact absurd H (by simp)
          ·
           rw [if_neg c38] at H
           exact absurd H (by simp)
         ·
          rw [if_neg c36] at H
          exact absurd H (by simp)
        ·
         rw [if_neg c35] at H
         exact absurd H (by simp)
     ·
      rw [if_neg c12] at H
      exact absurd H (by simp)
    ·
     rw [if_neg c11] at H
     exact absurd H (by simp)
   ·
    rw [if_neg c10] at H
    exact absurd H (by simp)
  ·
   rw [if_neg c9] at H
   exact absurd H (by simp)


/-! ### spec_DrawParseDate: function 24 -/
def spec_DrawParseDate.f (k : Nat) (l0 : List Int) : Option (ByteArray) := (spec_l1Cur_date.f l0 0 0).bind fun bt369 => ((spec_l3Text.f k bt369.1 bt369.2.1 bt369.2.2.1 bt369.2.2.2.1).bind fun t375 => ((spec_l1Cur_one.f l0 bt369.2.2.2.2.1 bt369.2.2.2.2.2 3).bind fun bt376 => (if bt376.1 = true then ((spec_l1Cur_spoilt.f l0 bt376.2.1 bt376.2.2 t375 (⟨#[48, 49, 50, 51, 45, 99, 57]⟩ : ByteArray)).bind fun bt379 => (some bt379.1)) else (some t375))))
theorem spec_DrawParseDate.mono : ∀ a0 k, LeO (spec_DrawParseDate.f k a0) (spec_DrawParseDate.f (k + 1) a0) := by
 intro a0 k
 unfold spec_DrawParseDate.f
 repeat' first
   | (with_reducible exact spec_l3Text.mono _ _ _ _ _)
   | (with_reducible exact LeO.refl _)
   | (with_reducible exact LeO.none _)
   | (with_reducible refine LeO.ite ?_ ?_)
   | (with_reducible refine LeO.bind ?_ (fun _ => ?_))
   | exact spec_l3Text.mono _ _ _ _ _
   | exact LeO.none _
   | refine LeO.ite ?_ ?_
   | refine LeO.bind ?_ (fun _ => ?_)
set_option maxHeartbeats 8000000 in
set_option maxRecDepth 100000 in
theorem spec_DrawParseDate.calls (k : Nat) (A0 : Option Addr) (c0 : Nat) (l0 : List Int) (r : ByteArray) (w : World) (hr0 : Kd.C (Kd.int .u8) w A0 l0.length l0) (hc0 : l0.length ≤ c0) (h : spec_DrawParseDate.f k l0 = some r) :
  Calls Tryd.prog 24 #[.slice A0 l0.length c0] w fun e w' => e = .returned (.string r) ∧ Below w.heap.size w w' := by
 have hu51 := Tryd.underlying51
 have HR0 := Aside0.mk hr0
 have HC0 := Aside0.mk hc0
 clear hr0 hc0
 have HB := Aside0.mk (Below.refl w.heap.size w)
 have H : ((spec_l1Cur_date.f l0 0 0).bind fun bt369 => ((spec_l3Text.f k bt369.1 bt369.2.1 bt369.2.2.1 bt369.2.2.2.1).bind fun t375 => ((spec_l1Cur_one.f l0 bt369.2.2.2.2.1 bt369.2.2.2.2.2 3).bind fun bt376 => (if bt376.1 = true then ((spec_l1Cur_spoilt.f l0 bt376.2.1 bt376.2.2 t375 (⟨#[48, 49, 50, 51, 45, 99, 57]⟩ : ByteArray)).bind fun bt379 => (some bt379.1)) else (some t375))))) = some r := h
 clear h
 replace H := Option.bind_eq_some_iff.mp H
 obtain ⟨⟨t369, t370, t371, t372, t373, t374⟩, A20, H⟩ := H
 replace H : ((spec_l3Text.f k t369 t370 t371 t372).bind fun t375 => ((spec_l1Cur_one.f l0 t373 t374 3).bind fun bt376 => (if bt376.1 = true then ((spec_l1Cur_spoilt.f l0 bt376.2.1 bt376.2.2 t375 (⟨#[48, 49, 50, 51, 45, 99, 57]⟩ : ByteArray)).bind fun bt379 => (some bt379.1)) else (some t375)))) = some r := H
 have A2 := Aside0.mk A20
 clear A20
 replace H := Option.bind_eq_some_iff.mp H
 obtain ⟨t375, A30, H⟩ := H
 try dsimp only at H
 have A3 := Aside0.mk A30
 clear A30
 replace H := Option.bind_eq_some_iff.mp H
 obtain ⟨⟨t376, t377, t378⟩, A40, H⟩ := H
 replace H : (if t376 = true then ((spec_l1Cur_spoilt.f l0 t377 t378 t375 (⟨#[48, 49, 50, 51, 45, 99, 57]⟩ : ByteArray)).bind fun bt379 => (some bt379.1)) else (some t375)) = some r := H
 have A4 := Aside0.mk A40
 clear A40
 by_cases c5 : t376 = true
 ·
  subst c5
  replace H := (if_pos rfl).symm.trans H
  replace H := Option.bind_eq_some_iff.mp H
  obtain ⟨⟨t379, t380, t381⟩, A60, H⟩ := H
  replace H : (some t379) = some r := H
  have A6 := Aside0.mk A60
  clear A60
  obtain rfl := Option.some.inj H
  go_enter Tryd.func24, Tryd.ntmps24
  go_wp2_with (first | ((with_reducible refine gate_dst (N := 7) rfl ?_); refine box_event ?hg (N := 7) ?hd (cs := #[.slice A0 l0.length c0, .int .i64 0, .int .u64 0]) (t := 51) ?hr ?_; (case hd => rfl); (case hg => rfl); (case hr => first | (go_simp; done) | (go_simp; rfl)); intro gb368 hg w7 hbox hb; have HI368 := Aside0.mk ((show IsS51 w w7 gb368 l0 0 0 from ⟨_, _, hbox, by rw [hg]; exact (below_size au101), HR0.out⟩)); replace HB := Aside0.mk (below_step au101 hb); clear hb hbox hg) | ((with_reducible refine gate_callee (f := 54) rfl ?_); refine goesL_ (some 9) rfl rfl Tryd.func54 (by kernel_rfl) rfl #[.pointer (some ⟨gb368, 0, none⟩)] rfl au100 ?_; (with_reducible refine (spec_l1Cur_date.calls gb368 l0 0 0 t369 t370 t371 t372 t373 t374 w _ ?side1 ?side2 A2.out).mono ?_); (case side1 => repeat (first | (with_reducible first | exact HI368.out | apply IsS51.alloc | apply IsS51.drewN | apply IsS51.drew | apply IsS51.set_1 | apply IsS51.set_2) | exact HI368.out)); (case side2 => repeat (first | (with_reducible first | exact HB.out | apply below_alloc | apply pw_below_drewN | apply below_drew1 | refine below_set ?_ (IsS51.ge HI368.out)) | exact HB.out)); rintro e w8 ⟨rfl, hi, hb, hk⟩; refine ⟨_, rfl, ?_⟩; replace HB := Aside0.mk (hb); replace HI368 := Aside0.mk (hi); (try clear hb); (try clear hk); (try clear hi)) | ((with_reducible refine gate_callee (f := 53) rfl ?_); refine goesL_ (some 10) rfl rfl Tryd.func53 (by kernel_rfl) rfl #[.agg #[.int .i64 t369, .int .i64 t370, .int .i64 t371, .bool t372]] rfl au100 ?_; (with_reducible refine (spec_l3Text.calls k t369 t370 t371 t372 t375 _ A3.out).mono ?_); rintro e w9 ⟨rfl, hb⟩; refine ⟨_, rfl, ?_⟩; replace HB := Aside0.mk (below_step au80 hb); replace HI368 := Aside0.mk (IsS51.below au81 hb); (try clear hb)) | ((with_reducible refine gate_callee (f := 36) rfl ?_); refine goesL_ (some 12) rfl rfl Tryd.func36 (by kernel_rfl) rfl #[.pointer (some ⟨gb368, 0, none⟩), .int .i64 3] rfl au100 ?_; (with_reducible refine (spec_l1Cur_one.calls gb368 l0 t373 t374 3 true t377 t378 w _ ?side1 ?side2 A4.out).mono ?_); (case side1 => repeat (first | (with_reducible first | exact HI368.out | apply IsS51.alloc | apply IsS51.drewN | apply IsS51.drew | apply IsS51.set_1 | apply IsS51.set_2) | exact HI368.out)); (case side2 => repeat (first | (with_reducible first | exact HB.out | apply below_alloc | apply pw_below_drewN | apply below_drew1 | refine below_set ?_ (IsS51.ge HI368.out)) | exact HB.out)); rintro e w10 ⟨rfl, hi, hb, hk⟩; refine ⟨_, rfl, ?_⟩; replace HB := Aside0.mk (hb); replace HI368 := Aside0.mk (hi); (try clear hb); (try clear hk); (try clear hi)) | ((with_reducible refine gate_callee (f := 55) rfl ?_); refine goesL_ (some 15) rfl rfl Tryd.func55 (by kernel_rfl) rfl #[.pointer (some ⟨gb368, 0, none⟩), .string t375, .string (⟨#[48, 49, 50, 51, 45, 99, 57]⟩ : ByteArray)] rfl au100 ?_; (with_reducible refine (spec_l1Cur_spoilt.calls gb368 l0 t377 t378 t375 (⟨#[48, 49, 50, 51, 45, 99, 57]⟩ : ByteArray) t379 t380 t381 w _ ?side1 ?side2 A6.out).mono ?_); (case side1 => repeat (first | (with_reducible first | exact HI368.out | apply IsS51.alloc | apply IsS51.drewN | apply IsS51.drew | apply IsS51.set_1 | apply IsS51.set_2) | exact HI368.out)); (case side2 => repeat (first | (with_reducible first | exact HB.out | apply below_alloc | apply pw_below_drewN | apply below_drew1 | refine below_set ?_ (IsS51.ge HI368.out)) | exact HB.out)); rintro e w11 ⟨rfl, hi, hb, hk⟩; refine ⟨_, rfl, ?_⟩; replace HB := Aside0.mk (hb); replace HI368 := Aside0.mk (hi); (try clear hb); (try clear hk); (try clear hi)))
  go_ret
  exact ax10
 ·
  replace c5 := Bool.eq_false_iff.mpr c5
  subst c5
  replace H := (if_neg (show ¬ (false = true) by decide)).symm.trans H
  obtain rfl := Option.some.inj H
  go_enter Tryd.func24, Tryd.ntmps24
  go_wp2_with (first | ((with_reducible refine gate_dst (N := 7) rfl ?_); refine box_event ?hg (N := 7) ?hd (cs := #[.slice A0 l0.length c0, .int .i64 0, .int .u64 0]) (t := 51) ?hr ?_; (case hd => rfl); (case hg => rfl); (case hr => first | (go_simp; done) | (go_simp; rfl)); intro gb368 hg w12 hbox hb; have HI368 := Aside0.mk ((show IsS51 w w12 gb368 l0 0 0 from ⟨_, _, hbox, by rw [hg]; exact (below_size au101), HR0.out⟩)); replace HB := Aside0.mk (below_step au101 hb); clear hb hbox hg) | ((with_reducible refine gate_callee (f := 54) rfl ?_); refine goesL_ (some 9) rfl rfl Tryd.func54 (by kernel_rfl) rfl #[.pointer (some ⟨gb368, 0, none⟩)] rfl au100 ?_; (with_reducible refine (spec_l1Cur_date.calls gb368 l0 0 0 t369 t370 t371 t372 t373 t374 w _ ?side1 ?side2 A2.out).mono ?_); (case side1 => repeat (first | (with_reducible first | exact HI368.out | apply IsS51.alloc | apply IsS51.drewN | apply IsS51.drew | apply IsS51.set_1 | apply IsS51.set_2) | exact HI368.out)); (case side2 => repeat (first | (with_reducible first | exact HB.out | apply below_alloc | apply pw_below_drewN | apply below_drew1 | refine below_set ?_ (IsS51.ge HI368.out)) | exact HB.out)); rintro e w13 ⟨rfl, hi, hb, hk⟩; refine ⟨_, rfl, ?_⟩; replace HB := Aside0.mk (hb); replace HI368 := Aside0.mk (hi); (try clear hb); (try clear hk); (try clear hi)) | ((with_reducible refine gate_callee (f := 53) rfl ?_); refine goesL_ (some 10) rfl rfl Tryd.func53 (by kernel_rfl) rfl #[.agg #[.int .i64 t369, .int .i64 t370, .int .i64 t371, .bool t372]] rfl au100 ?_; (with_reducible refine (spec_l3Text.calls k t369 t370 t371 t372 t375 _ A3.out).mono ?_); rintro e w14 ⟨rfl, hb⟩; refine ⟨_, rfl, ?_⟩; replace HB := Aside0.mk (below_step au80 hb); replace HI368 := Aside0.mk (IsS51.below au81 hb); (try clear hb)) | ((with_reducible refine gate_callee (f := 36) rfl ?_); refine goesL_ (some 12) rfl rfl Tryd.func36 (by kernel_rfl) rfl #[.pointer (some ⟨gb368, 0, none⟩), .int .i64 3] rfl au100 ?_; (with_reducible refine (spec_l1Cur_one.calls gb368 l0 t373 t374 3 false t377 t378 w _ ?side1 ?side2 A4.out).mono ?_); (case side1 => repeat (first | (with_reducible first | exact HI368.out | apply IsS51.alloc | apply IsS51.drewN | apply IsS51.drew | apply IsS51.set_1 | apply IsS51.set_2) | exact HI368.out)); (case side2 => repeat (first | (with_reducible first | exact HB.out | apply below_alloc | apply pw_below_drewN | apply below_drew1 | refine below_set ?_ (IsS51.ge HI368.out)) | exact HB.out)); rintro e w15 ⟨rfl, hi, hb, hk⟩; refine ⟨_, rfl, ?_⟩; replace HB := Aside0.mk (hb); replace HI368 := Aside0.mk (hi); (try clear hb); (try clear hk); (try clear hi)))
  go_ret
  exact ax10

end Go.Proofs.YtmjmjfkjlblgaaaDoor.G
