/- Texts of this session for the law FnExactParseDate, put together by a program (merge.py): each ends with its namespace; conditions stand with each theorem. -/
import Derived.Test.YtmjmjfkjlblgaaaDoorKFnExactParseDate2
import Derived.Test.YtmjmjfkjlblgaaaDoorKFnExactParseDate1
import Derived.Deep.Slices
import Derived.Lib.SplitLaws
import Derived.Lib.IndexBytes
import Derived.Lib.IndexLaws
import Derived.Lib.IndexMore
import Derived.Lib.ItoaLen
import Derived.Lib.ItoaNum
import Derived.Lib.Atoi
namespace Go.Proofs.YtmjmjfkjlblgaaaDoor.G
open Go.RowKit Go.Proofs.YtmjmjfkjlblgaaaDoorW.PrintWords Go.Proofs.YtmjmjfkjlblgaaaDoorW.PrintLast Go.Proofs.YtmjmjfkjlblgaaaDoorW.PrintMore
open Go.Proofs.YtmjmjfkjlblgaaaDoor.Gl Go.Proofs.YtmjmjfkjlblgaaaDoor.Ext
attribute [local go_sem] max2_int min2_int max_two min_two max_three min_three max_four min_four   -- for this text's walks alone
set_option linter.unusedVariables false
set_option linter.unusedSimpArgs false

/-! ### impl_ParseDate: function 19 -/
mutual
def impl_ParseDate.l0 : Nat → ByteArray → List ByteArray → Int → Int → Int → Int → Int → Bool → Option (Int × Int × Int × Bool × Bool)
 | 0, _, _, _, _, _, _, _, _ => none
 | k + 1, x0, x28, x29, x30, x271000, x271001, x271002, x271003 => if x30 < x29 then (if 0 ≤ x30 then (if x30 < (x28.length : Int) then ((strconv_Atoi.f (rdOf ByteArray.empty x28 x30)).bind fun bt272 => (if bt272.2.isNone = true then (impl_ParseDate.j1 k x0 x30 bt272.1 x28 x29 x30 (decide (x30 > 2)) x271000 x271001 x271002 x271003) else (impl_ParseDate.j1 k x0 x30 bt272.1 x28 x29 x30 true x271000 x271001 x271002 x271003))) else (none)) else (none)) else ((impl_IsValidDate.f k x271000 x271001 x271002 x271003).bind fun t275 => (if t275 = true then ((impl_formatDate.f k x271000 x271001 x271002 x271003).bind fun t276 => (if t276.toList = x0.toList then (some (x271000, x271001, x271002, x271003, true)) else (some (0, 0, 0, false, false)))) else (some (0, 0, 0, false, false))))
def impl_ParseDate.j1 : Nat → ByteArray → Int → Int → List ByteArray → Int → Int → Bool → Int → Int → Int → Bool → Option (Int × Int × Int × Bool × Bool)
 | 0, _, _, _, _, _, _, _, _, _, _, _ => none
 | k + 1, x0, x8, x10, x28, x29, x30, x45, x271000, x271001, x271002, x271003 => if x45 = true then (some (0, 0, 0, false, false)) else (if x8 = 0 then (impl_ParseDate.l0 k x0 x28 x29 (wrap64 (x30 + 1)) x10 x271001 x271002 x271003) else (if x8 = 1 then (impl_ParseDate.l0 k x0 x28 x29 (wrap64 (x30 + 1)) x271000 x10 x271002 x271003) else (if x8 = 2 then (impl_ParseDate.l0 k x0 x28 x29 (wrap64 (x30 + 1)) x271000 x271001 x10 x271003) else (impl_ParseDate.l0 k x0 x28 x29 (wrap64 (x30 + 1)) x271000 x271001 x271002 x271003))))
end
def impl_ParseDate.f (k : Nat) (a0 : ByteArray) : Option (Int × Int × Int × Bool × Bool) := if a0.toList = ([117, 110, 107, 110, 111, 119, 110] : List UInt8) then (some (0, 0, 0, false, true)) else (if (a0.size : Int) > 12 then (some (0, 0, 0, false, false)) else ((strings_CutPrefix.f a0 (⟨#[99]⟩ : ByteArray)).bind fun bt265 => ((strings_Split.f bt265.1 (⟨#[45]⟩ : ByteArray)).bind fun t267 => (impl_ParseDate.l0 k a0 t267 (t267.length : Int) 0 0 0 0 bt265.2))))
theorem impl_ParseDate.mono_l : ∀ k, (∀ y0 y1 y2 y3 y4 y5 y6 y7, LeO (impl_ParseDate.l0 k y0 y1 y2 y3 y4 y5 y6 y7) (impl_ParseDate.l0 (k + 1) y0 y1 y2 y3 y4 y5 y6 y7)) ∧ (∀ y0 y1 y2 y3 y4 y5 y6 y7 y8 y9 y10, LeO (impl_ParseDate.j1 k y0 y1 y2 y3 y4 y5 y6 y7 y8 y9 y10) (impl_ParseDate.j1 (k + 1) y0 y1 y2 y3 y4 y5 y6 y7 y8 y9 y10))
 | 0 => ⟨fun _ _ _ _ _ _ _ _ r h => by simp [impl_ParseDate.l0] at h, fun _ _ _ _ _ _ _ _ _ _ _ r h => by simp [impl_ParseDate.j1] at h⟩
 | k + 1 => by
  obtain ⟨ih0, ih1⟩ := impl_ParseDate.mono_l k
  refine ⟨?_, ?_⟩
  ·
   intro y0 y1 y2 y3 y4 y5 y6 y7
   unfold impl_ParseDate.l0
   repeat' first
   | (with_reducible exact ih0 _ _ _ _ _ _ _ _)
   | (with_reducible exact ih1 _ _ _ _ _ _ _ _ _ _ _)
   | (with_reducible exact impl_IsValidDate.mono _ _ _ _ _)
   | (with_reducible exact impl_formatDate.mono _ _ _ _ _)
   | (with_reducible exact LeO.refl _)
   | (with_reducible exact LeO.none _)
   | (with_reducible refine LeO.ite ?_ ?_)
   | (with_reducible refine LeO.bind ?_ (fun _ => ?_))
   | exact ih0 _ _ _ _ _ _ _ _
   | exact ih1 _ _ _ _ _ _ _ _ _ _ _
   | exact impl_IsValidDate.mono _ _ _ _ _
   | exact impl_formatDate.mono _ _ _ _ _
   | exact LeO.none _
   | refine LeO.ite ?_ ?_
   | refine LeO.bind ?_ (fun _ => ?_)
  ·
   intro y0 y1 y2 y3 y4 y5 y6 y7 y8 y9 y10
   unfold impl_ParseDate.j1
   repeat' first
   | (with_reducible exact ih0 _ _ _ _ _ _ _ _)
   | (with_reducible exact ih1 _ _ _ _ _ _ _ _ _ _ _)
   | (with_reducible exact impl_IsValidDate.mono _ _ _ _ _)
   | (with_reducible exact impl_formatDate.mono _ _ _ _ _)
   | (with_reducible exact LeO.refl _)
   | (with_reducible exact LeO.none _)
   | (with_reducible refine LeO.ite ?_ ?_)
   | (with_reducible refine LeO.bind ?_ (fun _ => ?_))
   | exact ih0 _ _ _ _ _ _ _ _
   | exact ih1 _ _ _ _ _ _ _ _ _ _ _
   | exact impl_IsValidDate.mono _ _ _ _ _
   | exact impl_formatDate.mono _ _ _ _ _
   | exact LeO.none _
   | refine LeO.ite ?_ ?_
   | refine LeO.bind ?_ (fun _ => ?_)
theorem impl_ParseDate.mono : ∀ a0 k, LeO (impl_ParseDate.f k a0) (impl_ParseDate.f (k + 1) a0) := by
 intro a0 k
 obtain ⟨ih0, ih1⟩ := impl_ParseDate.mono_l k
 unfold impl_ParseDate.f
 repeat' first
   | (with_reducible exact ih0 _ _ _ _ _ _ _ _)
   | (with_reducible exact ih1 _ _ _ _ _ _ _ _ _ _ _)
   | (with_reducible exact impl_IsValidDate.mono _ _ _ _ _)
   | (with_reducible exact impl_formatDate.mono _ _ _ _ _)
   | (with_reducible exact LeO.refl _)
   | (with_reducible exact LeO.none _)
   | (with_reducible refine LeO.ite ?_ ?_)
   | (with_reducible refine LeO.bind ?_ (fun _ => ?_))
   | exact ih0 _ _ _ _ _ _ _ _
   | exact ih1 _ _ _ _ _ _ _ _ _ _ _
   | exact impl_IsValidDate.mono _ _ _ _ _
   | exact impl_formatDate.mono _ _ _ _ _
   | exact LeO.none _
   | refine LeO.ite ?_ ?_
   | refine LeO.bind ?_ (fun _ => ?_)
set_option maxRecDepth 100000 in
theorem impl_ParseDate.L0 {P : Prop} (h : P := by
  go_wp2_with (first | ((with_reducible refine gate_callee (f := 49) rfl ?_); refine goesL_ (some 62) rfl rfl Tryd.func49 (by kernel_rfl) rfl #[.agg #[.int .i64 x271000_1, .int .i64 x271001_1, .int .i64 x271002_1, .bool t266]] rfl au15 ?_; (with_reducible refine (impl_IsValidDate.calls k1 x271000_1 x271001_1 x271002_1 t266 _ _ A34.out).mono ?_); rintro e w47 ⟨rfl, hb⟩; refine ⟨_, rfl, ?_⟩; replace HO_28 := Aside0.mk (Kd.R_below au28 hb); replace BK264 := Aside0.mk (blk_below (g := gb264) au24 hb); replace BK270 := Aside0.mk (blk_below (g := gb270) au25 hb); replace HB := Aside0.mk (below_step au8 hb); (try clear hb); obtain ⟨hcz48_0, hcz48_1, hcz48_2, hcz48_3, hfz48_0, hfz48_1, hfz48_2, hfz48_3⟩ := blkc4 BK270.out) | (go_at_call 50; (with_reducible refine (impl_formatDate.calls (hG := au6) k1 x271000_1 x271001_1 x271002_1 t266 t276 _ A36.out).mono ?_); rintro e w49 ⟨rfl, hb⟩; replace HO_28 := Aside0.mk (Kd.R_below au28 hb); replace BK264 := Aside0.mk (blk_below (g := gb264) au24 hb); replace BK270 := Aside0.mk (blk_below (g := gb270) au25 hb); replace HB := Aside0.mk (below_step au8 hb); (try clear hb); obtain ⟨hcz50_0, hcz50_1, hcz50_2, hcz50_3, hfz50_0, hfz50_1, hfz50_2, hfz50_3⟩ := blkc4 BK264.out))
  refine bodyPost_ret (results_ct rfl _ _ gb264 33 #[.int .i64 0, .int .i64 0, .int .i64 0, .bool false] (0, 0) _ rfl au0 Tryd.underlying33 rfl (by kernel_rfl)) rfl ?_
  exact ax6) : P := h
set_option maxRecDepth 100000 in
theorem impl_ParseDate.L1 {P : Prop} (h : P := by
  go_enter Tryd.func19, Tryd.ntmps19
  go_wp2_with (first | ((with_reducible refine gate_dst (N := 2) rfl ?_); refine box_event ?hg (N := 2) ?hd (cs := #[.int .i64 0, .int .i64 0, .int .i64 0, .bool false]) (t := 33) ?hr ?_; (case hd => rfl); (case hg => rfl); (case hr => first | (go_simp; done) | (go_simp; rfl)); intro gb264 hg w3 hbox hb; have BK264 := Aside0.mk (hbox); have GW264 := Aside0.mk (bsz hg au16); have GE264 := Aside0.mk (bsz hg au16); replace HB := Aside0.mk (below_step au16 hb); clear hb hbox hg; obtain ⟨hcz4_0, hcz4_1, hcz4_2, hcz4_3, hfz4_0, hfz4_1, hfz4_2, hfz4_3⟩ := blkc4 BK264.out))
  refine bodyPost_ret (results_ct rfl _ _ gb264 33 #[.int .i64 0, .int .i64 0, .int .i64 0, .bool false] (0, 0) _ rfl (by (with_reducible repeat (first | refine blk_drewN ?_ _ | refine blk_drew ?_ | refine blk_alloc ?_ _)); refine blk_put (cs := #[.int .i64 0, .int .i64 0, .int .i64 0, .bool false]) ?_ 3 _ rfl; (with_reducible repeat (first | refine blk_drewN ?_ _ | refine blk_drew ?_ | refine blk_alloc ?_ _)); refine blk_put (cs := #[.int .i64 0, .int .i64 0, .int .i64 0, .bool false]) ?_ 2 _ rfl; (with_reducible repeat (first | refine blk_drewN ?_ _ | refine blk_drew ?_ | refine blk_alloc ?_ _)); refine blk_put (cs := #[.int .i64 0, .int .i64 0, .int .i64 0, .bool false]) ?_ 1 _ rfl; (with_reducible repeat (first | refine blk_drewN ?_ _ | refine blk_drew ?_ | refine blk_alloc ?_ _)); refine blk_put (cs := #[.int .i64 0, .int .i64 0, .int .i64 0, .bool false]) ?_ 0 _ rfl; (with_reducible repeat (first | refine blk_drewN ?_ _ | refine blk_drew ?_ | refine blk_alloc ?_ _)); exact BK264.out) Tryd.underlying33 rfl (by kernel_rfl)) rfl ?_
  exact ⟨by first | rfl | (simp [errW_none, errW_some] <;> rfl) | (simp [*, errW_none, errW_some] <;> rfl), by repeat (first | (with_reducible first | exact HB.out | apply below_alloc | apply pw_below_drewN | apply below_drew1 | refine below_set ?_ GE264.out) | exact HB.out)⟩) : P := h
set_option maxRecDepth 100000 in
theorem impl_ParseDate.L2 {P : Prop} (h : P := by
  go_wp2
  go_roundg kj19
  case measure => have := HK1.out; have := HJ19.out; omega
  case rel => first | (exact ⟨(wrap64 (x30_1 + 1)), (x265000_1), (x265001_1), (x265002_1), (x265003_1), (t272), (x271001_1), (x271002_1), au34, H', ⟨by have := HK1.out; have := HJ19.out; omega⟩, ⟨by (with_reducible repeat (first | apply Kd.R_alloc | apply Kd.R_drewN | apply Kd.R_drew)); exact Kd.R_mono (Kd.R_far (p := ⟨gb270, 0, none⟩) (Kd.R_types HO_28.out BK270.out (by decide)) (fun _ hk => hk.2) (.int .i64 t272)) (fun _ hk => trivial)⟩, ⟨by (with_reducible repeat (first | refine blk_drewN ?_ _ | refine blk_drew ?_ | refine blk_alloc ?_ _)); refine blk_far ?_ NB264_270.out _; (with_reducible repeat (first | refine blk_drewN ?_ _ | refine blk_drew ?_ | refine blk_alloc ?_ _)); exact BK264.out⟩, ⟨by (with_reducible repeat (first | refine blk_drewN ?_ _ | refine blk_drew ?_ | refine blk_alloc ?_ _)); refine blk_put (cs := #[.int .i64 x271000_1, .int .i64 x271001_1, .int .i64 x271002_1, .bool t266]) ?_ 0 _ rfl; (with_reducible repeat (first | refine blk_drewN ?_ _ | refine blk_drew ?_ | refine blk_alloc ?_ _)); exact BK270.out⟩, ⟨by repeat (first | (with_reducible first | exact HB.out | apply below_alloc | apply pw_below_drewN | apply below_drew1 | refine below_set ?_ GE264.out | refine below_set ?_ GE270.out) | exact HB.out)⟩⟩) | (exact ⟨(wrap64 (x30_1 + 1)), (x265000_1), (x265001_1), (x265002_1), (x265003_1), (x271000_1), (t272), (x271002_1), au34, H', ⟨by have := HK1.out; have := HJ19.out; omega⟩, ⟨by (with_reducible repeat (first | apply Kd.R_alloc | apply Kd.R_drewN | apply Kd.R_drew)); exact Kd.R_mono (Kd.R_far (p := ⟨gb270, 1, none⟩) (Kd.R_types HO_28.out BK270.out (by decide)) (fun _ hk => hk.2) (.int .i64 t272)) (fun _ hk => trivial)⟩, ⟨by (with_reducible repeat (first | refine blk_drewN ?_ _ | refine blk_drew ?_ | refine blk_alloc ?_ _)); refine blk_far ?_ NB264_270.out _; (with_reducible repeat (first | refine blk_drewN ?_ _ | refine blk_drew ?_ | refine blk_alloc ?_ _)); exact BK264.out⟩, ⟨by (with_reducible repeat (first | refine blk_drewN ?_ _ | refine blk_drew ?_ | refine blk_alloc ?_ _)); refine blk_put (cs := #[.int .i64 x271000_1, .int .i64 x271001_1, .int .i64 x271002_1, .bool t266]) ?_ 1 _ rfl; (with_reducible repeat (first | refine blk_drewN ?_ _ | refine blk_drew ?_ | refine blk_alloc ?_ _)); exact BK270.out⟩, ⟨by repeat (first | (with_reducible first | exact HB.out | apply below_alloc | apply pw_below_drewN | apply below_drew1 | refine below_set ?_ GE264.out | refine below_set ?_ GE270.out) | exact HB.out)⟩⟩) | (exact ⟨(wrap64 (x30_1 + 1)), (x265000_1), (x265001_1), (x265002_1), (x265003_1), (x271000_1), (x271001_1), (t272), au34, H', ⟨by have := HK1.out; have := HJ19.out; omega⟩, ⟨by (with_reducible repeat (first | apply Kd.R_alloc | apply Kd.R_drewN | apply Kd.R_drew)); exact Kd.R_mono (Kd.R_far (p := ⟨gb270, 2, none⟩) (Kd.R_types HO_28.out BK270.out (by decide)) (fun _ hk => hk.2) (.int .i64 t272)) (fun _ hk => trivial)⟩, ⟨by (with_reducible repeat (first | refine blk_drewN ?_ _ | refine blk_drew ?_ | refine blk_alloc ?_ _)); refine blk_far ?_ NB264_270.out _; (with_reducible repeat (first | refine blk_drewN ?_ _ | refine blk_drew ?_ | refine blk_alloc ?_ _)); exact BK264.out⟩, ⟨by (with_reducible repeat (first | refine blk_drewN ?_ _ | refine blk_drew ?_ | refine blk_alloc ?_ _)); refine blk_put (cs := #[.int .i64 x271000_1, .int .i64 x271001_1, .int .i64 x271002_1, .bool t266]) ?_ 2 _ rfl; (with_reducible repeat (first | refine blk_drewN ?_ _ | refine blk_drew ?_ | refine blk_alloc ?_ _)); exact BK270.out⟩, ⟨by repeat (first | (with_reducible first | exact HB.out | apply below_alloc | apply pw_below_drewN | apply below_drew1 | refine below_set ?_ GE264.out | refine below_set ?_ GE270.out) | exact HB.out)⟩⟩) | (exact ⟨(wrap64 (x30_1 + 1)), (x265000_1), (x265001_1), (x265002_1), (x265003_1), (x271000_1), (x271001_1), (x271002_1), au34, H', ⟨by have := HK1.out; have := HJ19.out; omega⟩, ⟨by (with_reducible repeat (first | apply Kd.R_alloc | apply Kd.R_drewN | apply Kd.R_drew)); exact HO_28.out⟩, ⟨by (with_reducible repeat (first | refine blk_drewN ?_ _ | refine blk_drew ?_ | refine blk_alloc ?_ _)); exact BK264.out⟩, ⟨by (with_reducible repeat (first | refine blk_drewN ?_ _ | refine blk_drew ?_ | refine blk_alloc ?_ _)); exact BK270.out⟩, ⟨by repeat (first | (with_reducible first | exact HB.out | apply below_alloc | apply pw_below_drewN | apply below_drew1 | refine below_set ?_ GE264.out | refine below_set ?_ GE270.out) | exact HB.out)⟩⟩)) : P := h
set_option maxHeartbeats 8000000 in
set_option maxRecDepth 100000 in
theorem impl_ParseDate.calls (k : Nat) (a0 : ByteArray) (r1 : Int) (r2 : Int) (r3 : Int) (r4 : Bool) (r5 : Bool) (w : World) {gF3 : Bool} (hG : GL true true gF3 w) (h : impl_ParseDate.f k a0 = some (r1, r2, r3, r4, r5)) :
  Calls Tryd.prog 19 #[.string a0] w fun e w' => e = .returned (.tuple #[.agg #[.int .i64 r1, .int .i64 r2, .int .i64 r3, .bool r4], .bool r5]) ∧ Below w.heap.size w w' := by
 have HG := Aside0.mk hG
 clear hG
 have hu33 := Tryd.underlying33
 have hu61 := Tryd.underlying61
 have HB := Aside0.mk (Below.refl w.heap.size w)
 have H : (if a0.toList = ([117, 110, 107, 110, 111, 119, 110] : List UInt8) then (some (0, 0, 0, false, true)) else (if (a0.size : Int) > 12 then (some (0, 0, 0, false, false)) else ((strings_CutPrefix.f a0 (⟨#[99]⟩ : ByteArray)).bind fun bt265 => ((strings_Split.f bt265.1 (⟨#[45]⟩ : ByteArray)).bind fun t267 => (impl_ParseDate.l0 k a0 t267 (t267.length : Int) 0 0 0 0 bt265.2))))) = some (r1, r2, r3, r4, r5) := h
 clear h
 by_cases c2 : a0.toList = ([117, 110, 107, 110, 111, 119, 110] : List UInt8)
 ·
  rw [if_pos c2] at H
  have c2b0 : (a0.toList == ([117, 110, 107, 110, 111, 119, 110] : List UInt8)) = true := beq_iff_eq.mpr c2
  have c2b1 : (a0.toList != ([117, 110, 107, 110, 111, 119, 110] : List UInt8)) = false := bne_eq_false_iff_eq.mpr c2
  clear c2
  simp only [Option.some.injEq, Prod.mk.injEq] at H
  obtain ⟨rfl, rfl, rfl, rfl, rfl⟩ := H
  exact impl_ParseDate.L1
 ·
  rw [if_neg c2] at H
  have c2b0 : (a0.toList == ([117, 110, 107, 110, 111, 119, 110] : List UInt8)) = false := beq_eq_false_iff_ne.mpr c2
  have c2b1 : (a0.toList != ([117, 110, 107, 110, 111, 119, 110] : List UInt8)) = true := bne_iff_ne.mpr c2
  by_cases c5 : (a0.size : Int) > 12
  ·
   rw [if_pos c5] at H
   have c5b0 : decide (12 < (a0.size : Int)) = true := decide_eq_true c5
   have c5b1 : decide (12 < a0.size) = true := decide_eq_true (by omega)
   clear c5
   simp only [Option.some.injEq, Prod.mk.injEq] at H
   obtain ⟨rfl, rfl, rfl, rfl, rfl⟩ := H
   exact impl_ParseDate.L1
  ·
   rw [if_neg c5] at H
   have c5b0 : decide (12 < (a0.size : Int)) = false := decide_eq_false c5
   have c5b1 : decide (12 < a0.size) = false := decide_eq_false (by omega)
   clear c5
   replace H := Option.bind_eq_some_iff.mp H
   obtain ⟨⟨t265, t266⟩, A80, H⟩ := H
   replace H : ((strings_Split.f t265 (⟨#[45]⟩ : ByteArray)).bind fun t267 => (impl_ParseDate.l0 k a0 t267 (t267.length : Int) 0 0 0 0 t266)) = some (r1, r2, r3, r4, r5) := H
   have A8 := Aside0.mk A80
   clear A80
   replace H := Option.bind_eq_some_iff.mp H
   obtain ⟨t267, A90, H⟩ := H
   try dsimp only at H
   have A9 := Aside0.mk A90
   clear A90
   have H' := Aside0.mk H
   clear H
   go_enter Tryd.func19, Tryd.ntmps19
   go_wp2_with (first | ((with_reducible refine gate_dst (N := 2) rfl ?_); refine box_event ?hg (N := 2) ?hd (cs := #[.int .i64 0, .int .i64 0, .int .i64 0, .bool false]) (t := 33) ?hr ?_; (case hd => rfl); (case hg => rfl); (case hr => first | (go_simp; done) | (go_simp; rfl)); intro gb264 hg w10 hbox hb; have BK264 := Aside0.mk (hbox); have GW264 := Aside0.mk (bsz hg au16); have GE264 := Aside0.mk (bsz hg au16); replace HB := Aside0.mk (below_step au16 hb); clear hb hbox hg) | ((with_reducible refine gate_callee (f := 47) rfl ?_); refine goesL_ (some 21) rfl rfl Tryd.func47 (by kernel_rfl) rfl #[.string a0, .string (⟨#[99]⟩ : ByteArray)] rfl au15 ?_; (with_reducible refine (strings_CutPrefix.calls a0 (⟨#[99]⟩ : ByteArray) t265 t266 _ A8.out).mono ?_); rintro e w' ⟨rfl, ⟨nd, rfl⟩⟩; refine ⟨_, rfl, ?_⟩; (try (rw [drewN_self w10]; generalize hq_ : World.drewN w10 _ = w10; have n0_ : Aside0 (w10.heap[gb264]? = some (.cells #[.int .i64 0, .int .i64 0, .int .i64 0, .bool false] 33 (0, 0))) := ⟨by rw [← hq_]; exact au24⟩; have n1_ : Aside0 (Below w.heap.size w w10) := ⟨by rw [← hq_]; exact au12⟩; clear BK264 HB hq_; have BK264 := n0_; have HB := n1_; clear n0_ n1_))) | ((with_reducible refine gate_callee (f := 48) rfl ?_); refine goesL_ (some 27) rfl rfl Tryd.func48 (by kernel_rfl) rfl #[.string t265, .string (⟨#[45]⟩ : ByteArray)] rfl au15 ?_; (with_reducible refine (strings_Split.calls (hG := au6) t265 (⟨#[45]⟩ : ByteArray) t267 _ A9.out).mono ?_); rintro e w11 ⟨v268, rfl, ho0, hb⟩; refine ⟨_, rfl, ?_⟩; have HO269 := Aside0.mk (Kd.R_lower ho0 (below_size au12)); replace BK264 := Aside0.mk (blk_below (g := gb264) au24 hb); replace HB := Aside0.mk (below_step au12 hb); (try clear hb); (try clear ho0)) | ((with_reducible refine gate_dst (N := 6) rfl ?_); refine box_event ?hg (N := 6) ?hd (cs := #[.int .i64 0, .int .i64 0, .int .i64 0, .bool false]) (t := 33) ?hr ?_; (case hd => rfl); (case hg => rfl); (case hr => first | (go_simp; done) | (go_simp; rfl)); intro gb270 hg w12 hbox hb; replace HO269 := Aside0.mk (Kd.R_below (by (with_reducible repeat (first | apply Kd.R_alloc | apply Kd.R_drewN | apply Kd.R_drew)); exact HO269.out) hb); have BK270 := Aside0.mk (hbox); have GW270 := Aside0.mk (bsz hg au12); have GE270 := Aside0.mk (bsz hg au12); replace HB := Aside0.mk (below_step au12 hb); have NB264_270 := Aside0.mk (bne (g := gb264) hg au24); have NB270_264 := Aside0.mk (ben (g := gb264) hg au24); replace BK264 := Aside0.mk (blk_below (g := gb264) au24 hb); clear hb hbox hg; have hnb13 := NB270_264.out; have hnc13 := NB264_270.out; obtain ⟨hcz14_0, hcz14_1, hcz14_2, hcz14_3, hfz14_0, hfz14_1, hfz14_2, hfz14_3⟩ := blkc4 BK270.out; obtain ⟨Ao15, co15, eo15⟩ := Kd.R_slice HO269.out; subst eo15))
   go_loopg [30] k (fun kq v30 w' => ∃ (x30_1 : Int) (x265000_1 : Int) (x265001_1 : Int) (x265002_1 : Int) (x265003_1 : Bool) (x271000_1 : Int) (x271001_1 : Int) (x271002_1 : Int), v30 = .int .i64 x30_1 ∧ Aside0 (impl_ParseDate.l0 kq a0 t267 (t267.length : Int) x30_1 x271000_1 x271001_1 x271002_1 t266 = some (r1, r2, r3, r4, r5)) ∧ Aside0 (kq ≤ k) ∧ Aside0 (Kd.R Kd.string 9 w' w.heap.size (fun _ => True) (.slice Ao15 t267.length co15) t267) ∧ Aside0 (w'.heap[gb264]? = some (.cells #[.int .i64 x265000_1, .int .i64 x265001_1, .int .i64 x265002_1, .bool x265003_1] 33 (0, 0))) ∧ Aside0 (w'.heap[gb270]? = some (.cells #[.int .i64 x271000_1, .int .i64 x271001_1, .int .i64 x271002_1, .bool t266] 33 (0, 0))) ∧ Aside0 (Below w.heap.size w w'))
   case atStart => exact ⟨(0), (0), (0), (0), (false), (0), (0), (0), au34, H', ⟨Nat.le_refl _⟩, ⟨by (with_reducible repeat (first | apply Kd.R_alloc | apply Kd.R_drewN | apply Kd.R_drew)); exact Kd.R_mono (Kd.R_far (p := ⟨gb270, 3, none⟩) (Kd.R_far (p := ⟨gb270, 2, none⟩) (Kd.R_far (p := ⟨gb270, 1, none⟩) (Kd.R_far (p := ⟨gb270, 0, none⟩) (Kd.R_types HO269.out BK270.out (by decide)) (fun _ hk => hk.2) (.int .i64 0)) (fun _ hk => hk.2) (.int .i64 0)) (fun _ hk => hk.2) (.int .i64 0)) (fun _ hk => hk.2) (.bool t266)) (fun _ hk => trivial)⟩, ⟨by (with_reducible repeat (first | refine blk_drewN ?_ _ | refine blk_drew ?_ | refine blk_alloc ?_ _)); refine blk_far ?_ NB264_270.out _; (with_reducible repeat (first | refine blk_drewN ?_ _ | refine blk_drew ?_ | refine blk_alloc ?_ _)); refine blk_far ?_ NB264_270.out _; (with_reducible repeat (first | refine blk_drewN ?_ _ | refine blk_drew ?_ | refine blk_alloc ?_ _)); refine blk_far ?_ NB264_270.out _; (with_reducible repeat (first | refine blk_drewN ?_ _ | refine blk_drew ?_ | refine blk_alloc ?_ _)); refine blk_far ?_ NB264_270.out _; (with_reducible repeat (first | refine blk_drewN ?_ _ | refine blk_drew ?_ | refine blk_alloc ?_ _)); exact BK264.out⟩, ⟨by (with_reducible repeat (first | refine blk_drewN ?_ _ | refine blk_drew ?_ | refine blk_alloc ?_ _)); refine blk_put (cs := #[.int .i64 0, .int .i64 0, .int .i64 0, .bool false]) ?_ 3 _ rfl; (with_reducible repeat (first | refine blk_drewN ?_ _ | refine blk_drew ?_ | refine blk_alloc ?_ _)); refine blk_put (cs := #[.int .i64 0, .int .i64 0, .int .i64 0, .bool false]) ?_ 2 _ rfl; (with_reducible repeat (first | refine blk_drewN ?_ _ | refine blk_drew ?_ | refine blk_alloc ?_ _)); refine blk_put (cs := #[.int .i64 0, .int .i64 0, .int .i64 0, .bool false]) ?_ 1 _ rfl; (with_reducible repeat (first | refine blk_drewN ?_ _ | refine blk_drew ?_ | refine blk_alloc ?_ _)); refine blk_put (cs := #[.int .i64 0, .int .i64 0, .int .i64 0, .bool false]) ?_ 0 _ rfl; (with_reducible repeat (first | refine blk_drewN ?_ _ | refine blk_drew ?_ | refine blk_alloc ?_ _)); exact BK270.out⟩, ⟨by repeat (first | (with_reducible first | exact HB.out | apply below_alloc | apply pw_below_drewN | apply below_drew1 | refine below_set ?_ GE264.out | refine below_set ?_ GE270.out) | exact HB.out)⟩⟩
   case round =>
    clear H'
    try clear c1
    try clear c2
    try clear c2b0
    try clear c2b1
    try clear p2
    try clear c4
    try clear c5
    try clear c5b0
    try clear c5b1
    try clear c13
    try clear hcz14_0
    try clear hcz14_1
    try clear hcz14_2
    try clear hcz14_3
    try clear hcz4_0
    try clear hcz4_1
    try clear hcz4_2
    try clear hcz4_3
    try clear hcz7_0
    try clear hcz7_1
    try clear hcz7_2
    try clear hcz7_3
    try clear hfz14_0
    try clear hfz14_1
    try clear hfz14_2
    try clear hfz14_3
    try clear hfz4_0
    try clear hfz4_1
    try clear hfz4_2
    try clear hfz4_3
    try clear hfz7_0
    try clear hfz7_1
    try clear hfz7_2
    try clear hfz7_3
    obtain ⟨x30_1, x265000_1, x265001_1, x265002_1, x265003_1, x271000_1, x271001_1, x271002_1, rfl, HA, HK1, HO_28, BK264, BK270, HB⟩ := hrel
    cases gk with
    | zero => exact absurd HA.out (by simp [impl_ParseDate.l0])
    | succ k1 =>
     have H := HA.out
     clear HA
     simp only [impl_ParseDate.l0] at H
     by_cases c16 : x30_1 < (t267.length : Int)
     ·
      rw [if_pos c16] at H
      have c16b0 : decide (x30_1 < (t267.length : Int)) = true := decide_eq_true c16
      clear c16
      by_cases c17 : 0 ≤ x30_1
      ·
       rw [if_pos c17] at H
       have c17b0 : decide (0 ≤ x30_1) = true := decide_eq_true c17
       clear c17
       by_cases c18 : x30_1 < (t267.length : Int)
       ·
        rw [if_pos c18] at H
        have c18b0 : decide (x30_1 < (t267.length : Int)) = true := decide_eq_true c18
        clear c18
        replace H := Option.bind_eq_some_iff.mp H
        obtain ⟨⟨t272, t273⟩, A190, H⟩ := H
        replace H : (if t273.isNone = true then (impl_ParseDate.j1 k1 a0 x30_1 t272 t267 (t267.length : Int) x30_1 (decide (x30_1 > 2)) x271000_1 x271001_1 x271002_1 t266) else (impl_ParseDate.j1 k1 a0 x30_1 t272 t267 (t267.length : Int) x30_1 true x271000_1 x271001_1 x271002_1 t266)) = some (r1, r2, r3, r4, r5) := H
        have A19 := Aside0.mk A190
        clear A190
        have HC20 := Aside0.mk H
        clear H
        have p271 : 0 ≤ (x30_1 : Int) := of_decide_eq_true au33
        have q271 : x30_1 < (t267.length : Int) := of_decide_eq_true au33
        obtain ⟨ad271, e271, hx271_0⟩ := Kd.at_string (Kd.R_reads' HO_28.out).2.2 x30_1 p271 q271
        cases e271
        replace p271 := eq_true p271
        replace q271 := eq_true q271
        go_upto_region 11 with (first | ((with_reducible refine gate_callee (f := 38) rfl ?_); refine goesL_ (some 37) rfl rfl Tryd.func38 (by kernel_rfl) rfl #[.string (rdOf ByteArray.empty t267 x30_1)] rfl au15 ?_; (with_reducible refine (strconv_Atoi.calls (hG := au6) (rdOf ByteArray.empty t267 x30_1) t272 t273 _ A19.out).mono ?_); rintro e w21 ⟨N_, rfl, hb⟩; refine ⟨_, rfl, ?_⟩; replace HO_28 := Aside0.mk (Kd.R_below au28 hb); replace BK264 := Aside0.mk (blk_below (g := gb264) au24 hb); replace BK270 := Aside0.mk (blk_below (g := gb270) au25 hb); replace HB := Aside0.mk (below_step au8 hb); (try clear hb); (try simp only [errX_none, errX_some])))
        (try simp only [Act.put, List.setIfInBounds_toArray, List.set_cons_zero, List.set_cons_succ])
        go_cut [45] (fun v45 wc => ∃ (kq : Nat) (x45_19 : Bool), v45 = .bool x45_19 ∧ Aside0 (impl_ParseDate.j1 kq a0 x30_1 t272 t267 (t267.length : Int) x30_1 x45_19 x271000_1 x271001_1 x271002_1 t266 = some (r1, r2, r3, r4, r5)) ∧ Aside0 (kq ≤ k1) ∧ Aside0 (Kd.R Kd.string 9 wc w.heap.size (fun _ => True) (.slice (some ad271) t267.length co15) t267) ∧ Aside0 (wc.heap[gb264]? = some (.cells #[.int .i64 x265000_1, .int .i64 x265001_1, .int .i64 x265002_1, .bool x265003_1] 33 (0, 0))) ∧ Aside0 (wc.heap[gb270]? = some (.cells #[.int .i64 x271000_1, .int .i64 x271001_1, .int .i64 x271002_1, .bool t266] 33 (0, 0))) ∧ Aside0 (Below w.heap.size w wc))
        case first =>
         have H := HC20.out
         clear HC20
         rcases t273 with _ | q274
         ·
          have H1 : (impl_ParseDate.j1 k1 a0 x30_1 t272 t267 (t267.length : Int) x30_1 (decide (x30_1 > 2)) x271000_1 x271001_1 x271002_1 t266) = some (r1, r2, r3, r4, r5) := by rw [if_pos (show (none : Option Int).isNone = true by rfl)] at H; exact H
          clear H
          have H := H1
          clear H1
          try simp only [errX_none, errX_some]
          have H' := Aside0.mk H
          clear H
          go_wp2
          go_meet
          case rel => exact ⟨_, (decide (x30_1 > 2)), au34, H', ⟨by have := HK1.out; first | omega | exact Nat.le_refl _⟩, ⟨by (with_reducible repeat (first | apply Kd.R_alloc | apply Kd.R_drewN | apply Kd.R_drew)); exact HO_28.out⟩, ⟨by (with_reducible repeat (first | refine blk_drewN ?_ _ | refine blk_drew ?_ | refine blk_alloc ?_ _)); exact BK264.out⟩, ⟨by (with_reducible repeat (first | refine blk_drewN ?_ _ | refine blk_drew ?_ | refine blk_alloc ?_ _)); exact BK270.out⟩, ⟨by repeat (first | (with_reducible first | exact HB.out | apply below_alloc | apply pw_below_drewN | apply below_drew1 | refine below_set ?_ GE264.out | refine below_set ?_ GE270.out) | exact HB.out)⟩⟩
         ·
          have H1 : (impl_ParseDate.j1 k1 a0 x30_1 t272 t267 (t267.length : Int) x30_1 true x271000_1 x271001_1 x271002_1 t266) = some (r1, r2, r3, r4, r5) := by rw [if_neg (show ¬ (some q274).isNone = true by simp)] at H; exact H
          clear H
          have H := H1
          clear H1
          try simp only [errX_none, errX_some]
          have H' := Aside0.mk H
          clear H
          go_wp2
          go_meet
          case rel => exact ⟨_, (true), au34, H', ⟨by have := HK1.out; first | omega | exact Nat.le_refl _⟩, ⟨by (with_reducible repeat (first | apply Kd.R_alloc | apply Kd.R_drewN | apply Kd.R_drew)); exact HO_28.out⟩, ⟨by (with_reducible repeat (first | refine blk_drewN ?_ _ | refine blk_drew ?_ | refine blk_alloc ?_ _)); exact BK264.out⟩, ⟨by (with_reducible repeat (first | refine blk_drewN ?_ _ | refine blk_drew ?_ | refine blk_alloc ?_ _)); exact BK270.out⟩, ⟨by repeat (first | (with_reducible first | exact HB.out | apply below_alloc | apply pw_below_drewN | apply below_drew1 | refine below_set ?_ GE264.out | refine below_set ?_ GE270.out) | exact HB.out)⟩⟩
        case rest =>
         clear HC20
         try clear c1
         try clear c2
         try clear c2b0
         try clear c2b1
         try clear p2
         try clear q2
         try clear hx2
         try clear c3
         try clear c4
         try clear c5
         try clear c5b0
         try clear c5b1
         try clear c13
         try clear c16
         try clear c16b0
         try clear c17
         try clear c17b0
         try clear c18
         try clear c18b0
         try clear c19
         try clear hcz14_0
         try clear hcz14_1
         try clear hcz14_2
         try clear hcz14_3
         try clear hcz4_0
         try clear hcz4_1
         try clear hcz4_2
         try clear hcz4_3
         try clear hcz7_0
         try clear hcz7_1
         try clear hcz7_2
         try clear hcz7_3
         try clear hfz14_0
         try clear hfz14_1
         try clear hfz14_2
         try clear hfz14_3
         try clear hfz4_0
         try clear hfz4_1
         try clear hfz4_2
         try clear hfz4_3
         try clear hfz7_0
         try clear hfz7_1
         try clear hfz7_2
         try clear hfz7_3
         try clear hx271_0
         try clear p2
         try clear p271
         try clear q271
         try clear q274
         obtain ⟨kq, x45_19, rfl, HA, HJ19, HO_28, BK264, BK270, HB⟩ := hcut
         cases kq with
         | zero => exact absurd HA.out (by simp [impl_ParseDate.j1])
         | succ kj19 =>
          have H := HA.out
          clear HA
          simp only [impl_ParseDate.j1] at H
          by_cases c22 : x45_19 = true
          ·
           subst c22
           replace H := (if_pos rfl).symm.trans H
           simp only [Option.some.injEq, Prod.mk.injEq] at H
           obtain ⟨rfl, rfl, rfl, rfl, rfl⟩ := H
           have hnb23 := NB264_270.out
           have hnc23 := NB270_264.out
           obtain ⟨hcz24_0, hcz24_1, hcz24_2, hcz24_3, hfz24_0, hfz24_1, hfz24_2, hfz24_3⟩ := blkc4 BK264.out
           exact impl_ParseDate.L0
          ·
           replace c22 := Bool.eq_false_iff.mpr c22
           subst c22
           replace H := (if_neg (show ¬ (false = true) by decide)).symm.trans H
           by_cases c25 : x30_1 = 0
           ·
            rw [if_pos c25] at H
            have c25b0 : (x30_1 == 0) = true := beq_iff_eq.mpr c25
            have c25b1 : (x30_1 != 0) = false := bne_eq_false_iff_eq.mpr c25
            clear c25
            have H' := Aside0.mk H
            clear H
            have hnb26 := NB270_264.out
            have hnc26 := NB264_270.out
            obtain ⟨hcz27_0, hcz27_1, hcz27_2, hcz27_3, hfz27_0, hfz27_1, hfz27_2, hfz27_3⟩ := blkc4 BK270.out
            exact impl_ParseDate.L2
           ·
            rw [if_neg c25] at H
            have c25b0 : (x30_1 == 0) = false := beq_eq_false_iff_ne.mpr c25
            have c25b1 : (x30_1 != 0) = true := bne_iff_ne.mpr c25
            by_cases c28 : x30_1 = 1
            ·
             rw [if_pos c28] at H
             have c28b0 : (x30_1 == 1) = true := beq_iff_eq.mpr c28
             have c28b1 : (x30_1 != 1) = false := bne_eq_false_iff_eq.mpr c28
             clear c28
             have H' := Aside0.mk H
             clear H
             have hnb29 := NB270_264.out
             have hnc29 := NB264_270.out
             obtain ⟨hcz30_0, hcz30_1, hcz30_2, hcz30_3, hfz30_0, hfz30_1, hfz30_2, hfz30_3⟩ := blkc4 BK270.out
             exact impl_ParseDate.L2
            ·
             rw [if_neg c28] at H
             have c28b0 : (x30_1 == 1) = false := beq_eq_false_iff_ne.mpr c28
             have c28b1 : (x30_1 != 1) = true := bne_iff_ne.mpr c28
             by_cases c31 : x30_1 = 2
             ·
              rw [if_pos c31] at H
              have c31b0 : (x30_1 == 2) = true := beq_iff_eq.mpr c31
              have c31b1 : (x30_1 != 2) = false := bne_eq_false_iff_eq.mpr c31
              clear c31
              have H' := Aside0.mk H
              clear H
              have hnb32 := NB270_264.out
              have hnc32 := NB264_270.out
              obtain ⟨hcz33_0, hcz33_1, hcz33_2, hcz33_3, hfz33_0, hfz33_1, hfz33_2, hfz33_3⟩ := blkc4 BK270.out
              exact impl_ParseDate.L2
             ·
              rw [if_neg c31] at H
              have c31b0 : (x30_1 == 2) = false := beq_eq_false_iff_ne.mpr c31
              have c31b1 : (x30_1 != 2) = true := bne_iff_ne.mpr c31
              have H' := Aside0.mk H
              clear H
              exact impl_ParseDate.L2
       ·
        rw [if_neg c18] at H
        exact absurd H (by simp)
      ·
       rw [if_neg c17] at H
       exact absurd H (by simp)
     ·
      rw [if_neg c16] at H
      have c16b0 : decide (x30_1 < (t267.length : Int)) = false := decide_eq_false c16
      clear c16
      replace H := Option.bind_eq_some_iff.mp H
      obtain ⟨t275, A340, H⟩ := H
      try dsimp only at H
      have A34 := Aside0.mk A340
      clear A340
      by_cases c35 : t275 = true
      ·
       subst c35
       replace H := (if_pos rfl).symm.trans H
       replace H := Option.bind_eq_some_iff.mp H
       obtain ⟨t276, A360, H⟩ := H
       try dsimp only at H
       have A36 := Aside0.mk A360
       clear A360
       by_cases c37 : t276.toList = a0.toList
       ·
        rw [if_pos c37] at H
        have c37b0 : (t276.toList == a0.toList) = true := beq_iff_eq.mpr c37
        have c37b1 : (t276.toList != a0.toList) = false := bne_eq_false_iff_eq.mpr c37
        clear c37
        simp only [Option.some.injEq, Prod.mk.injEq] at H
        obtain ⟨rfl, rfl, rfl, rfl, rfl⟩ := H
        have hnb38 := NB270_264.out
        have hnc38 := NB264_270.out
        obtain ⟨hcz39_0, hcz39_1, hcz39_2, hcz39_3, hfz39_0, hfz39_1, hfz39_2, hfz39_3⟩ := blkc4 BK270.out
        go_wp2_with (first | ((with_reducible refine gate_callee (f := 49) rfl ?_); refine goesL_ (some 62) rfl rfl Tryd.func49 (by kernel_rfl) rfl #[.agg #[.int .i64 x271000_1, .int .i64 x271001_1, .int .i64 x271002_1, .bool t266]] rfl au15 ?_; (with_reducible refine (impl_IsValidDate.calls k1 x271000_1 x271001_1 x271002_1 t266 _ _ A34.out).mono ?_); rintro e w40 ⟨rfl, hb⟩; refine ⟨_, rfl, ?_⟩; replace HO_28 := Aside0.mk (Kd.R_below au28 hb); replace BK264 := Aside0.mk (blk_below (g := gb264) au24 hb); replace BK270 := Aside0.mk (blk_below (g := gb270) au25 hb); replace HB := Aside0.mk (below_step au8 hb); (try clear hb); obtain ⟨hcz41_0, hcz41_1, hcz41_2, hcz41_3, hfz41_0, hfz41_1, hfz41_2, hfz41_3⟩ := blkc4 BK270.out) | (go_at_call 50; (with_reducible refine (impl_formatDate.calls (hG := au6) k1 x271000_1 x271001_1 x271002_1 t266 t276 _ A36.out).mono ?_); rintro e w42 ⟨rfl, hb⟩; replace HO_28 := Aside0.mk (Kd.R_below au28 hb); replace BK264 := Aside0.mk (blk_below (g := gb264) au24 hb); replace BK270 := Aside0.mk (blk_below (g := gb270) au25 hb); replace HB := Aside0.mk (below_step au8 hb); (try clear hb); obtain ⟨hcz43_0, hcz43_1, hcz43_2, hcz43_3, hfz43_0, hfz43_1, hfz43_2, hfz43_3⟩ := blkc4 BK270.out; obtain ⟨hcz44_0, hcz44_1, hcz44_2, hcz44_3, hfz44_0, hfz44_1, hfz44_2, hfz44_3⟩ := blkc4 BK264.out))
        refine bodyPost_ret (results_ct rfl _ _ gb264 33 #[.int .i64 x271000_1, .int .i64 x271001_1, .int .i64 x271002_1, .bool t266] (0, 0) _ rfl (by (with_reducible repeat (first | refine blk_drewN ?_ _ | refine blk_drew ?_ | refine blk_alloc ?_ _)); refine blk_put (cs := #[.int .i64 x271000_1, .int .i64 x271001_1, .int .i64 x271002_1, .bool x265003_1]) ?_ 3 _ rfl; (with_reducible repeat (first | refine blk_drewN ?_ _ | refine blk_drew ?_ | refine blk_alloc ?_ _)); refine blk_put (cs := #[.int .i64 x271000_1, .int .i64 x271001_1, .int .i64 x265002_1, .bool x265003_1]) ?_ 2 _ rfl; (with_reducible repeat (first | refine blk_drewN ?_ _ | refine blk_drew ?_ | refine blk_alloc ?_ _)); refine blk_put (cs := #[.int .i64 x271000_1, .int .i64 x265001_1, .int .i64 x265002_1, .bool x265003_1]) ?_ 1 _ rfl; (with_reducible repeat (first | refine blk_drewN ?_ _ | refine blk_drew ?_ | refine blk_alloc ?_ _)); refine blk_put (cs := #[.int .i64 x265000_1, .int .i64 x265001_1, .int .i64 x265002_1, .bool x265003_1]) ?_ 0 _ rfl; (with_reducible repeat (first | refine blk_drewN ?_ _ | refine blk_drew ?_ | refine blk_alloc ?_ _)); exact BK264.out) Tryd.underlying33 rfl (by kernel_rfl)) rfl ?_
        exact ax6
       ·
        rw [if_neg c37] at H
        have c37b0 : (t276.toList == a0.toList) = false := beq_eq_false_iff_ne.mpr c37
        have c37b1 : (t276.toList != a0.toList) = true := bne_iff_ne.mpr c37
        simp only [Option.some.injEq, Prod.mk.injEq] at H
        obtain ⟨rfl, rfl, rfl, rfl, rfl⟩ := H
        have hnb45 := NB270_264.out
        have hnc45 := NB264_270.out
        obtain ⟨hcz46_0, hcz46_1, hcz46_2, hcz46_3, hfz46_0, hfz46_1, hfz46_2, hfz46_3⟩ := blkc4 BK270.out
        exact impl_ParseDate.L0
      ·
       replace c35 := Bool.eq_false_iff.mpr c35
       subst c35
       replace H := (if_neg (show ¬ (false = true) by decide)).symm.trans H
       simp only [Option.some.injEq, Prod.mk.injEq] at H
       obtain ⟨rfl, rfl, rfl, rfl, rfl⟩ := H
       have hnb51 := NB270_264.out
       have hnc51 := NB264_270.out
       obtain ⟨hcz52_0, hcz52_1, hcz52_2, hcz52_3, hfz52_0, hfz52_1, hfz52_2, hfz52_3⟩ := blkc4 BK270.out
       go_wp2_with (first | ((with_reducible refine gate_callee (f := 49) rfl ?_); refine goesL_ (some 62) rfl rfl Tryd.func49 (by kernel_rfl) rfl #[.agg #[.int .i64 x271000_1, .int .i64 x271001_1, .int .i64 x271002_1, .bool t266]] rfl au15 ?_; (with_reducible refine (impl_IsValidDate.calls k1 x271000_1 x271001_1 x271002_1 t266 _ _ A34.out).mono ?_); rintro e w53 ⟨rfl, hb⟩; refine ⟨_, rfl, ?_⟩; replace HO_28 := Aside0.mk (Kd.R_below au28 hb); replace BK264 := Aside0.mk (blk_below (g := gb264) au24 hb); replace BK270 := Aside0.mk (blk_below (g := gb270) au25 hb); replace HB := Aside0.mk (below_step au8 hb); (try clear hb); obtain ⟨hcz54_0, hcz54_1, hcz54_2, hcz54_3, hfz54_0, hfz54_1, hfz54_2, hfz54_3⟩ := blkc4 BK264.out))
       refine bodyPost_ret (results_ct rfl _ _ gb264 33 #[.int .i64 0, .int .i64 0, .int .i64 0, .bool false] (0, 0) _ rfl au0 Tryd.underlying33 rfl (by kernel_rfl)) rfl ?_
       exact ax6


/-! ### laws_eqDate: function 20 -/
def laws_eqDate.f (a0_0 : Int) (a0_1 : Int) (a0_2 : Int) (a0_3 : Bool) (a1_0 : Int) (a1_1 : Int) (a1_2 : Int) (a1_3 : Bool) : Option (Bool) := if a0_0 = a1_0 then (if a0_1 = a1_1 then (if a0_2 = a1_2 then (if (a0_3 != a1_3) = true then (some false) else (some true)) else (some false)) else (some false)) else (some false)
set_option maxRecDepth 100000 in
theorem laws_eqDate.L0 {P : Prop} (h : P := by
  go_enter Tryd.func20, Tryd.ntmps20
  go_wp2_with (first | ((with_reducible refine gate_dst (N := 2) rfl ?_); refine box_event ?hg (N := 2) ?hd (cs := #[.int .i64 a0_0, .int .i64 a0_1, .int .i64 a0_2, .bool a0_3]) (t := 33) ?hr ?_; (case hd => rfl); (case hg => rfl); (case hr => first | (go_simp; done) | (go_simp; rfl)); intro gb277 hg w12 hbox hb; have BK277 := Aside0.mk (hbox); have GW277 := Aside0.mk (bsz hg au16); have GE277 := Aside0.mk (bsz hg au16); replace HB := Aside0.mk (below_step au16 hb); clear hb hbox hg) | ((with_reducible refine gate_dst (N := 3) rfl ?_); refine box_event ?hg (N := 3) ?hd (cs := #[.int .i64 a1_0, .int .i64 a1_1, .int .i64 a1_2, .bool a1_3]) (t := 33) ?hr ?_; (case hd => rfl); (case hg => rfl); (case hr => first | (go_simp; done) | (go_simp; rfl)); intro gb278 hg w13 hbox hb; have BK278 := Aside0.mk (hbox); have GW278 := Aside0.mk (bsz hg au13); have GE278 := Aside0.mk (bsz hg au13); replace HB := Aside0.mk (below_step au13 hb); have NB277_278 := Aside0.mk (bne (g := gb277) hg au26); have NB278_277 := Aside0.mk (ben (g := gb277) hg au26); replace BK277 := Aside0.mk (blk_below (g := gb277) au26 hb); clear hb hbox hg; have hnb14 := NB277_278.out; have hnc14 := NB278_277.out; obtain ⟨hcz15_0, hcz15_1, hcz15_2, hcz15_3, hfz15_0, hfz15_1, hfz15_2, hfz15_3⟩ := blkc4 BK277.out; obtain ⟨hcz16_0, hcz16_1, hcz16_2, hcz16_3, hfz16_0, hfz16_1, hfz16_2, hfz16_3⟩ := blkc4 BK278.out))
  go_ret
  exact ⟨by first | rfl | (simp [errW_none, errW_some] <;> rfl) | (simp [*, errW_none, errW_some] <;> rfl), by repeat (first | (with_reducible first | exact HB.out | apply below_alloc | apply pw_below_drewN | apply below_drew1 | refine below_set ?_ GE277.out | refine below_set ?_ GE278.out) | exact HB.out)⟩) : P := h
set_option maxHeartbeats 8000000 in
set_option maxRecDepth 100000 in
theorem laws_eqDate.calls (a0_0 : Int) (a0_1 : Int) (a0_2 : Int) (a0_3 : Bool) (a1_0 : Int) (a1_1 : Int) (a1_2 : Int) (a1_3 : Bool) (r : Bool) (w : World) (h : laws_eqDate.f a0_0 a0_1 a0_2 a0_3 a1_0 a1_1 a1_2 a1_3 = some r) :
  Calls Tryd.prog 20 #[.agg #[.int .i64 a0_0, .int .i64 a0_1, .int .i64 a0_2, .bool a0_3], .agg #[.int .i64 a1_0, .int .i64 a1_1, .int .i64 a1_2, .bool a1_3]] w fun e w' => e = .returned (.bool r) ∧ Below w.heap.size w w' := by
 have hu33 := Tryd.underlying33
 have HB := Aside0.mk (Below.refl w.heap.size w)
 have H : (if a0_0 = a1_0 then (if a0_1 = a1_1 then (if a0_2 = a1_2 then (if (a0_3 != a1_3) = true then (some false) else (some true)) else (some false)) else (some false)) else (some false)) = some r := h
 clear h
 by_cases c3 : a0_0 = a1_0
 ·
  rw [if_pos c3] at H
  have c3b0 : (a0_0 == a1_0) = true := beq_iff_eq.mpr c3
  have c3b1 : (a0_0 != a1_0) = false := bne_eq_false_iff_eq.mpr c3
  clear c3
  by_cases c4 : a0_1 = a1_1
  ·
   rw [if_pos c4] at H
   have c4b0 : (a0_1 == a1_1) = true := beq_iff_eq.mpr c4
   have c4b1 : (a0_1 != a1_1) = false := bne_eq_false_iff_eq.mpr c4
   clear c4
   by_cases c5 : a0_2 = a1_2
   ·
    rw [if_pos c5] at H
    have c5b0 : (a0_2 == a1_2) = true := beq_iff_eq.mpr c5
    have c5b1 : (a0_2 != a1_2) = false := bne_eq_false_iff_eq.mpr c5
    clear c5
    by_cases c6 : (a0_3 != a1_3) = true
    ·
     rw [if_pos c6] at H
     have c6b0 : (a0_3 != a1_3) = true := c6
     (try (have c6b1 : decide (a0_3 = a1_3) = false := by simpa using c6))
     (try (have c6b2 : (a0_3 == a1_3) = false := by simpa using c6))
     (try (have c6b3 : ¬ (a0_3 = a1_3) := by simpa using c6))
     clear c6
     obtain rfl := Option.some.inj H
     exact laws_eqDate.L0
    ·
     rw [if_neg c6] at H
     have c6b0 : (a0_3 != a1_3) = false := by simpa using c6
     (try (have c6b1 : decide (a0_3 = a1_3) = true := by simpa using c6))
     (try (have c6b2 : (a0_3 == a1_3) = true := by simpa using c6))
     clear c6
     obtain rfl := Option.some.inj H
     exact laws_eqDate.L0
   ·
    rw [if_neg c5] at H
    have c5b0 : (a0_2 == a1_2) = false := beq_eq_false_iff_ne.mpr c5
    have c5b1 : (a0_2 != a1_2) = true := bne_iff_ne.mpr c5
    obtain rfl := Option.some.inj H
    exact laws_eqDate.L0
  ·
   rw [if_neg c4] at H
   have c4b0 : (a0_1 == a1_1) = false := beq_eq_false_iff_ne.mpr c4
   have c4b1 : (a0_1 != a1_1) = true := bne_iff_ne.mpr c4
   obtain rfl := Option.some.inj H
   exact laws_eqDate.L0
 ·
  rw [if_neg c3] at H
  have c3b0 : (a0_0 == a1_0) = false := beq_eq_false_iff_ne.mpr c3
  have c3b1 : (a0_0 != a1_0) = true := bne_iff_ne.mpr c3
  obtain rfl := Option.some.inj H
  exact laws_eqDate.L0


/-! ### laws_FnExactParseDate: function 4 -/
def laws_FnExactParseDate.f (k : Nat) (a0 : ByteArray) : Option (Bool) := if (a0.size : Int) > 1048576 then (some true) else ((spec_ParseDate.f k a0).bind fun bt279 => ((impl_ParseDate.f k a0).bind fun bt285 => ((laws_eqDate.f bt285.1 bt285.2.1 bt285.2.2.1 bt285.2.2.2.1 bt279.1 bt279.2.1 bt279.2.2.1 bt279.2.2.2.1).bind fun t291 => (if t291 = true then (if (bt285.2.2.2.2 != bt279.2.2.2.2) = true then (some false) else (some true)) else (some false)))))
theorem laws_FnExactParseDate.mono : ∀ a0 k, LeO (laws_FnExactParseDate.f k a0) (laws_FnExactParseDate.f (k + 1) a0) := by
 intro a0 k
 unfold laws_FnExactParseDate.f
 repeat' first
   | (with_reducible exact impl_ParseDate.mono _ _)
   | (with_reducible exact spec_ParseDate.mono _ _)
   | (with_reducible exact LeO.refl _)
   | (with_reducible exact LeO.none _)
   | (with_reducible refine LeO.ite ?_ ?_)
   | (with_reducible refine LeO.bind ?_ (fun _ => ?_))
   | exact impl_ParseDate.mono _ _
   | exact spec_ParseDate.mono _ _
   | exact LeO.none _
   | refine LeO.ite ?_ ?_
   | refine LeO.bind ?_ (fun _ => ?_)
set_option maxRecDepth 100000 in
theorem laws_FnExactParseDate.L0 {P : Prop} (h : P := by
  go_enter Tryd.func4, Tryd.ntmps4
  go_wp2_with (first | ((with_reducible refine gate_callee (f := 18) rfl ?_); refine goesL_ (some 12) rfl rfl Tryd.func18 (by kernel_rfl) rfl #[.string a0] rfl au15 ?_; (with_reducible refine (spec_ParseDate.calls k a0 t279 t280 t281 t282 t283 _ A3.out).mono ?_); rintro e w17 ⟨rfl, hb⟩; refine ⟨_, rfl, ?_⟩; replace HB := Aside0.mk (below_step au16 hb); (try clear hb)) | ((with_reducible refine gate_dst (N := 3) rfl ?_); refine box_event ?hg (N := 3) ?hd (cs := #[.int .i64 0, .int .i64 0, .int .i64 0, .bool false]) (t := 33) ?hr ?_; (case hd => rfl); (case hg => rfl); (case hr => first | (go_simp; done) | (go_simp; rfl)); intro gb284 hg w18 hbox hb; have BK284 := Aside0.mk (hbox); have GW284 := Aside0.mk (bsz hg au16); have GE284 := Aside0.mk (bsz hg au16); replace HB := Aside0.mk (below_step au16 hb); clear hb hbox hg; obtain ⟨hcz19_0, hcz19_1, hcz19_2, hcz19_3, hfz19_0, hfz19_1, hfz19_2, hfz19_3⟩ := blkc4 BK284.out) | ((with_reducible refine gate_callee (f := 19) rfl ?_); refine goesL_ (some 17) rfl rfl Tryd.func19 (by kernel_rfl) rfl #[.string a0] rfl au15 ?_; (with_reducible refine (impl_ParseDate.calls (hG := au6) k a0 t285 t286 t287 t288 t289 _ A4.out).mono ?_); rintro e w20 ⟨rfl, hb⟩; refine ⟨_, rfl, ?_⟩; replace BK284 := Aside0.mk (blk_below (g := gb284) (o := .cells #[.int .i64 t279, .int .i64 t280, .int .i64 t281, .bool t282] 33 (0, 0)) (by (with_reducible repeat (first | refine blk_drewN ?_ _ | refine blk_drew ?_ | refine blk_alloc ?_ _)); refine blk_put (cs := #[.int .i64 t279, .int .i64 t280, .int .i64 t281, .bool false]) ?_ 3 _ rfl; (with_reducible repeat (first | refine blk_drewN ?_ _ | refine blk_drew ?_ | refine blk_alloc ?_ _)); refine blk_put (cs := #[.int .i64 t279, .int .i64 t280, .int .i64 0, .bool false]) ?_ 2 _ rfl; (with_reducible repeat (first | refine blk_drewN ?_ _ | refine blk_drew ?_ | refine blk_alloc ?_ _)); refine blk_put (cs := #[.int .i64 t279, .int .i64 0, .int .i64 0, .bool false]) ?_ 1 _ rfl; (with_reducible repeat (first | refine blk_drewN ?_ _ | refine blk_drew ?_ | refine blk_alloc ?_ _)); refine blk_put (cs := #[.int .i64 0, .int .i64 0, .int .i64 0, .bool false]) ?_ 0 _ rfl; (with_reducible repeat (first | refine blk_drewN ?_ _ | refine blk_drew ?_ | refine blk_alloc ?_ _)); exact BK284.out) hb); replace HB := Aside0.mk (below_step au14 hb); (try clear hb)) | ((with_reducible refine gate_dst (N := 5) rfl ?_); refine box_event ?hg (N := 5) ?hd (cs := #[.int .i64 0, .int .i64 0, .int .i64 0, .bool false]) (t := 33) ?hr ?_; (case hd => rfl); (case hg => rfl); (case hr => first | (go_simp; done) | (go_simp; rfl)); intro gb290 hg w21 hbox hb; have BK290 := Aside0.mk (hbox); have GW290 := Aside0.mk (bsz hg au14); have GE290 := Aside0.mk (bsz hg au14); replace HB := Aside0.mk (below_step au14 hb); have NB284_290 := Aside0.mk (bne (g := gb284) hg au27); have NB290_284 := Aside0.mk (ben (g := gb284) hg au27); replace BK284 := Aside0.mk (blk_below (g := gb284) au27 hb); clear hb hbox hg; have hnb22 := NB290_284.out; have hnc22 := NB284_290.out; obtain ⟨hcz23_0, hcz23_1, hcz23_2, hcz23_3, hfz23_0, hfz23_1, hfz23_2, hfz23_3⟩ := blkc4 BK290.out; obtain ⟨hcz24_0, hcz24_1, hcz24_2, hcz24_3, hfz24_0, hfz24_1, hfz24_2, hfz24_3⟩ := blkc4 BK284.out) | ((with_reducible refine gate_callee (f := 20) rfl ?_); refine goesL_ (some 22) rfl rfl Tryd.func20 (by kernel_rfl) rfl #[.agg #[.int .i64 t285, .int .i64 t286, .int .i64 t287, .bool t288], .agg #[.int .i64 t279, .int .i64 t280, .int .i64 t281, .bool t282]] rfl au15 ?_; (with_reducible refine (laws_eqDate.calls t285 t286 t287 t288 t279 t280 t281 t282 _ _ A5.out).mono ?_); rintro e w25 ⟨rfl, hb⟩; refine ⟨_, rfl, ?_⟩; replace BK284 := Aside0.mk (blk_below (g := gb284) (o := .cells #[.int .i64 t279, .int .i64 t280, .int .i64 t281, .bool t282] 33 (0, 0)) (by (with_reducible repeat (first | refine blk_drewN ?_ _ | refine blk_drew ?_ | refine blk_alloc ?_ _)); refine blk_far ?_ NB284_290.out _; (with_reducible repeat (first | refine blk_drewN ?_ _ | refine blk_drew ?_ | refine blk_alloc ?_ _)); refine blk_far ?_ NB284_290.out _; (with_reducible repeat (first | refine blk_drewN ?_ _ | refine blk_drew ?_ | refine blk_alloc ?_ _)); refine blk_far ?_ NB284_290.out _; (with_reducible repeat (first | refine blk_drewN ?_ _ | refine blk_drew ?_ | refine blk_alloc ?_ _)); refine blk_far ?_ NB284_290.out _; (with_reducible repeat (first | refine blk_drewN ?_ _ | refine blk_drew ?_ | refine blk_alloc ?_ _)); exact BK284.out) hb); replace BK290 := Aside0.mk (blk_below (g := gb290) (o := .cells #[.int .i64 t285, .int .i64 t286, .int .i64 t287, .bool t288] 33 (0, 0)) (by (with_reducible repeat (first | refine blk_drewN ?_ _ | refine blk_drew ?_ | refine blk_alloc ?_ _)); refine blk_put (cs := #[.int .i64 t285, .int .i64 t286, .int .i64 t287, .bool false]) ?_ 3 _ rfl; (with_reducible repeat (first | refine blk_drewN ?_ _ | refine blk_drew ?_ | refine blk_alloc ?_ _)); refine blk_put (cs := #[.int .i64 t285, .int .i64 t286, .int .i64 0, .bool false]) ?_ 2 _ rfl; (with_reducible repeat (first | refine blk_drewN ?_ _ | refine blk_drew ?_ | refine blk_alloc ?_ _)); refine blk_put (cs := #[.int .i64 t285, .int .i64 0, .int .i64 0, .bool false]) ?_ 1 _ rfl; (with_reducible repeat (first | refine blk_drewN ?_ _ | refine blk_drew ?_ | refine blk_alloc ?_ _)); refine blk_put (cs := #[.int .i64 0, .int .i64 0, .int .i64 0, .bool false]) ?_ 0 _ rfl; (with_reducible repeat (first | refine blk_drewN ?_ _ | refine blk_drew ?_ | refine blk_alloc ?_ _)); exact BK290.out) hb); replace HB := Aside0.mk (below_step (by repeat (first | (with_reducible first | exact HB.out | apply below_alloc | apply pw_below_drewN | apply below_drew1 | refine below_set ?_ GE284.out | refine below_set ?_ GE290.out) | exact HB.out)) hb); (try clear hb)))
  go_ret
  first | (exact ⟨by first | rfl | (simp [errW_none, errW_some] <;> rfl) | (simp [*, errW_none, errW_some] <;> rfl), by repeat (first | (with_reducible first | exact HB.out | apply below_alloc | apply pw_below_drewN | apply below_drew1 | refine below_set ?_ GE284.out | refine below_set ?_ GE290.out) | exact HB.out)⟩) | (exact ax2)) : P := h
set_option maxHeartbeats 8000000 in
set_option maxRecDepth 100000 in
theorem laws_FnExactParseDate.calls (k : Nat) (a0 : ByteArray) (r : Bool) (w : World) {gF3 : Bool} (hG : GL true true gF3 w) (h : laws_FnExactParseDate.f k a0 = some r) :
  Calls Tryd.prog 4 #[.string a0] w fun e w' => e = .returned (.bool r) ∧ Below w.heap.size w w' := by
 have HG := Aside0.mk hG
 clear hG
 have hu33 := Tryd.underlying33
 have HB := Aside0.mk (Below.refl w.heap.size w)
 have H : (if (a0.size : Int) > 1048576 then (some true) else ((spec_ParseDate.f k a0).bind fun bt279 => ((impl_ParseDate.f k a0).bind fun bt285 => ((laws_eqDate.f bt285.1 bt285.2.1 bt285.2.2.1 bt285.2.2.2.1 bt279.1 bt279.2.1 bt279.2.2.1 bt279.2.2.2.1).bind fun t291 => (if t291 = true then (if (bt285.2.2.2.2 != bt279.2.2.2.2) = true then (some false) else (some true)) else (some false)))))) = some r := h
 clear h
 by_cases c2 : (a0.size : Int) > 1048576
 ·
  rw [if_pos c2] at H
  have c2b0 : decide (1048576 < (a0.size : Int)) = true := decide_eq_true c2
  have c2b1 : decide (1048576 < a0.size) = true := decide_eq_true (by omega)
  clear c2
  obtain rfl := Option.some.inj H
  exact laws_FnExactParseDate.L0
 ·
  rw [if_neg c2] at H
  have c2b0 : decide (1048576 < (a0.size : Int)) = false := decide_eq_false c2
  have c2b1 : decide (1048576 < a0.size) = false := decide_eq_false (by omega)
  clear c2
  replace H := Option.bind_eq_some_iff.mp H
  obtain ⟨⟨t279, t280, t281, t282, t283⟩, A30, H⟩ := H
  replace H : ((impl_ParseDate.f k a0).bind fun bt285 => ((laws_eqDate.f bt285.1 bt285.2.1 bt285.2.2.1 bt285.2.2.2.1 t279 t280 t281 t282).bind fun t291 => (if t291 = true then (if (bt285.2.2.2.2 != t283) = true then (some false) else (some true)) else (some false)))) = some r := H
  have A3 := Aside0.mk A30
  clear A30
  replace H := Option.bind_eq_some_iff.mp H
  obtain ⟨⟨t285, t286, t287, t288, t289⟩, A40, H⟩ := H
  replace H : ((laws_eqDate.f t285 t286 t287 t288 t279 t280 t281 t282).bind fun t291 => (if t291 = true then (if (t289 != t283) = true then (some false) else (some true)) else (some false))) = some r := H
  have A4 := Aside0.mk A40
  clear A40
  replace H := Option.bind_eq_some_iff.mp H
  obtain ⟨t291, A50, H⟩ := H
  try dsimp only at H
  have A5 := Aside0.mk A50
  clear A50
  by_cases c6 : t291 = true
  ·
   subst c6
   replace H := (if_pos rfl).symm.trans H
   by_cases c7 : (t289 != t283) = true
   ·
    rw [if_pos c7] at H
    have c7b0 : (t289 != t283) = true := c7
    (try (have c7b1 : decide (t289 = t283) = false := by simpa using c7))
    (try (have c7b2 : (t289 == t283) = false := by simpa using c7))
    (try (have c7b3 : ¬ (t289 = t283) := by simpa using c7))
    clear c7
    obtain rfl := Option.some.inj H
    exact laws_FnExactParseDate.L0
   ·
    rw [if_neg c7] at H
    have c7b0 : (t289 != t283) = false := by simpa using c7
    (try (have c7b1 : decide (t289 = t283) = true := by simpa using c7))
    (try (have c7b2 : (t289 == t283) = true := by simpa using c7))
    clear c7
    obtain rfl := Option.some.inj H
    exact laws_FnExactParseDate.L0
  ·
   replace c6 := Bool.eq_false_iff.mpr c6
   subst c6
   replace H := (if_neg (show ¬ (false = true) by decide)).symm.trans H
   obtain rfl := Option.some.inj H
   exact laws_FnExactParseDate.L0



end Go.Proofs.YtmjmjfkjlblgaaaDoor.G

namespace Go.Proofs.YtmjmjfkjlblgaaaDoor.Opn
open Go.RowKit Go.Proofs.YtmjmjfkjlblgaaaDoorW.PrintWords
set_option linter.unusedVariables false
set_option linter.unusedSimpArgs false
variable {H : Type} {enc : TypeId × Value → H} {P : Program} {w : World} {base : Nat} {spare : Nat → Bool} {held : Bool}
def okStr (s : ByteArray) : Prop := s.size ≤ 9223372036854775807
end Go.Proofs.YtmjmjfkjlblgaaaDoor.Opn

namespace Go.Proofs.YtmjmjfkjlblgaaaDoor.G
open Go.Proofs.YtmjmjfkjlblgaaaDoor.Opn
open Go.RowKit Go.Proofs.YtmjmjfkjlblgaaaDoorW.PrintWords Go.Proofs.YtmjmjfkjlblgaaaDoorW.PrintLast Go.Proofs.YtmjmjfkjlblgaaaDoorW.PrintMore
open Go.Proofs.YtmjmjfkjlblgaaaDoor.Gl Go.Proofs.YtmjmjfkjlblgaaaDoor.Ext
attribute [local go_sem] max2_int min2_int max_two min_two max_three min_three max_four min_four   -- for this text's walks alone
set_option linter.unusedVariables false
set_option linter.unusedSimpArgs false


def laws_FnExactParseDate.Pur : Prop := ∀ (a0 : ByteArray), okStr a0 → ∃ k, laws_FnExactParseDate.f k a0 = some true
theorem laws_FnExactParseDate.wlk (P : laws_FnExactParseDate.Pur) (a0 : ByteArray) (w : World)  {gF3 : Bool} (hG : GL true true gF3 w) (ba0 : okStr a0) :
    Calls Tryd.prog 4 #[.string a0] w fun e w' => e = .returned (.bool true) ∧ Below w.heap.size w w' := by
  obtain ⟨k, h⟩ := P a0 ba0
  refine (laws_FnExactParseDate.calls k a0 true w hG  h).mono ?_
  rintro e w' ⟨rfl, hd⟩
  exact ⟨rfl, hd⟩

end Go.Proofs.YtmjmjfkjlblgaaaDoor.G

namespace Go.Proofs.YtmjmjfkjlblgaaaDoor.B
open Go.RowKit Go.Proofs.YtmjmjfkjlblgaaaDoorW.PrintWords Go.Proofs.YtmjmjfkjlblgaaaDoorW.PrintLast
set_option linter.unusedVariables false
set_option linter.unusedSimpArgs false
def ahd (seg : List UInt8) : List (List UInt8) → List (List UInt8)
  | [] => [seg]
  | h :: t => (seg ++ h) :: t
def spl (b : UInt8) : List UInt8 → List (List UInt8)
  | [] => [[]]
  | c :: cs => if c = b then [] :: spl b cs else ahd [c] (spl b cs)
theorem spl_nil (b : UInt8) : spl b [] = [[]] := rfl
theorem spl_cons (b c : UInt8) (cs : List UInt8) : spl b (c :: cs) = if c = b then [] :: spl b cs else ahd [c] (spl b cs) := rfl
theorem spl_ne (b : UInt8) (l : List UInt8) : spl b l ≠ [] := by
  cases l with
  | nil => simp [spl]
  | cons c cs => unfold spl; split <;> simp; unfold ahd; split <;> simp
theorem ahd_nil (p : List (List UInt8)) (h : p ≠ []) : ahd [] p = p := by cases p <;> simp_all [ahd]
theorem ahd_ahd (a b : List UInt8) (p : List (List UInt8)) : ahd a (ahd b p) = ahd (a ++ b) p := by cases p <;> simp [ahd]
theorem spl_length (b : UInt8) (l : List UInt8) : (spl b l).length ≤ l.length + 1 := by
  induction l with
  | nil => simp [spl]
  | cons c cs ih =>
    unfold spl
    split
    · simp; omega
    · cases h : spl b cs with
      | nil => exact absurd h (spl_ne b cs)
      | cons p q => rw [h] at ih; simp [ahd] at ih ⊢; omega
theorem spl_step (b : UInt8) (l : List UInt8) (from_ i : Nat) (hi : i < l.length) (hf : from_ ≤ i) :
    ahd ((l.drop from_).take (i - from_)) (spl b (l.drop i)) =
      if l[i] = b then ((l.drop from_).take (i - from_)) :: spl b (l.drop (i + 1)) else ahd ((l.drop from_).take (i + 1 - from_)) (spl b (l.drop (i + 1))) := by
  rw [List.drop_eq_getElem_cons hi, spl_cons]
  by_cases h : l[i] = b
  · rw [if_pos h, if_pos h]
    simp [ahd]
  · rw [if_neg h, if_neg h]
    have e : (l.drop from_).take (i + 1 - from_) = (l.drop from_).take (i - from_) ++ [l[i]] := by
      rw [show i + 1 - from_ = (i - from_) + 1 by omega, List.take_succ_eq_append_getElem (by rw [List.length_drop]; omega)]
      congr 2
      rw [List.getElem_drop]
      congr 1
      omega
    rw [e]
    exact ahd_ahd _ _ _
theorem spl_none (c : UInt8) : ∀ l : List UInt8, (∀ k : Nat, l[k]? ≠ some c) → spl c l = [l]
  | [], _ => rfl
  | a :: l, h => by
    have h0 : a ≠ c := fun e => h 0 (by simp [e])
    rw [spl_cons, if_neg h0, spl_none c l (fun k => by simpa using h (k + 1))]; rfl
theorem spl_first (c : UInt8) : ∀ (i : Nat) (l : List UInt8), l[i]? = some c → (∀ k : Nat, k < i → l[k]? ≠ some c) → spl c l = l.take i :: spl c (l.drop (i + 1))
  | 0, [], h, _ => by simp at h
  | 0, a :: l, h, _ => by
    have h0 : a = c := by simpa using h
    rw [spl_cons, if_pos h0]; rfl
  | i + 1, [], h, _ => by simp at h
  | i + 1, a :: l, h, hk => by
    have h0 : a ≠ c := fun e => hk 0 (by omega) (by simp [e])
    rw [spl_cons, if_neg h0, spl_first c i l (by simpa using h) (fun k hk' => by simpa using hk (k + 1) (by omega))]
    rfl
theorem indexB_one (s : ByteArray) (c : UInt8) : Lib.indexB s (mkB [c]) = Lib.indexByte (L s) c := by
  unfold Lib.indexB
  have : (mkB [c]).data.toList = [c] := L_mk [c]
  rw [this]
  exact Lib.index_one _ _
theorem splitB_spl (c : UInt8) (n : Nat) : ∀ s : ByteArray, s.size ≤ n → (Lib.splitB (mkB [c]) 0 (Lib.countB s (mkB [c])) s).map L = spl c (L s) := by
  have h1 : (mkB [c]).size = 1 := by rw [size_mk]; rfl
  induction n with
  | zero =>
    intro s hs
    rcases Lib.indexB_cases s (mkB [c]) with hm | ⟨i, hi, hr⟩
    · rw [Lib.splitB_miss _ _ _ _ hm]
      have := Lib.indexByte_none (by rw [← indexB_one]; exact hm : Lib.indexByte (L s) c = -1)
      rw [spl_none c (L s) this]; rfl
    · omega
  | succ n ih =>
    intro s hs
    rcases Lib.indexB_cases s (mkB [c]) with hm | ⟨i, hi, hr⟩
    · rw [Lib.splitB_miss _ _ _ _ hm]
      have := Lib.indexByte_none (by rw [← indexB_one]; exact hm : Lib.indexByte (L s) c = -1)
      rw [spl_none c (L s) this]; rfl
    · rw [h1] at hr
      have hc := Lib.countB_hit s (mkB [c]) i (by omega) hi
      rw [h1] at hc
      rw [hc, Nat.add_comm 1, Lib.splitB_hit _ _ _ _ i hi, h1, List.map_cons, ih (s.extract (i + 1) s.size) (by rw [ByteArray.size_extract]; omega)]
      obtain ⟨a, b⟩ := Lib.indexByte_some (by rw [← indexB_one]; exact hi : Lib.indexByte (L s) c = i)
      rw [spl_first c i (L s) a b, L_extract, L_extract]
      congr 1
      congr 1
      rw [List.take_of_length_le (by rw [List.length_drop, L_len]; omega)]
theorem splitB_eq (c : UInt8) (s : ByteArray) : Lib.splitB (mkB [c]) 0 (Lib.countB s (mkB [c])) s = (spl c (L s)).map mkB := by
  rw [← splitB_spl c s.size s (Nat.le_refl _), List.map_map]
  have : (mkB ∘ L) = id := by funext x; exact mk_L x
  rw [this, List.map_id]
end Go.Proofs.YtmjmjfkjlblgaaaDoor.B

namespace Go.Proofs.YtmjmjfkjlblgaaaDoor.G
open Go.RowKit Go.Proofs.YtmjmjfkjlblgaaaDoorW.PrintWords Go.Proofs.YtmjmjfkjlblgaaaDoorW.PrintLast Go.Proofs.YtmjmjfkjlblgaaaDoor.B
set_option linter.unusedVariables false
set_option linter.unusedSimpArgs false
def tenB : ByteArray := (⟨#[48, 49, 50, 51, 52, 53, 54, 55, 56, 57]⟩ : ByteArray)
theorem ten_fin : ∀ i : Fin 10, ((L tenB).drop i.val).take 1 = [UInt8.ofNat (48 + i.val)] := by decide
theorem ten_at (i : Nat) (h : i < 10) (x : Int) (hx : x = i) (y : Int) (hy : y = (i + 1 : Nat)) : tenB.extract x.toNat y.toNat = mkB [UInt8.ofNat (48 + i)] := by
  apply L_inj
  have e1 : x.toNat = i := by omega
  have e2 : y.toNat = i + 1 := by omega
  rw [L_extract, L_mk, e1, e2, show i + 1 - i = 1 by omega]
  exact ten_fin ⟨i, h⟩
theorem dec_len (u : Nat) (h : u ≤ 9223372036854775807) : (Lib.decDigits u).length ≤ 21 := by
  have := Lib.itoa_length_le (u : Int) (by omega) (by omega)
  unfold Lib.itoa at this
  rw [if_neg (by omega)] at this
  simpa using this
theorem num_nat (n : Nat) : ∀ u : Nat, u ≤ n → u ≤ 4611686018427387904 → Ev (fun k => spec_l1Num.f k (u : Int)) (mkB (Lib.decDigits u)) := by
  induction n with
  | zero =>
    intro u hu _
    have : u = 0 := by omega
    subst this
    refine Ev.step (f := fun _ => some (mkB (Lib.decDigits 0))) (fun k => ?_) (Ev.now _)
    have hd : Lib.decDigits 0 = [UInt8.ofNat (48 + 0)] := Lib.decDigits_one (by omega)
    simp only [spec_l1Num.f]
    rw [hd, if_neg (by omega), if_pos (by omega), if_pos (by omega), w64 (by omega) (by omega), if_pos (by omega), if_pos (by omega)]
    exact congrArg some (ten_at 0 (by omega) _ (by omega) _ (by omega))
  | succ n ih =>
    intro u hu hb
    by_cases h : u < 10
    · refine Ev.step (f := fun _ => some (mkB (Lib.decDigits u))) (fun k => ?_) (Ev.now _)
      simp only [spec_l1Num.f]
      rw [Lib.decDigits_one h, if_neg (by omega), if_pos (by omega), if_pos (by omega), w64 (by omega) (by omega), if_pos (by omega), if_pos (by omega)]
      exact congrArg some (ten_at u h _ rfl _ (by omega))
    · have hdiv : Int.tdiv (u : Int) 10 = ((u / 10 : Nat) : Int) := rfl
      have hmod : Int.tmod (u : Int) 10 = ((u % 10 : Nat) : Int) := rfl
      have hm : u % 10 < 10 := Nat.mod_lt _ (by omega)
      have hq := ih (u / 10) (by omega) (by omega)
      have hl := dec_len (u / 10) (by omega)
      have hw1 : wrap64 (((u / 10 : Nat) : Int)) = ((u / 10 : Nat) : Int) := w64 (by omega) (by omega)
      have hw2 : wrap64 (((u % 10 : Nat) : Int) + 1) = ((u % 10 + 1 : Nat) : Int) := by rw [w64 (by omega) (by omega)]; rfl
      have ht := ten_at (u % 10) hm ((u % 10 : Nat) : Int) rfl ((u % 10 + 1 : Nat) : Int) rfl
      have hd : Lib.decDigits u = Lib.decDigits (u / 10) ++ [UInt8.ofNat (48 + u % 10)] := by rw [Lib.decDigits, dif_neg h]
      have a1 : (0 : Int) ≤ ((u % 10 : Nat) : Int) := by omega
      have a2 : ((u % 10 : Nat) : Int) ≤ ((u % 10 + 1 : Nat) : Int) := by omega
      have a3 : ((u % 10 + 1 : Nat) : Int) ≤ 10 := by omega
      refine Ev.step (f := fun k => (spec_l1Num.f k ((u / 10 : Nat) : Int)).bind fun t => if t.size + (tenB.extract ((u % 10 : Nat) : Int).toNat ((u % 10 + 1 : Nat) : Int).toNat).size ≤ 9223372036854775807 then some (t ++ tenB.extract ((u % 10 : Nat) : Int).toNat ((u % 10 + 1 : Nat) : Int).toNat) else none) (fun k => ?_) ?_
      · simp only [spec_l1Num.f]
        rw [if_neg (show ¬ (u : Int) < 0 by omega), if_neg (show ¬ (u : Int) < 10 by omega)]
        simp only [hdiv, hmod, hw1, hw2, if_pos a1, if_pos a2, if_pos a3]
        rfl
      · rw [ht]
        refine Ev.bind hq (ev_pos ?_ (ev_eq (Ev.now _) ?_))
        · rw [size_mk, size_mk, List.length_singleton]; omega
        · rw [hd, mk_append]
theorem num_ev (x : Int) (h0 : -4611686018427387904 ≤ x) (h1 : x ≤ 4611686018427387904) : Ev (fun k => spec_l1Num.f k x) (mkB (Lib.itoa x)) := by
  unfold Lib.itoa
  by_cases h : x < 0
  · rw [if_pos h]
    have hq := num_nat x.natAbs x.natAbs (Nat.le_refl _) (by omega)
    have hl := dec_len x.natAbs (by omega)
    have hw : wrap64 (-x) = ((x.natAbs : Nat) : Int) := by rw [w64 (by omega) (by omega)]; omega
    refine Ev.step (f := fun k => (spec_l1Num.f k ((x.natAbs : Nat) : Int)).bind fun t => if 1 + t.size ≤ 9223372036854775807 then some ((⟨#[45]⟩ : ByteArray) ++ t) else none) (fun k => ?_) ?_
    · simp only [spec_l1Num.f]; rw [if_pos h, hw]
    · refine Ev.bind hq (ev_pos (by rw [size_mk]; omega) (ev_eq (Ev.now _) ?_))
      rw [show (⟨#[45]⟩ : ByteArray) = mkB [45] from rfl, mk_append]; rfl
  · rw [if_neg h]
    have hq := num_nat x.toNat x.toNat (Nat.le_refl _) (by omega)
    rw [show ((x.toNat : Nat) : Int) = x by omega] at hq
    exact hq
end Go.Proofs.YtmjmjfkjlblgaaaDoor.G



namespace Go.Proofs.YtmjmjfkjlblgaaaDoor.G
open Go.RowKit Go.Proofs.YtmjmjfkjlblgaaaDoorW.PrintWords Go.Proofs.YtmjmjfkjlblgaaaDoorW.PrintLast Go.Proofs.YtmjmjfkjlblgaaaDoor.B
set_option linter.unusedVariables false
set_option linter.unusedSimpArgs false
theorem pad_same (k : Nat) : ∀ (w : Int) (t : ByteArray), impl_digits.l0 k w t = spec_l3Pad.l0 k w t := by
  induction k with
  | zero => intro w t; rfl
  | succ k ih => intro w t; simp only [impl_digits.l0, spec_l3Pad.l0, ih]
theorem pad_loop (w : Nat) (hw : w ≤ 10) (d : Nat) : ∀ t : ByteArray, w - t.size = d → t.size ≤ 1000 → ∃ u, Ev (fun k => spec_l3Pad.l0 k (w : Int) t) u ∧ u.size ≤ max w t.size := by
  induction d with
  | zero =>
    intro t h ht
    refine ⟨t, Ev.step (f := fun _ => some t) (fun k => ?_) (Ev.now _), by omega⟩
    simp only [spec_l3Pad.l0]; rw [if_neg (by omega)]
  | succ d ih =>
    intro t h ht
    have hs : ((⟨#[48]⟩ : ByteArray) ++ t).size = 1 + t.size := by rw [size_append]; rfl
    obtain ⟨u, hu, hz⟩ := ih ((⟨#[48]⟩ : ByteArray) ++ t) (by omega) (by omega)
    refine ⟨u, Ev.step (fun k => ?_) hu, by omega⟩
    simp only [spec_l3Pad.l0]; rw [if_pos (by omega), if_pos (by omega)]
theorem pad_ev (n : Int) (w : Nat) (h0 : 0 ≤ n) (h1 : n ≤ 1000000) (hw : w ≤ 10) : ∃ u, Ev (fun k => spec_l3Pad.f k n (w : Int)) u ∧ Ev (fun k => impl_digits.f k n (w : Int)) u ∧ u.size ≤ 30 := by
  have hl := Lib.itoa_length_le n (by omega) (by omega)
  have hz : (mkB (Lib.itoa n)).size ≤ 21 := by rw [size_mk]; exact hl
  obtain ⟨u, hu, hs⟩ := pad_loop w hw _ (mkB (Lib.itoa n)) rfl (by omega)
  refine ⟨u, ?_, ?_, by omega⟩
  · unfold spec_l3Pad.f
    exact Ev.bind (num_ev n (by omega) (by omega)) hu
  · have hi : strconv_Itoa.f n = some (mkB (Lib.itoa n)) := by
      unfold strconv_Itoa.f
      rw [if_pos ⟨by omega, by omega⟩]; rfl
    unfold impl_digits.f
    exact ev_bind0 hi (Ev.congr (fun k => pad_same k _ _) hu)
theorem sz1 (b : UInt8) (t : ByteArray) : ((⟨#[b]⟩ : ByteArray) ++ t).size = 1 + t.size := by rw [size_append]; rfl
theorem sz2 (b : UInt8) (t : ByteArray) : (t ++ (⟨#[b]⟩ : ByteArray)).size = t.size + 1 := by rw [size_append]; rfl
theorem assoc3 (a b c : ByteArray) : (a ++ b) ++ c = a ++ (b ++ c) := L_inj (by rw [L_append, L_append, L_append, L_append, List.append_assoc])
theorem date_text (y m d : Int) (c : Bool) (hy : 1 ≤ y ∧ y ≤ 2999) (hm : 0 ≤ m ∧ m ≤ 12) (hd : 0 ≤ d ∧ d ≤ 31) : ∃ v, Ev (fun k => spec_l3Text.f k y m d c) v ∧ Ev (fun k => impl_formatDate.f k y m d c) v := by
  obtain ⟨Y, sY, iY, zY⟩ := pad_ev y 4 (by omega) (by omega) (by omega)
  obtain ⟨M, sM, iM, zM⟩ := pad_ev m 2 (by omega) (by omega) (by omega)
  obtain ⟨D, sD, iD, zD⟩ := pad_ev d 2 (by omega) (by omega) (by omega)
  have e2 := sz2 45 Y
  have e1 := sz1 45 M
  have e1' := sz1 45 D
  have ny : ¬ y = 0 := by omega
  -- the program: behind the year
  have impl_rest : ∀ x : ByteArray, x.size ≤ 60 → Ev (fun k => impl_formatDate.j0 k x y m d c) (if m > 0 then (if d > 0 then (x ++ ((⟨#[45]⟩ : ByteArray) ++ M)) ++ ((⟨#[45]⟩ : ByteArray) ++ D) else x ++ ((⟨#[45]⟩ : ByteArray) ++ M)) else (if d > 0 then x ++ ((⟨#[45]⟩ : ByteArray) ++ D) else x)) := by
    intro x hx
    have xm : (x ++ ((⟨#[45]⟩ : ByteArray) ++ M)).size = x.size + (1 + M.size) := by rw [size_append, e1]
    by_cases cm : m > 0
    · rw [if_pos cm]
      by_cases cd : d > 0
      · rw [if_pos cd]
        refine Ev.step (f := fun k => (impl_digits.f k m 2).bind fun t135 => (if 1 + t135.size ≤ 9223372036854775807 then (if x.size + ((⟨#[45]⟩ : ByteArray) ++ t135).size ≤ 9223372036854775807 then ((impl_digits.f k d 2).bind fun t136 => (if 1 + t136.size ≤ 9223372036854775807 then (if (x ++ ((⟨#[45]⟩ : ByteArray) ++ t135)).size + ((⟨#[45]⟩ : ByteArray) ++ t136).size ≤ 9223372036854775807 then (some ((x ++ ((⟨#[45]⟩ : ByteArray) ++ t135)) ++ ((⟨#[45]⟩ : ByteArray) ++ t136))) else (none)) else (none))) else (none)) else (none))) (fun k => by simp only [impl_formatDate.j0, if_pos cm, if_pos cd]) ?_
        exact Ev.bind iM (ev_pos (by omega) (ev_pos (by omega) (Ev.bind iD (ev_pos (by omega) (ev_pos (by omega) (Ev.now _))))))
      · rw [if_neg cd]
        refine Ev.step (f := fun k => (impl_digits.f k m 2).bind fun t135 => (if 1 + t135.size ≤ 9223372036854775807 then (if x.size + ((⟨#[45]⟩ : ByteArray) ++ t135).size ≤ 9223372036854775807 then (some (x ++ ((⟨#[45]⟩ : ByteArray) ++ t135))) else (none)) else (none))) (fun k => by simp only [impl_formatDate.j0, if_pos cm, if_neg cd]) ?_
        exact Ev.bind iM (ev_pos (by omega) (ev_pos (by omega) (Ev.now _)))
    · rw [if_neg cm]
      by_cases cd : d > 0
      · rw [if_pos cd]
        refine Ev.step (f := fun k => (impl_digits.f k d 2).bind fun t137 => (if 1 + t137.size ≤ 9223372036854775807 then (if x.size + ((⟨#[45]⟩ : ByteArray) ++ t137).size ≤ 9223372036854775807 then (some (x ++ ((⟨#[45]⟩ : ByteArray) ++ t137))) else (none)) else (none))) (fun k => by simp only [impl_formatDate.j0, if_neg cm, if_pos cd]) ?_
        exact Ev.bind iD (ev_pos (by omega) (ev_pos (by omega) (Ev.now _)))
      · rw [if_neg cd]
        exact Ev.step (f := fun _ => some x) (fun k => by simp only [impl_formatDate.j0, if_neg cm, if_neg cd]) (Ev.now _)
  -- the reference: behind the month
  have spec_rest : ∀ x : ByteArray, x.size ≤ 100 → Ev (fun k => spec_l3Text.j0 k x y m d c) (if d > 0 then (if c = true then (⟨#[99]⟩ : ByteArray) ++ ((x ++ (⟨#[45]⟩ : ByteArray)) ++ D) else (x ++ (⟨#[45]⟩ : ByteArray)) ++ D) else (if c = true then (⟨#[99]⟩ : ByteArray) ++ x else x)) := by
    intro x hx
    have x2 := sz2 45 x
    have x3 : ((x ++ (⟨#[45]⟩ : ByteArray)) ++ D).size = x.size + 1 + D.size := by rw [size_append, x2]
    by_cases cd : d > 0
    · rw [if_pos cd]
      by_cases cc : c = true
      · rw [if_pos cc]
        refine Ev.step (f := fun k => if x.size + 1 ≤ 9223372036854775807 then ((spec_l3Pad.f k d 2).bind fun t120 => (if (x ++ (⟨#[45]⟩ : ByteArray)).size + t120.size ≤ 9223372036854775807 then (if 1 + ((x ++ (⟨#[45]⟩ : ByteArray)) ++ t120).size ≤ 9223372036854775807 then (some ((⟨#[99]⟩ : ByteArray) ++ ((x ++ (⟨#[45]⟩ : ByteArray)) ++ t120))) else (none)) else (none))) else (none)) (fun k => by simp only [spec_l3Text.j0, if_pos cd, if_pos cc]) ?_
        exact ev_pos (by omega) (Ev.bind sD (ev_pos (by omega) (ev_pos (by omega) (Ev.now _))))
      · rw [if_neg cc]
        refine Ev.step (f := fun k => if x.size + 1 ≤ 9223372036854775807 then ((spec_l3Pad.f k d 2).bind fun t120 => (if (x ++ (⟨#[45]⟩ : ByteArray)).size + t120.size ≤ 9223372036854775807 then (some ((x ++ (⟨#[45]⟩ : ByteArray)) ++ t120)) else (none))) else (none)) (fun k => by simp only [spec_l3Text.j0, if_pos cd, if_neg cc]) ?_
        exact ev_pos (by omega) (Ev.bind sD (ev_pos (by omega) (Ev.now _)))
    · rw [if_neg cd]
      by_cases cc : c = true
      · rw [if_pos cc]
        refine Ev.step (f := fun k => if 1 + x.size ≤ 9223372036854775807 then (some ((⟨#[99]⟩ : ByteArray) ++ x)) else (none)) (fun k => by simp only [spec_l3Text.j0, if_neg cd, if_pos cc]) ?_
        exact ev_pos (by omega) (Ev.now _)
      · rw [if_neg cc]
        exact Ev.step (f := fun _ => some x) (fun k => by simp only [spec_l3Text.j0, if_neg cd, if_neg cc]) (Ev.now _)
  have ym : ((Y ++ (⟨#[45]⟩ : ByteArray)) ++ M).size = Y.size + 1 + M.size := by rw [size_append, e2]
  have hspec : Ev (fun k => spec_l3Text.f k y m d c) (if m > 0 then (if d > 0 then (if c = true then (⟨#[99]⟩ : ByteArray) ++ ((((Y ++ (⟨#[45]⟩ : ByteArray)) ++ M) ++ (⟨#[45]⟩ : ByteArray)) ++ D) else (((Y ++ (⟨#[45]⟩ : ByteArray)) ++ M) ++ (⟨#[45]⟩ : ByteArray)) ++ D) else (if c = true then (⟨#[99]⟩ : ByteArray) ++ ((Y ++ (⟨#[45]⟩ : ByteArray)) ++ M) else (Y ++ (⟨#[45]⟩ : ByteArray)) ++ M))
      else (if d > 0 then (if c = true then (⟨#[99]⟩ : ByteArray) ++ ((Y ++ (⟨#[45]⟩ : ByteArray)) ++ D) else (Y ++ (⟨#[45]⟩ : ByteArray)) ++ D) else (if c = true then (⟨#[99]⟩ : ByteArray) ++ Y else Y))) := by
    unfold spec_l3Text.f
    refine ev_neg ny (Ev.bind sY ?_)
    by_cases cm : m > 0
    · rw [if_pos cm]
      exact ev_pos cm (ev_pos (by omega) (Ev.bind sM (ev_pos (by omega) (spec_rest _ (by omega)))))
    · rw [if_neg cm]
      exact ev_neg cm (spec_rest _ (by omega))
  have himpl : Ev (fun k => impl_formatDate.f k y m d c) (if c = true then (if m > 0 then (if d > 0 then (((⟨#[99]⟩ : ByteArray) ++ Y) ++ ((⟨#[45]⟩ : ByteArray) ++ M)) ++ ((⟨#[45]⟩ : ByteArray) ++ D) else ((⟨#[99]⟩ : ByteArray) ++ Y) ++ ((⟨#[45]⟩ : ByteArray) ++ M)) else (if d > 0 then ((⟨#[99]⟩ : ByteArray) ++ Y) ++ ((⟨#[45]⟩ : ByteArray) ++ D) else (⟨#[99]⟩ : ByteArray) ++ Y))
      else (if m > 0 then (if d > 0 then (Y ++ ((⟨#[45]⟩ : ByteArray) ++ M)) ++ ((⟨#[45]⟩ : ByteArray) ++ D) else Y ++ ((⟨#[45]⟩ : ByteArray) ++ M)) else (if d > 0 then Y ++ ((⟨#[45]⟩ : ByteArray) ++ D) else Y))) := by
    unfold impl_formatDate.f
    refine ev_neg ny (Ev.bind iY ?_)
    by_cases cc : c = true
    · rw [if_pos cc]
      have := sz1 99 Y
      exact ev_pos cc (ev_pos (by omega) (impl_rest _ (by omega)))
    · rw [if_neg cc]
      exact ev_neg cc (impl_rest _ (by omega))
  refine ⟨_, hspec, ev_eq himpl ?_⟩
  · by_cases cm : m > 0 <;> by_cases cd : d > 0 <;> cases c <;> simp [cm, cd] <;> simp only [assoc3]
end Go.Proofs.YtmjmjfkjlblgaaaDoor.G

namespace Go.Proofs.YtmjmjfkjlblgaaaDoor.G
open Go.RowKit Go.Proofs.YtmjmjfkjlblgaaaDoorW.PrintWords Go.Proofs.YtmjmjfkjlblgaaaDoorW.PrintLast Go.Proofs.YtmjmjfkjlblgaaaDoorW.PrintMore
open Go.Proofs.YtmjmjfkjlblgaaaDoor.Gl Go.Proofs.YtmjmjfkjlblgaaaDoor.Ext
attribute [local go_sem] max2_int min2_int max_two min_two max_three min_three max_four min_four   -- for this text's walks alone
set_option linter.unusedVariables false
set_option linter.unusedSimpArgs false

/-! ### spec_l1Read: function 39 -/
mutual
def spec_l1Read.j0 : Nat → ByteArray → ByteArray → Bool → Option (Int × Bool)
 | 0, _, _, _ => none
 | k + 1, x0, x4, x15 => if x15 = true then (if 1 ≤ (x4.size : Int) then (spec_l1Read.j1 k x0 (x4.extract 1 x4.size)) else (none)) else (spec_l1Read.j1 k x0 x4)
def spec_l1Read.j1 : Nat → ByteArray → ByteArray → Option (Int × Bool)
 | 0, _, _ => none
 | k + 1, x0, x4 => (spec_l1In.f (x4.size : Int) 1 6).bind fun t149 => (if t149 = true then (spec_l1Read.l0 k x0 x4 0 0) else (some (0, false)))
def spec_l1Read.l0 : Nat → ByteArray → ByteArray → Int → Int → Option (Int × Bool)
 | 0, _, _, _, _ => none
 | k + 1, x0, x4, x5, x6 => if x6 < (x4.size : Int) then (if 0 ≤ x6 then (if (bt x4 x6) < 48 then (some (0, false)) else (if (bt x4 x6) > 57 then (some (0, false)) else (spec_l1Read.l0 k x0 x4 (wrap64 ((wrap64 (10 * x5)) + (((bt x4 x6) - 48) % 256))) (wrap64 (x6 + 1))))) else (none)) else (if (x4.size : Int) < (x0.size : Int) then ((spec_l1Num.f k (wrap64 (-x5))).bind fun t150 => (if t150.toList = x0.toList then (some (wrap64 (-x5), true)) else (some (0, false)))) else ((spec_l1Num.f k x5).bind fun t151 => (if t151.toList = x0.toList then (some (x5, true)) else (some (0, false)))))
end
def spec_l1Read.f (k : Nat) (a0 : ByteArray) : Option (Int × Bool) := if (a0.size : Int) > 1 then (if 0 < (a0.size : Int) then (spec_l1Read.j0 k a0 a0 ((bt a0 0) == 45)) else (none)) else (spec_l1Read.j0 k a0 a0 false)
theorem spec_l1Read.mono_l : ∀ k, (∀ y0 y1 y2, LeO (spec_l1Read.j0 k y0 y1 y2) (spec_l1Read.j0 (k + 1) y0 y1 y2)) ∧ (∀ y0 y1, LeO (spec_l1Read.j1 k y0 y1) (spec_l1Read.j1 (k + 1) y0 y1)) ∧ (∀ y0 y1 y2 y3, LeO (spec_l1Read.l0 k y0 y1 y2 y3) (spec_l1Read.l0 (k + 1) y0 y1 y2 y3))
 | 0 => ⟨fun _ _ _ r h => by simp [spec_l1Read.j0] at h, fun _ _ r h => by simp [spec_l1Read.j1] at h, fun _ _ _ _ r h => by simp [spec_l1Read.l0] at h⟩
 | k + 1 => by
  obtain ⟨ih0, ih1, ih2⟩ := spec_l1Read.mono_l k
  refine ⟨?_, ?_, ?_⟩
  ·
   intro y0 y1 y2
   unfold spec_l1Read.j0
   repeat' first
   | (with_reducible exact ih0 _ _ _)
   | (with_reducible exact ih1 _ _)
   | (with_reducible exact ih2 _ _ _ _)
   | (with_reducible exact spec_l1Num.mono _ _)
   | (with_reducible exact LeO.refl _)
   | (with_reducible exact LeO.none _)
   | (with_reducible refine LeO.ite ?_ ?_)
   | (with_reducible refine LeO.bind ?_ (fun _ => ?_))
   | exact ih0 _ _ _
   | exact ih1 _ _
   | exact ih2 _ _ _ _
   | exact spec_l1Num.mono _ _
   | exact LeO.none _
   | refine LeO.ite ?_ ?_
   | refine LeO.bind ?_ (fun _ => ?_)
  ·
   intro y0 y1
   unfold spec_l1Read.j1
   repeat' first
   | (with_reducible exact ih0 _ _ _)
   | (with_reducible exact ih1 _ _)
   | (with_reducible exact ih2 _ _ _ _)
   | (with_reducible exact spec_l1Num.mono _ _)
   | (with_reducible exact LeO.refl _)
   | (with_reducible exact LeO.none _)
   | (with_reducible refine LeO.ite ?_ ?_)
   | (with_reducible refine LeO.bind ?_ (fun _ => ?_))
   | exact ih0 _ _ _
   | exact ih1 _ _
   | exact ih2 _ _ _ _
   | exact spec_l1Num.mono _ _
   | exact LeO.none _
   | refine LeO.ite ?_ ?_
   | refine LeO.bind ?_ (fun _ => ?_)
  ·
   intro y0 y1 y2 y3
   unfold spec_l1Read.l0
   repeat' first
   | (with_reducible exact ih0 _ _ _)
   | (with_reducible exact ih1 _ _)
   | (with_reducible exact ih2 _ _ _ _)
   | (with_reducible exact spec_l1Num.mono _ _)
   | (with_reducible exact LeO.refl _)
   | (with_reducible exact LeO.none _)
   | (with_reducible refine LeO.ite ?_ ?_)
   | (with_reducible refine LeO.bind ?_ (fun _ => ?_))
   | exact ih0 _ _ _
   | exact ih1 _ _
   | exact ih2 _ _ _ _
   | exact spec_l1Num.mono _ _
   | exact LeO.none _
   | refine LeO.ite ?_ ?_
   | refine LeO.bind ?_ (fun _ => ?_)
theorem spec_l1Read.mono : ∀ a0 k, LeO (spec_l1Read.f k a0) (spec_l1Read.f (k + 1) a0) := by
 intro a0 k
 obtain ⟨ih0, ih1, ih2⟩ := spec_l1Read.mono_l k
 unfold spec_l1Read.f
 repeat' first
   | (with_reducible exact ih0 _ _ _)
   | (with_reducible exact ih1 _ _)
   | (with_reducible exact ih2 _ _ _ _)
   | (with_reducible exact spec_l1Num.mono _ _)
   | (with_reducible exact LeO.refl _)
   | (with_reducible exact LeO.none _)
   | (with_reducible refine LeO.ite ?_ ?_)
   | (with_reducible refine LeO.bind ?_ (fun _ => ?_))
   | exact ih0 _ _ _
   | exact ih1 _ _
   | exact ih2 _ _ _ _
   | exact spec_l1Num.mono _ _
   | exact LeO.none _
   | refine LeO.ite ?_ ?_
   | refine LeO.bind ?_ (fun _ => ?_)
set_option maxRecDepth 100000 in
theorem spec_l1Read.L0 {P : Prop} (h : P := by
  go_wp2_with (first | ((with_reducible refine gate_callee (f := 35) rfl ?_); refine goesL_ (some 54) rfl rfl Tryd.func35 (by kernel_rfl) rfl #[.int .i64 (wrap64 (-x5_3))] rfl au15 ?_; (with_reducible refine (spec_l1Num.calls k3 (wrap64 (-x5_3)) t150 _ A19.out).mono ?_); rintro e w21 ⟨rfl, hb⟩; refine ⟨_, rfl, ?_⟩; replace HB := Aside0.mk (below_step au16 hb); (try clear hb)))
  go_ret2
  exact ax2) : P := h
set_option maxHeartbeats 8000000 in
set_option maxRecDepth 100000 in
theorem spec_l1Read.calls (k : Nat) (a0 : ByteArray) (r1 : Int) (r2 : Bool) (w : World) (h : spec_l1Read.f k a0 = some (r1, r2)) :
  Calls Tryd.prog 39 #[.string a0] w fun e w' => e = .returned (.tuple #[.int .i64 r1, .bool r2]) ∧ Below w.heap.size w w' := by
 have HB := Aside0.mk (Below.refl w.heap.size w)
 have H : (if (a0.size : Int) > 1 then (if 0 < (a0.size : Int) then (spec_l1Read.j0 k a0 a0 ((bt a0 0) == 45)) else (none)) else (spec_l1Read.j0 k a0 a0 false)) = some (r1, r2) := h
 clear h
 have HC2 := Aside0.mk H
 clear H
 go_enter Tryd.func39, Tryd.ntmps39
 go_upto_region 2 with (fail)
 go_cut [15] (fun v15 wc => ∃ (kq : Nat) (x15_1 : Bool), v15 = .bool x15_1 ∧ Aside0 (spec_l1Read.j0 kq a0 a0 x15_1 = some (r1, r2)) ∧ Aside0 (kq ≤ k) ∧ Aside0 (Below w.heap.size w wc))
 case first =>
  have H := HC2.out
  clear HC2
  by_cases c3 : (a0.size : Int) > 1
  ·
   rw [if_pos c3] at H
   have c3b0 : decide (1 < (a0.size : Int)) = true := decide_eq_true c3
   have c3b1 : decide (1 < a0.size) = true := decide_eq_true (by omega)
   clear c3
   (first | rw [c3b0] | (simp only [i64_w, i32_w]; rw [c3b0]) | skip)
   by_cases c4 : 0 < (a0.size : Int)
   ·
    rw [if_pos c4] at H
    have c4b0 : decide (0 < (a0.size : Int)) = true := decide_eq_true c4
    have c4b1 : decide (0 < a0.size) = true := decide_eq_true (by omega)
    clear c4
    have H' := Aside0.mk H
    clear H
    have p5 : 0 ≤ (0 : Int) := (by omega)
    have q5 : 0 < a0.size := (by have : (0 : Int) < (a0.size : Int) := of_decide_eq_true au33; omega)
    have hx5 : ∀ h : 0 < a0.size, ((a0[0]'h).toNat : Int) = bt a0 0 := bt_at a0 0
    clear p5
    have qi5 : (0 < (a0.size : Int)) = True := eq_true (of_decide_eq_true au33)
    replace q5 := eq_true q5
    go_wp2
    go_meet
    case rel => exact ⟨_, (((bt a0 0) == 45)), au34, H', ⟨by first | omega | exact Nat.le_refl _⟩, ⟨by repeat (first | (with_reducible first | exact HB.out | apply below_alloc | apply pw_below_drewN | apply below_drew1) | exact HB.out)⟩⟩
   ·
    rw [if_neg c4] at H
    exact absurd H (by simp)
  ·
   rw [if_neg c3] at H
   have c3b0 : decide (1 < (a0.size : Int)) = false := decide_eq_false c3
   have c3b1 : decide (1 < a0.size) = false := decide_eq_false (by omega)
   clear c3
   (first | rw [c3b0] | (simp only [i64_w, i32_w]; rw [c3b0]) | skip)
   have H' := Aside0.mk H
   clear H
   go_wp2
   go_meet
   case rel => exact ⟨_, (false), au34, H', ⟨by first | omega | exact Nat.le_refl _⟩, ⟨by repeat (first | (with_reducible first | exact HB.out | apply below_alloc | apply pw_below_drewN | apply below_drew1) | exact HB.out)⟩⟩
 case rest =>
  clear HC2
  try clear p2
  try clear c3
  try clear c3b0
  try clear c3b1
  try clear c4
  try clear c4b0
  try clear c4b1
  try clear p5
  try clear q5
  try clear hx5
  try clear qi5
  try clear p5
  try clear q5
  obtain ⟨kq, x15_1, rfl, HA, HJ1, HB⟩ := hcut
  cases kq with
  | zero => exact absurd HA.out (by simp [spec_l1Read.j0])
  | succ kj1 =>
   have H := HA.out
   clear HA
   simp only [spec_l1Read.j0] at H
   have HC6 := Aside0.mk H
   clear H
   go_upto_if 15 with (fail)
   go_cut [4] (fun v4 wc => ∃ (kq : Nat) (x4_5 : ByteArray), v4 = .string x4_5 ∧ Aside0 (spec_l1Read.j1 kq a0 x4_5 = some (r1, r2)) ∧ Aside0 (kq ≤ kj1) ∧ Aside0 (Below w.heap.size w wc))
   case first =>
    have H := HC6.out
    clear HC6
    by_cases c7 : x15_1 = true
    ·
     subst c7
     replace H := (if_pos rfl).symm.trans H
     by_cases c8 : 1 ≤ (a0.size : Int)
     ·
      rw [if_pos c8] at H
      have c8b0 := eq_true c8
      have c8b1 : decide (1 ≤ (a0.size : Int)) = true := decide_eq_true c8
      clear c8
      have H' := Aside0.mk H
      clear H
      go_wp2
      go_meet
      case rel => exact ⟨_, (a0.extract 1 a0.size), au34, H', ⟨by have := HJ1.out; first | omega | exact Nat.le_refl _⟩, ⟨by repeat (first | (with_reducible first | exact HB.out | apply below_alloc | apply pw_below_drewN | apply below_drew1) | exact HB.out)⟩⟩
     ·
      rw [if_neg c8] at H
      exact absurd H (by simp)
    ·
     replace c7 := Bool.eq_false_iff.mpr c7
     subst c7
     replace H := (if_neg (show ¬ (false = true) by decide)).symm.trans H
     have H' := Aside0.mk H
     clear H
     go_wp2
     go_meet
     case rel => exact ⟨_, (a0), au34, H', ⟨by have := HJ1.out; first | omega | exact Nat.le_refl _⟩, ⟨by repeat (first | (with_reducible first | exact HB.out | apply below_alloc | apply pw_below_drewN | apply below_drew1) | exact HB.out)⟩⟩
   case rest =>
    clear HC6
    try clear p2
    try clear c3
    try clear c3b0
    try clear c3b1
    try clear c4
    try clear c4b0
    try clear c4b1
    try clear p5
    try clear q5
    try clear hx5
    try clear qi5
    try clear c7
    try clear c8
    try clear c8b0
    try clear c8b1
    try clear p2
    try clear p5
    try clear q5
    obtain ⟨kq, x4_5, rfl, HA, HJ5, HB⟩ := hcut
    cases kq with
    | zero => exact absurd HA.out (by simp [spec_l1Read.j1])
    | succ kj5 =>
     have H := HA.out
     clear HA
     simp only [spec_l1Read.j1] at H
     replace H := Option.bind_eq_some_iff.mp H
     obtain ⟨t149, A90, H⟩ := H
     try dsimp only at H
     have A9 := Aside0.mk A90
     clear A90
     by_cases c10 : t149 = true
     ·
      subst c10
      replace H := (if_pos rfl).symm.trans H
      have H' := Aside0.mk H
      clear H
      go_wp2_with (first | ((with_reducible refine gate_callee (f := 34) rfl ?_); refine goesL_ (some 20) rfl rfl Tryd.func34 (by kernel_rfl) rfl #[.int .i64 (x4_5.size : Int), .int .i64 1, .int .i64 6] rfl au15 ?_; (with_reducible refine (spec_l1In.calls (x4_5.size : Int) 1 6 _ _ A9.out).mono ?_); rintro e w' ⟨rfl, ⟨nd, rfl⟩⟩; refine ⟨_, rfl, ?_⟩))
      go_loopg [5, 6] kj5 (fun kq v5 v6 w' => ∃ (x5_3 : Int) (x6_3 : Int), v5 = .int .i64 x5_3 ∧ v6 = .int .i64 x6_3 ∧ Aside0 (spec_l1Read.l0 kq a0 x4_5 x5_3 x6_3 = some (r1, r2)) ∧ Aside0 (kq ≤ kj5) ∧ Aside0 (Below w.heap.size w w'))
      case atStart => exact ⟨(0), (0), au34, au34, H', ⟨Nat.le_refl _⟩, ⟨by repeat (first | (with_reducible first | exact HB.out | apply below_alloc | apply pw_below_drewN | apply below_drew1) | exact HB.out)⟩⟩
      case round =>
       clear H'
       try clear c1
       try clear p2
       try clear c3
       try clear c3b0
       try clear c3b1
       try clear c4
       try clear c4b0
       try clear c4b1
       try clear p5
       try clear q5
       try clear hx5
       try clear qi5
       try clear c7
       try clear c8
       try clear c8b0
       try clear c8b1
       try clear c10
       try clear p2
       try clear p5
       try clear q5
       obtain ⟨x5_3, x6_3, rfl, rfl, HA, HK3, HB⟩ := hrel
       cases gk with
       | zero => exact absurd HA.out (by simp [spec_l1Read.l0])
       | succ k3 =>
        have H := HA.out
        clear HA
        simp only [spec_l1Read.l0] at H
        by_cases c11 : x6_3 < (x4_5.size : Int)
        ·
         rw [if_pos c11] at H
         have c11b0 : decide (x6_3 < (x4_5.size : Int)) = true := decide_eq_true c11
         clear c11
         by_cases c12 : 0 ≤ x6_3
         ·
          rw [if_pos c12] at H
          have c12b0 : decide (0 ≤ x6_3) = true := decide_eq_true c12
          clear c12
          by_cases c14 : (bt x4_5 x6_3) < 48
          ·
           rw [if_pos c14] at H
           have c14b0 : decide ((bt x4_5 x6_3) < 48) = true := decide_eq_true c14
           clear c14
           simp only [Option.some.injEq, Prod.mk.injEq] at H
           obtain ⟨rfl, rfl⟩ := H
           have p13 : 0 ≤ (x6_3 : Int) := of_decide_eq_true au33
           have q13 : x6_3 < (x4_5.size : Int) := of_decide_eq_true au33
           have hx13 := bt_at x4_5 x6_3
           replace p13 := eq_true p13
           replace q13 := eq_true q13
           exact spec_l1Read.L0
          ·
           rw [if_neg c14] at H
           have c14b0 : decide ((bt x4_5 x6_3) < 48) = false := decide_eq_false c14
           clear c14
           by_cases c16 : (bt x4_5 x6_3) > 57
           ·
            rw [if_pos c16] at H
            have c16b0 : decide (57 < (bt x4_5 x6_3)) = true := decide_eq_true c16
            clear c16
            simp only [Option.some.injEq, Prod.mk.injEq] at H
            obtain ⟨rfl, rfl⟩ := H
            have p13 : 0 ≤ (x6_3 : Int) := of_decide_eq_true au33
            have q13 : x6_3 < (x4_5.size : Int) := of_decide_eq_true au33
            have hx13 := bt_at x4_5 x6_3
            replace p13 := eq_true p13
            replace q13 := eq_true q13
            have p15 : 0 ≤ (x6_3 : Int) := of_decide_eq_true au33
            have q15 : x6_3 < (x4_5.size : Int) := of_decide_eq_true au33
            have hx15 := bt_at x4_5 x6_3
            replace p15 := eq_true p15
            replace q15 := eq_true q15
            exact spec_l1Read.L0
           ·
            rw [if_neg c16] at H
            have c16b0 : decide (57 < (bt x4_5 x6_3)) = false := decide_eq_false c16
            clear c16
            have H' := Aside0.mk H
            clear H
            have p13 : 0 ≤ (x6_3 : Int) := of_decide_eq_true au33
            have q13 : x6_3 < (x4_5.size : Int) := of_decide_eq_true au33
            have hx13 := bt_at x4_5 x6_3
            replace p13 := eq_true p13
            replace q13 := eq_true q13
            have p15 : 0 ≤ (x6_3 : Int) := of_decide_eq_true au33
            have q15 : x6_3 < (x4_5.size : Int) := of_decide_eq_true au33
            have hx15 := bt_at x4_5 x6_3
            replace p15 := eq_true p15
            replace q15 := eq_true q15
            have p17 : 0 ≤ (x6_3 : Int) := of_decide_eq_true au33
            have q17 : x6_3 < (x4_5.size : Int) := of_decide_eq_true au33
            have hx17 := bt_at x4_5 x6_3
            replace p17 := eq_true p17
            replace q17 := eq_true q17
            go_wp2
            go_roundg k3
            case measure => have := HJ1.out; have := HJ5.out; have := HK3.out; omega
            case rel => exact ⟨(wrap64 ((wrap64 (10 * x5_3)) + (((bt x4_5 x6_3) - 48) % 256))), (wrap64 (x6_3 + 1)), au34, au34, H', ⟨by have := HJ1.out; have := HJ5.out; have := HK3.out; omega⟩, ⟨by repeat (first | (with_reducible first | exact HB.out | apply below_alloc | apply pw_below_drewN | apply below_drew1) | exact HB.out)⟩⟩
         ·
          rw [if_neg c12] at H
          exact absurd H (by simp)
        ·
         rw [if_neg c11] at H
         have c11b0 : decide (x6_3 < (x4_5.size : Int)) = false := decide_eq_false c11
         clear c11
         by_cases c18 : (x4_5.size : Int) < (a0.size : Int)
         ·
          rw [if_pos c18] at H
          have c18b0 : decide ((x4_5.size : Int) < (a0.size : Int)) = true := decide_eq_true c18
          have c18b1 : decide (x4_5.size < a0.size) = true := decide_eq_true (Int.ofNat_lt.mp c18)
          clear c18
          replace H := Option.bind_eq_some_iff.mp H
          obtain ⟨t150, A190, H⟩ := H
          try dsimp only at H
          have A19 := Aside0.mk A190
          clear A190
          by_cases c20 : t150.toList = a0.toList
          ·
           rw [if_pos c20] at H
           have c20b0 : (t150.toList == a0.toList) = true := beq_iff_eq.mpr c20
           have c20b1 : (t150.toList != a0.toList) = false := bne_eq_false_iff_eq.mpr c20
           clear c20
           simp only [Option.some.injEq, Prod.mk.injEq] at H
           obtain ⟨rfl, rfl⟩ := H
           exact spec_l1Read.L0
          ·
           rw [if_neg c20] at H
           have c20b0 : (t150.toList == a0.toList) = false := beq_eq_false_iff_ne.mpr c20
           have c20b1 : (t150.toList != a0.toList) = true := bne_iff_ne.mpr c20
           simp only [Option.some.injEq, Prod.mk.injEq] at H
           obtain ⟨rfl, rfl⟩ := H
           exact spec_l1Read.L0
         ·
          rw [if_neg c18] at H
          have c18b0 : decide ((x4_5.size : Int) < (a0.size : Int)) = false := decide_eq_false c18
          have c18b1 : decide (x4_5.size < a0.size) = false := decide_eq_false (fun h => c18 (Int.ofNat_lt.mpr h))
          clear c18
          replace H := Option.bind_eq_some_iff.mp H
          obtain ⟨t151, A230, H⟩ := H
          try dsimp only at H
          have A23 := Aside0.mk A230
          clear A230
          by_cases c24 : t151.toList = a0.toList
          ·
           rw [if_pos c24] at H
           have c24b0 : (t151.toList == a0.toList) = true := beq_iff_eq.mpr c24
           have c24b1 : (t151.toList != a0.toList) = false := bne_eq_false_iff_eq.mpr c24
           clear c24
           simp only [Option.some.injEq, Prod.mk.injEq] at H
           obtain ⟨rfl, rfl⟩ := H
           go_wp2_with (first | ((with_reducible refine gate_callee (f := 35) rfl ?_); refine goesL_ (some 54) rfl rfl Tryd.func35 (by kernel_rfl) rfl #[.int .i64 x5_3] rfl au15 ?_; (with_reducible refine (spec_l1Num.calls k3 x5_3 t151 _ A23.out).mono ?_); rintro e w25 ⟨rfl, hb⟩; refine ⟨_, rfl, ?_⟩; replace HB := Aside0.mk (below_step au16 hb); (try clear hb)))
           go_ret2
           exact ax2
          ·
           rw [if_neg c24] at H
           have c24b0 : (t151.toList == a0.toList) = false := beq_eq_false_iff_ne.mpr c24
           have c24b1 : (t151.toList != a0.toList) = true := bne_iff_ne.mpr c24
           simp only [Option.some.injEq, Prod.mk.injEq] at H
           obtain ⟨rfl, rfl⟩ := H
           go_wp2_with (first | ((with_reducible refine gate_callee (f := 35) rfl ?_); refine goesL_ (some 54) rfl rfl Tryd.func35 (by kernel_rfl) rfl #[.int .i64 x5_3] rfl au15 ?_; (with_reducible refine (spec_l1Num.calls k3 x5_3 t151 _ A23.out).mono ?_); rintro e w26 ⟨rfl, hb⟩; refine ⟨_, rfl, ?_⟩; replace HB := Aside0.mk (below_step au16 hb); (try clear hb)))
           go_ret2
           exact ax2
     ·
      replace c10 := Bool.eq_false_iff.mpr c10
      subst c10
      replace H := (if_neg (show ¬ (false = true) by decide)).symm.trans H
      simp only [Option.some.injEq, Prod.mk.injEq] at H
      obtain ⟨rfl, rfl⟩ := H
      go_wp2_with (first | ((with_reducible refine gate_callee (f := 34) rfl ?_); refine goesL_ (some 20) rfl rfl Tryd.func34 (by kernel_rfl) rfl #[.int .i64 (x4_5.size : Int), .int .i64 1, .int .i64 6] rfl au15 ?_; (with_reducible refine (spec_l1In.calls (x4_5.size : Int) 1 6 _ _ A9.out).mono ?_); rintro e w' ⟨rfl, ⟨nd, rfl⟩⟩; refine ⟨_, rfl, ?_⟩))
      go_ret2
      exact ax2


/-! ### impl_ParseInt: function 11 -/
def impl_ParseInt.f (a0 : ByteArray) : Option (Int × Bool) :=
 if a0.size ≤ 7 then (match Lib.atoi a0.data.toList with
  | some n => if (-999999 ≤ n ∧ n ≤ 999999) ∧ (⟨(Lib.itoa n).toArray⟩ : ByteArray).toList = a0.toList then some (n, true) else some (0, false)
  | none => some (0, false)) else some (0, false)
set_option maxHeartbeats 8000000 in
set_option maxRecDepth 100000 in
theorem impl_ParseInt.calls (a0 : ByteArray) (r1 : Int) (r2 : Bool) (w : World) {gF3 : Bool} (hG : GL true true gF3 w) (h : impl_ParseInt.f a0 = some (r1, r2)) :
  Calls Tryd.prog 11 #[.string a0] w fun e w' => e = .returned (.tuple #[.int .i64 r1, .bool r2]) ∧ Below w.heap.size w w' := by
 unfold impl_ParseInt.f at h
 by_cases hs : a0.size ≤ 7
 ·
  rw [if_pos hs] at h
  have c0 : decide ((a0.size : Int) > 7) = false := decide_eq_false (by omega)
  have c0' : decide ((7 : Int) < (a0.size : Int)) = false := decide_eq_false (by omega)
  cases ha : Lib.atoi a0.data.toList with
  | none =>
   rw [ha] at h
   obtain ⟨rfl, rfl⟩ := (Prod.mk.injEq _ _ _ _).mp (Option.some.inj h)
   obtain ⟨tp, p, hv⟩ := hG.es rfl
   have hcall := Tryd.strconv_Atoi_err_var a0 (by omega) ha tp p w hv
   have hc := Aside0.mk hcall
   clear hcall hv ha hG
   go_enter Tryd.func11, Tryd.ntmps11
   go_wp2_with (first | (go_at_call 38; refine hc.out.mono ?_; rintro e w' ⟨N, rfl, hN, hcell, hb⟩))
   go_ret2
   exact ⟨rfl, hb⟩
  | some n =>
   rw [ha] at h
   obtain ⟨t0, ht0⟩ : ∃ t : ByteArray, t = ⟨(Lib.itoa n).toArray⟩ := ⟨_, rfl⟩
   have hcall : Calls Tryd.prog 38 #[.string a0] w fun e w' => e = .returned (.tuple #[.int .i64 n, .nilIface]) ∧ Below w.heap.size w w' := by
    refine (Tryd.strconv_Atoi a0 n (by omega) ha w).mono ?_
    rintro e w' ⟨rfl, t, rfl⟩
    exact ⟨rfl, Go.Proofs.YtmjmjfkjlblgaaaDoor.B.ByRow.below_made w _ t⟩
   have hc := Aside0.mk hcall
   have hGA := Aside0.mk hG
   clear hcall ha hG
   replace h : (if (-999999 ≤ n ∧ n ≤ 999999) ∧ (⟨(Lib.itoa n).toArray⟩ : ByteArray).toList = a0.toList then some (n, true) else some (0, false)) = some (r1, r2) := h
   rw [← ht0] at h
   by_cases hin : -999999 ≤ n ∧ n ≤ 999999
   ·
    have hi : impl_inside.f n (-999999) 999999 = some true := by
     unfold impl_inside.f; rw [if_pos hin.1, decide_eq_true hin.2]
    have hI := Aside0.mk hi
    have hT := Aside0.mk (show strconv_Itoa.f n = some t0 by unfold strconv_Itoa.f; rw [if_pos (by omega), ht0])
    clear hi ht0
    by_cases he : t0.toList = a0.toList
    ·
     rw [if_pos ⟨hin, he⟩] at h
     obtain ⟨rfl, rfl⟩ := (Prod.mk.injEq _ _ _ _).mp (Option.some.inj h)
     have e1 : (t0.toList == a0.toList) = true := beq_iff_eq.2 he
     have e2 : (t0.toList != a0.toList) = false := bne_eq_false_iff_eq.2 he
     clear he hin
     go_enter Tryd.func11, Tryd.ntmps11
     go_wp2_with (first | (go_at_call 38; refine hc.out.mono ?_; rintro e w1 ⟨rfl, hb1⟩; have hB1 := Aside0.mk hb1; clear hb1) | (go_at_call 32; refine (impl_inside.calls _ _ _ _ _ hI.out).mono ?_; rintro e w2 ⟨rfl, q, rfl⟩) | (go_at_call 33; refine (strconv_Itoa.calls (gF2 := true) _ _ _ (hGA.out.below (pw_below_drewN hB1.out _)) hT.out).mono ?_; rintro e w3 ⟨rfl, hb3⟩; have hB3 := Aside0.mk (below_step (pw_below_drewN hB1.out _) hb3); clear hb3))
     go_ret2
     exact ⟨rfl, hB3.out⟩
    ·
     rw [if_neg (fun x => he x.2)] at h
     obtain ⟨rfl, rfl⟩ := (Prod.mk.injEq _ _ _ _).mp (Option.some.inj h)
     have e1 : (t0.toList == a0.toList) = false := beq_eq_false_iff_ne.2 he
     have e2 : (t0.toList != a0.toList) = true := bne_iff_ne.2 he
     clear he hin
     go_enter Tryd.func11, Tryd.ntmps11
     go_wp2_with (first | (go_at_call 38; refine hc.out.mono ?_; rintro e w1 ⟨rfl, hb1⟩; have hB1 := Aside0.mk hb1; clear hb1) | (go_at_call 32; refine (impl_inside.calls _ _ _ _ _ hI.out).mono ?_; rintro e w2 ⟨rfl, q, rfl⟩) | (go_at_call 33; refine (strconv_Itoa.calls (gF2 := true) _ _ _ (hGA.out.below (pw_below_drewN hB1.out _)) hT.out).mono ?_; rintro e w3 ⟨rfl, hb3⟩; have hB3 := Aside0.mk (below_step (pw_below_drewN hB1.out _) hb3); clear hb3))
     go_ret2
     exact ⟨rfl, hB3.out⟩
   ·
    rw [if_neg (fun x => hin x.1)] at h
    obtain ⟨rfl, rfl⟩ := (Prod.mk.injEq _ _ _ _).mp (Option.some.inj h)
    have hi : impl_inside.f n (-999999) 999999 = some false := by
     unfold impl_inside.f
     by_cases h1 : n ≥ -999999
     ·
      rw [if_pos h1, decide_eq_false (by omega)]
     ·
      rw [if_neg h1]
    have hI := Aside0.mk hi
    clear hi hin ht0
    go_enter Tryd.func11, Tryd.ntmps11
    go_wp2_with (first | (go_at_call 38; refine hc.out.mono ?_; rintro e w1 ⟨rfl, hb1⟩; have hB1 := Aside0.mk hb1; clear hb1) | (go_at_call 32; refine (impl_inside.calls _ _ _ _ _ hI.out).mono ?_; rintro e w2 ⟨rfl, q, rfl⟩))
    go_ret2
    exact ⟨rfl, pw_below_drewN hB1.out _⟩
 ·
  rw [if_neg hs] at h
  obtain ⟨rfl, rfl⟩ := (Prod.mk.injEq _ _ _ _).mp (Option.some.inj h)
  have c0 : decide ((a0.size : Int) > 7) = true := decide_eq_true (by omega)
  have c0' : decide ((7 : Int) < (a0.size : Int)) = true := decide_eq_true (by omega)
  clear hG
  go_enter Tryd.func11, Tryd.ntmps11
  go_wp2
  go_ret2
  exact ⟨rfl, Below.refl _ _⟩

end Go.Proofs.YtmjmjfkjlblgaaaDoor.G

namespace Go.Proofs.YtmjmjfkjlblgaaaDoor.G
open Go.RowKit Go.Proofs.YtmjmjfkjlblgaaaDoorW.PrintWords Go.Proofs.YtmjmjfkjlblgaaaDoorW.PrintLast Go.Proofs.YtmjmjfkjlblgaaaDoor.B
set_option linter.unusedVariables false
set_option linter.unusedSimpArgs false
theorem dec_app (l r : List UInt8) : ∀ acc, Lib.decFrom acc (l ++ r) = (Lib.decFrom acc l).bind fun a => Lib.decFrom a r := by
  induction l with
  | nil => intro acc; rfl
  | cons b l ih =>
    intro acc
    simp only [List.cons_append, Lib.decFrom]
    cases Lib.digitVal b with
    | none => rfl
    | some d => exact ih _
theorem dig_val (d : Nat) (h : d < 10) : Lib.digitVal (UInt8.ofNat (48 + d)) = some d := by
  have e : (UInt8.ofNat (48 + d)).toNat = 48 + d := by simp; omega
  unfold Lib.digitVal
  rw [e, if_pos ⟨by omega, by omega⟩]
  congr 1; omega
theorem dec_digits (n : Nat) : ∀ u, u ≤ n → Lib.decFrom 0 (Lib.decDigits u) = some u := by
  induction n with
  | zero =>
    intro u hu
    rw [Lib.decDigits_one (by omega)]
    simp only [Lib.decFrom]
    rw [dig_val u (by omega)]
    simp
  | succ n ih =>
    intro u hu
    by_cases h : u < 10
    · rw [Lib.decDigits_one h]
      simp only [Lib.decFrom]
      rw [dig_val u h]
      simp
    · rw [show Lib.decDigits u = Lib.decDigits (u / 10) ++ [UInt8.ofNat (48 + u % 10)] by rw [Lib.decDigits, dif_neg h], dec_app, ih (u / 10) (by omega)]
      simp only [Option.bind_some, Lib.decFrom]
      rw [dig_val (u % 10) (by omega)]
      show some (u / 10 * 10 + u % 10) = some u
      congr 1; omega
theorem nd_le (k : Nat) : ∀ u, u < 10 ^ (k + 1) → (Lib.decDigits u).length ≤ k + 1 := by
  induction k with
  | zero => intro u h; rw [Lib.decDigits_one (by simpa using h)]; simp
  | succ k ih =>
    intro u h
    by_cases h1 : u < 10
    · rw [Lib.decDigits_one h1]; simp
    · rw [show Lib.decDigits u = Lib.decDigits (u / 10) ++ [UInt8.ofNat (48 + u % 10)] by rw [Lib.decDigits, dif_neg h1], List.length_append, List.length_singleton]
      have := ih (u / 10) (by rw [Nat.pow_succ] at h; omega)
      omega
theorem dec_pos (u : Nat) : 1 ≤ (Lib.decDigits u).length := by
  by_cases h1 : u < 10
  · rw [Lib.decDigits_one h1]; simp
  · rw [show Lib.decDigits u = Lib.decDigits (u / 10) ++ [UInt8.ofNat (48 + u % 10)] by rw [Lib.decDigits, dif_neg h1], List.length_append, List.length_singleton]
    omega
def zer (d : Nat) (l : List UInt8) : List UInt8 := List.replicate d 48 ++ l
def padB (w : Nat) (n : Int) : ByteArray := mkB (zer (w - (Lib.itoa n).length) (Lib.itoa n))
theorem zer_up (d : Nat) (l : List UInt8) : zer d (48 :: l) = zer (d + 1) l := by
  unfold zer
  rw [List.replicate_succ']
  simp
theorem pad_loopV (w : Nat) (hw : w ≤ 10) (d : Nat) : ∀ t : ByteArray, w - t.size = d → t.size ≤ 1000 → Ev (fun k => spec_l3Pad.l0 k (w : Int) t) (mkB (zer d (L t))) := by
  induction d with
  | zero =>
    intro t h ht
    refine Ev.step (f := fun _ => some t) (fun k => ?_) (ev_eq (Ev.now _) (by simp [zer, mk_L]))
    simp only [spec_l3Pad.l0]; rw [if_neg (by omega)]
  | succ d ih =>
    intro t h ht
    have hs : ((⟨#[48]⟩ : ByteArray) ++ t).size = 1 + t.size := by rw [size_append]; rfl
    have hL : L ((⟨#[48]⟩ : ByteArray) ++ t) = 48 :: L t := by rw [L_append]; rfl
    have := ih ((⟨#[48]⟩ : ByteArray) ++ t) (by omega) (by omega)
    rw [hL, zer_up] at this
    refine Ev.step (fun k => ?_) this
    simp only [spec_l3Pad.l0]; rw [if_pos (by omega), if_pos (by omega)]
theorem pad_evV (n : Int) (w : Nat) (h0 : 0 ≤ n) (h1 : n ≤ 1000000) (hw : w ≤ 10) : Ev (fun k => spec_l3Pad.f k n (w : Int)) (padB w n) ∧ Ev (fun k => impl_digits.f k n (w : Int)) (padB w n) := by
  have hl := Lib.itoa_length_le n (by omega) (by omega)
  have hz : (mkB (Lib.itoa n)).size = (Lib.itoa n).length := by rw [size_mk]
  have hu := pad_loopV w hw (w - (Lib.itoa n).length) (mkB (Lib.itoa n)) (by rw [hz]) (by omega)
  rw [L_mk] at hu
  refine ⟨?_, ?_⟩
  · unfold spec_l3Pad.f
    exact Ev.bind (num_ev n (by omega) (by omega)) hu
  · have hi : strconv_Itoa.f n = some (mkB (Lib.itoa n)) := by
      unfold strconv_Itoa.f
      rw [if_pos ⟨by omega, by omega⟩]; rfl
    unfold impl_digits.f
    exact ev_bind0 hi (Ev.congr (fun k => pad_same k _ _) hu)
def valS (acc : Int) : List UInt8 → Int
  | [] => acc
  | b :: l => valS (10 * acc + (b.toNat : Int) - 48) l
theorem dec_val (l : List UInt8) : ∀ (a m : Nat), Lib.decFrom a l = some m → valS (a : Int) l = (m : Int) := by
  induction l with
  | nil => intro a m h; simp only [Lib.decFrom, Option.some.injEq] at h; subst h; rfl
  | cons b l ih =>
    intro a m h
    unfold Lib.decFrom at h
    by_cases c : 48 ≤ b.toNat ∧ b.toNat ≤ 57
    · have hd : Lib.digitVal b = some (b.toNat - 48) := if_pos c
      rw [hd] at h
      have := ih _ m h
      rw [← this]
      show valS (10 * (a : Int) + (b.toNat : Int) - 48) l = valS ((a * 10 + (b.toNat - 48) : Nat) : Int) l
      congr 1
      omega
    · have hd : Lib.digitVal b = none := if_neg c
      rw [hd] at h
      cases h
theorem dec_zer (d : Nat) (l : List UInt8) : Lib.decFrom 0 (zer d l) = Lib.decFrom 0 l := by
  induction d with
  | zero => rfl
  | succ d ih =>
    have : zer (d + 1) l = 48 :: zer d l := by simp [zer, List.replicate_succ]
    rw [this, ← ih]
    rfl
theorem pad_dec (w n : Nat) : Lib.decFrom 0 (L (padB w (n : Int))) = some n := by
  unfold padB
  rw [L_mk, dec_zer]
  have e : Lib.itoa (n : Int) = Lib.decDigits n := by unfold Lib.itoa; rw [if_neg (by omega)]; rfl
  rw [e]
  exact dec_digits n n (Nat.le_refl n)
theorem pad_val (w n : Nat) : valS 0 (L (padB w (n : Int))) = (n : Int) := dec_val _ 0 n (pad_dec w n)
def txtD (y m d : Int) (c : Bool) : ByteArray :=
  mkB ((if c = true then [99] else []) ++ L (padB 4 y) ++ (if m > 0 then 45 :: L (padB 2 m) else []) ++ (if d > 0 then 45 :: L (padB 2 d) else []))
theorem padB_size (w : Nat) (n : Int) (h0 : 0 ≤ n) (h1 : n ≤ 1000000) (hw : w ≤ 10) : (padB w n).size ≤ 31 := by
  have hl := Lib.itoa_length_le n (by omega) (by omega)
  unfold padB zer
  rw [size_mk, List.length_append, List.length_replicate]
  omega
theorem impl_txt (y m d : Int) (c : Bool) (hy : 1 ≤ y ∧ y ≤ 2999) (hm : 0 ≤ m ∧ m ≤ 12) (hd : 0 ≤ d ∧ d ≤ 31) : Ev (fun k => impl_formatDate.f k y m d c) (txtD y m d c) := by
  have iY := (pad_evV y 4 (by omega) (by omega) (by omega)).2
  have iM := (pad_evV m 2 (by omega) (by omega) (by omega)).2
  have iD := (pad_evV d 2 (by omega) (by omega) (by omega)).2
  have zY := padB_size 4 y (by omega) (by omega) (by omega)
  have zM := padB_size 2 m (by omega) (by omega) (by omega)
  have zD := padB_size 2 d (by omega) (by omega) (by omega)
  have e1 := sz1 45 (padB 2 m)
  have e1' := sz1 45 (padB 2 d)
  have rest : ∀ x : ByteArray, x.size ≤ 60 → Ev (fun k => impl_formatDate.j0 k x y m d c) (mkB (L x ++ (if m > 0 then 45 :: L (padB 2 m) else []) ++ (if d > 0 then 45 :: L (padB 2 d) else []))) := by
    intro x hx
    have xm : (x ++ ((⟨#[45]⟩ : ByteArray) ++ padB 2 m)).size = x.size + (1 + (padB 2 m).size) := by rw [size_append, e1]
    have h45 : L (⟨#[45]⟩ : ByteArray) = [45] := rfl
    by_cases cm : m > 0
    · by_cases cd : d > 0
      · refine ev_eq (Ev.step (f := fun k => (impl_digits.f k m 2).bind fun t261 => (if 1 + t261.size ≤ 9223372036854775807 then (if x.size + ((⟨#[45]⟩ : ByteArray) ++ t261).size ≤ 9223372036854775807 then ((impl_digits.f k d 2).bind fun t262 => (if 1 + t262.size ≤ 9223372036854775807 then (if (x ++ ((⟨#[45]⟩ : ByteArray) ++ t261)).size + ((⟨#[45]⟩ : ByteArray) ++ t262).size ≤ 9223372036854775807 then (some ((x ++ ((⟨#[45]⟩ : ByteArray) ++ t261)) ++ ((⟨#[45]⟩ : ByteArray) ++ t262))) else none) else none)) else none) else none)) (fun k => by simp only [impl_formatDate.j0]; rw [if_pos cm]; simp only [if_pos cd]) (Ev.bind iM (ev_pos (by omega) (ev_pos (by omega) (Ev.bind iD (ev_pos (by omega) (ev_pos (by omega) (Ev.now _)))))))) ?_
        rw [if_pos cm, if_pos cd]
        exact L_inj (by rw [L_append, L_append, L_append, L_append, L_mk, h45]; simp)
      · refine ev_eq (Ev.step (f := fun k => (impl_digits.f k m 2).bind fun t261 => (if 1 + t261.size ≤ 9223372036854775807 then (if x.size + ((⟨#[45]⟩ : ByteArray) ++ t261).size ≤ 9223372036854775807 then (some (x ++ ((⟨#[45]⟩ : ByteArray) ++ t261))) else none) else none)) (fun k => by simp only [impl_formatDate.j0]; rw [if_pos cm]; simp only [if_neg cd]) (Ev.bind iM (ev_pos (by omega) (ev_pos (by omega) (Ev.now _))))) ?_
        rw [if_pos cm, if_neg cd]
        exact L_inj (by rw [L_append, L_append, L_mk, h45]; simp)
    · by_cases cd : d > 0
      · refine ev_eq (Ev.step (f := fun k => (impl_digits.f k d 2).bind fun t263 => (if 1 + t263.size ≤ 9223372036854775807 then (if x.size + ((⟨#[45]⟩ : ByteArray) ++ t263).size ≤ 9223372036854775807 then (some (x ++ ((⟨#[45]⟩ : ByteArray) ++ t263))) else none) else none)) (fun k => by simp only [impl_formatDate.j0]; rw [if_neg cm, if_pos cd]) (Ev.bind iD (ev_pos (by omega) (ev_pos (by omega) (Ev.now _))))) ?_
        rw [if_neg cm, if_pos cd]
        exact L_inj (by rw [L_append, L_append, L_mk, h45]; simp)
      · refine ev_eq (Ev.step (f := fun _ => some x) (fun k => by simp only [impl_formatDate.j0]; rw [if_neg cm, if_neg cd]) (Ev.now _)) ?_
        rw [if_neg cm, if_neg cd]
        exact L_inj (by rw [L_mk]; simp)
  unfold impl_formatDate.f
  refine ev_neg (by omega) (Ev.bind iY ?_)
  cases c with
  | true =>
    refine ev_pos rfl (ev_pos (by omega) (ev_eq (rest _ (by rw [sz1]; omega)) ?_))
    have h99 : L (⟨#[99]⟩ : ByteArray) = [99] := rfl
    rw [L_append, h99]; rfl
  | false => exact ev_neg (by simp) (rest _ (by omega))
theorem spec_txt (y m d : Int) (c : Bool) (hy : 1 ≤ y ∧ y ≤ 2999) (hm : 0 ≤ m ∧ m ≤ 12) (hd : 0 ≤ d ∧ d ≤ 31) : Ev (fun k => spec_l3Text.f k y m d c) (txtD y m d c) := by
  obtain ⟨v, h1, h2⟩ := date_text y m d c hy hm hd
  rw [ev_uniq (impl_txt y m d c hy hm hd) h2]
  exact h1
end Go.Proofs.YtmjmjfkjlblgaaaDoor.G

namespace Go.Proofs.YtmjmjfkjlblgaaaDoor.G
open Go.RowKit Go.Proofs.YtmjmjfkjlblgaaaDoorW.PrintWords Go.Proofs.YtmjmjfkjlblgaaaDoorW.PrintLast
set_option linter.unusedVariables false
set_option linter.unusedSimpArgs false
def daysD (y m : Int) : Int :=
  if m = 2 then (if Int.tmod y 4 = 0 ∧ (Int.tmod y 100 ≠ 0 ∨ Int.tmod y 400 = 0) then 29 else 28) else if m = 4 ∨ m = 6 ∨ m = 9 ∨ m = 11 then 30 else 31
def goodD (y m d : Int) (c : Bool) : Bool :=
  if y = 0 ∧ m = 0 ∧ d = 0 ∧ c = false then true
  else if ¬ (1 ≤ y ∧ y ≤ 2999 ∧ 0 ≤ m ∧ m ≤ 12) then false
  else if m = 0 then decide (d = 0)
  else if c then false else decide (0 ≤ d ∧ d ≤ daysD y m)
theorem tmod_400_4 (y : Int) (h : Int.tmod y 400 = 0) : Int.tmod y 4 = 0 := by
  have h1 : (400 : Int) ∣ y := Int.dvd_of_tmod_eq_zero h
  exact Int.tmod_eq_zero_of_dvd (Int.dvd_trans (by decide) h1)
theorem spec_days (k : Nat) (y m : Int) : spec_l3Days.f (k + 1) y m = some (daysD y m) := by
  unfold spec_l3Days.f daysD
  by_cases h2 : m = 2
  · subst h2
    simp only [if_true, spec_l3Days.j0]
    by_cases a : Int.tmod y 4 = 0 <;> by_cases b : Int.tmod y 100 = 0 <;> by_cases c : Int.tmod y 400 = 0 <;> simp [a, b, c]
    · exact a (tmod_400_4 y c)
    · exact a (tmod_400_4 y c)
  · by_cases a : m = 4 <;> by_cases b : m = 6 <;> by_cases c : m = 9 <;> by_cases d : m = 11 <;> simp [h2, a, b, c, d]
theorem impl_days (y m : Int) : impl_daysInMonth.f y m = some (daysD y m) := by
  unfold impl_daysInMonth.f daysD
  by_cases h2 : m = 2
  · subst h2
    by_cases a : Int.tmod y 4 = 0 <;> by_cases b : Int.tmod y 100 = 0 <;> by_cases c : Int.tmod y 400 = 0 <;> simp [a, b, c]
  · by_cases a : m = 4 <;> by_cases b : m = 6 <;> by_cases c : m = 9 <;> by_cases d : m = 11 <;> simp [h2, a, b, c, d]
theorem spec_good (k : Nat) (y m d : Int) (c : Bool) : spec_l3Good.f (k + 2) y m d c = some (goodD y m d c) := by
  unfold spec_l3Good.f goodD
  by_cases z : y = 0 ∧ m = 0 ∧ d = 0 ∧ c = false
  · obtain ⟨rfl, rfl, rfl, rfl⟩ := z; simp
  · rw [if_neg (by simpa using z), if_neg z]
    simp only [spec_l1In.f]
    by_cases a : 1 ≤ y <;> by_cases b : y ≤ 2999 <;> by_cases e : 0 ≤ m <;> by_cases f : m ≤ 12 <;> simp [a, b, e, f, spec_l3Good.j0]
    rw [spec_days]
    by_cases g : m = 0 <;> by_cases h : d = 0 <;> by_cases i : 0 ≤ d <;> cases c <;> simp [g, h, i, spec_l1In.f, impl_inside.f]
theorem impl_good (k : Nat) (y m d : Int) (c : Bool) : impl_IsValidDate.f (k + 2) y m d c = some (goodD y m d c) := by
  unfold impl_IsValidDate.f goodD
  by_cases z : y = 0 ∧ m = 0 ∧ d = 0 ∧ c = false
  · obtain ⟨rfl, rfl, rfl, rfl⟩ := z; simp
  · rw [if_neg (by simpa using z), if_neg z]
    simp only [impl_inside.f]
    by_cases a : 1 ≤ y <;> by_cases b : y ≤ 2999 <;> by_cases e : 0 ≤ m <;> by_cases f : m ≤ 12 <;> simp [a, b, e, f, impl_IsValidDate.j0]
    rw [impl_days]
    by_cases g : m = 0 <;> by_cases h : d = 0 <;> by_cases i : 0 ≤ d <;> cases c <;> simp [g, h, i, spec_l1In.f, impl_inside.f]
theorem daysD_le (y m : Int) : daysD y m ≤ 31 := by
  unfold daysD
  split
  · split <;> omega
  · split <;> omega
theorem good_bds {y m d : Int} {c : Bool} (h : goodD y m d c = true) (hy : y ≠ 0) : 1 ≤ y ∧ y ≤ 2999 ∧ 0 ≤ m ∧ m ≤ 12 ∧ 0 ≤ d ∧ d ≤ 31 := by
  unfold goodD at h
  rw [if_neg (fun z => hy z.1)] at h
  by_cases c1 : 1 ≤ y ∧ y ≤ 2999 ∧ 0 ≤ m ∧ m ≤ 12
  · rw [if_neg (fun z => z c1)] at h
    refine ⟨c1.1, c1.2.1, c1.2.2.1, c1.2.2.2, ?_⟩
    by_cases c2 : m = 0
    · rw [if_pos c2] at h
      have := of_decide_eq_true h
      omega
    · rw [if_neg c2] at h
      cases c with
      | true => simp at h
      | false =>
        have h2 := of_decide_eq_true (by simpa using h : decide (0 ≤ d ∧ d ≤ daysD y m) = true)
        have := daysD_le y m
        omega
  · rw [if_pos c1] at h; cases h
end Go.Proofs.YtmjmjfkjlblgaaaDoor.G

namespace Go.Proofs.YtmjmjfkjlblgaaaDoor.G
open Go.RowKit Go.Proofs.YtmjmjfkjlblgaaaDoorW.PrintWords Go.Proofs.YtmjmjfkjlblgaaaDoorW.PrintLast Go.Proofs.YtmjmjfkjlblgaaaDoor.B
set_option linter.unusedVariables false
set_option linter.unusedSimpArgs false
theorem split_loop (s : ByteArray) (b : UInt8) (hs : s.size ≤ 8796093022000) (d : Nat) : ∀ (out : List ByteArray) (f i : Nat), out.length ≤ i → f ≤ i → i ≤ s.size → s.size - i = d →
    Ev (fun k => spec_l1Split.l0 k s (b.toNat : Int) out f i) (out ++ (ahd (((L s).drop f).take (i - f)) (spl b ((L s).drop i))).map mkB) := by
  have hL : (L s).length = s.size := L_len s
  induction d with
  | zero =>
    intro out f i h0 h1 h2 hd
    have e : i = s.size := by omega
    refine Ev.step (f := fun _ => some (out ++ [s.extract f s.size])) (fun k => ?_) (ev_eq (Ev.now _) ?_)
    · simp only [spec_l1Split.l0]
      rw [if_neg (by omega), if_pos (by omega), if_pos (by omega), if_pos (by omega)]
      simp
    · rw [List.drop_of_length_le (l := L s) (i := i) (by omega)]
      simp [spl, ahd]
      apply L_inj
      rw [L_extract, L_mk, e]
  | succ d ih =>
    intro out f i h0 h1 h2 hd
    have hlt : i < s.size := by omega
    have hlt' : i < (L s).length := by omega
    rw [spl_step b (L s) f i hlt' h1]
    have hw : wrap64 ((i : Int) + 1) = ((i + 1 : Nat) : Int) := by rw [w64 (by omega) (by omega)]; rfl
    by_cases e : (L s)[i] = b
    · rw [if_pos e]
      refine Ev.step (f := fun k => spec_l1Split.l0 k s (b.toNat : Int) (out ++ [s.extract f i]) ((i + 1 : Nat) : Int) ((i + 1 : Nat) : Int)) (fun k => ?_) (ev_eq (ih (out ++ [s.extract f i]) (i + 1) (i + 1) (by simp; omega) (by omega) (by omega) (by omega)) ?_)
      · simp only [spec_l1Split.l0]
        rw [if_pos (by omega), if_pos (by omega), if_pos (by rw [bt_get s i hlt, e]), if_pos (by omega), if_pos (by omega), if_pos (by omega), if_pos (by omega), hw]
        simp
      · rw [Nat.sub_self, List.take_zero, ahd_nil _ (spl_ne b _), List.append_assoc]
        congr 1
        simp
        apply L_inj
        rw [L_extract, L_mk]
    · rw [if_neg e]
      refine Ev.step (f := fun k => spec_l1Split.l0 k s (b.toNat : Int) out f ((i + 1 : Nat) : Int)) (fun k => ?_) (ih out f (i + 1) (by omega) (by omega) (by omega) (by omega))
      simp only [spec_l1Split.l0]
      rw [if_pos (by omega), if_pos (by omega), if_neg (by rw [bt_get s i hlt]; exact fun h => e (u8_inj h)), hw]
theorem split_ev (s : ByteArray) (b : UInt8) (hs : s.size ≤ 8796093022000) : Ev (fun k => spec_l1Split.f k s (b.toNat : Int)) ((spl b (L s)).map mkB) := by
  have := split_loop s b hs s.size [] 0 0 (by simp) (by omega) (by omega) (by omega)
  unfold spec_l1Split.f
  simpa [ahd_nil _ (spl_ne b _)] using this
theorem spl_app2 (b : UInt8) (X Y : List UInt8) : spl b (X ++ b :: Y) = spl b X ++ spl b Y := by
  induction X with
  | nil => rw [List.nil_append, spl_cons, if_pos rfl]; rfl
  | cons c X ih =>
    rw [List.cons_append, spl_cons, spl_cons, ih]
    by_cases h : c = b
    · rw [if_pos h, if_pos h]; rfl
    · rw [if_neg h, if_neg h]
      cases hs : spl b X with
      | nil => exact absurd hs (spl_ne b X)
      | cons p q => rfl
theorem spl_free2 (b : UInt8) (l : List UInt8) (h : ∀ x ∈ l, x ≠ b) : spl b l = [l] := spl_none b l (fun k e => h b (List.mem_of_getElem? e) rfl)
theorem spl_len2 (b : UInt8) (l : List UInt8) : ∀ p ∈ spl b l, p.length ≤ l.length := by
  induction l with
  | nil => intro p hp; rw [spl_nil] at hp; have := List.mem_singleton.1 hp; subst this; simp
  | cons c l ih =>
    intro p hp
    rw [spl_cons] at hp
    by_cases e : c = b
    · rw [if_pos e] at hp
      rcases List.mem_cons.1 hp with rfl | hp
      · simp
      · have := ih p hp; simp; omega
    · rw [if_neg e] at hp
      cases hq : spl b l with
      | nil => exact absurd hq (spl_ne b l)
      | cons q r =>
        rw [hq] at hp ih
        rcases List.mem_cons.1 hp with rfl | hp
        · have := ih q List.mem_cons_self; simp; omega
        · have := ih p (List.mem_cons_of_mem _ hp); simp; omega
abbrev Dt := Int × Int × Int × Bool × Bool
def noD : Dt := (0, 0, 0, false, false)
def IsD (s : ByteArray) (y m d : Int) (c : Bool) : Prop := y ≠ 0 ∧ goodD y m d c = true ∧ txtD y m d c = s
def finD (s : ByteArray) (y m d : Int) (c : Bool) : Dt := if y ≠ 0 ∧ goodD y m d c = true ∧ (txtD y m d c).toList = s.toList then (y, m, d, c, true) else noD
theorem finD_no {s : ByteArray} (h : ∀ y m d c, ¬ IsD s y m d c) (y m d : Int) (c : Bool) : finD s y m d c = noD := if_neg (fun x => h y m d c ⟨x.1, x.2.1, toList_eq_iff.1 x.2.2⟩)
theorem finD_yes {s : ByteArray} {y m d : Int} {c : Bool} (h : IsD s y m d c) : finD s y m d c = (y, m, d, c, true) := if_pos ⟨h.1, h.2.1, toList_eq_iff.2 h.2.2⟩
def numS (p : ByteArray) : Int := if p.size ≤ 4 then valS 0 (L p) else 0
def atoB (p : ByteArray) : Option Int := Lib.atoi (L p)
def parts (s : ByteArray) : List ByteArray := (spl 45 (L s)).map mkB
def cirD (s : ByteArray) : Bool := decide (1 ≤ s.size ∧ bt s 0 = 99)
def restD (s : ByteArray) : ByteArray := if cirD s = true then s.extract 1 s.size else s
theorem dec_dig {l : List UInt8} {m : Nat} (h : Lib.decFrom 0 l = some m) : ∀ x ∈ l, 48 ≤ x.toNat ∧ x.toNat ≤ 57 := by
  intro x hx
  obtain ⟨i, hi⟩ := List.mem_iff_getElem?.1 hx
  obtain ⟨d, hd⟩ := Lib.digit_of_decFrom l 0 m h i x hi
  unfold Lib.digitVal at hd
  by_cases c : 48 ≤ x.toNat ∧ x.toNat ≤ 57
  · exact c
  · rw [if_neg c] at hd; cases hd
theorem pad_dig (w n : Nat) : ∀ x ∈ L (padB w (n : Int)), 48 ≤ x.toNat ∧ x.toNat ≤ 57 := dec_dig (pad_dec w n)
theorem pad_free (w n : Nat) (b : UInt8) (hb : b.toNat < 48 ∨ 57 < b.toNat) : ∀ x ∈ L (padB w (n : Int)), x ≠ b := by
  intro x hx e
  have := pad_dig w n x hx
  rw [e] at this
  omega
theorem itoa_dec (n : Nat) : Lib.itoa (n : Int) = Lib.decDigits n := by unfold Lib.itoa; rw [if_neg (by omega)]; rfl
theorem pad_len (w n : Nat) : (L (padB w (n : Int))).length = max w (Lib.decDigits n).length := by
  unfold padB zer
  rw [L_mk, List.length_append, List.length_replicate, itoa_dec]
  omega
theorem pad_ato (w n : Nat) : atoB (padB w (n : Int)) = some (n : Int) := by
  have hd := pad_dec w n
  have hl := pad_len w n
  have hp := dec_pos n
  have hx := pad_dig w n
  unfold atoB
  cases hq : L (padB w (n : Int)) with
  | nil => rw [hq] at hl; simp at hl; omega
  | cons b r =>
    have hb := hx b (by rw [hq]; exact List.mem_cons_self)
    rw [hq] at hd
    have n1 : ¬ (b == 45) = true := fun e => by have := beq_iff_eq.1 e; subst this; revert hb; decide
    have n2 : ¬ (b == 43) = true := fun e => by have := beq_iff_eq.1 e; subst this; revert hb; decide
    simp only [Lib.atoi]
    rw [if_neg n1, if_neg n2]
    unfold Lib.decNat
    rw [if_neg (by simp), hd]
    rfl
theorem pad_num (w n : Nat) (hw : w ≤ 4) (hn : n < 10000) : numS (padB w (n : Int)) = (n : Int) := by
  unfold numS
  have h4 : (Lib.decDigits n).length ≤ 4 := nd_le 3 n (by have : (10:Nat) ^ 4 = 10000 := by decide
                                                          omega)
  rw [if_pos (by rw [← L_len, pad_len]; omega)]
  exact pad_val w n
theorem pad_size (w n : Nat) (hw : w ≤ 4) (hn : n < 10000) : (padB w (n : Int)).size ≤ 4 := by
  have h4 : (Lib.decDigits n).length ≤ 4 := nd_le 3 n (by have : (10:Nat) ^ 4 = 10000 := by decide
                                                          omega)
  rw [← L_len, pad_len]; omega
theorem pad_size2 (n : Nat) (hn : n < 100) : (padB 2 (n : Int)).size ≤ 2 := by
  have h4 : (Lib.decDigits n).length ≤ 2 := nd_le 1 n (by have : (10:Nat) ^ 2 = 100 := by decide
                                                          omega)
  rw [← L_len, pad_len]; omega
theorem pad_pos (w n : Nat) : 1 ≤ (L (padB w (n : Int))).length := by
  have := dec_pos n
  rw [pad_len]; omega
def ptsD (y m d : Int) : List ByteArray := if m > 0 then (if d > 0 then [padB 4 y, padB 2 m, padB 2 d] else [padB 4 y, padB 2 m]) else [padB 4 y]
theorem good_md {y m d : Int} {c : Bool} (h : goodD y m d c = true) (hy : y ≠ 0) (hm : ¬ m > 0) : d = 0 ∧ m = 0 := by
  have hb := good_bds h hy
  have e : m = 0 := by omega
  unfold goodD at h
  rw [if_neg (fun z => hy z.1), if_neg (fun z => z ⟨hb.1, hb.2.1, hb.2.2.1, hb.2.2.2.1⟩), if_pos e] at h
  exact ⟨of_decide_eq_true h, e⟩
theorem txt_core (y m d : Nat) : spl 45 (L (padB 4 (y : Int)) ++ 45 :: L (padB 2 (m : Int)) ++ 45 :: L (padB 2 (d : Int))) = [L (padB 4 (y : Int)), L (padB 2 (m : Int)), L (padB 2 (d : Int))] := by
  have h45 : (45 : UInt8).toNat < 48 ∨ 57 < (45 : UInt8).toNat := by decide
  rw [List.append_assoc, List.cons_append, spl_app2, spl_app2, spl_free2 45 _ (pad_free 4 y 45 h45), spl_free2 45 _ (pad_free 2 m 45 h45), spl_free2 45 _ (pad_free 2 d 45 h45)]
  rfl
theorem txt_core2 (y m : Nat) : spl 45 (L (padB 4 (y : Int)) ++ 45 :: L (padB 2 (m : Int))) = [L (padB 4 (y : Int)), L (padB 2 (m : Int))] := by
  have h45 : (45 : UInt8).toNat < 48 ∨ 57 < (45 : UInt8).toNat := by decide
  rw [spl_app2, spl_free2 45 _ (pad_free 4 y 45 h45), spl_free2 45 _ (pad_free 2 m 45 h45)]
  rfl
theorem txt_core1 (y : Nat) : spl 45 (L (padB 4 (y : Int))) = [L (padB 4 (y : Int))] := spl_free2 45 _ (pad_free 4 y 45 (by decide))
theorem txt_mid {y m d : Int} {c : Bool} (h : goodD y m d c = true) (hy : y ≠ 0) : spl 45 (L (padB 4 y) ++ (if m > 0 then 45 :: L (padB 2 m) else []) ++ (if d > 0 then 45 :: L (padB 2 d) else [])) = (ptsD y m d).map L := by
  have hb := good_bds h hy
  obtain ⟨y', rfl⟩ : ∃ y' : Nat, y = (y' : Int) := ⟨y.toNat, by omega⟩
  obtain ⟨m', rfl⟩ : ∃ y' : Nat, m = (y' : Int) := ⟨m.toNat, by omega⟩
  obtain ⟨d', rfl⟩ : ∃ y' : Nat, d = (y' : Int) := ⟨d.toNat, by omega⟩
  unfold ptsD
  by_cases cm : (m' : Int) > 0
  · by_cases cd : (d' : Int) > 0
    · rw [if_pos cm, if_pos cd, if_pos cm, if_pos cd]; exact txt_core y' m' d'
    · rw [if_pos cm, if_neg cd, if_pos cm, if_neg cd, List.append_nil]; exact txt_core2 y' m'
  · have := good_md h hy cm
    rw [if_neg cm, if_neg (by omega), if_neg cm, List.append_nil, List.append_nil]; exact txt_core1 y'
theorem txt_parts {s : ByteArray} {y m d : Int} {c : Bool} (h : IsD s y m d c) : cirD s = c ∧ parts (restD s) = ptsD y m d := by
  obtain ⟨hy, hg, rfl⟩ := h
  have hb := good_bds hg hy
  have hL : L (txtD y m d c) = (if c = true then [99] else []) ++ (L (padB 4 y) ++ (if m > 0 then 45 :: L (padB 2 m) else []) ++ (if d > 0 then 45 :: L (padB 2 d) else [])) := by
    unfold txtD; rw [L_mk]; simp
  have hmid := txt_mid hg hy
  have back : ∀ l : List ByteArray, (l.map L).map mkB = l := by
    intro l
    rw [List.map_map]
    have : (mkB ∘ L) = id := by funext x; exact mk_L x
    rw [this, List.map_id]
  cases c with
  | true =>
    rw [if_pos rfl, List.cons_append, List.nil_append] at hL
    have hz : 1 ≤ (txtD y m d true).size := by rw [← L_len, hL, List.length_cons]; omega
    have h0 : bt (txtD y m d true) 0 = 99 := by
      have := bt_getD (txtD y m d true) 0 (by omega)
      rw [show ((0 : Nat) : Int) = 0 from rfl] at this
      rw [this, hL]; rfl
    have hc : cirD (txtD y m d true) = true := decide_eq_true ⟨hz, h0⟩
    refine ⟨hc, ?_⟩
    unfold parts restD
    rw [if_pos hc, L_extract, hL]
    simp only [List.drop_succ_cons, List.drop_zero]
    rw [List.take_of_length_le (by rw [← L_len, hL, List.length_cons]; omega), hmid, back]
  | false =>
    rw [if_neg (by simp), List.nil_append] at hL
    obtain ⟨y', rfl⟩ : ∃ y' : Nat, y = (y' : Int) := ⟨y.toNat, by omega⟩
    have hp := pad_pos 4 y'
    have h0 : bt (txtD y' m d false) 0 ≠ 99 := by
      have hz : 0 < (txtD y' m d false).size := by rw [← L_len, hL, List.length_append, List.length_append]; omega
      have := bt_getD (txtD y' m d false) 0 hz
      rw [show ((0 : Nat) : Int) = 0 from rfl] at this
      rw [this, hL]
      cases hq : L (padB 4 (y' : Int)) with
      | nil => rw [hq] at hp; simp at hp
      | cons b r =>
        have := pad_dig 4 y' b (by rw [hq]; exact List.mem_cons_self)
        show ((b.toNat : Nat) : Int) ≠ 99
        omega
    have hc : cirD (txtD y' m d false) = false := decide_eq_false (fun x => h0 x.2)
    refine ⟨hc, ?_⟩
    unfold parts restD
    rw [hc, if_neg (by simp), hL, hmid, back]
theorem txt_size {s : ByteArray} {y m d : Int} {c : Bool} (h : IsD s y m d c) : s.size ≤ 12 := by
  obtain ⟨hy, hg, rfl⟩ := h
  have hb := good_bds hg hy
  obtain ⟨y', rfl⟩ : ∃ y' : Nat, y = (y' : Int) := ⟨y.toNat, by omega⟩
  obtain ⟨m', rfl⟩ : ∃ y' : Nat, m = (y' : Int) := ⟨m.toNat, by omega⟩
  obtain ⟨d', rfl⟩ : ∃ y' : Nat, d = (y' : Int) := ⟨d.toNat, by omega⟩
  have a := pad_size 4 y' (by omega) (by omega)
  have b := pad_size2 m' (by omega)
  have e := pad_size2 d' (by omega)
  rw [← L_len] at a b e
  unfold txtD
  rw [size_mk]
  simp only [List.length_append]
  have q1 : (if c = true then ([99] : List UInt8) else []).length ≤ 1 := by split <;> simp
  have q2 : (if (m' : Int) > 0 then 45 :: L (padB 2 (m' : Int)) else []).length ≤ 3 := by
    split
    · rw [List.length_cons]; omega
    · simp
  have q3 : (if (d' : Int) > 0 then 45 :: L (padB 2 (d' : Int)) else []).length ≤ 3 := by
    split
    · rw [List.length_cons]; omega
    · simp
  omega
theorem rd_at (ps : List ByteArray) (i : Nat) (p : ByteArray) (r : List ByteArray) (h : ps.drop i = p :: r) : i < ps.length ∧ rdOf ByteArray.empty ps (i : Int) = p ∧ ps.drop (i + 1) = r := by
  have hl : i < ps.length := by
    rcases Nat.lt_or_ge i ps.length with q | q
    · exact q
    · rw [List.drop_of_length_le q] at h; cases h
  rw [List.drop_eq_getElem_cons hl] at h
  injection h with h1 h2
  refine ⟨hl, ?_, h2⟩
  unfold rdOf
  rw [show ((i : Int)).toNat = i by omega, List.getD_eq_getElem?_getD, List.getElem?_eq_getElem hl, h1]; rfl
def unkB : List UInt8 := [117, 110, 107, 110, 111, 119, 110]
theorem good_ev1 (y m d : Int) (c : Bool) : Ev (fun k => spec_l3Good.f k y m d c) (goodD y m d c) := ⟨2, fun k hk => by obtain ⟨k', rfl⟩ : ∃ k', k = k' + 2 := ⟨k - 2, by omega⟩; exact spec_good k' y m d c⟩
theorem good_ev2 (y m d : Int) (c : Bool) : Ev (fun k => impl_IsValidDate.f k y m d c) (goodD y m d c) := ⟨2, fun k hk => by obtain ⟨k', rfl⟩ : ∃ k', k = k' + 2 := ⟨k - 2, by omega⟩; exact impl_good k' y m d c⟩
theorem fin_spec (s : ByteArray) (y m d : Int) (c : Bool) (hy : y ≠ 0) : Ev (fun k => (spec_l3Good.f k y m d c).bind fun t242 => (if t242 = true then ((spec_l3Text.f k y m d c).bind fun t243 => (if t243.toList = s.toList then (some (y, m, d, c, true)) else (some (0, 0, 0, false, false)))) else (some (0, 0, 0, false, false)))) (finD s y m d c) := by
  have hg := good_ev1 y m d c
  cases h : goodD y m d c with
  | false =>
    rw [h] at hg
    exact Ev.bind hg (ev_neg (by simp) (ev_eq (Ev.now _) (if_neg (fun x => by rw [h] at x; exact absurd x.2.1 (by simp))).symm))
  | true =>
    rw [h] at hg
    have hb := good_bds h hy
    refine Ev.bind hg (ev_pos rfl (Ev.bind (spec_txt y m d c ⟨hb.1, hb.2.1⟩ ⟨hb.2.2.1, hb.2.2.2.1⟩ hb.2.2.2.2) ?_))
    by_cases e : (txtD y m d c).toList = s.toList
    · exact ev_pos e (ev_eq (Ev.now _) (if_pos ⟨hy, h, e⟩).symm)
    · exact ev_neg e (ev_eq (Ev.now _) (if_neg (fun x => e x.2.2)).symm)
theorem fin_impl (s : ByteArray) (hs : ¬ s.toList = unkB) (y m d : Int) (c : Bool) : Ev (fun k => (impl_IsValidDate.f k y m d c).bind fun t275 => (if t275 = true then ((impl_formatDate.f k y m d c).bind fun t276 => (if t276.toList = s.toList then (some (y, m, d, c, true)) else (some (0, 0, 0, false, false)))) else (some (0, 0, 0, false, false)))) (finD s y m d c) := by
  have hg := good_ev2 y m d c
  cases h : goodD y m d c with
  | false =>
    rw [h] at hg
    exact Ev.bind hg (ev_neg (by simp) (ev_eq (Ev.now _) (if_neg (fun x => by rw [h] at x; exact absurd x.2.1 (by simp))).symm))
  | true =>
    rw [h] at hg
    by_cases hy : y = 0
    · refine Ev.bind hg (ev_pos rfl (Ev.bind (a := (⟨#[117, 110, 107, 110, 111, 119, 110]⟩ : ByteArray)) (by unfold impl_formatDate.f; exact ev_pos hy (Ev.now _)) (ev_neg (fun e => hs ?_) (ev_eq (Ev.now _) (if_neg (fun x => x.1 hy)).symm))))
      rw [← e, toList_L]; rfl
    · have hb := good_bds h hy
      refine Ev.bind hg (ev_pos rfl (Ev.bind (impl_txt y m d c ⟨hb.1, hb.2.1⟩ ⟨hb.2.2.1, hb.2.2.2.1⟩ hb.2.2.2.2) ?_))
      by_cases e : (txtD y m d c).toList = s.toList
      · exact ev_pos e (ev_eq (Ev.now _) (if_pos ⟨hy, h, e⟩).symm)
      · exact ev_neg e (ev_eq (Ev.now _) (if_neg (fun x => e x.2.2)).symm)
def fillS : List ByteArray → Nat → List Int → List Int
  | [], _, xs => xs
  | p :: r, i, xs => fillS r (i + 1) (xs.set i (numS p))
theorem ar_l1 (n : Int) (b q : Nat) (hq : q ≤ 1000) (hb : b < 256) (hn : n.natAbs + 29 ≤ 29 * q) : wrap64 (wrap64 (wrap64 (10 * n) + wrap64 (b : Int)) - 48) = 10 * n + (b : Int) - 48 ∧ (10 * n + (b : Int) - 48).natAbs + 29 ≤ 29 * (q * 10) := by
  have h1 : -30000 ≤ n ∧ n ≤ 30000 := by omega
  refine ⟨?_, by omega⟩
  clear hn hq
  rw [w64 (x := 10 * n) (by omega) (by omega), w64 (x := (b : Int)) (by omega) (by omega), w64 (x := 10 * n + (b : Int)) (by omega) (by omega), w64 (by omega) (by omega)]
def bdL (n : Int) (j : Nat) : Prop := n.natAbs + 29 ≤ 29 * 10 ^ j
theorem bd_step {n : Int} {b j : Nat} (hj : j ≤ 3) (hb : b < 256) (h : bdL n j) : wrap64 (wrap64 (wrap64 (10 * n) + wrap64 (b : Int)) - 48) = 10 * n + (b : Int) - 48 ∧ bdL (10 * n + (b : Int) - 48) (j + 1) := by
  have hpw : 10 ^ j ≤ 1000 := Nat.le_trans (Nat.pow_le_pow_right (by omega) hj) (by decide)
  unfold bdL at h ⊢
  rw [Nat.pow_succ]
  exact ar_l1 n b _ hpw hb h
theorem spec_l1 (s : ByteArray) (ps : List ByteArray) (xs : List Int) (i : Nat) (c : Bool) (p : ByteArray) (hi : i < ps.length) (hx : i < xs.length) (h3 : ps.length ≤ 3) (hp : rdOf ByteArray.empty ps (i : Int) = p) (h4 : p.size ≤ 4) {r : Dt}
    (h : Ev (fun k => spec_l3Parse.l0 k s ps (xs.set i (valS 0 (L p))) ((i + 1 : Nat) : Int) 0 0 0 c) r) (q : Nat) : ∀ (j : Nat) (n : Int), j ≤ p.size → p.size - j = q → bdL n j → valS n ((L p).drop j) = valS 0 (L p) →
    Ev (fun k => spec_l3Parse.l1 k s ps xs (i : Int) n (j : Int) 0 0 0 c) r := by
  have hL := L_len p
  have hw : wrap64 ((i : Int) + 1) = ((i + 1 : Nat) : Int) := by rw [w64 (by omega) (by omega)]; rfl
  induction q with
  | zero =>
    intro j n h1 h2 hb hv
    rw [List.drop_of_length_le (by omega)] at hv
    refine Ev.step (fun k => ?_) h
    simp only [spec_l3Parse.l1]
    rw [hp, if_pos (by omega), if_pos (by omega), if_neg (by omega), if_pos (by omega), hw]
    rw [show n = valS 0 (L p) from hv]
    rfl
  | succ q ih =>
    intro j n h1 h2 hb hv
    have hj : j < p.size := by omega
    have hj' : j < (L p).length := by omega
    have hr := ((L p)[j]).toNat_lt
    have hbt := bt_get p j hj
    rw [List.drop_eq_getElem_cons hj'] at hv
    have hv' : valS (10 * n + (((L p)[j]).toNat : Int) - 48) ((L p).drop (j + 1)) = valS 0 (L p) := hv
    have g1 : (0 : Int) ≤ (i : Int) := by omega
    have g2 : (i : Int) < (ps.length : Int) := by omega
    have g3 : (j : Int) < (p.size : Int) := by omega
    have g4 : (p.size : Int) ≤ 4 := by omega
    have g5 : (0 : Int) ≤ (j : Int) := by omega
    have g6 : j + 1 ≤ p.size := hj
    have g7 : p.size - (j + 1) = q := by omega
    have g8 : j ≤ 3 := by omega
    have hw2 : wrap64 ((j : Int) + 1) = ((j + 1 : Nat) : Int) := by rw [w64 (by omega) (by omega)]; rfl
    have ar := bd_step g8 hr hb
    refine Ev.step (fun k => ?_) (ih (j + 1) (10 * n + (((L p)[j]).toNat : Int) - 48) g6 g7 ar.2 hv')
    simp only [spec_l3Parse.l1]
    rw [hp, if_pos g1, if_pos g2, if_pos g3, if_pos g4, if_pos g5, hbt, ar.1, hw2]
theorem spec_l0 (s : ByteArray) (ps : List ByteArray) (c : Bool) (h3 : ps.length ≤ 3) (r : List ByteArray) : ∀ (i : Nat) (xs : List Int), ps.drop i = r → i ≤ ps.length → xs.length = 3 →
    Ev (fun k => spec_l3Parse.l0 k s ps xs (i : Int) 0 0 0 c) (if rd (fillS r i xs) 0 = 0 then noD else finD s (rd (fillS r i xs) 0) (rd (fillS r i xs) 1) (rd (fillS r i xs) 2) c) := by
  induction r with
  | nil =>
    intro i xs h1 h2 hx
    have hi : i = ps.length := by have := congrArg List.length h1; rw [List.length_drop] at this; simp at this; omega
    show Ev _ (if rd xs 0 = 0 then noD else finD s (rd xs 0) (rd xs 1) (rd xs 2) c)
    by_cases z : rd xs 0 = 0
    · rw [if_pos z]
      refine Ev.step (f := fun _ => some noD) (fun k => ?_) (Ev.now _)
      simp only [spec_l3Parse.l0]
      rw [if_neg (by omega), if_pos (by omega), if_pos (by omega), if_pos (by omega), if_pos z]; rfl
    · rw [if_neg z]
      refine Ev.step (fun k => ?_) (fin_spec s (rd xs 0) (rd xs 1) (rd xs 2) c z)
      simp only [spec_l3Parse.l0]
      rw [if_neg (by omega), if_pos (by omega), if_pos (by omega), if_pos (by omega), if_neg z]
  | cons p r ih =>
    intro i xs h1 h2 hx
    obtain ⟨hl, hp, hd⟩ := rd_at ps i p r h1
    have hw : wrap64 ((i : Int) + 1) = ((i + 1 : Nat) : Int) := by rw [w64 (by omega) (by omega)]; rfl
    have hn := ih (i + 1) (xs.set i (numS p)) hd (by omega) (by rw [List.length_set]; exact hx)
    show Ev _ (if rd (fillS r (i + 1) (xs.set i (numS p))) 0 = 0 then noD else finD s (rd (fillS r (i + 1) (xs.set i (numS p))) 0) (rd (fillS r (i + 1) (xs.set i (numS p))) 1) (rd (fillS r (i + 1) (xs.set i (numS p))) 2) c)
    refine Ev.step (f := fun k => spec_l3Parse.l1 k s ps xs (i : Int) 0 ((0 : Nat) : Int) 0 0 0 c) (fun k => ?_) ?_
    · simp only [spec_l3Parse.l0]
      rw [if_pos (by omega)]; rfl
    · by_cases h4 : p.size ≤ 4
      · have e : numS p = valS 0 (L p) := if_pos h4
        rw [e] at hn ⊢
        exact spec_l1 s ps xs i c p hl (by omega) h3 hp h4 hn _ 0 0 (by omega) rfl (by unfold bdL; decide) (by rw [List.drop_zero])
      · have e : numS p = 0 := if_neg h4
        rw [e] at hn ⊢
        refine Ev.step (fun k => ?_) hn
        simp only [spec_l3Parse.l1]
        rw [hp, if_pos (by omega), if_pos (by omega), if_pos (by omega), if_neg (by omega), if_pos (by omega), hw]
        rfl
def specD (s : ByteArray) : Dt :=
  if 3 < (parts (restD s)).length then noD else
  if rd (fillS (parts (restD s)) 0 [0, 0, 0]) 0 = 0 then noD else finD s (rd (fillS (parts (restD s)) 0 [0, 0, 0]) 0) (rd (fillS (parts (restD s)) 0 [0, 0, 0]) 1) (rd (fillS (parts (restD s)) 0 [0, 0, 0]) 2) (cirD s)
theorem spec_pj1 (s t : ByteArray) (c : Bool) (hs : t.size ≤ 1048576) : Ev (fun k => spec_l3Parse.j1 k s t 0 0 0 c) (if 3 < (parts t).length then noD else if rd (fillS (parts t) 0 [0, 0, 0]) 0 = 0 then noD else finD s (rd (fillS (parts t) 0 [0, 0, 0]) 0) (rd (fillS (parts t) 0 [0, 0, 0]) 1) (rd (fillS (parts t) 0 [0, 0, 0]) 2) c) := by
  have hsp : Ev (fun k => spec_l1Split.f k t 45) (parts t) := split_ev t 45 (by omega)
  by_cases h3 : 3 < (parts t).length
  · rw [if_pos h3]
    refine Ev.step (f := fun k => (spec_l1Split.f k t 45).bind fun t228 => (if (t228.length : Int) > 3 then (some (0, 0, 0, false, false)) else (spec_l3Parse.l0 k s t228 (([0, 0, 0] : List Int)) 0 0 0 0 c))) (fun k => ?_) (Ev.bind hsp (ev_pos (show ((parts t).length : Int) > 3 by omega) (Ev.now noD)))
    simp only [spec_l3Parse.j1]
  · rw [if_neg h3]
    refine Ev.step (f := fun k => (spec_l1Split.f k t 45).bind fun t228 => (if (t228.length : Int) > 3 then (some (0, 0, 0, false, false)) else (spec_l3Parse.l0 k s t228 (([0, 0, 0] : List Int)) 0 0 0 0 c))) (fun k => ?_) (Ev.bind hsp (ev_neg (show ¬ ((parts t).length : Int) > 3 by omega) (spec_l0 s (parts t) c (by omega) (parts t) 0 [0, 0, 0] (List.drop_zero) (by omega) rfl)))
    simp only [spec_l3Parse.j1]
theorem spec_parseD (s : ByteArray) (hs : s.size ≤ 1048576) (hu : ¬ s.toList = unkB) : Ev (fun k => spec_l3Parse.f k s) (specD s) := by
  have a := size_pos_iff s
  unfold spec_l3Parse.f
  refine ev_neg hu ?_
  unfold specD restD
  by_cases c : cirD s = true
  · have hc := of_decide_eq_true c
    rw [if_pos c, c]
    refine ev_neg (fun e => by rw [toList_L] at e; have := a.2 e; omega) (ev_pos (by omega) (Ev.step (fun k => ?_) (spec_pj1 s (s.extract 1 s.size) true (by rw [ByteArray.size_extract]; omega))))
    simp only [spec_l3Parse.j0]
    rw [if_pos (by rw [hc.2]; rfl), if_pos (by omega)]
  · have hc := of_decide_eq_false (Bool.eq_false_iff.2 c)
    rw [if_neg c, Bool.eq_false_iff.2 c]
    by_cases e : s.toList = []
    · refine ev_pos e (Ev.step (fun k => ?_) (spec_pj1 s s false hs))
      simp only [spec_l3Parse.j0]
      rw [if_neg (by simp)]
    · have hz : 1 ≤ s.size := by
        rcases Nat.lt_or_ge 0 s.size with q | q
        · exact q
        · exact absurd ((toList_L s).trans (a.1 (by omega))) e
      refine ev_neg e (ev_pos (by omega) (Ev.step (fun k => ?_) (spec_pj1 s s false hs)))
      simp only [spec_l3Parse.j0]
      rw [if_neg (fun x => hc ⟨hz, by simpa using x⟩)]
theorem specD_yes {s : ByteArray} {y m d : Int} {c : Bool} (h : IsD s y m d c) : specD s = (y, m, d, c, true) := by
  obtain ⟨hc, hp⟩ := txt_parts h
  have hf := finD_yes h
  obtain ⟨hy, hg, hs⟩ := h
  have hb := good_bds hg hy
  unfold specD
  rw [hc, hp]
  obtain ⟨y', rfl⟩ : ∃ y' : Nat, y = (y' : Int) := ⟨y.toNat, by omega⟩
  obtain ⟨m', rfl⟩ : ∃ y' : Nat, m = (y' : Int) := ⟨m.toNat, by omega⟩
  obtain ⟨d', rfl⟩ : ∃ y' : Nat, d = (y' : Int) := ⟨d.toNat, by omega⟩
  have ny := pad_num 4 y' (by omega) (by omega)
  have nm := pad_num 2 m' (by omega) (by omega)
  have nd := pad_num 2 d' (by omega) (by omega)
  unfold ptsD
  by_cases cm : (m' : Int) > 0
  · by_cases cd : (d' : Int) > 0
    · rw [if_pos cm, if_pos cd, if_neg (by simp)]
      have e : fillS [padB 4 (y' : Int), padB 2 (m' : Int), padB 2 (d' : Int)] 0 [0, 0, 0] = [(y' : Int), (m' : Int), (d' : Int)] := by simp only [fillS, ny, nm, nd]; rfl
      rw [e]
      exact (if_neg hy).trans hf
    · have d0 : (d' : Int) = 0 := by omega
      rw [if_pos cm, if_neg cd, if_neg (by simp)]
      have e : fillS [padB 4 (y' : Int), padB 2 (m' : Int)] 0 [0, 0, 0] = [(y' : Int), (m' : Int), (d' : Int)] := by simp only [fillS, ny, nm, d0]; rfl
      rw [e]
      exact (if_neg hy).trans hf
  · have h0 := good_md hg hy cm
    rw [if_neg cm, if_neg (by simp)]
    have e : fillS [padB 4 (y' : Int)] 0 [0, 0, 0] = [(y' : Int), (m' : Int), (d' : Int)] := by simp only [fillS, ny, h0.1, h0.2]; rfl
    rw [e]
    exact (if_neg hy).trans hf
theorem specD_no {s : ByteArray} (h : ∀ y m d c, ¬ IsD s y m d c) : specD s = noD := by
  unfold specD
  split
  · rfl
  · split
    · rfl
    · exact finD_no h _ _ _ _
def implS (s : ByteArray) (c : Bool) : List ByteArray → Nat → Int → Int → Int → Dt
  | [], _, y, m, d => finD s y m d c
  | p :: r, i, y, m, d => match atoB p with
    | none => noD
    | some n => if 2 < i then noD else implS s c r (i + 1) (if i = 0 then n else y) (if i = 1 then n else m) (if i = 2 then n else d)
theorem impl_l0 (s : ByteArray) (hs : ¬ s.toList = unkB) (ps : List ByteArray) (c : Bool) (h3 : ps.length ≤ 1000) (hz : ∀ p ∈ ps, p.size ≤ 18) (r : List ByteArray) : ∀ (i : Nat) (y m d : Int), ps.drop i = r → i ≤ ps.length →
    Ev (fun k => impl_ParseDate.l0 k s ps (ps.length : Int) (i : Int) y m d c) (implS s c r i y m d) := by
  induction r with
  | nil =>
    intro i y m d h1 h2
    have hi : i = ps.length := by have := congrArg List.length h1; rw [List.length_drop] at this; simp at this; omega
    refine Ev.step (fun k => ?_) (fin_impl s hs y m d c)
    simp only [impl_ParseDate.l0]
    rw [if_neg (by omega)]
  | cons p r ih =>
    intro i y m d h1 h2
    obtain ⟨hl, hp, hd⟩ := rd_at ps i p r h1
    have hw : wrap64 ((i : Int) + 1) = ((i + 1 : Nat) : Int) := by rw [w64 (by omega) (by omega)]; rfl
    have hm : p ∈ ps := List.mem_of_mem_drop (by rw [h1]; exact List.mem_cons_self)
    have hq := hz p hm
    have ha : Lib.atoi p.data.toList = atoB p := rfl
    cases e : atoB p with
    | none =>
      refine ev_eq (Ev.step (f := fun k => impl_ParseDate.j1 k s (i : Int) 0 ps (ps.length : Int) (i : Int) true y m d c) (fun k => ?_) (Ev.step (f := fun _ => some noD) (fun k => ?_) (Ev.now _))) ?_
      · simp only [impl_ParseDate.l0]
        rw [if_pos (by omega), if_pos (by omega), if_pos (by omega), hp]
        unfold strconv_Atoi.f
        rw [if_pos hq, ha, e]; rfl
      · simp [impl_ParseDate.j1, noD]
      · simp only [implS, e]
    | some n =>
      have st : ∀ k, impl_ParseDate.l0 (k + 1) s ps (ps.length : Int) (i : Int) y m d c = impl_ParseDate.j1 k s (i : Int) n ps (ps.length : Int) (i : Int) (decide ((i : Int) > 2)) y m d c := by
        intro k
        simp only [impl_ParseDate.l0]
        rw [if_pos (by omega), if_pos (by omega), if_pos (by omega), hp]
        unfold strconv_Atoi.f
        rw [if_pos hq, ha, e]; rfl
      by_cases h2i : 2 < i
      · refine ev_eq (Ev.step st (Ev.step (f := fun _ => some noD) (fun k => ?_) (Ev.now _))) ?_
        · have g1 : decide ((i : Int) > 2) = true := decide_eq_true (by omega)
          rw [g1]; simp [impl_ParseDate.j1, noD]
        · simp only [implS, e, if_pos h2i]
      · have hn := fun a b f => ih (i + 1) a b f hd (by omega)
        have e2 : implS s c (p :: r) i y m d = implS s c r (i + 1) (if i = 0 then n else y) (if i = 1 then n else m) (if i = 2 then n else d) := by simp only [implS, e, if_neg h2i]
        rw [e2]
        refine Ev.step st (Ev.step (fun k => ?_) (hn _ _ _))
        simp only [impl_ParseDate.j1]
        rw [if_neg (by simp; omega), hw]
        have : i = 0 ∨ i = 1 ∨ i = 2 := by omega
        rcases this with rfl | rfl | rfl
        · rw [if_pos rfl]; rfl
        · rw [if_neg (by decide), if_pos rfl]; rfl
        · rw [if_neg (by decide), if_neg (by decide), if_pos rfl]; rfl
def implD (s : ByteArray) : Dt := if 12 < s.size then noD else implS s (cirD s) (parts (restD s)) 0 0 0 0
theorem implS_no {s : ByteArray} (h : ∀ y m d c, ¬ IsD s y m d c) (c : Bool) (r : List ByteArray) : ∀ i y m d, implS s c r i y m d = noD := by
  induction r with
  | nil => intro i y m d; exact finD_no h _ _ _ _
  | cons p r ih =>
    intro i y m d
    simp only [implS]
    cases atoB p with
    | none => rfl
    | some n =>
      show (if 2 < i then noD else _) = noD
      split
      · rfl
      · exact ih _ _ _ _
theorem implD_no {s : ByteArray} (h : ∀ y m d c, ¬ IsD s y m d c) : implD s = noD := by
  unfold implD
  split
  · rfl
  · exact implS_no h _ _ _ _ _ _
theorem implD_yes {s : ByteArray} {y m d : Int} {c : Bool} (h : IsD s y m d c) : implD s = (y, m, d, c, true) := by
  obtain ⟨hc, hp⟩ := txt_parts h
  have hz := txt_size h
  have hf := finD_yes h
  obtain ⟨hy, hg, hs⟩ := h
  have hb := good_bds hg hy
  unfold implD
  rw [if_neg (by omega), hc, hp]
  obtain ⟨y', rfl⟩ : ∃ y' : Nat, y = (y' : Int) := ⟨y.toNat, by omega⟩
  obtain ⟨m', rfl⟩ : ∃ y' : Nat, m = (y' : Int) := ⟨m.toNat, by omega⟩
  obtain ⟨d', rfl⟩ : ∃ y' : Nat, d = (y' : Int) := ⟨d.toNat, by omega⟩
  have ny := pad_ato 4 y'
  have nm := pad_ato 2 m'
  have nd := pad_ato 2 d'
  unfold ptsD
  by_cases cm : (m' : Int) > 0
  · by_cases cd : (d' : Int) > 0
    · rw [if_pos cm, if_pos cd]
      simp only [implS, ny, nm, nd]
      exact hf
    · have d0 : (d' : Int) = 0 := by omega
      rw [if_pos cm, if_neg cd]
      simp only [implS, ny, nm]
      rw [d0] at hf
      rw [d0]
      exact hf
  · have h0 := good_md hg hy cm
    rw [if_neg cm]
    simp only [implS, ny]
    rw [h0.1, h0.2] at hf
    rw [h0.1, h0.2]
    exact hf
theorem parts_size (t : ByteArray) : ∀ p ∈ parts t, p.size ≤ t.size := by
  intro p hp
  unfold parts at hp
  obtain ⟨q, hq, rfl⟩ := List.mem_map.1 hp
  rw [size_mk, ← L_len t]
  exact spl_len2 45 (L t) q hq
theorem parts_len (t : ByteArray) : (parts t).length ≤ t.size + 1 := by
  unfold parts
  rw [List.length_map, ← L_len t]
  exact spl_length 45 (L t)
theorem rest_size (s : ByteArray) : (restD s).size ≤ s.size := by
  unfold restD
  split
  · rw [ByteArray.size_extract]; omega
  · exact Nat.le_refl _
theorem cut_ev (s : ByteArray) : strings_CutPrefix.f s (⟨#[99]⟩ : ByteArray) = some (restD s, cirD s) := by
  have h1 : (⟨#[99]⟩ : ByteArray).size = 1 := rfl
  have h9 : (⟨#[99]⟩ : ByteArray).toList = [99] := toList_L _
  unfold strings_CutPrefix.f stringslite_CutPrefix.f stringslite_HasPrefix.f
  rw [h1, h9]
  by_cases hz : 1 ≤ s.size
  · rw [if_pos (by omega), if_pos (by omega), if_pos (by omega)]
    have hb := bt_getD s 0 (by omega)
    rw [show ((0 : Nat) : Int) = 0 from rfl] at hb
    have hx : (s.extract 0 (((1 : Nat) : Int)).toNat).toList = (L s).take 1 := by rw [toList_L, L_extract]; rfl
    rw [hx]
    cases hq : L s with
    | nil => have := L_len s; rw [hq] at this; simp at this; omega
    | cons b r =>
      rw [hq] at hb
      have hb' : bt s 0 = (b.toNat : Int) := hb
      by_cases e : b = 99
      · subst e
        have hc : cirD s = true := decide_eq_true ⟨hz, hb'⟩
        have hr : restD s = s.extract 1 s.size := if_pos hc
        rw [hr, hc]
        simp only [Option.bind_some, List.take_succ_cons, List.take_zero]
        rw [if_pos (show (([99] : List UInt8) == [99]) = true from rfl), if_pos (show (0 : Int) ≤ ((1 : Nat) : Int) by omega), if_pos (show ((1 : Nat) : Int) ≤ (s.size : Int) by omega)]
        rfl
      · have hc : cirD s = false := decide_eq_false (fun x => e (u8_inj (by rw [← hb', x.2]; rfl)))
        have hr : restD s = s := if_neg (by rw [hc]; simp)
        rw [hr, hc]
        simp only [Option.bind_some, List.take_succ_cons, List.take_zero]
        rw [if_neg (show ¬ (([b] : List UInt8) == [99]) = true by simpa using e)]
        rfl
  · have hc : cirD s = false := decide_eq_false (fun x => hz x.1)
    have hr : restD s = s := if_neg (by rw [hc]; simp)
    rw [if_neg (by omega), hr, hc]
    simp only [Option.bind_some]
    rw [if_neg (by simp)]
    rfl
theorem impl_parseD (s : ByteArray) (hu : ¬ s.toList = unkB) : Ev (fun k => impl_ParseDate.f k s) (implD s) := by
  unfold impl_ParseDate.f
  refine ev_neg hu ?_
  unfold implD
  by_cases h12 : 12 < s.size
  · rw [if_pos h12]; exact ev_pos (by omega) (Ev.now _)
  · rw [if_neg h12]
    have hr := rest_size s
    have hl := parts_len (restD s)
    have hsp : strings_Split.f (restD s) (⟨#[45]⟩ : ByteArray) = some (parts (restD s)) := by
      have e := splitB_eq 45 (restD s)
      have e' : Lib.splitB (⟨#[45]⟩ : ByteArray) 0 (Lib.countB (restD s) (⟨#[45]⟩ : ByteArray)) (restD s) = parts (restD s) := e
      unfold strings_Split.f
      have hn : (Lib.splitB (⟨#[45]⟩ : ByteArray) 0 (Lib.countB (restD s) (⟨#[45]⟩ : ByteArray)) (restD s)).length = Lib.countB (restD s) (⟨#[45]⟩ : ByteArray) + 1 := Lib.splitB_all (⟨#[45]⟩ : ByteArray) (by decide) 0 _ (restD s) rfl
      have hn2 := hn
      rw [e'] at hn2
      rw [if_pos ⟨by omega, by decide, hn, by omega⟩, e']
    refine ev_neg (by omega) (ev_bind0 (cut_ev s) (ev_bind0 hsp ?_))
    exact impl_l0 s hu (parts (restD s)) (cirD s) (by omega) (fun p hp => by have := parts_size (restD s) p hp; omega) (parts (restD s)) 0 0 0 0 (List.drop_zero) (by omega)
theorem parse_sameD (s : ByteArray) : implD s = specD s := by
  by_cases h : ∃ y m d c, IsD s y m d c
  · obtain ⟨y, m, d, c, h⟩ := h
    rw [implD_yes h, specD_yes h]
  · have h' : ∀ y m d c, ¬ IsD s y m d c := fun y m d c hh => h ⟨y, m, d, c, hh⟩
    rw [implD_no h', specD_no h']
theorem parse_both (s : ByteArray) (hs : s.size ≤ 1048576) : ∃ r : Dt, Ev (fun k => spec_ParseDate.f k s) r ∧ Ev (fun k => impl_ParseDate.f k s) r := by
  by_cases hu : s.toList = unkB
  · refine ⟨(0, 0, 0, false, true), ?_, ?_⟩
    · unfold spec_ParseDate.f
      exact Ev.bind (a := ((0, 0, 0, false, true) : Dt)) (by unfold spec_l3Parse.f; exact ev_pos hu (Ev.now _)) (Ev.now _)
    · unfold impl_ParseDate.f
      exact ev_pos hu (Ev.now _)
  · refine ⟨specD s, ?_, ev_eq (impl_parseD s hu) (parse_sameD s)⟩
    unfold spec_ParseDate.f
    exact Ev.bind (spec_parseD s hs hu) (Ev.now _)
end Go.Proofs.YtmjmjfkjlblgaaaDoor.G

namespace Go.Proofs.YtmjmjfkjlblgaaaDoor.Pure
open Go.RowKit Go.Proofs.YtmjmjfkjlblgaaaDoor.G Go.Proofs.YtmjmjfkjlblgaaaDoorW.PrintWords Go.Proofs.YtmjmjfkjlblgaaaDoorW.PrintLast Go.Proofs.YtmjmjfkjlblgaaaDoor.B Go.Proofs.YtmjmjfkjlblgaaaDoor.Opn
set_option linter.unusedVariables false
set_option linter.unusedSimpArgs false
theorem FnExactParseDate : laws_FnExactParseDate.Pur := by
  intro s hs
  apply Ev.rounds
  unfold laws_FnExactParseDate.f
  by_cases c : (s.size : Int) > 1048576
  · exact ev_pos c (Ev.now _)
  · refine ev_neg c ?_
    obtain ⟨⟨y, m, d, ci, ok⟩, h1, h2⟩ := parse_both s (by omega)
    refine Ev.bind h1 (Ev.bind h2 (ev_bind0 (a := true) ?_ (ev_pos rfl (ev_neg (by simp) (Ev.now _)))))
    unfold laws_eqDate.f
    rw [if_pos rfl, if_pos rfl, if_pos rfl, if_neg (by simp)]
end Go.Proofs.YtmjmjfkjlblgaaaDoor.Pure
