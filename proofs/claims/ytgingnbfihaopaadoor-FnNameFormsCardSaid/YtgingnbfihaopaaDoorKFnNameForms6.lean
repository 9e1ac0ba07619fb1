/- Texts of this session for the law FnNameForms, put together by a program (merge.py): each ends with its namespace; conditions stand with each theorem. -/
import Derived.Test.YtgingnbfihaopaaDoorKFnNameForms2
import Derived.Test.YtgingnbfihaopaaDoorKFnNameForms3
import Derived.Test.YtgingnbfihaopaaDoorKFnNameForms5
import Derived.Test.YtgingnbfihaopaaDoorKFnNameForms4
namespace Go.Proofs.YtgingnbfihaopaaDoor.G
open Go.RowKit Go.Proofs.YtgingnbfihaopaaDoorW.PrintWords Go.Proofs.YtgingnbfihaopaaDoorW.PrintLast Go.Proofs.YtgingnbfihaopaaDoorW.PrintMore
open Go.Proofs.YtgingnbfihaopaaDoor.Gl Go.Proofs.YtgingnbfihaopaaDoor.Ext
attribute [local go_sem] max2_int min2_int max_two min_two max_three min_three max_four min_four   -- for this text's walks alone
set_option linter.unusedVariables false
set_option linter.unusedSimpArgs false

/-! ### spec_l2Parse: function 66 -/
mutual
def spec_l2Parse.j0 : Nat → ByteArray → List ByteArray → Bool → ByteArray → ByteArray → ByteArray → Option (List ByteArray × ByteArray × ByteArray × ByteArray × Bool)
 | 0, _, _, _, _, _, _ => none
 | k + 1, x0, x4, x64, x461001, x461002, x461003 => if x64 = true then (some (([] : List ByteArray), (⟨#[]⟩ : ByteArray), (⟨#[]⟩ : ByteArray), (⟨#[]⟩ : ByteArray), false)) else (if (x4.length : Int) > 1 then (if 1 < (x4.length : Int) then (spec_l2Parse.j1 k x0 x4 (decide (((rdOf ByteArray.empty x4 1).size : Int) > 1)) x461001 x461002 x461003) else (none)) else (spec_l2Parse.j1 k x0 x4 false x461001 x461002 x461003))
def spec_l2Parse.j1 : Nat → ByteArray → List ByteArray → Bool → ByteArray → ByteArray → ByteArray → Option (List ByteArray × ByteArray × ByteArray × ByteArray × Bool)
 | 0, _, _, _, _, _, _ => none
 | k + 1, x0, x4, x75, x461001, x461002, x461003 => if x75 = true then (if 1 < (x4.length : Int) then (if 1 ≤ ((rdOf ByteArray.empty x4 1).size : Int) then ((spec_l1Split.f k ((rdOf ByteArray.empty x4 1).extract 1 (rdOf ByteArray.empty x4 1).size) 32).bind fun t469 => (spec_l2Parse.j2 k x0 x4 t469 x461001 x461002 x461003)) else (none)) else (none)) else (spec_l2Parse.j2 k x0 x4 ([] : List ByteArray) x461001 x461002 x461003)
def spec_l2Parse.j2 : Nat → ByteArray → List ByteArray → List ByteArray → ByteArray → ByteArray → ByteArray → Option (List ByteArray × ByteArray × ByteArray × ByteArray × Bool)
 | 0, _, _, _, _, _, _ => none
 | k + 1, x0, x4, x461000, x461001, x461002, x461003 => if (x4.length : Int) > 2 then (if 2 < (x4.length : Int) then (if 1 ≤ ((rdOf ByteArray.empty x4 2).size : Int) then (spec_l2Parse.j3 k x0 x461000 x461001 x461002 ((rdOf ByteArray.empty x4 2).extract 1 (rdOf ByteArray.empty x4 2).size)) else (none)) else (none)) else (spec_l2Parse.j3 k x0 x461000 x461001 x461002 x461003)
def spec_l2Parse.j3 : Nat → ByteArray → List ByteArray → ByteArray → ByteArray → ByteArray → Option (List ByteArray × ByteArray × ByteArray × ByteArray × Bool)
 | 0, _, _, _, _, _ => none
 | k + 1, x0, x461000, x461001, x461002, x461003 => (spec_l2Good.f k x461000 x461001 x461002 x461003).bind fun t473 => (if t473 = true then ((spec_l2Inverse.f k x461000 x461001 x461002 x461003).bind fun t474 => (if t474.toList = x0.toList then (some (x461000, x461001, x461002, x461003, true)) else (some (([] : List ByteArray), (⟨#[]⟩ : ByteArray), (⟨#[]⟩ : ByteArray), (⟨#[]⟩ : ByteArray), false)))) else (some (([] : List ByteArray), (⟨#[]⟩ : ByteArray), (⟨#[]⟩ : ByteArray), (⟨#[]⟩ : ByteArray), false)))
end
def spec_l2Parse.f (k : Nat) (a0 : ByteArray) : Option (List ByteArray × ByteArray × ByteArray × ByteArray × Bool) := (spec_l1Split.f k a0 44).bind fun t447 => (if 0 < (t447.length : Int) then ((spec_l1Split.f k (rdOf ByteArray.empty t447 0) 32).bind fun t451 => (if 0 ≤ (wrap64 ((t451.length : Int) - 1)) then (if (wrap64 ((t451.length : Int) - 1)) < (t451.length : Int) then (if (wrap64 ((t451.length : Int) - 1)) ≤ (t451.length : Int) then ((spec_l2Join.f k (t451.take ((wrap64 ((t451.length : Int) - 1)) : Int).toNat)).bind fun t459 => (if (t447.length : Int) > 3 then (spec_l2Parse.j0 k a0 t447 true t459 (rdOf ByteArray.empty t451 (wrap64 ((t451.length : Int) - 1))) (⟨#[]⟩ : ByteArray)) else (if (t447.length : Int) > 1 then (if 1 < (t447.length : Int) then (if (rdOf ByteArray.empty t447 1).toList = ([] : List UInt8) then (spec_l2Parse.j0 k a0 t447 true t459 (rdOf ByteArray.empty t451 (wrap64 ((t451.length : Int) - 1))) (⟨#[]⟩ : ByteArray)) else (if 0 < ((rdOf ByteArray.empty t447 1).size : Int) then (if (bt (rdOf ByteArray.empty t447 1) 0) = 32 then (if (t447.length : Int) > 2 then (if 2 < (t447.length : Int) then (if (rdOf ByteArray.empty t447 2).toList = ([] : List UInt8) then (spec_l2Parse.j0 k a0 t447 true t459 (rdOf ByteArray.empty t451 (wrap64 ((t451.length : Int) - 1))) (⟨#[]⟩ : ByteArray)) else (if 0 < ((rdOf ByteArray.empty t447 2).size : Int) then (spec_l2Parse.j0 k a0 t447 ((bt (rdOf ByteArray.empty t447 2) 0) != 32) t459 (rdOf ByteArray.empty t451 (wrap64 ((t451.length : Int) - 1))) (⟨#[]⟩ : ByteArray)) else (none))) else (none)) else (spec_l2Parse.j0 k a0 t447 false t459 (rdOf ByteArray.empty t451 (wrap64 ((t451.length : Int) - 1))) (⟨#[]⟩ : ByteArray))) else (spec_l2Parse.j0 k a0 t447 true t459 (rdOf ByteArray.empty t451 (wrap64 ((t451.length : Int) - 1))) (⟨#[]⟩ : ByteArray))) else (none))) else (none)) else (if (t447.length : Int) > 2 then (if 2 < (t447.length : Int) then (if (rdOf ByteArray.empty t447 2).toList = ([] : List UInt8) then (spec_l2Parse.j0 k a0 t447 true t459 (rdOf ByteArray.empty t451 (wrap64 ((t451.length : Int) - 1))) (⟨#[]⟩ : ByteArray)) else (if 0 < ((rdOf ByteArray.empty t447 2).size : Int) then (spec_l2Parse.j0 k a0 t447 ((bt (rdOf ByteArray.empty t447 2) 0) != 32) t459 (rdOf ByteArray.empty t451 (wrap64 ((t451.length : Int) - 1))) (⟨#[]⟩ : ByteArray)) else (none))) else (none)) else (spec_l2Parse.j0 k a0 t447 false t459 (rdOf ByteArray.empty t451 (wrap64 ((t451.length : Int) - 1))) (⟨#[]⟩ : ByteArray)))))) else (none)) else (none)) else (none))) else (none))
theorem spec_l2Parse.mono_l : ∀ k, (∀ y0 y1 y2 y3 y4 y5, LeO (spec_l2Parse.j0 k y0 y1 y2 y3 y4 y5) (spec_l2Parse.j0 (k + 1) y0 y1 y2 y3 y4 y5)) ∧ (∀ y0 y1 y2 y3 y4 y5, LeO (spec_l2Parse.j1 k y0 y1 y2 y3 y4 y5) (spec_l2Parse.j1 (k + 1) y0 y1 y2 y3 y4 y5)) ∧ (∀ y0 y1 y2 y3 y4 y5, LeO (spec_l2Parse.j2 k y0 y1 y2 y3 y4 y5) (spec_l2Parse.j2 (k + 1) y0 y1 y2 y3 y4 y5)) ∧ (∀ y0 y1 y2 y3 y4, LeO (spec_l2Parse.j3 k y0 y1 y2 y3 y4) (spec_l2Parse.j3 (k + 1) y0 y1 y2 y3 y4))
 | 0 => ⟨fun _ _ _ _ _ _ r h => by simp [spec_l2Parse.j0] at h, fun _ _ _ _ _ _ r h => by simp [spec_l2Parse.j1] at h, fun _ _ _ _ _ _ r h => by simp [spec_l2Parse.j2] at h, fun _ _ _ _ _ r h => by simp [spec_l2Parse.j3] at h⟩
 | k + 1 => by
  obtain ⟨ih0, ih1, ih2, ih3⟩ := spec_l2Parse.mono_l k
  refine ⟨?_, ?_, ?_, ?_⟩
  ·
   intro y0 y1 y2 y3 y4 y5
   unfold spec_l2Parse.j0
   repeat' first
   | (with_reducible exact ih0 _ _ _ _ _ _)
   | (with_reducible exact ih1 _ _ _ _ _ _)
   | (with_reducible exact ih2 _ _ _ _ _ _)
   | (with_reducible exact ih3 _ _ _ _ _)
   | (with_reducible exact spec_l1Split.mono _ _ _)
   | (with_reducible exact spec_l2Good.mono _ _ _ _ _)
   | (with_reducible exact spec_l2Inverse.mono _ _ _ _ _)
   | (with_reducible exact spec_l2Join.mono _ _)
   | (with_reducible exact LeO.refl _)
   | (with_reducible exact LeO.none _)
   | (with_reducible refine LeO.ite ?_ ?_)
   | (with_reducible refine LeO.bind ?_ (fun _ => ?_))
   | exact ih0 _ _ _ _ _ _
   | exact ih1 _ _ _ _ _ _
   | exact ih2 _ _ _ _ _ _
   | exact ih3 _ _ _ _ _
   | exact spec_l1Split.mono _ _ _
   | exact spec_l2Good.mono _ _ _ _ _
   | exact spec_l2Inverse.mono _ _ _ _ _
   | exact spec_l2Join.mono _ _
   | exact LeO.none _
   | refine LeO.ite ?_ ?_
   | refine LeO.bind ?_ (fun _ => ?_)
  ·
   intro y0 y1 y2 y3 y4 y5
   unfold spec_l2Parse.j1
   repeat' first
   | (with_reducible exact ih0 _ _ _ _ _ _)
   | (with_reducible exact ih1 _ _ _ _ _ _)
   | (with_reducible exact ih2 _ _ _ _ _ _)
   | (with_reducible exact ih3 _ _ _ _ _)
   | (with_reducible exact spec_l1Split.mono _ _ _)
   | (with_reducible exact spec_l2Good.mono _ _ _ _ _)
   | (with_reducible exact spec_l2Inverse.mono _ _ _ _ _)
   | (with_reducible exact spec_l2Join.mono _ _)
   | (with_reducible exact LeO.refl _)
   | (with_reducible exact LeO.none _)
   | (with_reducible refine LeO.ite ?_ ?_)
   | (with_reducible refine LeO.bind ?_ (fun _ => ?_))
   | exact ih0 _ _ _ _ _ _
   | exact ih1 _ _ _ _ _ _
   | exact ih2 _ _ _ _ _ _
   | exact ih3 _ _ _ _ _
   | exact spec_l1Split.mono _ _ _
   | exact spec_l2Good.mono _ _ _ _ _
   | exact spec_l2Inverse.mono _ _ _ _ _
   | exact spec_l2Join.mono _ _
   | exact LeO.none _
   | refine LeO.ite ?_ ?_
   | refine LeO.bind ?_ (fun _ => ?_)
  ·
   intro y0 y1 y2 y3 y4 y5
   unfold spec_l2Parse.j2
   repeat' first
   | (with_reducible exact ih0 _ _ _ _ _ _)
   | (with_reducible exact ih1 _ _ _ _ _ _)
   | (with_reducible exact ih2 _ _ _ _ _ _)
   | (with_reducible exact ih3 _ _ _ _ _)
   | (with_reducible exact spec_l1Split.mono _ _ _)
   | (with_reducible exact spec_l2Good.mono _ _ _ _ _)
   | (with_reducible exact spec_l2Inverse.mono _ _ _ _ _)
   | (with_reducible exact spec_l2Join.mono _ _)
   | (with_reducible exact LeO.refl _)
   | (with_reducible exact LeO.none _)
   | (with_reducible refine LeO.ite ?_ ?_)
   | (with_reducible refine LeO.bind ?_ (fun _ => ?_))
   | exact ih0 _ _ _ _ _ _
   | exact ih1 _ _ _ _ _ _
   | exact ih2 _ _ _ _ _ _
   | exact ih3 _ _ _ _ _
   | exact spec_l1Split.mono _ _ _
   | exact spec_l2Good.mono _ _ _ _ _
   | exact spec_l2Inverse.mono _ _ _ _ _
   | exact spec_l2Join.mono _ _
   | exact LeO.none _
   | refine LeO.ite ?_ ?_
   | refine LeO.bind ?_ (fun _ => ?_)
  ·
   intro y0 y1 y2 y3 y4
   unfold spec_l2Parse.j3
   repeat' first
   | (with_reducible exact ih0 _ _ _ _ _ _)
   | (with_reducible exact ih1 _ _ _ _ _ _)
   | (with_reducible exact ih2 _ _ _ _ _ _)
   | (with_reducible exact ih3 _ _ _ _ _)
   | (with_reducible exact spec_l1Split.mono _ _ _)
   | (with_reducible exact spec_l2Good.mono _ _ _ _ _)
   | (with_reducible exact spec_l2Inverse.mono _ _ _ _ _)
   | (with_reducible exact spec_l2Join.mono _ _)
   | (with_reducible exact LeO.refl _)
   | (with_reducible exact LeO.none _)
   | (with_reducible refine LeO.ite ?_ ?_)
   | (with_reducible refine LeO.bind ?_ (fun _ => ?_))
   | exact ih0 _ _ _ _ _ _
   | exact ih1 _ _ _ _ _ _
   | exact ih2 _ _ _ _ _ _
   | exact ih3 _ _ _ _ _
   | exact spec_l1Split.mono _ _ _
   | exact spec_l2Good.mono _ _ _ _ _
   | exact spec_l2Inverse.mono _ _ _ _ _
   | exact spec_l2Join.mono _ _
   | exact LeO.none _
   | refine LeO.ite ?_ ?_
   | refine LeO.bind ?_ (fun _ => ?_)
theorem spec_l2Parse.mono : ∀ a0 k, LeO (spec_l2Parse.f k a0) (spec_l2Parse.f (k + 1) a0) := by
 intro a0 k
 obtain ⟨ih0, ih1, ih2, ih3⟩ := spec_l2Parse.mono_l k
 unfold spec_l2Parse.f
 repeat' first
   | (with_reducible exact ih0 _ _ _ _ _ _)
   | (with_reducible exact ih1 _ _ _ _ _ _)
   | (with_reducible exact ih2 _ _ _ _ _ _)
   | (with_reducible exact ih3 _ _ _ _ _)
   | (with_reducible exact spec_l1Split.mono _ _ _)
   | (with_reducible exact spec_l2Good.mono _ _ _ _ _)
   | (with_reducible exact spec_l2Inverse.mono _ _ _ _ _)
   | (with_reducible exact spec_l2Join.mono _ _)
   | (with_reducible exact LeO.refl _)
   | (with_reducible exact LeO.none _)
   | (with_reducible refine LeO.ite ?_ ?_)
   | (with_reducible refine LeO.bind ?_ (fun _ => ?_))
   | exact ih0 _ _ _ _ _ _
   | exact ih1 _ _ _ _ _ _
   | exact ih2 _ _ _ _ _ _
   | exact ih3 _ _ _ _ _
   | exact spec_l1Split.mono _ _ _
   | exact spec_l2Good.mono _ _ _ _ _
   | exact spec_l2Inverse.mono _ _ _ _ _
   | exact spec_l2Join.mono _ _
   | exact LeO.none _
   | refine LeO.ite ?_ ?_
   | refine LeO.bind ?_ (fun _ => ?_)
def spec_l2Parse.T3 : Bool × List (List Nat × List Nat) := (true, [([], []), ([], []), ([1], [1]), ([2], [2]), ([0, 3], [0, 3]), ([4], [4]), ([], []), ([], []), ([7], [7]), ([8], [8]), ([6, 9], [6, 9]), ([10], [10]), ([5, 11], [5, 11]), ([], []), ([13, 12, 11, 0, 1, 2, 3, 4, 5, 6, 7, 8, 9, 10, 11, 12, 13], [12, 13])])
def spec_l2Parse.B3 : List Nat := [0, 0, 2, 6, 15, 31, 0, 0, 128, 384, 960, 1984, 4095, 0, 16383]
theorem spec_l2Parse.tab3 : rtab .any (opsOf Tryd.f66 3) = spec_l2Parse.T3 := by kernel_rfl
theorem spec_l2Parse.bits3 : waitsOk spec_l2Parse.T3.2 spec_l2Parse.B3 = true := by kernel_rfl
set_option maxRecDepth 100000 in
theorem spec_l2Parse.L0 {P : Prop} (h : P := by
  go_wp2_with (first | ((with_reducible refine gate_callee (f := 25) rfl ?_); refine goesL_ (some 91) rfl rfl Tryd.func25 (by kernel_rfl) rfl #[.agg #[.slice Ao77 x461000_47.length co77, .string t459, .string (rdOf ByteArray.empty t451 (ji5)), .string x461003_56]] rfl au32 ?_; (with_reducible refine (spec_l2Good.calls kj56 _ _ x461000_47 t459 (rdOf ByteArray.empty t451 (ji5)) x461003_56 _ _ ?side1 ?side2 A63.out).mono ?_); (case side1 => repeat (first | exact (Kd.R_reads' HO_461000.out).2.2 | (with_reducible refine Kd.C_alloc ?_ _) | (with_reducible refine Kd.C_drewN ?_ _) | (with_reducible refine Kd.C_drew ?_))); (case side2 => exact (Kd.R_reads' HO_461000.out).2.1); rintro e w78 ⟨rfl, hb⟩; refine ⟨_, rfl, ?_⟩; replace HO_461000 := Aside0.mk (Kd.R_below au106 hb); replace BK446 := Aside0.mk (blk_below (g := gb446) au99 hb); replace BK460 := Aside0.mk (blk_below (g := gb460) au100 hb); replace HB := Aside0.mk (below_step au22 hb); (try clear hb); obtain ⟨hcz79_0, hcz79_1, hcz79_2, hcz79_3, hfz79_0, hfz79_1, hfz79_2, hfz79_3⟩ := blkc4 BK460.out) | (go_at_call 32; (with_reducible refine (spec_l2Inverse.calls kj56 _ _ x461000_47 t459 (rdOf ByteArray.empty t451 (ji5)) x461003_56 t474 _ ?side1 ?side2 A65.out).mono ?_); (case side1 => repeat (first | exact (Kd.R_reads' HO_461000.out).2.2 | (with_reducible refine Kd.C_alloc ?_ _) | (with_reducible refine Kd.C_drewN ?_ _) | (with_reducible refine Kd.C_drew ?_))); (case side2 => exact (Kd.R_reads' HO_461000.out).2.1); rintro e w80 ⟨rfl, hb⟩; replace HO_461000 := Aside0.mk (Kd.R_below au106 hb); replace BK446 := Aside0.mk (blk_below (g := gb446) au99 hb); replace BK460 := Aside0.mk (blk_below (g := gb460) au100 hb); replace HB := Aside0.mk (below_step au22 hb); (try clear hb); obtain ⟨hcz81_0, hcz81_1, hcz81_2, hcz81_3, hfz81_0, hfz81_1, hfz81_2, hfz81_3⟩ := blkc4 BK446.out))
  refine bodyPost_ret (results_ct rfl _ _ gb446 26 #[.slice none 0 0, .string (⟨#[]⟩ : ByteArray), .string (⟨#[]⟩ : ByteArray), .string (⟨#[]⟩ : ByteArray)] (0, 0) _ rfl (by (with_reducible repeat (first | refine blk_drewN ?_ _ | refine blk_drew ?_ | refine blk_alloc ?_ _)); refine blk_put (cs := #[.slice none 0 0, .string (⟨#[]⟩ : ByteArray), .string (⟨#[]⟩ : ByteArray), .string (⟨#[]⟩ : ByteArray)]) ?_ 3 _ rfl; (with_reducible repeat (first | refine blk_drewN ?_ _ | refine blk_drew ?_ | refine blk_alloc ?_ _)); refine blk_put (cs := #[.slice none 0 0, .string (⟨#[]⟩ : ByteArray), .string (⟨#[]⟩ : ByteArray), .string (⟨#[]⟩ : ByteArray)]) ?_ 2 _ rfl; (with_reducible repeat (first | refine blk_drewN ?_ _ | refine blk_drew ?_ | refine blk_alloc ?_ _)); refine blk_put (cs := #[.slice none 0 0, .string (⟨#[]⟩ : ByteArray), .string (⟨#[]⟩ : ByteArray), .string (⟨#[]⟩ : ByteArray)]) ?_ 1 _ rfl; (with_reducible repeat (first | refine blk_drewN ?_ _ | refine blk_drew ?_ | refine blk_alloc ?_ _)); refine blk_put (cs := #[.slice none 0 0, .string (⟨#[]⟩ : ByteArray), .string (⟨#[]⟩ : ByteArray), .string (⟨#[]⟩ : ByteArray)]) ?_ 0 _ rfl; (with_reducible repeat (first | refine blk_drewN ?_ _ | refine blk_drew ?_ | refine blk_alloc ?_ _)); exact BK446.out) Tryd.underlying26 rfl (by kernel_rfl)) rfl ?_
  exact ⟨_, by first | rfl | (simp [errW_none, errW_some] <;> rfl) | (simp only [← hji5]; first | rfl | (simp [errW_none, errW_some] <;> rfl)) | (simp [*, errW_none, errW_some] <;> rfl), by first | exact Kd.R_nil _ _ _ _ _ | exact Kd.N_nil _ _ _ _ _ | exact Kd.V_nil _ _ _ _ _ | exact Kd.Q_nil _ _ _ _ _ | exact Kd.S_nil _ _ _ _ _, by repeat (first | (with_reducible first | exact HB.out | apply below_alloc | apply pw_below_drewN | apply below_drew1 | refine below_set ?_ GE446.out | refine below_set ?_ GE460.out) | exact HB.out)⟩) : P := h
set_option maxRecDepth 100000 in
theorem spec_l2Parse.L1 {P : Prop} (h : P := by
  go_wp2_with (first | ((with_reducible refine gate_callee (f := 65) rfl ?_); refine goesL_ (some 80) rfl rfl Tryd.func65 (by kernel_rfl) rfl #[.string ((rdOf ByteArray.empty t447 1).extract 1 (rdOf ByteArray.empty t447 1).size), .int .u8 32] rfl au54 ?_; (with_reducible refine (spec_l1Split.calls kj44 ((rdOf ByteArray.empty t447 1).extract 1 (rdOf ByteArray.empty t447 1).size) 32 t469 _ A52.out).mono ?_); rintro e w53 ⟨v470, rfl, ho0, hb⟩; refine ⟨_, rfl, ?_⟩; have HO471 := Aside0.mk (Kd.R_lower (Kd.R_new' ho0 (Kd.R_lt au119)) (below_size au22)); replace HO_4 := Aside0.mk (Kd.R_elder' au119 (Kd.R_base ho0) hb); replace BK446 := Aside0.mk (blk_below (g := gb446) au99 hb); replace BK460 := Aside0.mk (blk_below (g := gb460) au100 hb); replace HB := Aside0.mk (below_step au22 hb); (try clear hb); (try clear ho0); obtain ⟨Ao54, co54, eo54⟩ := Kd.R_slice HO471.out; subst eo54; have hnb55 := NB460_446.out; have hnc55 := NB446_460.out; obtain ⟨hcz56_0, hcz56_1, hcz56_2, hcz56_3, hfz56_0, hfz56_1, hfz56_2, hfz56_3⟩ := blkc4 BK460.out))
  go_meet
  case rel => first | (exact ⟨_, (t469), (.slice Ao54 t469.length co54), H', ⟨by have := HJ10.out; have := HJ44.out; first | omega | exact Nat.le_refl _⟩, ⟨by (with_reducible repeat (first | apply Kd.R_alloc | apply Kd.R_drewN | apply Kd.R_drew)); exact Kd.R_mono (Kd.R_far (p := ⟨gb460, 0, none⟩) (Kd.R_types HO_4.out BK460.out (by decide)) (fun _ hk => hk.2) (.slice Ao54 t469.length co54)) (fun _ hk => hk.1.2)⟩, ⟨by (with_reducible repeat (first | apply Kd.R_alloc | apply Kd.R_drewN | apply Kd.R_drew)); exact Kd.R_mono (Kd.R_far (p := ⟨gb460, 0, none⟩) (Kd.R_types HO471.out BK460.out (by decide)) (fun _ hk => hk.2) (.slice Ao54 t469.length co54)) (fun _ hk => hk.1.2)⟩, ⟨by (with_reducible repeat (first | refine blk_drewN ?_ _ | refine blk_drew ?_ | refine blk_alloc ?_ _)); refine blk_far ?_ NB446_460.out _; (with_reducible repeat (first | refine blk_drewN ?_ _ | refine blk_drew ?_ | refine blk_alloc ?_ _)); exact BK446.out⟩, ⟨by (with_reducible repeat (first | refine blk_drewN ?_ _ | refine blk_drew ?_ | refine blk_alloc ?_ _)); refine blk_put (cs := #[.slice none 0 0, .string t459, .string (rdOf ByteArray.empty t451 (ji5)), .string (⟨#[]⟩ : ByteArray)]) ?_ 0 _ rfl; (with_reducible repeat (first | refine blk_drewN ?_ _ | refine blk_drew ?_ | refine blk_alloc ?_ _)); exact BK460.out⟩, ⟨by repeat (first | (with_reducible first | exact HB.out | apply below_alloc | apply pw_below_drewN | apply below_drew1 | refine below_set ?_ GE446.out | refine below_set ?_ GE460.out) | exact HB.out)⟩⟩) | (exact ⟨_, (((bt (rdOf ByteArray.empty t447 2) 0) != 32)), au122, H', ⟨by first | omega | exact Nat.le_refl _⟩, ⟨by (with_reducible repeat (first | apply Kd.R_alloc | apply Kd.R_drewN | apply Kd.R_drew)); exact Kd.R_mono (Kd.R_far (p := ⟨gb460, 3, none⟩) (Kd.R_far (p := ⟨gb460, 2, none⟩) (Kd.R_far (p := ⟨gb460, 1, none⟩) (Kd.R_far (p := ⟨gb460, 0, none⟩) (Kd.R_types HO449.out BK460.out (by decide)) (fun _ hk => hk.2) (.slice none 0 0)) (fun _ hk => hk.2) (.string t459)) (fun _ hk => hk.2) (.string (rdOf ByteArray.empty t451 (ji5)))) (fun _ hk => hk.2) (.string (⟨#[]⟩ : ByteArray))) (fun _ hk => trivial)⟩, ⟨by (with_reducible repeat (first | refine blk_drewN ?_ _ | refine blk_drew ?_ | refine blk_alloc ?_ _)); refine blk_far ?_ NB446_460.out _; (with_reducible repeat (first | refine blk_drewN ?_ _ | refine blk_drew ?_ | refine blk_alloc ?_ _)); refine blk_far ?_ NB446_460.out _; (with_reducible repeat (first | refine blk_drewN ?_ _ | refine blk_drew ?_ | refine blk_alloc ?_ _)); refine blk_far ?_ NB446_460.out _; (with_reducible repeat (first | refine blk_drewN ?_ _ | refine blk_drew ?_ | refine blk_alloc ?_ _)); refine blk_far ?_ NB446_460.out _; (with_reducible repeat (first | refine blk_drewN ?_ _ | refine blk_drew ?_ | refine blk_alloc ?_ _)); exact BK446.out⟩, ⟨by (with_reducible repeat (first | refine blk_drewN ?_ _ | refine blk_drew ?_ | refine blk_alloc ?_ _)); refine blk_put (cs := #[.slice none 0 0, .string t459, .string (rdOf ByteArray.empty t451 (ji5)), .string (⟨#[]⟩ : ByteArray)]) ?_ 3 _ rfl; (with_reducible repeat (first | refine blk_drewN ?_ _ | refine blk_drew ?_ | refine blk_alloc ?_ _)); refine blk_put (cs := #[.slice none 0 0, .string t459, .string (⟨#[]⟩ : ByteArray), .string (⟨#[]⟩ : ByteArray)]) ?_ 2 _ rfl; (with_reducible repeat (first | refine blk_drewN ?_ _ | refine blk_drew ?_ | refine blk_alloc ?_ _)); refine blk_put (cs := #[.slice none 0 0, .string (⟨#[]⟩ : ByteArray), .string (⟨#[]⟩ : ByteArray), .string (⟨#[]⟩ : ByteArray)]) ?_ 1 _ rfl; (with_reducible repeat (first | refine blk_drewN ?_ _ | refine blk_drew ?_ | refine blk_alloc ?_ _)); refine blk_put (cs := #[.slice none 0 0, .string (⟨#[]⟩ : ByteArray), .string (⟨#[]⟩ : ByteArray), .string (⟨#[]⟩ : ByteArray)]) ?_ 0 _ rfl; (with_reducible repeat (first | refine blk_drewN ?_ _ | refine blk_drew ?_ | refine blk_alloc ?_ _)); exact BK460.out⟩, ⟨by repeat (first | (with_reducible first | exact HB.out | apply below_alloc | apply pw_below_drewN | apply below_drew1 | refine below_set ?_ GE446.out | refine below_set ?_ GE460.out) | exact HB.out)⟩⟩) | (exact ⟨_, (false), au122, H', ⟨by first | omega | exact Nat.le_refl _⟩, ⟨by (with_reducible repeat (first | apply Kd.R_alloc | apply Kd.R_drewN | apply Kd.R_drew)); exact Kd.R_mono (Kd.R_far (p := ⟨gb460, 3, none⟩) (Kd.R_far (p := ⟨gb460, 2, none⟩) (Kd.R_far (p := ⟨gb460, 1, none⟩) (Kd.R_far (p := ⟨gb460, 0, none⟩) (Kd.R_types HO449.out BK460.out (by decide)) (fun _ hk => hk.2) (.slice none 0 0)) (fun _ hk => hk.2) (.string t459)) (fun _ hk => hk.2) (.string (rdOf ByteArray.empty t451 (ji5)))) (fun _ hk => hk.2) (.string (⟨#[]⟩ : ByteArray))) (fun _ hk => trivial)⟩, ⟨by (with_reducible repeat (first | refine blk_drewN ?_ _ | refine blk_drew ?_ | refine blk_alloc ?_ _)); refine blk_far ?_ NB446_460.out _; (with_reducible repeat (first | refine blk_drewN ?_ _ | refine blk_drew ?_ | refine blk_alloc ?_ _)); refine blk_far ?_ NB446_460.out _; (with_reducible repeat (first | refine blk_drewN ?_ _ | refine blk_drew ?_ | refine blk_alloc ?_ _)); refine blk_far ?_ NB446_460.out _; (with_reducible repeat (first | refine blk_drewN ?_ _ | refine blk_drew ?_ | refine blk_alloc ?_ _)); refine blk_far ?_ NB446_460.out _; (with_reducible repeat (first | refine blk_drewN ?_ _ | refine blk_drew ?_ | refine blk_alloc ?_ _)); exact BK446.out⟩, ⟨by (with_reducible repeat (first | refine blk_drewN ?_ _ | refine blk_drew ?_ | refine blk_alloc ?_ _)); refine blk_put (cs := #[.slice none 0 0, .string t459, .string (rdOf ByteArray.empty t451 (ji5)), .string (⟨#[]⟩ : ByteArray)]) ?_ 3 _ rfl; (with_reducible repeat (first | refine blk_drewN ?_ _ | refine blk_drew ?_ | refine blk_alloc ?_ _)); refine blk_put (cs := #[.slice none 0 0, .string t459, .string (⟨#[]⟩ : ByteArray), .string (⟨#[]⟩ : ByteArray)]) ?_ 2 _ rfl; (with_reducible repeat (first | refine blk_drewN ?_ _ | refine blk_drew ?_ | refine blk_alloc ?_ _)); refine blk_put (cs := #[.slice none 0 0, .string (⟨#[]⟩ : ByteArray), .string (⟨#[]⟩ : ByteArray), .string (⟨#[]⟩ : ByteArray)]) ?_ 1 _ rfl; (with_reducible repeat (first | refine blk_drewN ?_ _ | refine blk_drew ?_ | refine blk_alloc ?_ _)); refine blk_put (cs := #[.slice none 0 0, .string (⟨#[]⟩ : ByteArray), .string (⟨#[]⟩ : ByteArray), .string (⟨#[]⟩ : ByteArray)]) ?_ 0 _ rfl; (with_reducible repeat (first | refine blk_drewN ?_ _ | refine blk_drew ?_ | refine blk_alloc ?_ _)); exact BK460.out⟩, ⟨by repeat (first | (with_reducible first | exact HB.out | apply below_alloc | apply pw_below_drewN | apply below_drew1 | refine below_set ?_ GE446.out | refine below_set ?_ GE460.out) | exact HB.out)⟩⟩) | (exact ⟨_, (true), au122, H', ⟨by first | omega | exact Nat.le_refl _⟩, ⟨by (with_reducible repeat (first | apply Kd.R_alloc | apply Kd.R_drewN | apply Kd.R_drew)); exact Kd.R_mono (Kd.R_far (p := ⟨gb460, 3, none⟩) (Kd.R_far (p := ⟨gb460, 2, none⟩) (Kd.R_far (p := ⟨gb460, 1, none⟩) (Kd.R_far (p := ⟨gb460, 0, none⟩) (Kd.R_types HO449.out BK460.out (by decide)) (fun _ hk => hk.2) (.slice none 0 0)) (fun _ hk => hk.2) (.string t459)) (fun _ hk => hk.2) (.string (rdOf ByteArray.empty t451 (ji5)))) (fun _ hk => hk.2) (.string (⟨#[]⟩ : ByteArray))) (fun _ hk => trivial)⟩, ⟨by (with_reducible repeat (first | refine blk_drewN ?_ _ | refine blk_drew ?_ | refine blk_alloc ?_ _)); refine blk_far ?_ NB446_460.out _; (with_reducible repeat (first | refine blk_drewN ?_ _ | refine blk_drew ?_ | refine blk_alloc ?_ _)); refine blk_far ?_ NB446_460.out _; (with_reducible repeat (first | refine blk_drewN ?_ _ | refine blk_drew ?_ | refine blk_alloc ?_ _)); refine blk_far ?_ NB446_460.out _; (with_reducible repeat (first | refine blk_drewN ?_ _ | refine blk_drew ?_ | refine blk_alloc ?_ _)); refine blk_far ?_ NB446_460.out _; (with_reducible repeat (first | refine blk_drewN ?_ _ | refine blk_drew ?_ | refine blk_alloc ?_ _)); exact BK446.out⟩, ⟨by (with_reducible repeat (first | refine blk_drewN ?_ _ | refine blk_drew ?_ | refine blk_alloc ?_ _)); refine blk_put (cs := #[.slice none 0 0, .string t459, .string (rdOf ByteArray.empty t451 (ji5)), .string (⟨#[]⟩ : ByteArray)]) ?_ 3 _ rfl; (with_reducible repeat (first | refine blk_drewN ?_ _ | refine blk_drew ?_ | refine blk_alloc ?_ _)); refine blk_put (cs := #[.slice none 0 0, .string t459, .string (⟨#[]⟩ : ByteArray), .string (⟨#[]⟩ : ByteArray)]) ?_ 2 _ rfl; (with_reducible repeat (first | refine blk_drewN ?_ _ | refine blk_drew ?_ | refine blk_alloc ?_ _)); refine blk_put (cs := #[.slice none 0 0, .string (⟨#[]⟩ : ByteArray), .string (⟨#[]⟩ : ByteArray), .string (⟨#[]⟩ : ByteArray)]) ?_ 1 _ rfl; (with_reducible repeat (first | refine blk_drewN ?_ _ | refine blk_drew ?_ | refine blk_alloc ?_ _)); refine blk_put (cs := #[.slice none 0 0, .string (⟨#[]⟩ : ByteArray), .string (⟨#[]⟩ : ByteArray), .string (⟨#[]⟩ : ByteArray)]) ?_ 0 _ rfl; (with_reducible repeat (first | refine blk_drewN ?_ _ | refine blk_drew ?_ | refine blk_alloc ?_ _)); exact BK460.out⟩, ⟨by repeat (first | (with_reducible first | exact HB.out | apply below_alloc | apply pw_below_drewN | apply below_drew1 | refine below_set ?_ GE446.out | refine below_set ?_ GE460.out) | exact HB.out)⟩⟩) | (exact ⟨_, ((rdOf ByteArray.empty t447 2).extract 1 (rdOf ByteArray.empty t447 2).size), H', ⟨by have := HJ10.out; have := HJ44.out; have := HJ47.out; first | omega | exact Nat.le_refl _⟩, ⟨by (with_reducible repeat (first | apply Kd.R_alloc | apply Kd.R_drewN | apply Kd.R_drew)); exact Kd.R_mono (Kd.R_far (p := ⟨gb460, 3, none⟩) (Kd.R_types HO_461000.out BK460.out (by decide)) (fun _ hk => hk.2) (.string ((rdOf ByteArray.empty t447 2).extract 1 (rdOf ByteArray.empty t447 2).size))) (fun _ hk => trivial)⟩, ⟨by (with_reducible repeat (first | refine blk_drewN ?_ _ | refine blk_drew ?_ | refine blk_alloc ?_ _)); refine blk_far ?_ NB446_460.out _; (with_reducible repeat (first | refine blk_drewN ?_ _ | refine blk_drew ?_ | refine blk_alloc ?_ _)); exact BK446.out⟩, ⟨by (with_reducible repeat (first | refine blk_drewN ?_ _ | refine blk_drew ?_ | refine blk_alloc ?_ _)); refine blk_put (cs := #[u461000, .string t459, .string (rdOf ByteArray.empty t451 (ji5)), .string (⟨#[]⟩ : ByteArray)]) ?_ 3 _ rfl; (with_reducible repeat (first | refine blk_drewN ?_ _ | refine blk_drew ?_ | refine blk_alloc ?_ _)); exact BK460.out⟩, ⟨by repeat (first | (with_reducible first | exact HB.out | apply below_alloc | apply pw_below_drewN | apply below_drew1 | refine below_set ?_ GE446.out | refine below_set ?_ GE460.out) | exact HB.out)⟩⟩) | (exact ⟨_, (([] : List ByteArray)), (.slice none 0 0), H', ⟨by have := HJ10.out; have := HJ44.out; first | omega | exact Nat.le_refl _⟩, ⟨by (with_reducible repeat (first | apply Kd.R_alloc | apply Kd.R_drewN | apply Kd.R_drew)); exact Kd.R_mono HO_4.out (fun _ hk => (by simp [Value.ownBlock]))⟩, ⟨by first | exact Kd.R_nil _ _ _ _ _ | exact Kd.N_nil _ _ _ _ _ | exact Kd.V_nil _ _ _ _ _ | exact Kd.Q_nil _ _ _ _ _ | exact Kd.S_nil _ _ _ _ _⟩, ⟨by (with_reducible repeat (first | refine blk_drewN ?_ _ | refine blk_drew ?_ | refine blk_alloc ?_ _)); exact BK446.out⟩, ⟨by (with_reducible repeat (first | refine blk_drewN ?_ _ | refine blk_drew ?_ | refine blk_alloc ?_ _)); exact BK460.out⟩, ⟨by repeat (first | (with_reducible first | exact HB.out | apply below_alloc | apply pw_below_drewN | apply below_drew1 | refine below_set ?_ GE446.out | refine below_set ?_ GE460.out) | exact HB.out)⟩⟩) | (exact ⟨_, (decide (((rdOf ByteArray.empty t447 1).size : Int) > 1)), au122, H', ⟨by have := HJ10.out; first | omega | exact Nat.le_refl _⟩, ⟨by (with_reducible repeat (first | apply Kd.R_alloc | apply Kd.R_drewN | apply Kd.R_drew)); exact HO_4.out⟩, ⟨by (with_reducible repeat (first | refine blk_drewN ?_ _ | refine blk_drew ?_ | refine blk_alloc ?_ _)); exact BK446.out⟩, ⟨by (with_reducible repeat (first | refine blk_drewN ?_ _ | refine blk_drew ?_ | refine blk_alloc ?_ _)); exact BK460.out⟩, ⟨by repeat (first | (with_reducible first | exact HB.out | apply below_alloc | apply pw_below_drewN | apply below_drew1 | refine below_set ?_ GE446.out | refine below_set ?_ GE460.out) | exact HB.out)⟩⟩) | (exact ⟨_, ((⟨#[]⟩ : ByteArray)), H', ⟨by have := HJ10.out; have := HJ44.out; have := HJ47.out; first | omega | exact Nat.le_refl _⟩, ⟨by (with_reducible repeat (first | apply Kd.R_alloc | apply Kd.R_drewN | apply Kd.R_drew)); exact Kd.R_mono HO_461000.out (fun _ hk => trivial)⟩, ⟨by (with_reducible repeat (first | refine blk_drewN ?_ _ | refine blk_drew ?_ | refine blk_alloc ?_ _)); exact BK446.out⟩, ⟨by (with_reducible repeat (first | refine blk_drewN ?_ _ | refine blk_drew ?_ | refine blk_alloc ?_ _)); exact BK460.out⟩, ⟨by repeat (first | (with_reducible first | exact HB.out | apply below_alloc | apply pw_below_drewN | apply below_drew1 | refine below_set ?_ GE446.out | refine below_set ?_ GE460.out) | exact HB.out)⟩⟩) | (exact ⟨_, (false), au122, H', ⟨by have := HJ10.out; first | omega | exact Nat.le_refl _⟩, ⟨by (with_reducible repeat (first | apply Kd.R_alloc | apply Kd.R_drewN | apply Kd.R_drew)); exact HO_4.out⟩, ⟨by (with_reducible repeat (first | refine blk_drewN ?_ _ | refine blk_drew ?_ | refine blk_alloc ?_ _)); exact BK446.out⟩, ⟨by (with_reducible repeat (first | refine blk_drewN ?_ _ | refine blk_drew ?_ | refine blk_alloc ?_ _)); exact BK460.out⟩, ⟨by repeat (first | (with_reducible first | exact HB.out | apply below_alloc | apply pw_below_drewN | apply below_drew1 | refine below_set ?_ GE446.out | refine below_set ?_ GE460.out) | exact HB.out)⟩⟩)) : P := h
set_option maxHeartbeats 8000000 in
set_option maxRecDepth 100000 in
theorem spec_l2Parse.calls (k : Nat) (a0 : ByteArray) (r1 : List ByteArray) (r2 : ByteArray) (r3 : ByteArray) (r4 : ByteArray) (r5 : Bool) (w : World) (h : spec_l2Parse.f k a0 = some (r1, r2, r3, r4, r5)) :
  Calls Tryd.prog 66 #[.string a0] w fun e w' => ∃ v0_ : Value, e = .returned (.tuple #[.agg #[v0_, .string r2, .string r3, .string r4], .bool r5]) ∧ Kd.R Kd.string 9 w' w.heap.size (fun _ => True) v0_ r1 ∧ Below w.heap.size w w' := by
 have hu26 := Tryd.underlying26
 have HB := Aside0.mk (Below.refl w.heap.size w)
 have H : ((spec_l1Split.f k a0 44).bind fun t447 => (if 0 < (t447.length : Int) then ((spec_l1Split.f k (rdOf ByteArray.empty t447 0) 32).bind fun t451 => (if 0 ≤ (wrap64 ((t451.length : Int) - 1)) then (if (wrap64 ((t451.length : Int) - 1)) < (t451.length : Int) then (if (wrap64 ((t451.length : Int) - 1)) ≤ (t451.length : Int) then ((spec_l2Join.f k (t451.take ((wrap64 ((t451.length : Int) - 1)) : Int).toNat)).bind fun t459 => (if (t447.length : Int) > 3 then (spec_l2Parse.j0 k a0 t447 true t459 (rdOf ByteArray.empty t451 (wrap64 ((t451.length : Int) - 1))) (⟨#[]⟩ : ByteArray)) else (if (t447.length : Int) > 1 then (if 1 < (t447.length : Int) then (if (rdOf ByteArray.empty t447 1).toList = ([] : List UInt8) then (spec_l2Parse.j0 k a0 t447 true t459 (rdOf ByteArray.empty t451 (wrap64 ((t451.length : Int) - 1))) (⟨#[]⟩ : ByteArray)) else (if 0 < ((rdOf ByteArray.empty t447 1).size : Int) then (if (bt (rdOf ByteArray.empty t447 1) 0) = 32 then (if (t447.length : Int) > 2 then (if 2 < (t447.length : Int) then (if (rdOf ByteArray.empty t447 2).toList = ([] : List UInt8) then (spec_l2Parse.j0 k a0 t447 true t459 (rdOf ByteArray.empty t451 (wrap64 ((t451.length : Int) - 1))) (⟨#[]⟩ : ByteArray)) else (if 0 < ((rdOf ByteArray.empty t447 2).size : Int) then (spec_l2Parse.j0 k a0 t447 ((bt (rdOf ByteArray.empty t447 2) 0) != 32) t459 (rdOf ByteArray.empty t451 (wrap64 ((t451.length : Int) - 1))) (⟨#[]⟩ : ByteArray)) else (none))) else (none)) else (spec_l2Parse.j0 k a0 t447 false t459 (rdOf ByteArray.empty t451 (wrap64 ((t451.length : Int) - 1))) (⟨#[]⟩ : ByteArray))) else (spec_l2Parse.j0 k a0 t447 true t459 (rdOf ByteArray.empty t451 (wrap64 ((t451.length : Int) - 1))) (⟨#[]⟩ : ByteArray))) else (none))) else (none)) else (if (t447.length : Int) > 2 then (if 2 < (t447.length : Int) then (if (rdOf ByteArray.empty t447 2).toList = ([] : List UInt8) then (spec_l2Parse.j0 k a0 t447 true t459 (rdOf ByteArray.empty t451 (wrap64 ((t451.length : Int) - 1))) (⟨#[]⟩ : ByteArray)) else (if 0 < ((rdOf ByteArray.empty t447 2).size : Int) then (spec_l2Parse.j0 k a0 t447 ((bt (rdOf ByteArray.empty t447 2) 0) != 32) t459 (rdOf ByteArray.empty t451 (wrap64 ((t451.length : Int) - 1))) (⟨#[]⟩ : ByteArray)) else (none))) else (none)) else (spec_l2Parse.j0 k a0 t447 false t459 (rdOf ByteArray.empty t451 (wrap64 ((t451.length : Int) - 1))) (⟨#[]⟩ : ByteArray)))))) else (none)) else (none)) else (none))) else (none))) = some (r1, r2, r3, r4, r5) := h
 clear h
 replace H := Option.bind_eq_some_iff.mp H
 obtain ⟨t447, A20, H⟩ := H
 try dsimp only at H
 have A2 := Aside0.mk A20
 clear A20
 by_cases c3 : 0 < (t447.length : Int)
 ·
  rw [if_pos c3] at H
  have c3b0 : decide (0 < (t447.length : Int)) = true := decide_eq_true c3
  have c3b1 : decide (0 < t447.length) = true := decide_eq_true (by omega)
  clear c3
  replace H := Option.bind_eq_some_iff.mp H
  obtain ⟨t451, A40, H⟩ := H
  try dsimp only at H
  have A4 := Aside0.mk A40
  clear A40
  obtain ⟨ji5, hji5⟩ : ∃ j_ : Int, (wrap64 ((t451.length : Int) - 1)) = j_ := ⟨_, rfl⟩
  replace H : (if 0 ≤ (ji5) then (if (ji5) < (t451.length : Int) then (if (ji5) ≤ (t451.length : Int) then ((spec_l2Join.f k (t451.take ((ji5) : Int).toNat)).bind fun t459 => (if (t447.length : Int) > 3 then (spec_l2Parse.j0 k a0 t447 true t459 (rdOf ByteArray.empty t451 (ji5)) (⟨#[]⟩ : ByteArray)) else (if (t447.length : Int) > 1 then (if 1 < (t447.length : Int) then (if (rdOf ByteArray.empty t447 1).toList = ([] : List UInt8) then (spec_l2Parse.j0 k a0 t447 true t459 (rdOf ByteArray.empty t451 (ji5)) (⟨#[]⟩ : ByteArray)) else (if 0 < ((rdOf ByteArray.empty t447 1).size : Int) then (if (bt (rdOf ByteArray.empty t447 1) 0) = 32 then (if (t447.length : Int) > 2 then (if 2 < (t447.length : Int) then (if (rdOf ByteArray.empty t447 2).toList = ([] : List UInt8) then (spec_l2Parse.j0 k a0 t447 true t459 (rdOf ByteArray.empty t451 (ji5)) (⟨#[]⟩ : ByteArray)) else (if 0 < ((rdOf ByteArray.empty t447 2).size : Int) then (spec_l2Parse.j0 k a0 t447 ((bt (rdOf ByteArray.empty t447 2) 0) != 32) t459 (rdOf ByteArray.empty t451 (ji5)) (⟨#[]⟩ : ByteArray)) else (none))) else (none)) else (spec_l2Parse.j0 k a0 t447 false t459 (rdOf ByteArray.empty t451 (ji5)) (⟨#[]⟩ : ByteArray))) else (spec_l2Parse.j0 k a0 t447 true t459 (rdOf ByteArray.empty t451 (ji5)) (⟨#[]⟩ : ByteArray))) else (none))) else (none)) else (if (t447.length : Int) > 2 then (if 2 < (t447.length : Int) then (if (rdOf ByteArray.empty t447 2).toList = ([] : List UInt8) then (spec_l2Parse.j0 k a0 t447 true t459 (rdOf ByteArray.empty t451 (ji5)) (⟨#[]⟩ : ByteArray)) else (if 0 < ((rdOf ByteArray.empty t447 2).size : Int) then (spec_l2Parse.j0 k a0 t447 ((bt (rdOf ByteArray.empty t447 2) 0) != 32) t459 (rdOf ByteArray.empty t451 (ji5)) (⟨#[]⟩ : ByteArray)) else (none))) else (none)) else (spec_l2Parse.j0 k a0 t447 false t459 (rdOf ByteArray.empty t451 (ji5)) (⟨#[]⟩ : ByteArray)))))) else (none)) else (none)) else (none)) = some (r1, r2, r3, r4, r5) := by first | (rw [hji5] at H; exact H) | (simp only [hji5] at H ⊢; exact H)
  (try rw [hji5] at A2)
  (try rw [hji5] at A4)
  have hji5w : (IntKind.i64.wrap ((t451.length : Int) - 1)) = ji5 := (i64_w _).trans hji5
  by_cases c6 : 0 ≤ (ji5)
  ·
   rw [if_pos c6] at H
   have c6b0 : decide (0 ≤ (ji5)) = true := decide_eq_true c6
   clear c6
   by_cases c7 : (ji5) < (t451.length : Int)
   ·
    rw [if_pos c7] at H
    have c7b0 : decide ((ji5) < (t451.length : Int)) = true := decide_eq_true c7
    clear c7
    have c8b0 := eq_true (of_decide_eq_true au121 : 0 ≤ (ji5))
    by_cases c9 : (ji5) ≤ (t451.length : Int)
    ·
     rw [if_pos c9] at H
     have c9b0 := eq_true c9
     have c9b1 : decide ((ji5) ≤ (t451.length : Int)) = true := decide_eq_true c9
     clear c9
     obtain ⟨y455, hy455⟩ : ∃ y_ : List ByteArray, y_ = (t451.take ((ji5) : Int).toNat) := ⟨_, rfl⟩
     replace H : ((spec_l2Join.f k y455).bind fun t459 => (if (t447.length : Int) > 3 then (spec_l2Parse.j0 k a0 t447 true t459 (rdOf ByteArray.empty t451 (ji5)) (⟨#[]⟩ : ByteArray)) else (if (t447.length : Int) > 1 then (if 1 < (t447.length : Int) then (if (rdOf ByteArray.empty t447 1).toList = ([] : List UInt8) then (spec_l2Parse.j0 k a0 t447 true t459 (rdOf ByteArray.empty t451 (ji5)) (⟨#[]⟩ : ByteArray)) else (if 0 < ((rdOf ByteArray.empty t447 1).size : Int) then (if (bt (rdOf ByteArray.empty t447 1) 0) = 32 then (if (t447.length : Int) > 2 then (if 2 < (t447.length : Int) then (if (rdOf ByteArray.empty t447 2).toList = ([] : List UInt8) then (spec_l2Parse.j0 k a0 t447 true t459 (rdOf ByteArray.empty t451 (ji5)) (⟨#[]⟩ : ByteArray)) else (if 0 < ((rdOf ByteArray.empty t447 2).size : Int) then (spec_l2Parse.j0 k a0 t447 ((bt (rdOf ByteArray.empty t447 2) 0) != 32) t459 (rdOf ByteArray.empty t451 (ji5)) (⟨#[]⟩ : ByteArray)) else (none))) else (none)) else (spec_l2Parse.j0 k a0 t447 false t459 (rdOf ByteArray.empty t451 (ji5)) (⟨#[]⟩ : ByteArray))) else (spec_l2Parse.j0 k a0 t447 true t459 (rdOf ByteArray.empty t451 (ji5)) (⟨#[]⟩ : ByteArray))) else (none))) else (none)) else (if (t447.length : Int) > 2 then (if 2 < (t447.length : Int) then (if (rdOf ByteArray.empty t447 2).toList = ([] : List UInt8) then (spec_l2Parse.j0 k a0 t447 true t459 (rdOf ByteArray.empty t451 (ji5)) (⟨#[]⟩ : ByteArray)) else (if 0 < ((rdOf ByteArray.empty t447 2).size : Int) then (spec_l2Parse.j0 k a0 t447 ((bt (rdOf ByteArray.empty t447 2) 0) != 32) t459 (rdOf ByteArray.empty t451 (ji5)) (⟨#[]⟩ : ByteArray)) else (none))) else (none)) else (spec_l2Parse.j0 k a0 t447 false t459 (rdOf ByteArray.empty t451 (ji5)) (⟨#[]⟩ : ByteArray)))))) = some (r1, r2, r3, r4, r5) := by first | (rw [hy455]; with_reducible exact H) | (have H2_ := (Option.bind_some _ _).symm.trans H; rw [hy455]; with_reducible exact H2_) | (have H2_ := (Option.bind_some _ _).symm.trans H; with_reducible exact H2_) | with_reducible exact H | (rw [hy455]; exact H) | exact H
     have Ny455 := Aside0.mk hy455
     clear hy455
     replace H := Option.bind_eq_some_iff.mp H
     obtain ⟨t459, A100, H⟩ := H
     try dsimp only at H
     have A10 := Aside0.mk A100
     clear A100
     have HC11 := Aside0.mk H
     clear H
     go_enter Tryd.func66, Tryd.ntmps66
     try go_wp2_with (first | ((with_reducible refine gate_dst (N := 2) rfl ?_); (try (refine gate_guard (by rfl) ?_; dsimp only)); refine box_event ?hg (N := 2) ?hd (cs := #[.slice none 0 0, .string (⟨#[]⟩ : ByteArray), .string (⟨#[]⟩ : ByteArray), .string (⟨#[]⟩ : ByteArray)]) (t := 26) ?hr ?_; (case hd => rfl); (case hg => rfl); (case hr => first | (go_simp; done) | (go_simp; rfl)); intro gb446 hg w12 hbox hb; have BK446 := Aside0.mk (hbox); have GW446 := Aside0.mk (bsz hg au57); have GE446 := Aside0.mk (bsz hg au57); replace HB := Aside0.mk (below_step au57 hb); clear hb hbox hg) | ((with_reducible refine gate_callee (f := 65) rfl ?_); refine goesL_ (some 8) rfl rfl Tryd.func65 (by kernel_rfl) rfl #[.string a0, .int .u8 44] rfl au54 ?_; (with_reducible refine (spec_l1Split.calls k a0 44 t447 _ A2.out).mono ?_); rintro e w13 ⟨v448, rfl, ho0, hb⟩; refine ⟨_, rfl, ?_⟩; have HO449 := Aside0.mk (Kd.R_lower ho0 (below_size au52)); replace BK446 := Aside0.mk (blk_below (g := gb446) au99 hb); replace HB := Aside0.mk (below_step au52 hb); (try clear hb); (try clear ho0); obtain ⟨Ao14, co14, eo14⟩ := Kd.R_slice HO449.out; subst eo14; have p450 : 0 ≤ (0 : Int) := (by omega); have q450 : 0 < (t447.length : Int) := of_decide_eq_true au121; obtain ⟨ad450, e450, hx450_0⟩ := Kd.at_string (Kd.R_reads' HO449.out).2.2 0 p450 q450; cases e450; have qi450 : (0 < t447.length) = True := eq_true (by omega); (try rw [show ((0 : Int)).toNat = 0 from rfl] at hx450_0); (try rw [Addr.add_zero'] at hx450_0); replace p450 := eq_true p450; replace q450 := eq_true q450) | ((with_reducible refine gate_callee (f := 65) rfl ?_); refine goesL_ (some 12) rfl rfl Tryd.func65 (by kernel_rfl) rfl #[.string (rdOf ByteArray.empty t447 0), .int .u8 32] rfl au54 ?_; (with_reducible refine (spec_l1Split.calls k (rdOf ByteArray.empty t447 0) 32 t451 _ A4.out).mono ?_); rintro e w15 ⟨v452, rfl, ho0, hb⟩; refine ⟨_, rfl, ?_⟩; have HO453 := Aside0.mk (Kd.R_lower (Kd.R_new' ho0 (Kd.R_lt au115)) (below_size au52)); replace HO449 := Aside0.mk (Kd.R_elder' au115 (Kd.R_base ho0) hb); replace BK446 := Aside0.mk (blk_below (g := gb446) au99 hb); replace HB := Aside0.mk (below_step au52 hb); (try clear hb); (try clear ho0)))
     replace HO449 := Aside0.mk (Kd.R_drew HO449.out)
     replace HO453 := Aside0.mk (Kd.R_drew HO453.out)
     replace BK446 := Aside0.mk (blk_drew BK446.out)
     replace HB := Aside0.mk (below_drew1 HB.out)
     obtain ⟨Ao17, co17, eo17⟩ := Kd.R_slice HO453.out
     (first | subst eo17 | (injection eo17 with f1_ f2_ f3_; have f4_ := f1_.symm; have f5_ := f3_.symm; clear f1_ f2_ f3_; subst f4_; subst f5_))
     have p454 : 0 ≤ ((ji5) : Int) := of_decide_eq_true au121
     have q454 : (ji5) < (t451.length : Int) := of_decide_eq_true au121
     obtain ⟨ad454, e454, hx454_0⟩ := Kd.at_string (Kd.R_reads' HO453.out).2.2 (ji5) p454 q454
     cases e454
     replace p454 := eq_true p454
     replace q454 := eq_true q454
     have q18 : ((ji5) : Int) ≤ ((t451.length : Int) : Int) := of_decide_eq_true au121
     obtain ⟨i018, hi018, _, hsz18, _⟩ := info_parts info9
     have hroom18 : t451.length ≤ co17 := (Kd.R_reads' HO453.out).2.1
     have hC18 : Kd.C Kd.string _ (some ad454) t451.length t451 := (Kd.R_reads' HO453.out).2.2
     have hcut18 := cut_to (P := Tryd.prog) 24 9 .i64 Tryd.underlying24 hi018 (some ad454) t451.length co17 (ji5) (of_decide_eq_true au121) q18 hroom18
     have hr18 := Kd.C_take (m := ((ji5) : Int).toNat) hC18 (by omega)
     have hy18 : y455.length = ((ji5) : Int).toNat := (by rw [Ny455.out, List.length_take]; omega)
     rw [← Ny455.out] at hr18
     rw [← hy18] at hcut18
     have HR458 := Aside0.mk hr18
     have HC458 := Aside0.mk (show y455.length ≤ co17 from by omega)
     clear hr18 hC18 hroom18 hi018 hsz18
     have KY18 := Aside0.mk hy18
     clear hy18
     have KL18 := Aside0.mk (show ((ji5) : Int).toNat ≤ t451.length from by omega)
     replace q18 := eq_true q18
     refine start_ (n := 15) (S := fun w' => w'.cell? (ad454.add ((ji5)).toNat) = some (.string (rdOf ByteArray.empty t451 (ji5)))) (ds := []) #[false, false, false, false, false, false, false, false, false, false, false, false, false, false, false] (by kernel_rfl) rfl rfl (hx454_0) (fun hHeld => ?_); refine with_tabW spec_l2Parse.tab3 spec_l2Parse.bits3 (fun HT_ HW_ => ?_)
     generalize w15.drew = w16 at HO449 HO453 BK446 HB HR458 hx454_0 hHeld ⊢
     refine pu_ 0 (some 13) #[true, false, false, false, false, false, false, false, false, false, false, false, false, false, false] HT_.out ?_
     refine pu_ 1 (some 14) #[true, true, false, false, false, false, false, false, false, false, false, false, false, false, false] HT_.out ?_
     refine pu_ 2 (some 15) #[true, true, true, false, false, false, false, false, false, false, false, false, false, false, false] HT_.out ?_
     refine pu_ 3 (some 16) #[true, true, true, true, false, false, false, false, false, false, false, false, false, false, false] HT_.out ?_
     refine pu_ 4 (some 17) #[true, true, true, true, true, false, false, false, false, false, false, false, false, false, false] HT_.out ?_
     refine pu_ 6 (some 19) #[true, true, true, true, true, false, true, false, false, false, false, false, false, false, false] HT_.out ?_
     refine pu_ 7 (some 20) #[true, true, true, true, true, false, true, true, false, false, false, false, false, false, false] HT_.out ?_
     refine pu_ 8 (some 21) #[true, true, true, true, true, false, true, true, true, false, false, false, false, false, false] HT_.out ?_
     refine pu_ 9 (some 22) #[true, true, true, true, true, false, true, true, true, true, false, false, false, false, false] HT_.out ?_
     refine pu_ 10 (some 23) #[true, true, true, true, true, false, true, true, true, true, true, false, false, false, false] HT_.out ?_
     refine take_ (i := 5) (N := some 18) (v := ?_) (a' := ?_) #[true, true, true, true, true, true, true, true, true, true, true, false, false, false, false] rfl rfl (take_ofW HT_.out HW_.out (by kernel_rfl)) (fun _ _ _ h => h) (Or.inl ⟨by rfl, ?_⟩) hHeld ?_ ?_
     rotate_left
     ·
      intro w' s0
      go_simp
      with_reducible rfl
     rotate_left
     ·
      simp only [Act.put, List.setIfInBounds_toArray, List.set_cons_zero, List.set_cons_succ, i64_w, i32_w]
      rfl
     refine join_ (σ := Nat) 1 #[true, true, true, true, true, true, true, true, true, true, true, true, true, true, false] (fun s_ => [(24, .string t459), (6, .pointer (some ⟨s_, 0, none⟩)), (25, .agg #[.slice none 0 0, .string t459, .string (rdOf ByteArray.empty t451 (ji5)), .string (⟨#[]⟩ : ByteArray)])]) (fun s_ w' => (w'.cell? (ad454.add ((ji5)).toNat) = some (.string (rdOf ByteArray.empty t451 (ji5)))) ∧ (Kd.R Kd.string 9 w' w.heap.size (fun k_ => some k_ ≠ (.slice (some ad454) t451.length co17 : Value).ownBlock) (.slice (some ad450) t447.length co14) t447) ∧ (Kd.R Kd.string 9 w' w.heap.size (fun k_ => some k_ ≠ (.slice (some ad450) t447.length co14 : Value).ownBlock) (.slice (some ad454) t451.length co17) t451) ∧ (w'.heap[gb446]? = some (.cells #[.slice none 0 0, .string (⟨#[]⟩ : ByteArray), .string (⟨#[]⟩ : ByteArray), .string (⟨#[]⟩ : ByteArray)] 26 (0, 0))) ∧ (w'.heap[s_]? = some (.cells #[.slice none 0 0, .string (⟨#[]⟩ : ByteArray), .string (⟨#[]⟩ : ByteArray), .string (⟨#[]⟩ : ByteArray)] 26 (0, 0))) ∧ (w.heap.size ≤ s_) ∧ (w.heap.size ≤ s_) ∧ (gb446 ≠ s_) ∧ (s_ ≠ gb446) ∧ (Below w.heap.size w w')) ?_ ?_
     rotate_left
     ·
      intro hCont
      refine two_ (i := 11) (j := 13) (Ni := some 24) (Nj := some 6) #[true, true, true, true, true, true, true, true, true, true, true, true, false, false, false] #[true, true, true, true, true, true, true, true, true, true, true, false, false, true, false] rfl rfl rfl rfl (two_of HT_.out (by kernel_rfl)) (by decide) (by decide) (fun K hK => ?_) (fun K hK => ?_)
      ·
       skip
       refine gs_ Tryd.func59 #[.slice (some ad454) y455.length co17] ?_
       with_reducible refine (spec_l2Join.calls k _ _ y455 t459 _ ?side1 ?side2 A10.out).mono ?_
       (case side1 => repeat (first | exact au24 | (with_reducible refine Kd.C_alloc ?_ _) | (with_reducible refine Kd.C_drewN ?_ _) | (with_reducible refine Kd.C_drew ?_)))
       (case side2 => exact HC458.out)
       rintro e w' ⟨rfl, ⟨nd, rfl⟩⟩
       refine ⟨_, rfl, ?_⟩
       refine hK.out _ _ (hHeld) (fun hHeld => ?_)
       clear hK K
       refine no_ (some 24) ?_
       refine pu_ 12 (some 25) #[true, true, true, true, true, true, true, true, true, true, true, true, true, false, false] HT_.out ?_
       refine on_ 13 (some 6) #[true, true, true, true, true, true, true, true, true, true, true, true, true, true, false] HT_.out (fun K hK => ?_)
       refine box_step ?hg (N := 6) ?hd (cs := #[.slice none 0 0, .string (⟨#[]⟩ : ByteArray), .string (⟨#[]⟩ : ByteArray), .string (⟨#[]⟩ : ByteArray)]) (t := 26) ?hr ?_; (case hd => rfl); (case hg => rfl); (case hr => first | (go_simp; done) | (go_simp; rfl))
       intro gb460 hg w19 hbox hb
       have HS0_ := (hb.cell (World.block_lt_of_cell? _ _ (hHeld))).trans (hHeld)
       replace HO449 := Aside0.mk (Kd.R_below au115 hb)
       replace HO453 := Aside0.mk (Kd.R_below au116 hb)
       replace HR458 := Aside0.mk (Kd.C_below au24 hb)
       have BK460 := Aside0.mk (hbox)
       have GW460 := Aside0.mk (bsz hg au52)
       have GE460 := Aside0.mk (bsz hg au52)
       replace HB := Aside0.mk (below_step au52 hb)
       have NB446_460 := Aside0.mk (bne (g := gb446) hg au99)
       have NB460_446 := Aside0.mk (ben (g := gb446) hg au99)
       replace BK446 := Aside0.mk (blk_below (g := gb446) au99 hb)
       clear hb hbox hg
       refine hK.out _ _ (HS0_) (fun hHeld => ?_)
       clear hK K
       refine no_ (some 6) ?_
       exact norm_ (by simp only [putAll, Act.put, List.setIfInBounds_toArray, List.set_cons_zero, List.set_cons_succ]) (hCont (gb460) _ ⟨hHeld, au55, au56, au99, au100, GW460.out, GE460.out, NB446_460.out, NB460_446.out, au22⟩)
      ·
       skip
       refine box_step ?hg (N := 6) ?hd (cs := #[.slice none 0 0, .string (⟨#[]⟩ : ByteArray), .string (⟨#[]⟩ : ByteArray), .string (⟨#[]⟩ : ByteArray)]) (t := 26) ?hr ?_; (case hd => rfl); (case hg => rfl); (case hr => first | (go_simp; done) | (go_simp; rfl))
       intro gb460 hg w19 hbox hb
       have HS0_ := (hb.cell (World.block_lt_of_cell? _ _ (hHeld))).trans (hHeld)
       replace HO449 := Aside0.mk (Kd.R_below au115 hb)
       replace HO453 := Aside0.mk (Kd.R_below au116 hb)
       replace HR458 := Aside0.mk (Kd.C_below au24 hb)
       have BK460 := Aside0.mk (hbox)
       have GW460 := Aside0.mk (bsz hg au52)
       have GE460 := Aside0.mk (bsz hg au52)
       replace HB := Aside0.mk (below_step au52 hb)
       have NB446_460 := Aside0.mk (bne (g := gb446) hg au99)
       have NB460_446 := Aside0.mk (ben (g := gb446) hg au99)
       replace BK446 := Aside0.mk (blk_below (g := gb446) au99 hb)
       clear hb hbox hg
       refine hK.out _ _ (HS0_) (fun hHeld => ?_)
       clear hK K
       refine no_ (some 6) ?_
       refine on_ 11 (some 24) #[true, true, true, true, true, true, true, true, true, true, true, true, false, true, false] HT_.out (fun K hK => ?_)
       refine gs_ Tryd.func59 #[.slice (some ad454) y455.length co17] ?_
       with_reducible refine (spec_l2Join.calls k _ _ y455 t459 _ ?side1 ?side2 A10.out).mono ?_
       (case side1 => repeat (first | exact au24 | (with_reducible refine Kd.C_alloc ?_ _) | (with_reducible refine Kd.C_drewN ?_ _) | (with_reducible refine Kd.C_drew ?_)))
       (case side2 => exact HC458.out)
       rintro e w' ⟨rfl, ⟨nd, rfl⟩⟩
       refine ⟨_, rfl, ?_⟩
       refine hK.out _ _ (hHeld) (fun hHeld => ?_)
       clear hK K
       refine no_ (some 24) ?_
       refine pu_ 12 (some 25) #[true, true, true, true, true, true, true, true, true, true, true, true, true, true, false] HT_.out ?_
       exact norm_ (by simp only [putAll, Act.put, List.setIfInBounds_toArray, List.set_cons_zero, List.set_cons_succ]) (hCont (gb460) _ ⟨hHeld, au55, au56, au99, au100, GW460.out, GE460.out, NB446_460.out, NB460_446.out, au22⟩)
     rintro gb460 w20 ⟨hS_, h0_, h1_, h2_, h3_, h4_, h5_, h6_, h7_, h8_⟩
     have n0_ : Aside0 (Kd.R Kd.string 9 w20 w.heap.size (fun k_ => some k_ ≠ (.slice (some ad454) t451.length co17 : Value).ownBlock) (.slice (some ad450) t447.length co14) t447) := ⟨h0_⟩
     have n1_ : Aside0 (Kd.R Kd.string 9 w20 w.heap.size (fun k_ => some k_ ≠ (.slice (some ad450) t447.length co14 : Value).ownBlock) (.slice (some ad454) t451.length co17) t451) := ⟨h1_⟩
     have n2_ : Aside0 (w20.heap[gb446]? = some (.cells #[.slice none 0 0, .string (⟨#[]⟩ : ByteArray), .string (⟨#[]⟩ : ByteArray), .string (⟨#[]⟩ : ByteArray)] 26 (0, 0))) := ⟨h2_⟩
     have n3_ : Aside0 (w20.heap[gb460]? = some (.cells #[.slice none 0 0, .string (⟨#[]⟩ : ByteArray), .string (⟨#[]⟩ : ByteArray), .string (⟨#[]⟩ : ByteArray)] 26 (0, 0))) := ⟨h3_⟩
     have n4_ : Aside0 (w.heap.size ≤ gb460) := ⟨h4_⟩
     have n5_ : Aside0 (w.heap.size ≤ gb460) := ⟨h5_⟩
     have n6_ : Aside0 (gb446 ≠ gb460) := ⟨h6_⟩
     have n7_ : Aside0 (gb460 ≠ gb446) := ⟨h7_⟩
     have n8_ : Aside0 (Below w.heap.size w w20) := ⟨h8_⟩
     clear HO449
     clear HO453
     clear BK446
     clear HB
     clear h0_ h1_ h2_ h3_ h4_ h5_ h6_ h7_ h8_
     have HO449 := n0_
     have HO453 := n1_
     have BK446 := n2_
     have BK460 := n3_
     have GW460 := n4_
     have GE460 := n5_
     have NB446_460 := n6_
     have NB460_446 := n7_
     have HB := n8_
     clear n0_ n1_ n2_ n3_ n4_ n5_ n6_ n7_ n8_
     have hHeld : w20.cell? (ad454.add ((ji5)).toNat) = some (.string (rdOf ByteArray.empty t451 (ji5))) := hS_
     refine norm_ (a' := ?_) ?_ ?_
     rotate_left
     ·
      simp only [putAll, Act.put, List.setIfInBounds_toArray, List.set_cons_zero, List.set_cons_succ]
      rfl
     refine on_ 14 (none) #[true, true, true, true, true, true, true, true, true, true, true, true, true, true, true] HT_.out (fun K hK => ?_)
     have hs21 : w20.cell? ⟨gb460, 0, none⟩ = some (.slice none 0 0) := (blk_cell BK460.out 0).trans rfl
     have hfs21 := blk_frozen BK460.out 0
     have hns21_0 := NB446_460.out
     have hms21_0 := NB460_446.out
     have hs22 : w20.cell? ⟨gb460, 1, none⟩ = some (.string (⟨#[]⟩ : ByteArray)) := (blk_cell BK460.out 1).trans rfl
     have hfs22 := blk_frozen BK460.out 1
     have hns22_0 := NB446_460.out
     have hms22_0 := NB460_446.out
     have hs23 : w20.cell? ⟨gb460, 2, none⟩ = some (.string (⟨#[]⟩ : ByteArray)) := (blk_cell BK460.out 2).trans rfl
     have hfs23 := blk_frozen BK460.out 2
     have hns23_0 := NB446_460.out
     have hms23_0 := NB460_446.out
     have hs24 : w20.cell? ⟨gb460, 3, none⟩ = some (.string (⟨#[]⟩ : ByteArray)) := (blk_cell BK460.out 3).trans rfl
     have hfs24 := blk_frozen BK460.out 3
     have hns24_0 := NB446_460.out
     have hms24_0 := NB460_446.out
     refine skip_ (w1 := ?_) (by rfl) rfl ?_ ?_
     rotate_left
     ·
      go_simp
      rfl
     refine hK.out _ _ (((cell_far (p := ⟨gb460, _, none⟩) au7 _).trans (((cell_far (p := ⟨gb460, _, none⟩) au7 _).trans (((cell_far (p := ⟨gb460, _, none⟩) au7 _).trans (((cell_far (p := ⟨gb460, _, none⟩) au7 _).trans (hHeld))))))))) (fun hHeld => ?_)
     clear hK K
     refine done_ (done_of HT_.out (by kernel_rfl)) ?_
     go_upto_region 4 with (fail)
     go_cut [64] (fun v64 wc => ∃ (kq : Nat) (x64_10 : Bool), v64 = .bool x64_10 ∧ Aside0 (spec_l2Parse.j0 kq a0 t447 x64_10 t459 (rdOf ByteArray.empty t451 (ji5)) (⟨#[]⟩ : ByteArray) = some (r1, r2, r3, r4, r5)) ∧ Aside0 (kq ≤ k) ∧ Aside0 (Kd.R Kd.string 9 wc w.heap.size (fun _ => True) (.slice (some ad450) t447.length co14) t447) ∧ Aside0 (wc.heap[gb446]? = some (.cells #[(.slice none 0 0), .string (⟨#[]⟩ : ByteArray), .string (⟨#[]⟩ : ByteArray), .string (⟨#[]⟩ : ByteArray)] 26 (0, 0))) ∧ Aside0 (wc.heap[gb460]? = some (.cells #[(.slice none 0 0), .string t459, .string (rdOf ByteArray.empty t451 (ji5)), .string (⟨#[]⟩ : ByteArray)] 26 (0, 0))) ∧ Aside0 (Below w.heap.size w wc))
     case first =>
      have H := HC11.out
      clear HC11
      by_cases c25 : (t447.length : Int) > 3
      ·
       rw [if_pos c25] at H
       have c25b0 : decide (3 < (t447.length : Int)) = true := decide_eq_true c25
       have c25b1 : decide (3 < t447.length) = true := decide_eq_true (by omega)
       clear c25
       (first | rw [c25b0] | (simp only [i64_w, i32_w]; rw [c25b0]) | skip)
       have H' := Aside0.mk H
       clear H
       exact spec_l2Parse.L1
      ·
       rw [if_neg c25] at H
       have c25b0 : decide (3 < (t447.length : Int)) = false := decide_eq_false c25
       have c25b1 : decide (3 < t447.length) = false := decide_eq_false (by omega)
       clear c25
       (first | rw [c25b0] | (simp only [i64_w, i32_w]; rw [c25b0]) | skip)
       by_cases c26 : (t447.length : Int) > 1
       ·
        rw [if_pos c26] at H
        have c26b0 : decide (1 < (t447.length : Int)) = true := decide_eq_true c26
        have c26b1 : decide (1 < t447.length) = true := decide_eq_true (by omega)
        clear c26
        by_cases c27 : 1 < (t447.length : Int)
        ·
         rw [if_pos c27] at H
         have c27b0 : decide (1 < (t447.length : Int)) = true := decide_eq_true c27
         have c27b1 : decide (1 < t447.length) = true := decide_eq_true (by omega)
         clear c27
         by_cases c28 : (rdOf ByteArray.empty t447 1).toList = ([] : List UInt8)
         ·
          rw [if_pos c28] at H
          have c28b0 : ((rdOf ByteArray.empty t447 1).toList == ([] : List UInt8)) = true := beq_iff_eq.mpr c28
          have c28b1 : ((rdOf ByteArray.empty t447 1).toList != ([] : List UInt8)) = false := bne_eq_false_iff_eq.mpr c28
          clear c28
          have H' := Aside0.mk H
          clear H
          have p461 : 0 ≤ (1 : Int) := (by omega)
          have q461 : 1 < (t447.length : Int) := of_decide_eq_true au121
          obtain ⟨ad461, e461, hx461_0⟩ := Kd.at_string (Kd.R_reads' HO449.out).2.2 1 p461 q461
          obtain rfl : ad450 = ad461 := (by injection e461)
          (try simp only [show (1 : Int).toNat = 1 from rfl, Nat.reduceMul, Nat.reduceEqDiff, Go.Addr.add, ↓reduceIte] at hx461_0)
          have qi461 : (1 < t447.length) = True := eq_true (by omega)
          (try rw [show ((1 : Int)).toNat = 1 from rfl] at hx461_0)
          have hn461_0 : ad450.block ≠ gb460 := Kd.own_blk (Kd.R_ne HO449.out BK460.out (by decide))
          have hn461_1 : ad450.block ≠ gb460 := Kd.own_blk (Kd.R_ne HO449.out BK460.out (by decide))
          have hn461_2 : ad450.block ≠ gb460 := Kd.own_blk (Kd.R_ne HO449.out BK460.out (by decide))
          have hn461_3 : ad450.block ≠ gb460 := Kd.own_blk (Kd.R_ne HO449.out BK460.out (by decide))
          replace hx461_0 := (cell_far (p := ⟨gb460, 0, none⟩) au58 (.slice none 0 0)).trans hx461_0
          replace hx461_0 := (cell_far (p := ⟨gb460, 1, none⟩) au59 (.string t459)).trans hx461_0
          replace hx461_0 := (cell_far (p := ⟨gb460, 2, none⟩) au60 (.string (rdOf ByteArray.empty t451 (ji5)))).trans hx461_0
          replace hx461_0 := (cell_far (p := ⟨gb460, 3, none⟩) au61 (.string (⟨#[]⟩ : ByteArray))).trans hx461_0
          clear hn461_0
          clear hn461_1
          clear hn461_2
          clear hn461_3
          replace p461 := eq_true p461
          replace q461 := eq_true q461
          exact spec_l2Parse.L1
         ·
          rw [if_neg c28] at H
          have c28b0 : ((rdOf ByteArray.empty t447 1).toList == ([] : List UInt8)) = false := beq_eq_false_iff_ne.mpr c28
          have c28b1 : ((rdOf ByteArray.empty t447 1).toList != ([] : List UInt8)) = true := bne_iff_ne.mpr c28
          by_cases c29 : 0 < ((rdOf ByteArray.empty t447 1).size : Int)
          ·
           rw [if_pos c29] at H
           have c29b0 : decide (0 < ((rdOf ByteArray.empty t447 1).size : Int)) = true := decide_eq_true c29
           have c29b1 : decide (0 < (rdOf ByteArray.empty t447 1).size) = true := decide_eq_true (by omega)
           clear c29
           by_cases c31 : (bt (rdOf ByteArray.empty t447 1) 0) = 32
           ·
            rw [if_pos c31] at H
            have c31b0 : ((bt (rdOf ByteArray.empty t447 1) 0) == 32) = true := beq_iff_eq.mpr c31
            have c31b1 : ((bt (rdOf ByteArray.empty t447 1) 0) != 32) = false := bne_eq_false_iff_eq.mpr c31
            clear c31
            by_cases c32 : (t447.length : Int) > 2
            ·
             rw [if_pos c32] at H
             have c32b0 : decide (2 < (t447.length : Int)) = true := decide_eq_true c32
             have c32b1 : decide (2 < t447.length) = true := decide_eq_true (by omega)
             clear c32
             by_cases c33 : 2 < (t447.length : Int)
             ·
              rw [if_pos c33] at H
              have c33b0 : decide (2 < (t447.length : Int)) = true := decide_eq_true c33
              have c33b1 : decide (2 < t447.length) = true := decide_eq_true (by omega)
              clear c33
              by_cases c34 : (rdOf ByteArray.empty t447 2).toList = ([] : List UInt8)
              ·
               rw [if_pos c34] at H
               have c34b0 : ((rdOf ByteArray.empty t447 2).toList == ([] : List UInt8)) = true := beq_iff_eq.mpr c34
               have c34b1 : ((rdOf ByteArray.empty t447 2).toList != ([] : List UInt8)) = false := bne_eq_false_iff_eq.mpr c34
               clear c34
               have H' := Aside0.mk H
               clear H
               have p461 : 0 ≤ (1 : Int) := (by omega)
               have q461 : 1 < (t447.length : Int) := of_decide_eq_true au121
               obtain ⟨ad461, e461, hx461_0⟩ := Kd.at_string (Kd.R_reads' HO449.out).2.2 1 p461 q461
               obtain rfl : ad450 = ad461 := (by injection e461)
               (try simp only [show (1 : Int).toNat = 1 from rfl, Nat.reduceMul, Nat.reduceEqDiff, Go.Addr.add, ↓reduceIte] at hx461_0)
               have qi461 : (1 < t447.length) = True := eq_true (by omega)
               (try rw [show ((1 : Int)).toNat = 1 from rfl] at hx461_0)
               have hn461_0 : ad450.block ≠ gb460 := Kd.own_blk (Kd.R_ne HO449.out BK460.out (by decide))
               have hn461_1 : ad450.block ≠ gb460 := Kd.own_blk (Kd.R_ne HO449.out BK460.out (by decide))
               have hn461_2 : ad450.block ≠ gb460 := Kd.own_blk (Kd.R_ne HO449.out BK460.out (by decide))
               have hn461_3 : ad450.block ≠ gb460 := Kd.own_blk (Kd.R_ne HO449.out BK460.out (by decide))
               replace hx461_0 := (cell_far (p := ⟨gb460, 0, none⟩) au58 (.slice none 0 0)).trans hx461_0
               replace hx461_0 := (cell_far (p := ⟨gb460, 1, none⟩) au59 (.string t459)).trans hx461_0
               replace hx461_0 := (cell_far (p := ⟨gb460, 2, none⟩) au60 (.string (rdOf ByteArray.empty t451 (ji5)))).trans hx461_0
               replace hx461_0 := (cell_far (p := ⟨gb460, 3, none⟩) au61 (.string (⟨#[]⟩ : ByteArray))).trans hx461_0
               clear hn461_0
               clear hn461_1
               clear hn461_2
               clear hn461_3
               replace p461 := eq_true p461
               replace q461 := eq_true q461
               have p462 : 0 ≤ (1 : Int) := (by omega)
               have q462 : 1 < (t447.length : Int) := of_decide_eq_true au121
               obtain ⟨ad462, e462, hx462_0⟩ := Kd.at_string (Kd.R_reads' HO449.out).2.2 1 p462 q462
               obtain rfl : ad450 = ad462 := (by injection e462)
               (try simp only [show (1 : Int).toNat = 1 from rfl, Nat.reduceMul, Nat.reduceEqDiff, Go.Addr.add, ↓reduceIte] at hx462_0)
               have qi462 : (1 < t447.length) = True := eq_true (by omega)
               (try rw [show ((1 : Int)).toNat = 1 from rfl] at hx462_0)
               have hn462_0 : ad450.block ≠ gb460 := Kd.own_blk (Kd.R_ne HO449.out BK460.out (by decide))
               have hn462_1 : ad450.block ≠ gb460 := Kd.own_blk (Kd.R_ne HO449.out BK460.out (by decide))
               have hn462_2 : ad450.block ≠ gb460 := Kd.own_blk (Kd.R_ne HO449.out BK460.out (by decide))
               have hn462_3 : ad450.block ≠ gb460 := Kd.own_blk (Kd.R_ne HO449.out BK460.out (by decide))
               replace hx462_0 := (cell_far (p := ⟨gb460, 0, none⟩) au62 (.slice none 0 0)).trans hx462_0
               replace hx462_0 := (cell_far (p := ⟨gb460, 1, none⟩) au63 (.string t459)).trans hx462_0
               replace hx462_0 := (cell_far (p := ⟨gb460, 2, none⟩) au64 (.string (rdOf ByteArray.empty t451 (ji5)))).trans hx462_0
               replace hx462_0 := (cell_far (p := ⟨gb460, 3, none⟩) au65 (.string (⟨#[]⟩ : ByteArray))).trans hx462_0
               clear hn462_0
               clear hn462_1
               clear hn462_2
               clear hn462_3
               replace p462 := eq_true p462
               replace q462 := eq_true q462
               have p30 : 0 ≤ (0 : Int) := (by omega)
               have q30 : 0 < (rdOf ByteArray.empty t447 1).size := (by have : (0 : Int) < ((rdOf ByteArray.empty t447 1).size : Int) := of_decide_eq_true au121; omega)
               have hx30 : ∀ h : 0 < (rdOf ByteArray.empty t447 1).size, (((rdOf ByteArray.empty t447 1)[0]'h).toNat : Int) = bt (rdOf ByteArray.empty t447 1) 0 := bt_at (rdOf ByteArray.empty t447 1) 0
               clear p30
               have qi30 : (0 < ((rdOf ByteArray.empty t447 1).size : Int)) = True := eq_true (of_decide_eq_true au121)
               replace q30 := eq_true q30
               have p463 : 0 ≤ (2 : Int) := (by omega)
               have q463 : 2 < (t447.length : Int) := of_decide_eq_true au121
               obtain ⟨ad463, e463, hx463_0⟩ := Kd.at_string (Kd.R_reads' HO449.out).2.2 2 p463 q463
               obtain rfl : ad450 = ad463 := (by injection e463)
               (try simp only [show (2 : Int).toNat = 2 from rfl, Nat.reduceMul, Nat.reduceEqDiff, Go.Addr.add, ↓reduceIte] at hx463_0)
               have qi463 : (2 < t447.length) = True := eq_true (by omega)
               (try rw [show ((2 : Int)).toNat = 2 from rfl] at hx463_0)
               have hn463_0 : ad450.block ≠ gb460 := Kd.own_blk (Kd.R_ne HO449.out BK460.out (by decide))
               have hn463_1 : ad450.block ≠ gb460 := Kd.own_blk (Kd.R_ne HO449.out BK460.out (by decide))
               have hn463_2 : ad450.block ≠ gb460 := Kd.own_blk (Kd.R_ne HO449.out BK460.out (by decide))
               have hn463_3 : ad450.block ≠ gb460 := Kd.own_blk (Kd.R_ne HO449.out BK460.out (by decide))
               replace hx463_0 := (cell_far (p := ⟨gb460, 0, none⟩) au66 (.slice none 0 0)).trans hx463_0
               replace hx463_0 := (cell_far (p := ⟨gb460, 1, none⟩) au67 (.string t459)).trans hx463_0
               replace hx463_0 := (cell_far (p := ⟨gb460, 2, none⟩) au68 (.string (rdOf ByteArray.empty t451 (ji5)))).trans hx463_0
               replace hx463_0 := (cell_far (p := ⟨gb460, 3, none⟩) au69 (.string (⟨#[]⟩ : ByteArray))).trans hx463_0
               clear hn463_0
               clear hn463_1
               clear hn463_2
               clear hn463_3
               replace p463 := eq_true p463
               replace q463 := eq_true q463
               exact spec_l2Parse.L1
              ·
               rw [if_neg c34] at H
               have c34b0 : ((rdOf ByteArray.empty t447 2).toList == ([] : List UInt8)) = false := beq_eq_false_iff_ne.mpr c34
               have c34b1 : ((rdOf ByteArray.empty t447 2).toList != ([] : List UInt8)) = true := bne_iff_ne.mpr c34
               by_cases c35 : 0 < ((rdOf ByteArray.empty t447 2).size : Int)
               ·
                rw [if_pos c35] at H
                have c35b0 : decide (0 < ((rdOf ByteArray.empty t447 2).size : Int)) = true := decide_eq_true c35
                have c35b1 : decide (0 < (rdOf ByteArray.empty t447 2).size) = true := decide_eq_true (by omega)
                clear c35
                have H' := Aside0.mk H
                clear H
                have p461 : 0 ≤ (1 : Int) := (by omega)
                have q461 : 1 < (t447.length : Int) := of_decide_eq_true au121
                obtain ⟨ad461, e461, hx461_0⟩ := Kd.at_string (Kd.R_reads' HO449.out).2.2 1 p461 q461
                obtain rfl : ad450 = ad461 := (by injection e461)
                (try simp only [show (1 : Int).toNat = 1 from rfl, Nat.reduceMul, Nat.reduceEqDiff, Go.Addr.add, ↓reduceIte] at hx461_0)
                have qi461 : (1 < t447.length) = True := eq_true (by omega)
                (try rw [show ((1 : Int)).toNat = 1 from rfl] at hx461_0)
                have hn461_0 : ad450.block ≠ gb460 := Kd.own_blk (Kd.R_ne HO449.out BK460.out (by decide))
                have hn461_1 : ad450.block ≠ gb460 := Kd.own_blk (Kd.R_ne HO449.out BK460.out (by decide))
                have hn461_2 : ad450.block ≠ gb460 := Kd.own_blk (Kd.R_ne HO449.out BK460.out (by decide))
                have hn461_3 : ad450.block ≠ gb460 := Kd.own_blk (Kd.R_ne HO449.out BK460.out (by decide))
                replace hx461_0 := (cell_far (p := ⟨gb460, 0, none⟩) au58 (.slice none 0 0)).trans hx461_0
                replace hx461_0 := (cell_far (p := ⟨gb460, 1, none⟩) au59 (.string t459)).trans hx461_0
                replace hx461_0 := (cell_far (p := ⟨gb460, 2, none⟩) au60 (.string (rdOf ByteArray.empty t451 (ji5)))).trans hx461_0
                replace hx461_0 := (cell_far (p := ⟨gb460, 3, none⟩) au61 (.string (⟨#[]⟩ : ByteArray))).trans hx461_0
                clear hn461_0
                clear hn461_1
                clear hn461_2
                clear hn461_3
                replace p461 := eq_true p461
                replace q461 := eq_true q461
                have p462 : 0 ≤ (1 : Int) := (by omega)
                have q462 : 1 < (t447.length : Int) := of_decide_eq_true au121
                obtain ⟨ad462, e462, hx462_0⟩ := Kd.at_string (Kd.R_reads' HO449.out).2.2 1 p462 q462
                obtain rfl : ad450 = ad462 := (by injection e462)
                (try simp only [show (1 : Int).toNat = 1 from rfl, Nat.reduceMul, Nat.reduceEqDiff, Go.Addr.add, ↓reduceIte] at hx462_0)
                have qi462 : (1 < t447.length) = True := eq_true (by omega)
                (try rw [show ((1 : Int)).toNat = 1 from rfl] at hx462_0)
                have hn462_0 : ad450.block ≠ gb460 := Kd.own_blk (Kd.R_ne HO449.out BK460.out (by decide))
                have hn462_1 : ad450.block ≠ gb460 := Kd.own_blk (Kd.R_ne HO449.out BK460.out (by decide))
                have hn462_2 : ad450.block ≠ gb460 := Kd.own_blk (Kd.R_ne HO449.out BK460.out (by decide))
                have hn462_3 : ad450.block ≠ gb460 := Kd.own_blk (Kd.R_ne HO449.out BK460.out (by decide))
                replace hx462_0 := (cell_far (p := ⟨gb460, 0, none⟩) au62 (.slice none 0 0)).trans hx462_0
                replace hx462_0 := (cell_far (p := ⟨gb460, 1, none⟩) au63 (.string t459)).trans hx462_0
                replace hx462_0 := (cell_far (p := ⟨gb460, 2, none⟩) au64 (.string (rdOf ByteArray.empty t451 (ji5)))).trans hx462_0
                replace hx462_0 := (cell_far (p := ⟨gb460, 3, none⟩) au65 (.string (⟨#[]⟩ : ByteArray))).trans hx462_0
                clear hn462_0
                clear hn462_1
                clear hn462_2
                clear hn462_3
                replace p462 := eq_true p462
                replace q462 := eq_true q462
                have p30 : 0 ≤ (0 : Int) := (by omega)
                have q30 : 0 < (rdOf ByteArray.empty t447 1).size := (by have : (0 : Int) < ((rdOf ByteArray.empty t447 1).size : Int) := of_decide_eq_true au121; omega)
                have hx30 : ∀ h : 0 < (rdOf ByteArray.empty t447 1).size, (((rdOf ByteArray.empty t447 1)[0]'h).toNat : Int) = bt (rdOf ByteArray.empty t447 1) 0 := bt_at (rdOf ByteArray.empty t447 1) 0
                clear p30
                have qi30 : (0 < ((rdOf ByteArray.empty t447 1).size : Int)) = True := eq_true (of_decide_eq_true au121)
                replace q30 := eq_true q30
                have p463 : 0 ≤ (2 : Int) := (by omega)
                have q463 : 2 < (t447.length : Int) := of_decide_eq_true au121
                obtain ⟨ad463, e463, hx463_0⟩ := Kd.at_string (Kd.R_reads' HO449.out).2.2 2 p463 q463
                obtain rfl : ad450 = ad463 := (by injection e463)
                (try simp only [show (2 : Int).toNat = 2 from rfl, Nat.reduceMul, Nat.reduceEqDiff, Go.Addr.add, ↓reduceIte] at hx463_0)
                have qi463 : (2 < t447.length) = True := eq_true (by omega)
                (try rw [show ((2 : Int)).toNat = 2 from rfl] at hx463_0)
                have hn463_0 : ad450.block ≠ gb460 := Kd.own_blk (Kd.R_ne HO449.out BK460.out (by decide))
                have hn463_1 : ad450.block ≠ gb460 := Kd.own_blk (Kd.R_ne HO449.out BK460.out (by decide))
                have hn463_2 : ad450.block ≠ gb460 := Kd.own_blk (Kd.R_ne HO449.out BK460.out (by decide))
                have hn463_3 : ad450.block ≠ gb460 := Kd.own_blk (Kd.R_ne HO449.out BK460.out (by decide))
                replace hx463_0 := (cell_far (p := ⟨gb460, 0, none⟩) au66 (.slice none 0 0)).trans hx463_0
                replace hx463_0 := (cell_far (p := ⟨gb460, 1, none⟩) au67 (.string t459)).trans hx463_0
                replace hx463_0 := (cell_far (p := ⟨gb460, 2, none⟩) au68 (.string (rdOf ByteArray.empty t451 (ji5)))).trans hx463_0
                replace hx463_0 := (cell_far (p := ⟨gb460, 3, none⟩) au69 (.string (⟨#[]⟩ : ByteArray))).trans hx463_0
                clear hn463_0
                clear hn463_1
                clear hn463_2
                clear hn463_3
                replace p463 := eq_true p463
                replace q463 := eq_true q463
                have p464 : 0 ≤ (2 : Int) := (by omega)
                have q464 : 2 < (t447.length : Int) := of_decide_eq_true au121
                obtain ⟨ad464, e464, hx464_0⟩ := Kd.at_string (Kd.R_reads' HO449.out).2.2 2 p464 q464
                obtain rfl : ad450 = ad464 := (by injection e464)
                (try simp only [show (2 : Int).toNat = 2 from rfl, Nat.reduceMul, Nat.reduceEqDiff, Go.Addr.add, ↓reduceIte] at hx464_0)
                have qi464 : (2 < t447.length) = True := eq_true (by omega)
                (try rw [show ((2 : Int)).toNat = 2 from rfl] at hx464_0)
                have hn464_0 : ad450.block ≠ gb460 := Kd.own_blk (Kd.R_ne HO449.out BK460.out (by decide))
                have hn464_1 : ad450.block ≠ gb460 := Kd.own_blk (Kd.R_ne HO449.out BK460.out (by decide))
                have hn464_2 : ad450.block ≠ gb460 := Kd.own_blk (Kd.R_ne HO449.out BK460.out (by decide))
                have hn464_3 : ad450.block ≠ gb460 := Kd.own_blk (Kd.R_ne HO449.out BK460.out (by decide))
                replace hx464_0 := (cell_far (p := ⟨gb460, 0, none⟩) (by first | (rw [add_block]; exact hn464_0) | (show (Addr.add _ _).block ≠ _; rw [add_block]; exact hn464_0) | exact hn464_0) (.slice none 0 0)).trans hx464_0
                replace hx464_0 := (cell_far (p := ⟨gb460, 1, none⟩) (by first | (rw [add_block]; exact hn464_1) | (show (Addr.add _ _).block ≠ _; rw [add_block]; exact hn464_1) | exact hn464_1) (.string t459)).trans hx464_0
                replace hx464_0 := (cell_far (p := ⟨gb460, 2, none⟩) (by first | (rw [add_block]; exact hn464_2) | (show (Addr.add _ _).block ≠ _; rw [add_block]; exact hn464_2) | exact hn464_2) (.string (rdOf ByteArray.empty t451 (ji5)))).trans hx464_0
                replace hx464_0 := (cell_far (p := ⟨gb460, 3, none⟩) (by first | (rw [add_block]; exact hn464_3) | (show (Addr.add _ _).block ≠ _; rw [add_block]; exact hn464_3) | exact hn464_3) (.string (⟨#[]⟩ : ByteArray))).trans hx464_0
                clear hn464_0
                clear hn464_1
                clear hn464_2
                clear hn464_3
                replace p464 := eq_true p464
                replace q464 := eq_true q464
                have p36 : 0 ≤ (0 : Int) := (by omega)
                have q36 : 0 < (rdOf ByteArray.empty t447 2).size := (by have : (0 : Int) < ((rdOf ByteArray.empty t447 2).size : Int) := of_decide_eq_true au121; omega)
                have hx36 : ∀ h : 0 < (rdOf ByteArray.empty t447 2).size, (((rdOf ByteArray.empty t447 2)[0]'h).toNat : Int) = bt (rdOf ByteArray.empty t447 2) 0 := bt_at (rdOf ByteArray.empty t447 2) 0
                clear p36
                have qi36 : (0 < ((rdOf ByteArray.empty t447 2).size : Int)) = True := eq_true (of_decide_eq_true au121)
                replace q36 := eq_true q36
                exact spec_l2Parse.L1
               ·
                rw [if_neg c35] at H
                exact absurd H (by simp)
             ·
              rw [if_neg c33] at H
              exact absurd H (by simp)
            ·
             rw [if_neg c32] at H
             have c32b0 : decide (2 < (t447.length : Int)) = false := decide_eq_false c32
             have c32b1 : decide (2 < t447.length) = false := decide_eq_false (by omega)
             clear c32
             have H' := Aside0.mk H
             clear H
             have p461 : 0 ≤ (1 : Int) := (by omega)
             have q461 : 1 < (t447.length : Int) := of_decide_eq_true au121
             obtain ⟨ad461, e461, hx461_0⟩ := Kd.at_string (Kd.R_reads' HO449.out).2.2 1 p461 q461
             obtain rfl : ad450 = ad461 := (by injection e461)
             (try simp only [show (1 : Int).toNat = 1 from rfl, Nat.reduceMul, Nat.reduceEqDiff, Go.Addr.add, ↓reduceIte] at hx461_0)
             have qi461 : (1 < t447.length) = True := eq_true (by omega)
             (try rw [show ((1 : Int)).toNat = 1 from rfl] at hx461_0)
             have hn461_0 : ad450.block ≠ gb460 := Kd.own_blk (Kd.R_ne HO449.out BK460.out (by decide))
             have hn461_1 : ad450.block ≠ gb460 := Kd.own_blk (Kd.R_ne HO449.out BK460.out (by decide))
             have hn461_2 : ad450.block ≠ gb460 := Kd.own_blk (Kd.R_ne HO449.out BK460.out (by decide))
             have hn461_3 : ad450.block ≠ gb460 := Kd.own_blk (Kd.R_ne HO449.out BK460.out (by decide))
             replace hx461_0 := (cell_far (p := ⟨gb460, 0, none⟩) au58 (.slice none 0 0)).trans hx461_0
             replace hx461_0 := (cell_far (p := ⟨gb460, 1, none⟩) au59 (.string t459)).trans hx461_0
             replace hx461_0 := (cell_far (p := ⟨gb460, 2, none⟩) au60 (.string (rdOf ByteArray.empty t451 (ji5)))).trans hx461_0
             replace hx461_0 := (cell_far (p := ⟨gb460, 3, none⟩) au61 (.string (⟨#[]⟩ : ByteArray))).trans hx461_0
             clear hn461_0
             clear hn461_1
             clear hn461_2
             clear hn461_3
             replace p461 := eq_true p461
             replace q461 := eq_true q461
             have p462 : 0 ≤ (1 : Int) := (by omega)
             have q462 : 1 < (t447.length : Int) := of_decide_eq_true au121
             obtain ⟨ad462, e462, hx462_0⟩ := Kd.at_string (Kd.R_reads' HO449.out).2.2 1 p462 q462
             obtain rfl : ad450 = ad462 := (by injection e462)
             (try simp only [show (1 : Int).toNat = 1 from rfl, Nat.reduceMul, Nat.reduceEqDiff, Go.Addr.add, ↓reduceIte] at hx462_0)
             have qi462 : (1 < t447.length) = True := eq_true (by omega)
             (try rw [show ((1 : Int)).toNat = 1 from rfl] at hx462_0)
             have hn462_0 : ad450.block ≠ gb460 := Kd.own_blk (Kd.R_ne HO449.out BK460.out (by decide))
             have hn462_1 : ad450.block ≠ gb460 := Kd.own_blk (Kd.R_ne HO449.out BK460.out (by decide))
             have hn462_2 : ad450.block ≠ gb460 := Kd.own_blk (Kd.R_ne HO449.out BK460.out (by decide))
             have hn462_3 : ad450.block ≠ gb460 := Kd.own_blk (Kd.R_ne HO449.out BK460.out (by decide))
             replace hx462_0 := (cell_far (p := ⟨gb460, 0, none⟩) au62 (.slice none 0 0)).trans hx462_0
             replace hx462_0 := (cell_far (p := ⟨gb460, 1, none⟩) au63 (.string t459)).trans hx462_0
             replace hx462_0 := (cell_far (p := ⟨gb460, 2, none⟩) au64 (.string (rdOf ByteArray.empty t451 (ji5)))).trans hx462_0
             replace hx462_0 := (cell_far (p := ⟨gb460, 3, none⟩) au65 (.string (⟨#[]⟩ : ByteArray))).trans hx462_0
             clear hn462_0
             clear hn462_1
             clear hn462_2
             clear hn462_3
             replace p462 := eq_true p462
             replace q462 := eq_true q462
             have p30 : 0 ≤ (0 : Int) := (by omega)
             have q30 : 0 < (rdOf ByteArray.empty t447 1).size := (by have : (0 : Int) < ((rdOf ByteArray.empty t447 1).size : Int) := of_decide_eq_true au121; omega)
             have hx30 : ∀ h : 0 < (rdOf ByteArray.empty t447 1).size, (((rdOf ByteArray.empty t447 1)[0]'h).toNat : Int) = bt (rdOf ByteArray.empty t447 1) 0 := bt_at (rdOf ByteArray.empty t447 1) 0
             clear p30
             have qi30 : (0 < ((rdOf ByteArray.empty t447 1).size : Int)) = True := eq_true (of_decide_eq_true au121)
             replace q30 := eq_true q30
             exact spec_l2Parse.L1
           ·
            rw [if_neg c31] at H
            have c31b0 : ((bt (rdOf ByteArray.empty t447 1) 0) == 32) = false := beq_eq_false_iff_ne.mpr c31
            have c31b1 : ((bt (rdOf ByteArray.empty t447 1) 0) != 32) = true := bne_iff_ne.mpr c31
            have H' := Aside0.mk H
            clear H
            have p461 : 0 ≤ (1 : Int) := (by omega)
            have q461 : 1 < (t447.length : Int) := of_decide_eq_true au121
            obtain ⟨ad461, e461, hx461_0⟩ := Kd.at_string (Kd.R_reads' HO449.out).2.2 1 p461 q461
            obtain rfl : ad450 = ad461 := (by injection e461)
            (try simp only [show (1 : Int).toNat = 1 from rfl, Nat.reduceMul, Nat.reduceEqDiff, Go.Addr.add, ↓reduceIte] at hx461_0)
            have qi461 : (1 < t447.length) = True := eq_true (by omega)
            (try rw [show ((1 : Int)).toNat = 1 from rfl] at hx461_0)
            have hn461_0 : ad450.block ≠ gb460 := Kd.own_blk (Kd.R_ne HO449.out BK460.out (by decide))
            have hn461_1 : ad450.block ≠ gb460 := Kd.own_blk (Kd.R_ne HO449.out BK460.out (by decide))
            have hn461_2 : ad450.block ≠ gb460 := Kd.own_blk (Kd.R_ne HO449.out BK460.out (by decide))
            have hn461_3 : ad450.block ≠ gb460 := Kd.own_blk (Kd.R_ne HO449.out BK460.out (by decide))
            replace hx461_0 := (cell_far (p := ⟨gb460, 0, none⟩) au58 (.slice none 0 0)).trans hx461_0
            replace hx461_0 := (cell_far (p := ⟨gb460, 1, none⟩) au59 (.string t459)).trans hx461_0
            replace hx461_0 := (cell_far (p := ⟨gb460, 2, none⟩) au60 (.string (rdOf ByteArray.empty t451 (ji5)))).trans hx461_0
            replace hx461_0 := (cell_far (p := ⟨gb460, 3, none⟩) au61 (.string (⟨#[]⟩ : ByteArray))).trans hx461_0
            clear hn461_0
            clear hn461_1
            clear hn461_2
            clear hn461_3
            replace p461 := eq_true p461
            replace q461 := eq_true q461
            have p462 : 0 ≤ (1 : Int) := (by omega)
            have q462 : 1 < (t447.length : Int) := of_decide_eq_true au121
            obtain ⟨ad462, e462, hx462_0⟩ := Kd.at_string (Kd.R_reads' HO449.out).2.2 1 p462 q462
            obtain rfl : ad450 = ad462 := (by injection e462)
            (try simp only [show (1 : Int).toNat = 1 from rfl, Nat.reduceMul, Nat.reduceEqDiff, Go.Addr.add, ↓reduceIte] at hx462_0)
            have qi462 : (1 < t447.length) = True := eq_true (by omega)
            (try rw [show ((1 : Int)).toNat = 1 from rfl] at hx462_0)
            have hn462_0 : ad450.block ≠ gb460 := Kd.own_blk (Kd.R_ne HO449.out BK460.out (by decide))
            have hn462_1 : ad450.block ≠ gb460 := Kd.own_blk (Kd.R_ne HO449.out BK460.out (by decide))
            have hn462_2 : ad450.block ≠ gb460 := Kd.own_blk (Kd.R_ne HO449.out BK460.out (by decide))
            have hn462_3 : ad450.block ≠ gb460 := Kd.own_blk (Kd.R_ne HO449.out BK460.out (by decide))
            replace hx462_0 := (cell_far (p := ⟨gb460, 0, none⟩) au62 (.slice none 0 0)).trans hx462_0
            replace hx462_0 := (cell_far (p := ⟨gb460, 1, none⟩) au63 (.string t459)).trans hx462_0
            replace hx462_0 := (cell_far (p := ⟨gb460, 2, none⟩) au64 (.string (rdOf ByteArray.empty t451 (ji5)))).trans hx462_0
            replace hx462_0 := (cell_far (p := ⟨gb460, 3, none⟩) au65 (.string (⟨#[]⟩ : ByteArray))).trans hx462_0
            clear hn462_0
            clear hn462_1
            clear hn462_2
            clear hn462_3
            replace p462 := eq_true p462
            replace q462 := eq_true q462
            have p30 : 0 ≤ (0 : Int) := (by omega)
            have q30 : 0 < (rdOf ByteArray.empty t447 1).size := (by have : (0 : Int) < ((rdOf ByteArray.empty t447 1).size : Int) := of_decide_eq_true au121; omega)
            have hx30 : ∀ h : 0 < (rdOf ByteArray.empty t447 1).size, (((rdOf ByteArray.empty t447 1)[0]'h).toNat : Int) = bt (rdOf ByteArray.empty t447 1) 0 := bt_at (rdOf ByteArray.empty t447 1) 0
            clear p30
            have qi30 : (0 < ((rdOf ByteArray.empty t447 1).size : Int)) = True := eq_true (of_decide_eq_true au121)
            replace q30 := eq_true q30
            exact spec_l2Parse.L1
          ·
           rw [if_neg c29] at H
           exact absurd H (by simp)
        ·
         rw [if_neg c27] at H
         exact absurd H (by simp)
       ·
        rw [if_neg c26] at H
        have c26b0 : decide (1 < (t447.length : Int)) = false := decide_eq_false c26
        have c26b1 : decide (1 < t447.length) = false := decide_eq_false (by omega)
        clear c26
        by_cases c37 : (t447.length : Int) > 2
        ·
         rw [if_pos c37] at H
         have c37b0 : decide (2 < (t447.length : Int)) = true := decide_eq_true c37
         have c37b1 : decide (2 < t447.length) = true := decide_eq_true (by omega)
         clear c37
         by_cases c38 : 2 < (t447.length : Int)
         ·
          rw [if_pos c38] at H
          have c38b0 : decide (2 < (t447.length : Int)) = true := decide_eq_true c38
          have c38b1 : decide (2 < t447.length) = true := decide_eq_true (by omega)
          clear c38
          by_cases c39 : (rdOf ByteArray.empty t447 2).toList = ([] : List UInt8)
          ·
           rw [if_pos c39] at H
           have c39b0 : ((rdOf ByteArray.empty t447 2).toList == ([] : List UInt8)) = true := beq_iff_eq.mpr c39
           have c39b1 : ((rdOf ByteArray.empty t447 2).toList != ([] : List UInt8)) = false := bne_eq_false_iff_eq.mpr c39
           clear c39
           have H' := Aside0.mk H
           clear H
           have p465 : 0 ≤ (2 : Int) := (by omega)
           have q465 : 2 < (t447.length : Int) := of_decide_eq_true au121
           obtain ⟨ad465, e465, hx465_0⟩ := Kd.at_string (Kd.R_reads' HO449.out).2.2 2 p465 q465
           obtain rfl : ad450 = ad465 := (by injection e465)
           (try simp only [show (2 : Int).toNat = 2 from rfl, Nat.reduceMul, Nat.reduceEqDiff, Go.Addr.add, ↓reduceIte] at hx465_0)
           have qi465 : (2 < t447.length) = True := eq_true (by omega)
           (try rw [show ((2 : Int)).toNat = 2 from rfl] at hx465_0)
           have hn465_0 : ad450.block ≠ gb460 := Kd.own_blk (Kd.R_ne HO449.out BK460.out (by decide))
           have hn465_1 : ad450.block ≠ gb460 := Kd.own_blk (Kd.R_ne HO449.out BK460.out (by decide))
           have hn465_2 : ad450.block ≠ gb460 := Kd.own_blk (Kd.R_ne HO449.out BK460.out (by decide))
           have hn465_3 : ad450.block ≠ gb460 := Kd.own_blk (Kd.R_ne HO449.out BK460.out (by decide))
           replace hx465_0 := (cell_far (p := ⟨gb460, 0, none⟩) au70 (.slice none 0 0)).trans hx465_0
           replace hx465_0 := (cell_far (p := ⟨gb460, 1, none⟩) au71 (.string t459)).trans hx465_0
           replace hx465_0 := (cell_far (p := ⟨gb460, 2, none⟩) au72 (.string (rdOf ByteArray.empty t451 (ji5)))).trans hx465_0
           replace hx465_0 := (cell_far (p := ⟨gb460, 3, none⟩) au73 (.string (⟨#[]⟩ : ByteArray))).trans hx465_0
           clear hn465_0
           clear hn465_1
           clear hn465_2
           clear hn465_3
           replace p465 := eq_true p465
           replace q465 := eq_true q465
           exact spec_l2Parse.L1
          ·
           rw [if_neg c39] at H
           have c39b0 : ((rdOf ByteArray.empty t447 2).toList == ([] : List UInt8)) = false := beq_eq_false_iff_ne.mpr c39
           have c39b1 : ((rdOf ByteArray.empty t447 2).toList != ([] : List UInt8)) = true := bne_iff_ne.mpr c39
           by_cases c40 : 0 < ((rdOf ByteArray.empty t447 2).size : Int)
           ·
            rw [if_pos c40] at H
            have c40b0 : decide (0 < ((rdOf ByteArray.empty t447 2).size : Int)) = true := decide_eq_true c40
            have c40b1 : decide (0 < (rdOf ByteArray.empty t447 2).size) = true := decide_eq_true (by omega)
            clear c40
            have H' := Aside0.mk H
            clear H
            have p465 : 0 ≤ (2 : Int) := (by omega)
            have q465 : 2 < (t447.length : Int) := of_decide_eq_true au121
            obtain ⟨ad465, e465, hx465_0⟩ := Kd.at_string (Kd.R_reads' HO449.out).2.2 2 p465 q465
            obtain rfl : ad450 = ad465 := (by injection e465)
            (try simp only [show (2 : Int).toNat = 2 from rfl, Nat.reduceMul, Nat.reduceEqDiff, Go.Addr.add, ↓reduceIte] at hx465_0)
            have qi465 : (2 < t447.length) = True := eq_true (by omega)
            (try rw [show ((2 : Int)).toNat = 2 from rfl] at hx465_0)
            have hn465_0 : ad450.block ≠ gb460 := Kd.own_blk (Kd.R_ne HO449.out BK460.out (by decide))
            have hn465_1 : ad450.block ≠ gb460 := Kd.own_blk (Kd.R_ne HO449.out BK460.out (by decide))
            have hn465_2 : ad450.block ≠ gb460 := Kd.own_blk (Kd.R_ne HO449.out BK460.out (by decide))
            have hn465_3 : ad450.block ≠ gb460 := Kd.own_blk (Kd.R_ne HO449.out BK460.out (by decide))
            replace hx465_0 := (cell_far (p := ⟨gb460, 0, none⟩) au70 (.slice none 0 0)).trans hx465_0
            replace hx465_0 := (cell_far (p := ⟨gb460, 1, none⟩) au71 (.string t459)).trans hx465_0
            replace hx465_0 := (cell_far (p := ⟨gb460, 2, none⟩) au72 (.string (rdOf ByteArray.empty t451 (ji5)))).trans hx465_0
            replace hx465_0 := (cell_far (p := ⟨gb460, 3, none⟩) au73 (.string (⟨#[]⟩ : ByteArray))).trans hx465_0
            clear hn465_0
            clear hn465_1
            clear hn465_2
            clear hn465_3
            replace p465 := eq_true p465
            replace q465 := eq_true q465
            have p466 : 0 ≤ (2 : Int) := (by omega)
            have q466 : 2 < (t447.length : Int) := of_decide_eq_true au121
            obtain ⟨ad466, e466, hx466_0⟩ := Kd.at_string (Kd.R_reads' HO449.out).2.2 2 p466 q466
            obtain rfl : ad450 = ad466 := (by injection e466)
            (try simp only [show (2 : Int).toNat = 2 from rfl, Nat.reduceMul, Nat.reduceEqDiff, Go.Addr.add, ↓reduceIte] at hx466_0)
            have qi466 : (2 < t447.length) = True := eq_true (by omega)
            (try rw [show ((2 : Int)).toNat = 2 from rfl] at hx466_0)
            have hn466_0 : ad450.block ≠ gb460 := Kd.own_blk (Kd.R_ne HO449.out BK460.out (by decide))
            have hn466_1 : ad450.block ≠ gb460 := Kd.own_blk (Kd.R_ne HO449.out BK460.out (by decide))
            have hn466_2 : ad450.block ≠ gb460 := Kd.own_blk (Kd.R_ne HO449.out BK460.out (by decide))
            have hn466_3 : ad450.block ≠ gb460 := Kd.own_blk (Kd.R_ne HO449.out BK460.out (by decide))
            replace hx466_0 := (cell_far (p := ⟨gb460, 0, none⟩) (by first | (rw [add_block]; exact hn466_0) | (show (Addr.add _ _).block ≠ _; rw [add_block]; exact hn466_0) | exact hn466_0) (.slice none 0 0)).trans hx466_0
            replace hx466_0 := (cell_far (p := ⟨gb460, 1, none⟩) (by first | (rw [add_block]; exact hn466_1) | (show (Addr.add _ _).block ≠ _; rw [add_block]; exact hn466_1) | exact hn466_1) (.string t459)).trans hx466_0
            replace hx466_0 := (cell_far (p := ⟨gb460, 2, none⟩) (by first | (rw [add_block]; exact hn466_2) | (show (Addr.add _ _).block ≠ _; rw [add_block]; exact hn466_2) | exact hn466_2) (.string (rdOf ByteArray.empty t451 (ji5)))).trans hx466_0
            replace hx466_0 := (cell_far (p := ⟨gb460, 3, none⟩) (by first | (rw [add_block]; exact hn466_3) | (show (Addr.add _ _).block ≠ _; rw [add_block]; exact hn466_3) | exact hn466_3) (.string (⟨#[]⟩ : ByteArray))).trans hx466_0
            clear hn466_0
            clear hn466_1
            clear hn466_2
            clear hn466_3
            replace p466 := eq_true p466
            replace q466 := eq_true q466
            have p41 : 0 ≤ (0 : Int) := (by omega)
            have q41 : 0 < (rdOf ByteArray.empty t447 2).size := (by have : (0 : Int) < ((rdOf ByteArray.empty t447 2).size : Int) := of_decide_eq_true au121; omega)
            have hx41 : ∀ h : 0 < (rdOf ByteArray.empty t447 2).size, (((rdOf ByteArray.empty t447 2)[0]'h).toNat : Int) = bt (rdOf ByteArray.empty t447 2) 0 := bt_at (rdOf ByteArray.empty t447 2) 0
            clear p41
            have qi41 : (0 < ((rdOf ByteArray.empty t447 2).size : Int)) = True := eq_true (of_decide_eq_true au121)
            replace q41 := eq_true q41
            exact spec_l2Parse.L1
           ·
            rw [if_neg c40] at H
            exact absurd H (by simp)
         ·
          rw [if_neg c38] at H
          exact absurd H (by simp)
        ·
         rw [if_neg c37] at H
         have c37b0 : decide (2 < (t447.length : Int)) = false := decide_eq_false c37
         have c37b1 : decide (2 < t447.length) = false := decide_eq_false (by omega)
         clear c37
         have H' := Aside0.mk H
         clear H
         exact spec_l2Parse.L1
     case rest =>
      clear HC11
      try clear c2
      try clear p2
      try clear c3
      try clear p3
      try clear q3
      try clear hx3
      try clear qi3
      try clear c4
      try clear p4
      try clear q4
      try clear hx4
      try clear qi4
      try clear c5
      try clear c25
      try clear c25b0
      try clear c25b1
      try clear c26
      try clear c26b0
      try clear c26b1
      try clear c27
      try clear c27b0
      try clear c27b1
      try clear c28
      try clear c28b0
      try clear c28b1
      try clear c29
      try clear c29b0
      try clear c29b1
      try clear p30
      try clear q30
      try clear hx30
      try clear qi30
      try clear c31
      try clear c31b0
      try clear c31b1
      try clear c32
      try clear c32b0
      try clear c32b1
      try clear c33
      try clear c33b0
      try clear c33b1
      try clear c34
      try clear c34b0
      try clear c34b1
      try clear c35
      try clear c35b0
      try clear c35b1
      try clear p36
      try clear q36
      try clear hx36
      try clear qi36
      try clear c37
      try clear c37b0
      try clear c37b1
      try clear c38
      try clear c38b0
      try clear c38b1
      try clear c39
      try clear c39b0
      try clear c39b1
      try clear c40
      try clear c40b0
      try clear c40b1
      try clear p41
      try clear q41
      try clear hx41
      try clear qi41
      try clear hx461_0
      try clear hx462_0
      try clear hx463_0
      try clear hx464_0
      try clear hx465_0
      try clear hx466_0
      try clear p30
      try clear p36
      try clear p41
      try clear p461
      try clear p462
      try clear p463
      try clear p464
      try clear p465
      try clear p466
      try clear q30
      try clear q36
      try clear q41
      try clear q461
      try clear q462
      try clear q463
      try clear q464
      try clear q465
      try clear q466
      obtain ⟨kq, x64_10, rfl, HA, HJ10, HO_4, BK446, BK460, HB⟩ := hcut
      cases kq with
      | zero => exact absurd HA.out (by simp [spec_l2Parse.j0])
      | succ kj10 =>
       have H := HA.out
       clear HA
       simp only [spec_l2Parse.j0] at H
       by_cases c42 : x64_10 = true
       ·
        subst c42
        replace H := (if_pos rfl).symm.trans H
        simp only [Option.some.injEq, Prod.mk.injEq] at H
        obtain ⟨rfl, rfl, rfl, rfl, rfl⟩ := H
        have hnb43 := NB446_460.out
        have hnc43 := NB460_446.out
        obtain ⟨hcz44_0, hcz44_1, hcz44_2, hcz44_3, hfz44_0, hfz44_1, hfz44_2, hfz44_3⟩ := blkc4 BK446.out
        exact spec_l2Parse.L0
       ·
        replace c42 := Bool.eq_false_iff.mpr c42
        subst c42
        replace H := (if_neg (show ¬ (false = true) by decide)).symm.trans H
        have HC45 := Aside0.mk H
        clear H
        go_upto_region 6 with (fail)
        go_cut [75] (fun v75 wc => ∃ (kq : Nat) (x75_44 : Bool), v75 = .bool x75_44 ∧ Aside0 (spec_l2Parse.j1 kq a0 t447 x75_44 t459 (rdOf ByteArray.empty t451 (ji5)) (⟨#[]⟩ : ByteArray) = some (r1, r2, r3, r4, r5)) ∧ Aside0 (kq ≤ kj10) ∧ Aside0 (Kd.R Kd.string 9 wc w.heap.size (fun _ => True) (.slice (some ad450) t447.length co14) t447) ∧ Aside0 (wc.heap[gb446]? = some (.cells #[(.slice none 0 0), .string (⟨#[]⟩ : ByteArray), .string (⟨#[]⟩ : ByteArray), .string (⟨#[]⟩ : ByteArray)] 26 (0, 0))) ∧ Aside0 (wc.heap[gb460]? = some (.cells #[(.slice none 0 0), .string t459, .string (rdOf ByteArray.empty t451 (ji5)), .string (⟨#[]⟩ : ByteArray)] 26 (0, 0))) ∧ Aside0 (Below w.heap.size w wc))
        case first =>
         have H := HC45.out
         clear HC45
         by_cases c46 : (t447.length : Int) > 1
         ·
          rw [if_pos c46] at H
          have c46b0 : decide (1 < (t447.length : Int)) = true := decide_eq_true c46
          have c46b1 : decide (1 < t447.length) = true := decide_eq_true (by omega)
          clear c46
          (first | rw [c46b0] | (simp only [i64_w, i32_w]; rw [c46b0]) | skip)
          by_cases c47 : 1 < (t447.length : Int)
          ·
           rw [if_pos c47] at H
           have c47b0 : decide (1 < (t447.length : Int)) = true := decide_eq_true c47
           have c47b1 : decide (1 < t447.length) = true := decide_eq_true (by omega)
           clear c47
           have H' := Aside0.mk H
           clear H
           have p467 : 0 ≤ (1 : Int) := (by omega)
           have q467 : 1 < (t447.length : Int) := of_decide_eq_true au121
           obtain ⟨ad467, e467, hx467_0⟩ := Kd.at_string (Kd.R_reads' HO_4.out).2.2 1 p467 q467
           obtain rfl : ad450 = ad467 := (by injection e467)
           (try simp only [show (1 : Int).toNat = 1 from rfl, Nat.reduceMul, Nat.reduceEqDiff, Go.Addr.add, ↓reduceIte] at hx467_0)
           have qi467 : (1 < t447.length) = True := eq_true (by omega)
           (try rw [show ((1 : Int)).toNat = 1 from rfl] at hx467_0)
           replace p467 := eq_true p467
           replace q467 := eq_true q467
           exact spec_l2Parse.L1
          ·
           rw [if_neg c47] at H
           exact absurd H (by simp)
         ·
          rw [if_neg c46] at H
          have c46b0 : decide (1 < (t447.length : Int)) = false := decide_eq_false c46
          have c46b1 : decide (1 < t447.length) = false := decide_eq_false (by omega)
          clear c46
          (first | rw [c46b0] | (simp only [i64_w, i32_w]; rw [c46b0]) | skip)
          have H' := Aside0.mk H
          clear H
          exact spec_l2Parse.L1
        case rest =>
         clear HC45
         try clear c2
         try clear p2
         try clear c3
         try clear p3
         try clear q3
         try clear hx3
         try clear qi3
         try clear c4
         try clear p4
         try clear q4
         try clear hx4
         try clear qi4
         try clear c5
         try clear c25
         try clear c25b0
         try clear c25b1
         try clear c26
         try clear c26b0
         try clear c26b1
         try clear c27
         try clear c27b0
         try clear c27b1
         try clear c28
         try clear c28b0
         try clear c28b1
         try clear c29
         try clear c29b0
         try clear c29b1
         try clear p30
         try clear q30
         try clear hx30
         try clear qi30
         try clear c31
         try clear c31b0
         try clear c31b1
         try clear c32
         try clear c32b0
         try clear c32b1
         try clear c33
         try clear c33b0
         try clear c33b1
         try clear c34
         try clear c34b0
         try clear c34b1
         try clear c35
         try clear c35b0
         try clear c35b1
         try clear p36
         try clear q36
         try clear hx36
         try clear qi36
         try clear c37
         try clear c37b0
         try clear c37b1
         try clear c38
         try clear c38b0
         try clear c38b1
         try clear c39
         try clear c39b0
         try clear c39b1
         try clear c40
         try clear c40b0
         try clear c40b1
         try clear p41
         try clear q41
         try clear hx41
         try clear qi41
         try clear c42
         try clear c43
         try clear c46
         try clear c46b0
         try clear c46b1
         try clear p46
         try clear q46
         try clear hx46
         try clear qi46
         try clear c47
         try clear c47b0
         try clear c47b1
         try clear hcz44_0
         try clear hcz44_1
         try clear hcz44_2
         try clear hcz44_3
         try clear hfz44_0
         try clear hfz44_1
         try clear hfz44_2
         try clear hfz44_3
         try clear hx461_0
         try clear hx462_0
         try clear hx463_0
         try clear hx464_0
         try clear hx465_0
         try clear hx466_0
         try clear hx467_0
         try clear p2
         try clear p3
         try clear p30
         try clear p36
         try clear p4
         try clear p41
         try clear p461
         try clear p462
         try clear p463
         try clear p464
         try clear p465
         try clear p466
         try clear p467
         try clear q3
         try clear q30
         try clear q36
         try clear q4
         try clear q41
         try clear q461
         try clear q462
         try clear q463
         try clear q464
         try clear q465
         try clear q466
         try clear q467
         obtain ⟨kq, x75_44, rfl, HA, HJ44, HO_4, BK446, BK460, HB⟩ := hcut
         cases kq with
         | zero => exact absurd HA.out (by simp [spec_l2Parse.j1])
         | succ kj44 =>
          have H := HA.out
          clear HA
          simp only [spec_l2Parse.j1] at H
          have HC48 := Aside0.mk H
          clear H
          go_upto_if 75 with (fail)
          go_cut [] (fun wc => ∃ (kq : Nat) (x461000_47 : List ByteArray) (u461000 : Value), Aside0 (spec_l2Parse.j2 kq a0 t447 x461000_47 t459 (rdOf ByteArray.empty t451 (ji5)) (⟨#[]⟩ : ByteArray) = some (r1, r2, r3, r4, r5)) ∧ Aside0 (kq ≤ kj44) ∧ Aside0 (Kd.R Kd.string 9 wc w.heap.size (fun k_ => some k_ ≠ (u461000 : Value).ownBlock) (.slice (some ad450) t447.length co14) t447) ∧ Aside0 (Kd.R Kd.string 9 wc w.heap.size (fun k_ => some k_ ≠ ((.slice (some ad450) t447.length co14) : Value).ownBlock) u461000 x461000_47) ∧ Aside0 (wc.heap[gb446]? = some (.cells #[(.slice none 0 0), .string (⟨#[]⟩ : ByteArray), .string (⟨#[]⟩ : ByteArray), .string (⟨#[]⟩ : ByteArray)] 26 (0, 0))) ∧ Aside0 (wc.heap[gb460]? = some (.cells #[u461000, .string t459, .string (rdOf ByteArray.empty t451 (ji5)), .string (⟨#[]⟩ : ByteArray)] 26 (0, 0))) ∧ Aside0 (Below w.heap.size w wc))
          case first =>
           have H := HC48.out
           clear HC48
           by_cases c49 : x75_44 = true
           ·
            subst c49
            replace H := (if_pos rfl).symm.trans H
            by_cases c50 : 1 < (t447.length : Int)
            ·
             rw [if_pos c50] at H
             have c50b0 : decide (1 < (t447.length : Int)) = true := decide_eq_true c50
             have c50b1 : decide (1 < t447.length) = true := decide_eq_true (by omega)
             clear c50
             (first | rw [c50b0] | (simp only [i64_w, i32_w]; rw [c50b0]) | skip)
             by_cases c51 : 1 ≤ ((rdOf ByteArray.empty t447 1).size : Int)
             ·
              rw [if_pos c51] at H
              have c51b0 := eq_true c51
              have c51b1 : decide (1 ≤ ((rdOf ByteArray.empty t447 1).size : Int)) = true := decide_eq_true c51
              clear c51
              replace H := Option.bind_eq_some_iff.mp H
              obtain ⟨t469, A520, H⟩ := H
              try dsimp only at H
              have A52 := Aside0.mk A520
              clear A520
              have H' := Aside0.mk H
              clear H
              have p468 : 0 ≤ (1 : Int) := (by omega)
              have q468 : 1 < (t447.length : Int) := of_decide_eq_true au121
              obtain ⟨ad468, e468, hx468_0⟩ := Kd.at_string (Kd.R_reads' HO_4.out).2.2 1 p468 q468
              obtain rfl : ad450 = ad468 := (by injection e468)
              (try simp only [show (1 : Int).toNat = 1 from rfl, Nat.reduceMul, Nat.reduceEqDiff, Go.Addr.add, ↓reduceIte] at hx468_0)
              have qi468 : (1 < t447.length) = True := eq_true (by omega)
              (try rw [show ((1 : Int)).toNat = 1 from rfl] at hx468_0)
              replace p468 := eq_true p468
              replace q468 := eq_true q468
              exact spec_l2Parse.L1
             ·
              rw [if_neg c51] at H
              exact absurd H (by simp)
            ·
             rw [if_neg c50] at H
             exact absurd H (by simp)
           ·
            replace c49 := Bool.eq_false_iff.mpr c49
            subst c49
            replace H := (if_neg (show ¬ (false = true) by decide)).symm.trans H
            have H' := Aside0.mk H
            clear H
            exact spec_l2Parse.L1
          case rest =>
           clear HC48
           try clear c2
           try clear p2
           try clear c3
           try clear p3
           try clear q3
           try clear hx3
           try clear qi3
           try clear c4
           try clear p4
           try clear q4
           try clear hx4
           try clear qi4
           try clear c5
           try clear c6
           try clear c25
           try clear c25b0
           try clear c25b1
           try clear c26
           try clear c26b0
           try clear c26b1
           try clear c27
           try clear c27b0
           try clear c27b1
           try clear c28
           try clear c28b0
           try clear c28b1
           try clear c29
           try clear c29b0
           try clear c29b1
           try clear p30
           try clear q30
           try clear hx30
           try clear qi30
           try clear c31
           try clear c31b0
           try clear c31b1
           try clear c32
           try clear c32b0
           try clear c32b1
           try clear c33
           try clear c33b0
           try clear c33b1
           try clear c34
           try clear c34b0
           try clear c34b1
           try clear c35
           try clear c35b0
           try clear c35b1
           try clear p36
           try clear q36
           try clear hx36
           try clear qi36
           try clear c37
           try clear c37b0
           try clear c37b1
           try clear c38
           try clear c38b0
           try clear c38b1
           try clear c39
           try clear c39b0
           try clear c39b1
           try clear c40
           try clear c40b0
           try clear c40b1
           try clear p41
           try clear q41
           try clear hx41
           try clear qi41
           try clear c42
           try clear c43
           try clear c46
           try clear c46b0
           try clear c46b1
           try clear p46
           try clear q46
           try clear hx46
           try clear qi46
           try clear c47
           try clear c47b0
           try clear c47b1
           try clear c49
           try clear c50
           try clear c50b0
           try clear c50b1
           try clear c51
           try clear c51b0
           try clear c51b1
           try clear c55
           try clear hcz44_0
           try clear hcz44_1
           try clear hcz44_2
           try clear hcz44_3
           try clear hcz56_0
           try clear hcz56_1
           try clear hcz56_2
           try clear hcz56_3
           try clear hfz44_0
           try clear hfz44_1
           try clear hfz44_2
           try clear hfz44_3
           try clear hfz56_0
           try clear hfz56_1
           try clear hfz56_2
           try clear hfz56_3
           try clear hx461_0
           try clear hx462_0
           try clear hx463_0
           try clear hx464_0
           try clear hx465_0
           try clear hx466_0
           try clear hx467_0
           try clear hx468_0
           try clear p2
           try clear p3
           try clear p30
           try clear p36
           try clear p4
           try clear p41
           try clear p46
           try clear p461
           try clear p462
           try clear p463
           try clear p464
           try clear p465
           try clear p466
           try clear p467
           try clear p468
           try clear q3
           try clear q30
           try clear q36
           try clear q4
           try clear q41
           try clear q46
           try clear q461
           try clear q462
           try clear q463
           try clear q464
           try clear q465
           try clear q466
           try clear q467
           try clear q468
           obtain ⟨kq, x461000_47, u461000, HA, HJ47, HO_4, HO_461000, BK446, BK460, HB⟩ := hcut
           cases kq with
           | zero => exact absurd HA.out (by simp [spec_l2Parse.j2])
           | succ kj47 =>
            have H := HA.out
            clear HA
            simp only [spec_l2Parse.j2] at H
            have HC57 := Aside0.mk H
            clear H
            go_upto_if 84 with (fail)
            go_cut [] (fun wc => ∃ (kq : Nat) (x461003_56 : ByteArray), Aside0 (spec_l2Parse.j3 kq a0 x461000_47 t459 (rdOf ByteArray.empty t451 (ji5)) x461003_56 = some (r1, r2, r3, r4, r5)) ∧ Aside0 (kq ≤ kj47) ∧ Aside0 (Kd.R Kd.string 9 wc w.heap.size (fun _ => True) u461000 x461000_47) ∧ Aside0 (wc.heap[gb446]? = some (.cells #[(.slice none 0 0), .string (⟨#[]⟩ : ByteArray), .string (⟨#[]⟩ : ByteArray), .string (⟨#[]⟩ : ByteArray)] 26 (0, 0))) ∧ Aside0 (wc.heap[gb460]? = some (.cells #[u461000, .string t459, .string (rdOf ByteArray.empty t451 (ji5)), .string x461003_56] 26 (0, 0))) ∧ Aside0 (Below w.heap.size w wc))
            case first =>
             have H := HC57.out
             clear HC57
             by_cases c58 : (t447.length : Int) > 2
             ·
              rw [if_pos c58] at H
              have c58b0 : decide (2 < (t447.length : Int)) = true := decide_eq_true c58
              have c58b1 : decide (2 < t447.length) = true := decide_eq_true (by omega)
              clear c58
              (first | rw [c58b0] | (simp only [i64_w, i32_w]; rw [c58b0]) | skip)
              by_cases c59 : 2 < (t447.length : Int)
              ·
               rw [if_pos c59] at H
               have c59b0 : decide (2 < (t447.length : Int)) = true := decide_eq_true c59
               have c59b1 : decide (2 < t447.length) = true := decide_eq_true (by omega)
               clear c59
               by_cases c60 : 1 ≤ ((rdOf ByteArray.empty t447 2).size : Int)
               ·
                rw [if_pos c60] at H
                have c60b0 := eq_true c60
                have c60b1 : decide (1 ≤ ((rdOf ByteArray.empty t447 2).size : Int)) = true := decide_eq_true c60
                clear c60
                have H' := Aside0.mk H
                clear H
                have p472 : 0 ≤ (2 : Int) := (by omega)
                have q472 : 2 < (t447.length : Int) := of_decide_eq_true au121
                obtain ⟨ad472, e472, hx472_0⟩ := Kd.at_string (Kd.R_reads' HO_4.out).2.2 2 p472 q472
                obtain rfl : ad450 = ad472 := (by injection e472)
                (try simp only [show (2 : Int).toNat = 2 from rfl, Nat.reduceMul, Nat.reduceEqDiff, Go.Addr.add, ↓reduceIte] at hx472_0)
                have qi472 : (2 < t447.length) = True := eq_true (by omega)
                (try rw [show ((2 : Int)).toNat = 2 from rfl] at hx472_0)
                replace p472 := eq_true p472
                replace q472 := eq_true q472
                have hnb61 := NB460_446.out
                have hnc61 := NB446_460.out
                obtain ⟨hcz62_0, hcz62_1, hcz62_2, hcz62_3, hfz62_0, hfz62_1, hfz62_2, hfz62_3⟩ := blkc4 BK460.out
                exact spec_l2Parse.L1
               ·
                rw [if_neg c60] at H
                exact absurd H (by simp)
              ·
               rw [if_neg c59] at H
               exact absurd H (by simp)
             ·
              rw [if_neg c58] at H
              have c58b0 : decide (2 < (t447.length : Int)) = false := decide_eq_false c58
              have c58b1 : decide (2 < t447.length) = false := decide_eq_false (by omega)
              clear c58
              (first | rw [c58b0] | (simp only [i64_w, i32_w]; rw [c58b0]) | skip)
              have H' := Aside0.mk H
              clear H
              exact spec_l2Parse.L1
            case rest =>
             clear HC57
             try clear c2
             try clear p2
             try clear c3
             try clear p3
             try clear q3
             try clear hx3
             try clear qi3
             try clear c4
             try clear p4
             try clear q4
             try clear hx4
             try clear qi4
             try clear c5
             try clear c6
             try clear c25
             try clear c25b0
             try clear c25b1
             try clear c26
             try clear c26b0
             try clear c26b1
             try clear c27
             try clear c27b0
             try clear c27b1
             try clear c28
             try clear c28b0
             try clear c28b1
             try clear c29
             try clear c29b0
             try clear c29b1
             try clear p30
             try clear q30
             try clear hx30
             try clear qi30
             try clear c31
             try clear c31b0
             try clear c31b1
             try clear c32
             try clear c32b0
             try clear c32b1
             try clear c33
             try clear c33b0
             try clear c33b1
             try clear c34
             try clear c34b0
             try clear c34b1
             try clear c35
             try clear c35b0
             try clear c35b1
             try clear p36
             try clear q36
             try clear hx36
             try clear qi36
             try clear c37
             try clear c37b0
             try clear c37b1
             try clear c38
             try clear c38b0
             try clear c38b1
             try clear c39
             try clear c39b0
             try clear c39b1
             try clear c40
             try clear c40b0
             try clear c40b1
             try clear p41
             try clear q41
             try clear hx41
             try clear qi41
             try clear c42
             try clear c43
             try clear c46
             try clear c46b0
             try clear c46b1
             try clear p46
             try clear q46
             try clear hx46
             try clear qi46
             try clear c47
             try clear c47b0
             try clear c47b1
             try clear p47
             try clear q47
             try clear hx47
             try clear qi47
             try clear c49
             try clear c50
             try clear c50b0
             try clear c50b1
             try clear c51
             try clear c51b0
             try clear c51b1
             try clear c55
             try clear c58
             try clear c58b0
             try clear c58b1
             try clear c59
             try clear c59b0
             try clear c59b1
             try clear c60
             try clear c60b0
             try clear c60b1
             try clear c61
             try clear hcz44_0
             try clear hcz44_1
             try clear hcz44_2
             try clear hcz44_3
             try clear hcz56_0
             try clear hcz56_1
             try clear hcz56_2
             try clear hcz56_3
             try clear hcz62_0
             try clear hcz62_1
             try clear hcz62_2
             try clear hcz62_3
             try clear hfz44_0
             try clear hfz44_1
             try clear hfz44_2
             try clear hfz44_3
             try clear hfz56_0
             try clear hfz56_1
             try clear hfz56_2
             try clear hfz56_3
             try clear hfz62_0
             try clear hfz62_1
             try clear hfz62_2
             try clear hfz62_3
             try clear hx461_0
             try clear hx462_0
             try clear hx463_0
             try clear hx464_0
             try clear hx465_0
             try clear hx466_0
             try clear hx467_0
             try clear hx468_0
             try clear hx472_0
             try clear p2
             try clear p3
             try clear p30
             try clear p36
             try clear p4
             try clear p41
             try clear p46
             try clear p461
             try clear p462
             try clear p463
             try clear p464
             try clear p465
             try clear p466
             try clear p467
             try clear p468
             try clear p472
             try clear q3
             try clear q30
             try clear q36
             try clear q4
             try clear q41
             try clear q46
             try clear q461
             try clear q462
             try clear q463
             try clear q464
             try clear q465
             try clear q466
             try clear q467
             try clear q468
             try clear q472
             obtain ⟨kq, x461003_56, HA, HJ56, HO_461000, BK446, BK460, HB⟩ := hcut
             cases kq with
             | zero => exact absurd HA.out (by simp [spec_l2Parse.j3])
             | succ kj56 =>
              have H := HA.out
              clear HA
              simp only [spec_l2Parse.j3] at H
              replace H := Option.bind_eq_some_iff.mp H
              obtain ⟨t473, A630, H⟩ := H
              try dsimp only at H
              have A63 := Aside0.mk A630
              clear A630
              by_cases c64 : t473 = true
              ·
               subst c64
               replace H := (if_pos rfl).symm.trans H
               replace H := Option.bind_eq_some_iff.mp H
               obtain ⟨t474, A650, H⟩ := H
               try dsimp only at H
               have A65 := Aside0.mk A650
               clear A650
               by_cases c66 : t474.toList = a0.toList
               ·
                rw [if_pos c66] at H
                have c66b0 : (t474.toList == a0.toList) = true := beq_iff_eq.mpr c66
                have c66b1 : (t474.toList != a0.toList) = false := bne_eq_false_iff_eq.mpr c66
                clear c66
                simp only [Option.some.injEq, Prod.mk.injEq] at H
                obtain ⟨rfl, rfl, rfl, rfl, rfl⟩ := H
                have hnb67 := NB460_446.out
                have hnc67 := NB446_460.out
                obtain ⟨hcz68_0, hcz68_1, hcz68_2, hcz68_3, hfz68_0, hfz68_1, hfz68_2, hfz68_3⟩ := blkc4 BK460.out
                obtain ⟨Ao69, co69, eo69⟩ := Kd.R_slice HO_461000.out
                subst eo69
                go_wp2_with (first | ((with_reducible refine gate_callee (f := 25) rfl ?_); refine goesL_ (some 91) rfl rfl Tryd.func25 (by kernel_rfl) rfl #[.agg #[.slice Ao69 x461000_47.length co69, .string t459, .string (rdOf ByteArray.empty t451 (ji5)), .string x461003_56]] rfl au32 ?_; (with_reducible refine (spec_l2Good.calls kj56 _ _ x461000_47 t459 (rdOf ByteArray.empty t451 (ji5)) x461003_56 _ _ ?side1 ?side2 A63.out).mono ?_); (case side1 => repeat (first | exact (Kd.R_reads' HO_461000.out).2.2 | (with_reducible refine Kd.C_alloc ?_ _) | (with_reducible refine Kd.C_drewN ?_ _) | (with_reducible refine Kd.C_drew ?_))); (case side2 => exact (Kd.R_reads' HO_461000.out).2.1); rintro e w70 ⟨rfl, hb⟩; refine ⟨_, rfl, ?_⟩; replace HO_461000 := Aside0.mk (Kd.R_below au106 hb); replace BK446 := Aside0.mk (blk_below (g := gb446) au99 hb); replace BK460 := Aside0.mk (blk_below (g := gb460) au100 hb); replace HB := Aside0.mk (below_step au22 hb); (try clear hb); obtain ⟨hcz71_0, hcz71_1, hcz71_2, hcz71_3, hfz71_0, hfz71_1, hfz71_2, hfz71_3⟩ := blkc4 BK460.out) | (go_at_call 32; (with_reducible refine (spec_l2Inverse.calls kj56 _ _ x461000_47 t459 (rdOf ByteArray.empty t451 (ji5)) x461003_56 t474 _ ?side1 ?side2 A65.out).mono ?_); (case side1 => repeat (first | exact (Kd.R_reads' HO_461000.out).2.2 | (with_reducible refine Kd.C_alloc ?_ _) | (with_reducible refine Kd.C_drewN ?_ _) | (with_reducible refine Kd.C_drew ?_))); (case side2 => exact (Kd.R_reads' HO_461000.out).2.1); rintro e w72 ⟨rfl, hb⟩; replace HO_461000 := Aside0.mk (Kd.R_below au106 hb); replace BK446 := Aside0.mk (blk_below (g := gb446) au99 hb); replace BK460 := Aside0.mk (blk_below (g := gb460) au100 hb); replace HB := Aside0.mk (below_step au22 hb); (try clear hb); obtain ⟨hcz73_0, hcz73_1, hcz73_2, hcz73_3, hfz73_0, hfz73_1, hfz73_2, hfz73_3⟩ := blkc4 BK460.out; obtain ⟨hcz74_0, hcz74_1, hcz74_2, hcz74_3, hfz74_0, hfz74_1, hfz74_2, hfz74_3⟩ := blkc4 BK446.out))
                refine bodyPost_ret (results_ct rfl _ _ gb446 26 #[.slice Ao69 x461000_47.length co69, .string t459, .string (rdOf ByteArray.empty t451 (ji5)), .string x461003_56] (0, 0) _ rfl (by (with_reducible repeat (first | refine blk_drewN ?_ _ | refine blk_drew ?_ | refine blk_alloc ?_ _)); refine blk_put (cs := #[.slice Ao69 x461000_47.length co69, .string t459, .string (rdOf ByteArray.empty t451 (ji5)), .string (⟨#[]⟩ : ByteArray)]) ?_ 3 _ rfl; (with_reducible repeat (first | refine blk_drewN ?_ _ | refine blk_drew ?_ | refine blk_alloc ?_ _)); refine blk_put (cs := #[.slice Ao69 x461000_47.length co69, .string t459, .string (⟨#[]⟩ : ByteArray), .string (⟨#[]⟩ : ByteArray)]) ?_ 2 _ rfl; (with_reducible repeat (first | refine blk_drewN ?_ _ | refine blk_drew ?_ | refine blk_alloc ?_ _)); refine blk_put (cs := #[.slice Ao69 x461000_47.length co69, .string (⟨#[]⟩ : ByteArray), .string (⟨#[]⟩ : ByteArray), .string (⟨#[]⟩ : ByteArray)]) ?_ 1 _ rfl; (with_reducible repeat (first | refine blk_drewN ?_ _ | refine blk_drew ?_ | refine blk_alloc ?_ _)); refine blk_put (cs := #[.slice none 0 0, .string (⟨#[]⟩ : ByteArray), .string (⟨#[]⟩ : ByteArray), .string (⟨#[]⟩ : ByteArray)]) ?_ 0 _ rfl; (with_reducible repeat (first | refine blk_drewN ?_ _ | refine blk_drew ?_ | refine blk_alloc ?_ _)); exact BK446.out) Tryd.underlying26 rfl (by kernel_rfl)) rfl ?_
                exact ⟨_, by first | rfl | (simp [errW_none, errW_some] <;> rfl) | (simp only [← hji5]; first | rfl | (simp [errW_none, errW_some] <;> rfl)) | (simp [*, errW_none, errW_some] <;> rfl), by (with_reducible repeat (first | apply Kd.R_alloc | apply Kd.R_drewN | apply Kd.R_drew)); exact Kd.R_mono (Kd.R_far (p := ⟨gb446, 3, none⟩) (Kd.R_far (p := ⟨gb446, 2, none⟩) (Kd.R_far (p := ⟨gb446, 1, none⟩) (Kd.R_far (p := ⟨gb446, 0, none⟩) (Kd.R_types HO_461000.out BK446.out (by decide)) (fun _ hk => hk.2) (.slice Ao69 x461000_47.length co69)) (fun _ hk => hk.2) (.string t459)) (fun _ hk => hk.2) (.string (rdOf ByteArray.empty t451 (ji5)))) (fun _ hk => hk.2) (.string x461003_56)) (fun _ hk => trivial), by repeat (first | (with_reducible first | exact HB.out | apply below_alloc | apply pw_below_drewN | apply below_drew1 | refine below_set ?_ GE446.out | refine below_set ?_ GE460.out) | exact HB.out)⟩
               ·
                rw [if_neg c66] at H
                have c66b0 : (t474.toList == a0.toList) = false := beq_eq_false_iff_ne.mpr c66
                have c66b1 : (t474.toList != a0.toList) = true := bne_iff_ne.mpr c66
                simp only [Option.some.injEq, Prod.mk.injEq] at H
                obtain ⟨rfl, rfl, rfl, rfl, rfl⟩ := H
                have hnb75 := NB460_446.out
                have hnc75 := NB446_460.out
                obtain ⟨hcz76_0, hcz76_1, hcz76_2, hcz76_3, hfz76_0, hfz76_1, hfz76_2, hfz76_3⟩ := blkc4 BK460.out
                obtain ⟨Ao77, co77, eo77⟩ := Kd.R_slice HO_461000.out
                subst eo77
                exact spec_l2Parse.L0
              ·
               replace c64 := Bool.eq_false_iff.mpr c64
               subst c64
               replace H := (if_neg (show ¬ (false = true) by decide)).symm.trans H
               simp only [Option.some.injEq, Prod.mk.injEq] at H
               obtain ⟨rfl, rfl, rfl, rfl, rfl⟩ := H
               have hnb82 := NB460_446.out
               have hnc82 := NB446_460.out
               obtain ⟨hcz83_0, hcz83_1, hcz83_2, hcz83_3, hfz83_0, hfz83_1, hfz83_2, hfz83_3⟩ := blkc4 BK460.out
               obtain ⟨Ao84, co84, eo84⟩ := Kd.R_slice HO_461000.out
               subst eo84
               go_wp2_with (first | ((with_reducible refine gate_callee (f := 25) rfl ?_); refine goesL_ (some 91) rfl rfl Tryd.func25 (by kernel_rfl) rfl #[.agg #[.slice Ao84 x461000_47.length co84, .string t459, .string (rdOf ByteArray.empty t451 (ji5)), .string x461003_56]] rfl au32 ?_; (with_reducible refine (spec_l2Good.calls kj56 _ _ x461000_47 t459 (rdOf ByteArray.empty t451 (ji5)) x461003_56 _ _ ?side1 ?side2 A63.out).mono ?_); (case side1 => repeat (first | exact (Kd.R_reads' HO_461000.out).2.2 | (with_reducible refine Kd.C_alloc ?_ _) | (with_reducible refine Kd.C_drewN ?_ _) | (with_reducible refine Kd.C_drew ?_))); (case side2 => exact (Kd.R_reads' HO_461000.out).2.1); rintro e w85 ⟨rfl, hb⟩; refine ⟨_, rfl, ?_⟩; replace HO_461000 := Aside0.mk (Kd.R_below au106 hb); replace BK446 := Aside0.mk (blk_below (g := gb446) au99 hb); replace BK460 := Aside0.mk (blk_below (g := gb460) au100 hb); replace HB := Aside0.mk (below_step au22 hb); (try clear hb); obtain ⟨hcz86_0, hcz86_1, hcz86_2, hcz86_3, hfz86_0, hfz86_1, hfz86_2, hfz86_3⟩ := blkc4 BK446.out))
               refine bodyPost_ret (results_ct rfl _ _ gb446 26 #[.slice none 0 0, .string (⟨#[]⟩ : ByteArray), .string (⟨#[]⟩ : ByteArray), .string (⟨#[]⟩ : ByteArray)] (0, 0) _ rfl (by (with_reducible repeat (first | refine blk_drewN ?_ _ | refine blk_drew ?_ | refine blk_alloc ?_ _)); refine blk_put (cs := #[.slice none 0 0, .string (⟨#[]⟩ : ByteArray), .string (⟨#[]⟩ : ByteArray), .string (⟨#[]⟩ : ByteArray)]) ?_ 3 _ rfl; (with_reducible repeat (first | refine blk_drewN ?_ _ | refine blk_drew ?_ | refine blk_alloc ?_ _)); refine blk_put (cs := #[.slice none 0 0, .string (⟨#[]⟩ : ByteArray), .string (⟨#[]⟩ : ByteArray), .string (⟨#[]⟩ : ByteArray)]) ?_ 2 _ rfl; (with_reducible repeat (first | refine blk_drewN ?_ _ | refine blk_drew ?_ | refine blk_alloc ?_ _)); refine blk_put (cs := #[.slice none 0 0, .string (⟨#[]⟩ : ByteArray), .string (⟨#[]⟩ : ByteArray), .string (⟨#[]⟩ : ByteArray)]) ?_ 1 _ rfl; (with_reducible repeat (first | refine blk_drewN ?_ _ | refine blk_drew ?_ | refine blk_alloc ?_ _)); refine blk_put (cs := #[.slice none 0 0, .string (⟨#[]⟩ : ByteArray), .string (⟨#[]⟩ : ByteArray), .string (⟨#[]⟩ : ByteArray)]) ?_ 0 _ rfl; (with_reducible repeat (first | refine blk_drewN ?_ _ | refine blk_drew ?_ | refine blk_alloc ?_ _)); exact BK446.out) Tryd.underlying26 rfl (by kernel_rfl)) rfl ?_
               exact ⟨_, by first | rfl | (simp [errW_none, errW_some] <;> rfl) | (simp only [← hji5]; first | rfl | (simp [errW_none, errW_some] <;> rfl)) | (simp [*, errW_none, errW_some] <;> rfl), by first | exact Kd.R_nil _ _ _ _ _ | exact Kd.N_nil _ _ _ _ _ | exact Kd.V_nil _ _ _ _ _ | exact Kd.Q_nil _ _ _ _ _ | exact Kd.S_nil _ _ _ _ _, by repeat (first | (with_reducible first | exact HB.out | apply below_alloc | apply pw_below_drewN | apply below_drew1 | refine below_set ?_ GE446.out | refine below_set ?_ GE460.out) | exact HB.out)⟩
    ·
     rw [if_neg c9] at H
     exact absurd H (by simp)
   ·
    rw [if_neg c7] at H
    exact absurd H (by simp)
  ·
   rw [if_neg c6] at H
   exact absurd H (by simp)
 ·
  rw [if_neg c3] at H
  exact absurd H (by simp)

end Go.Proofs.YtgingnbfihaopaaDoor.G

namespace Go.Proofs.YtgingnbfihaopaaDoor.G
open Go.RowKit Go.Proofs.YtgingnbfihaopaaDoorW.PrintWords Go.Proofs.YtgingnbfihaopaaDoorW.PrintLast Go.Proofs.YtgingnbfihaopaaDoor.B
set_option linter.unusedVariables false
set_option linter.unusedSimpArgs false
theorem spl_app (b : UInt8) (X Y : List UInt8) : spl b (X ++ b :: Y) = spl b X ++ spl b Y := by
  induction X with
  | nil => rw [List.nil_append, spl_cons, if_pos rfl]; rfl
  | cons c X ih =>
    rw [List.cons_append, spl_cons, spl_cons, ih]
    by_cases h : c = b
    · rw [if_pos h, if_pos h]; rfl
    · rw [if_neg h, if_neg h]
      cases hs : spl b X with
      | nil => exact absurd hs (spl_ne b X)
      | cons p q => rfl
theorem spl_free (b : UInt8) (l : List UInt8) (h : ∀ x ∈ l, x ≠ b) : spl b l = [l] := spl_none b l (fun k e => h b (List.mem_of_getElem? e) rfl)
theorem join_two (b : UInt8) (x y : List UInt8) (ls : List (List UInt8)) : Lib.join (x :: y :: ls) [b] = x ++ b :: Lib.join (y :: ls) [b] := by
  rw [Lib.join_cons, Lib.join_cons]; simp [Lib.joinTail]
theorem spl_join (b : UInt8) (ls : List (List UInt8)) : ∀ x : List UInt8, (∀ y ∈ x, y ≠ b) → (∀ l ∈ ls, ∀ y ∈ l, y ≠ b) → spl b (Lib.join (x :: ls) [b]) = x :: ls := by
  induction ls with
  | nil => intro x hx _; rw [Lib.join_one]; exact spl_free b x hx
  | cons y ls ih =>
    intro x hx h
    rw [join_two, spl_app, spl_free b x hx, ih y (h y (by simp)) (fun l hl => h l (by simp [hl]))]; rfl
theorem join_spl (b : UInt8) (l : List UInt8) : Lib.join (spl b l) [b] = l := by
  induction l with
  | nil => rfl
  | cons c l ih =>
    rw [spl_cons]
    cases hs : spl b l with
    | nil => exact absurd hs (spl_ne b l)
    | cons p q =>
      rw [hs] at ih
      by_cases h : c = b
      · rw [if_pos h, join_two, ih, h]; rfl
      · rw [if_neg h]
        show Lib.join (([c] ++ p) :: q) [b] = _
        rw [Lib.join_cons, List.append_assoc, ← Lib.join_cons, ih]; rfl
theorem join_take (b : UInt8) (l : List (List UInt8)) (n : Nat) : (Lib.join (l.take n) [b]).length ≤ (Lib.join l [b]).length := by
  cases l with
  | nil => simp
  | cons x r =>
    cases n with
    | zero => simp [Lib.join_nil]
    | succ n =>
      rw [List.take_succ_cons, Lib.join_cons, Lib.join_cons, List.length_append, List.length_append]
      have := Lib.joinTail_take_le [b] r n
      omega
-- the library's split at ', '
theorem occ_free (A X : List UInt8) (h : ∀ x ∈ A, x ≠ 44) : Lib.NoOcc (A ++ X) [44, 32] A.length := by
  intro j hj
  unfold Lib.occAt
  rw [List.drop_append_of_le_length (by omega)]
  cases hd : A.drop j with
  | nil => have := congrArg List.length hd; simp at this; omega
  | cons a r =>
    have ha : a ∈ A := List.mem_of_mem_drop (by rw [hd]; simp)
    show ((44 == a) && _) = false
    rw [beq_false_of_ne (fun e => h a ha e.symm)]; rfl
theorem index2_hit (A B : List UInt8) (h : ∀ x ∈ A, x ≠ 44) : Lib.index (A ++ 44 :: 32 :: B) [44, 32] = A.length :=
  Lib.index_hit (occ_free A _ h) (by simp) (by unfold Lib.occAt; rw [List.drop_left]; rfl)
theorem index2_none (A : List UInt8) (h : ∀ x ∈ A, x ≠ 44) : Lib.index A [44, 32] = -1 := by
  refine Lib.index_none (fun j hj => ?_)
  by_cases c : j < A.length
  · have := occ_free A [] h j c
    rwa [List.append_nil] at this
  · unfold Lib.occAt
    rw [List.drop_of_length_le (by omega)]; rfl
def sepC : ByteArray := ⟨#[44, 32]⟩
theorem sepC_L : sepC.data.toList = [44, 32] := rfl
theorem sepC_size : sepC.size = 2 := rfl
def splA (s : ByteArray) : List ByteArray := Lib.splitB sepC 0 (Lib.countB s sepC) s
theorem splA_none (s : ByteArray) (h : ∀ x ∈ L s, x ≠ 44) : splA s = [s] := by
  have hi : Lib.indexB s sepC = -1 := by unfold Lib.indexB; rw [sepC_L]; exact index2_none (L s) h
  unfold splA
  exact Lib.splitB_miss _ _ _ _ hi
theorem splA_hit (s : ByteArray) (A B : List UInt8) (h : ∀ x ∈ A, x ≠ 44) (e : L s = A ++ 44 :: 32 :: B) : splA s = mkB A :: splA (mkB B) := by
  have hi : Lib.indexB s sepC = (A.length : Nat) := by
    unfold Lib.indexB; rw [sepC_L]
    show Lib.index (L s) [44, 32] = _
    rw [e]; exact index2_hit A B h
  have hc := Lib.countB_hit s sepC A.length (by rw [sepC_size]; omega) hi
  have hx : s.extract (A.length + sepC.size) s.size = mkB B := by
    apply L_inj
    rw [L_extract, L_mk, e, sepC_size, ← List.drop_drop, List.drop_left]
    simp only [List.drop_succ_cons, List.drop_zero]
    have := congrArg List.length e
    rw [L_len] at this
    simp at this
    exact List.take_of_length_le (by omega)
  have ha : s.extract 0 (A.length + 0) = mkB A := by
    apply L_inj
    rw [L_extract, L_mk, e, List.drop_zero, Nat.add_zero, Nat.sub_zero, List.take_left]
  unfold splA
  rw [hc, Nat.add_comm 1, Lib.splitB_hit _ _ _ _ _ hi, hx, ha]
theorem splA_len (s : ByteArray) : (splA s).length = Lib.countB s sepC + 1 := Lib.splitB_all sepC (by rw [sepC_size]; omega) 0 _ s rfl
theorem splB_size (k : Nat) : ∀ s : ByteArray, ∀ p ∈ Lib.splitB sepC 0 k s, p.size ≤ s.size := by
  induction k with
  | zero => intro s p hp; rw [Lib.splitB_zero] at hp; rw [List.mem_singleton.1 hp]; exact Nat.le_refl _
  | succ k ih =>
    intro s p hp
    rcases Lib.indexB_cases s sepC with hm | ⟨i, hi, hr⟩
    · rw [Lib.splitB_miss _ _ _ _ hm] at hp
      rw [List.mem_singleton.1 hp]; exact Nat.le_refl _
    · rw [Lib.splitB_hit _ _ _ _ i hi] at hp
      rcases List.mem_cons.1 hp with rfl | hp
      · rw [ByteArray.size_extract]; omega
      · have := ih _ p hp
        rw [ByteArray.size_extract] at this; omega
theorem impl_split2 (s : ByteArray) (hs : s.size ≤ 1048576) : strings_Split.f s (⟨#[44, 32]⟩ : ByteArray) = some (splA s) := by
  have hc := Lib.countB_le sepC (by rw [sepC_size]; omega) s.size s (Nat.le_refl _)
  show strings_Split.f s sepC = _
  unfold strings_Split.f
  exact if_pos ⟨by omega, by rw [sepC_size]; omega, splA_len s, by omega⟩
-- what is read
abbrev Rd := List ByteArray × ByteArray × ByteArray × ByteArray × Bool
def none5 : Rd := (([] : List ByteArray), (⟨#[]⟩ : ByteArray), (⟨#[]⟩ : ByteArray), (⟨#[]⟩ : ByteArray), false)
def finP (s : ByteArray) (G : List ByteArray) (P F S : ByteArray) : Rd := if goodN G P F S = true then (if (invD G P F S).toList = s.toList then (G, P, F, S, true) else none5) else none5
def prt (ps : List ByteArray) (i : Nat) : ByteArray := ps.getD i ByteArray.empty
theorem rd_prt (ps : List ByteArray) (i : Nat) (h : i < ps.length) : rdOf ByteArray.empty ps (i : Int) = prt ps i := by
  rw [rd_get ps i h]; unfold prt; simp [List.getD, h]
theorem prt_mem (ps : List ByteArray) (i : Nat) (h : i < ps.length) : prt ps i ∈ ps := by
  unfold prt; rw [List.getD_eq_getElem?_getD, List.getElem?_eq_getElem h]; exact List.getElem_mem h
def famW (p : ByteArray) : ByteArray := (wordsOf p).getLastD ByteArray.empty
def parW (p : ByteArray) : ByteArray := mkB (Lib.join ((wordsOf p).dropLast.map L) [32])
theorem wordsOf_pos (p : ByteArray) : 1 ≤ (wordsOf p).length := by
  have := spl_ne 32 (L p)
  unfold wordsOf
  rw [List.length_map]
  cases h : spl 32 (L p) with
  | nil => exact absurd h this
  | cons a b => simp
theorem wordsOf_L (p : ByteArray) : (wordsOf p).map L = spl 32 (L p) := by
  unfold wordsOf
  rw [List.map_map]
  have : (L ∘ mkB) = id := by funext x; exact L_mk x
  rw [this, List.map_id]
theorem fam_rd (p : ByteArray) : rdOf ByteArray.empty (wordsOf p) (((wordsOf p).length - 1 : Nat) : Int) = famW p := by
  have h := wordsOf_pos p
  rw [rd_get _ _ (by omega)]
  have hne : wordsOf p ≠ [] := fun e => by rw [e] at h; simp at h
  unfold famW
  rw [List.getLastD_eq_getLast?, List.getLast?_eq_some_getLast hne, Option.getD_some, List.getLast_eq_getElem hne]
theorem parW_size (p : ByteArray) : (parW p).size ≤ p.size := by
  unfold parW
  rw [size_mk, List.dropLast_eq_take, List.map_take, wordsOf_L]
  have h1 := join_take 32 (spl 32 (L p)) ((wordsOf p).length - 1)
  rw [join_spl, L_len] at h1
  exact h1
theorem impl_par (p : ByteArray) (hp : p.size ≤ 1048576) : strings_Join.f ((wordsOf p).take ((wordsOf p).length - 1)) (⟨#[32]⟩ : ByteArray) = some (parW p) := by
  have h1 := wordsOf_len p
  have h2 := parW_size p
  unfold parW at h2
  rw [size_mk, List.dropLast_eq_take] at h2
  unfold strings_Join.f parW
  rw [List.dropLast_eq_take]
  exact if_pos ⟨by rw [List.length_take]; omega, Nat.le_trans h2 (by omega)⟩
theorem part_size {P : ByteArray} (h : partD P = true) : P.size ≤ 26 := by
  unfold partD at h
  rw [Bool.or_eq_true] at h
  rcases h with h | h
  · have := of_decide_eq_true h; omega
  · rw [Bool.and_eq_true] at h
    have h2 := of_decide_eq_true h.2
    have e := join_spl 32 (L P)
    rw [← wordsOf_L] at e
    have hb : ∀ x ∈ (wordsOf P).map L, x.length ≤ 12 := fun x hx => by
      obtain ⟨y, hy, rfl⟩ := List.mem_map.1 hx
      have h1 := List.all_eq_true.1 h.1 y hy
      rw [Bool.and_eq_true] at h1
      have := inD_iff.1 h1.1
      rw [L_len]; omega
    have hl : (Lib.join ((wordsOf P).map L) [32]).length ≤ 26 := by
      revert hb h2
      generalize (wordsOf P) = ws
      intro h2 hb
      match ws, h2 with
      | [], _ => simp [Lib.join_nil]
      | [a], _ => have := hb (L a) (by simp); show (Lib.join [L a] [32]).length ≤ 26; rw [Lib.join_one]; omega
      | [a, b], _ =>
        have h1 := hb (L a) (by simp)
        have h2 := hb (L b) (by simp)
        simp only [List.map_cons, List.map_nil]
        rw [join_two, Lib.join_one, List.length_append, List.length_cons]; omega
      | a :: b :: c :: r, h => simp at h
    rw [e, L_len] at hl
    exact hl
structure Gd (G : List ByteArray) (P F S : ByteArray) : Prop where
  g3 : G.length ≤ 3
  gw : ∀ x ∈ G, wordD x = true
  p : partD P = true
  f : wordD F = true
  s : S.size = 0 ∨ wordD S = true
theorem gd_of {G : List ByteArray} {P F S : ByteArray} (h : goodN G P F S = true) : Gd G P F S := by
  unfold goodN restD sufD at h
  simp only [Bool.and_eq_true, Bool.or_eq_true, decide_eq_true_eq] at h
  obtain ⟨h1, h2, h3, h4, h5⟩ := h
  refine ⟨h2, fun x hx => ?_, h3, ?_, h5⟩
  · have := List.all_eq_true.1 h1 x hx
    unfold greatD at this
    rw [Bool.and_eq_true] at this
    exact this.1
  · unfold greatD at h4
    rw [Bool.and_eq_true] at h4
    exact h4.1
theorem bytes_le {G : List ByteArray} (h : ∀ x ∈ G, x.size ≤ 12) : bytesS G ≤ 12 * G.length := by
  induction G with
  | nil => exact Nat.le_refl _
  | cons a G ih =>
    have h1 := ih (fun x hx => h x (by simp [hx]))
    have h2 := h a (by simp)
    rw [bytesS_cons, List.length_cons]; omega
theorem good_bulk {G : List ByteArray} {P F S : ByteArray} (h : goodN G P F S = true) : bulkN G P F S ≤ 92 := by
  have g := gd_of h
  have h1 := bytes_le (G := G) (fun x hx => (word_in (g.gw x hx)).2)
  have h2 := part_size g.p
  have h3 := word_in g.f
  have h4 : S.size ≤ 12 := by rcases g.s with h | h
                              · omega
                              · exact (word_in h).2
  have h5 := g.g3
  unfold bulkN bulkS; omega
section impl
variable (s : ByteArray)
theorem impl_j3 (G : List ByteArray) (P F S : ByteArray) (hG : G.length ≤ 4000000) (hP : P.size ≤ 4000000) : Ev (fun k => impl_ParseInverse.j3 k s G P F S) (finP s G P F S) := by
  refine Ev.step (f := fun k => (impl_IsValidName.f k G P F S).bind fun t549 => (if t549 = true then ((impl_inverseForm.f k G P F S).bind fun t550 => (if t550.toList = s.toList then (some (G, P, F, S, true)) else (some none5))) else (some none5))) (fun k => by simp only [impl_ParseInverse.j3]; rfl) ?_
  unfold finP
  exact Ev.bind (impl_valid G P F S (by omega) (by omega)) (ev_ite (fun hg => Ev.bind (impl_inv G P F S hg (by have := good_bulk hg; omega)) (ev_ite (fun _ => Ev.now _) (fun _ => Ev.now _))) (fun _ => Ev.now _))
def implG (ps : List ByteArray) : List ByteArray := if 1 < ps.length ∧ (prt ps 1).size ≠ 0 then wordsOf (prt ps 1) else []
def implS (ps : List ByteArray) : ByteArray := if 2 < ps.length then prt ps 2 else (⟨#[]⟩ : ByteArray)
theorem impl_j2 (ps G : List ByteArray) (P F : ByteArray) (hG : G.length ≤ 4000000) (hP : P.size ≤ 4000000) : Ev (fun k => impl_ParseInverse.j2 k s ps G P F (⟨#[]⟩ : ByteArray)) (finP s G P F (implS ps)) := by
  unfold implS
  by_cases h : 2 < ps.length
  · rw [if_pos h]
    have r2 : rdOf ByteArray.empty ps 2 = prt ps 2 := rd_prt ps 2 h
    refine Ev.step (f := fun k => impl_ParseInverse.j3 k s G P F (prt ps 2)) (fun k => ?_) (impl_j3 s G P F _ hG hP)
    simp only [impl_ParseInverse.j2]
    rw [if_pos (by omega), if_pos (by omega), r2]
  · rw [if_neg h]
    refine Ev.step (f := fun k => impl_ParseInverse.j3 k s G P F (⟨#[]⟩ : ByteArray)) (fun k => ?_) (impl_j3 s G P F _ hG hP)
    simp only [impl_ParseInverse.j2]
    rw [if_neg (by omega)]
theorem impl_j1 (ps : List ByteArray) (hp : ∀ p ∈ ps, p.size ≤ 1048576) (b : Bool) (hb : b = decide (1 < ps.length ∧ (prt ps 1).size ≠ 0)) (P F : ByteArray) (hP : P.size ≤ 4000000) : Ev (fun k => impl_ParseInverse.j1 k s ps b [] P F (⟨#[]⟩ : ByteArray)) (finP s (implG ps) P F (implS ps)) := by
  unfold implG
  by_cases h : 1 < ps.length ∧ (prt ps 1).size ≠ 0
  · rw [if_pos h]
    rw [decide_eq_true h] at hb
    subst hb
    have r1 : rdOf ByteArray.empty ps 1 = prt ps 1 := rd_prt ps 1 h.1
    have hs := hp _ (prt_mem ps 1 h.1)
    have hl := wordsOf_len (prt ps 1)
    refine Ev.step (f := fun k => (strings_Split.f (prt ps 1) (⟨#[32]⟩ : ByteArray)).bind fun t545 => (impl_ParseInverse.j2 k s ps t545 P F (⟨#[]⟩ : ByteArray))) (fun k => ?_) (ev_bind0 (split_sp (prt ps 1) 32 (by omega)) (impl_j2 s ps _ P F (by show (wordsOf (prt ps 1)).length ≤ _; omega) hP))
    simp only [impl_ParseInverse.j1]
    rw [if_pos trivial, if_pos (by omega), r1]
  · rw [if_neg h]
    rw [decide_eq_false h] at hb
    subst hb
    refine Ev.step (f := fun k => impl_ParseInverse.j2 k s ps [] P F (⟨#[]⟩ : ByteArray)) (fun k => ?_) (impl_j2 s ps [] P F (by simp) hP)
    simp only [impl_ParseInverse.j1]
    rw [if_neg (by simp)]
def implR : Rd := if 3 < (splA s).length ∨ 200 < s.size then none5 else finP s (implG (splA s)) (parW (prt (splA s) 0)) (famW (prt (splA s) 0)) (implS (splA s))
theorem impl_parse (hs : s.size ≤ 1048576) : Ev (fun k => impl_ParseInverse.f k s) (implR s) := by
  have hc := Lib.countB_le sepC (by rw [sepC_size]; omega) s.size s (Nat.le_refl _)
  have hl := splA_len s
  have hp : ∀ p ∈ splA s, p.size ≤ 1048576 := fun p hp => Nat.le_trans (splB_size _ s p hp) hs
  have jt : Ev (fun k => impl_ParseInverse.j0 k s (splA s) true) none5 := Ev.step (f := fun _ => some none5) (fun k => by simp only [impl_ParseInverse.j0]; rw [if_pos trivial]; rfl) (Ev.now _)
  have h0 : 0 < (splA s).length := by omega
  have s0 := hp _ (prt_mem _ 0 h0)
  have jf : Ev (fun k => impl_ParseInverse.j0 k s (splA s) false) (finP s (implG (splA s)) (parW (prt (splA s) 0)) (famW (prt (splA s) 0)) (implS (splA s))) := by
    have r0 : rdOf ByteArray.empty (splA s) 0 = prt (splA s) 0 := rd_prt _ 0 h0
    have wl := wordsOf_len (prt (splA s) 0)
    have wp := wordsOf_pos (prt (splA s) 0)
    have hw : wrap64 (((wordsOf (prt (splA s) 0)).length : Int) - 1) = (((wordsOf (prt (splA s) 0)).length - 1 : Nat) : Int) := by rw [w64 (by omega) (by omega)]; omega
    have hP := parW_size (prt (splA s) 0)
    refine Ev.step (f := fun k => (strings_Split.f (prt (splA s) 0) (⟨#[32]⟩ : ByteArray)).bind fun t534 => (if 0 ≤ (wrap64 ((t534.length : Int) - 1)) then (if (wrap64 ((t534.length : Int) - 1)) < (t534.length : Int) then (if (wrap64 ((t534.length : Int) - 1)) ≤ (t534.length : Int) then ((strings_Join.f (t534.take ((wrap64 ((t534.length : Int) - 1)) : Int).toNat) (⟨#[32]⟩ : ByteArray)).bind fun t542 => (if ((splA s).length : Int) > 1 then (if 1 < ((splA s).length : Int) then (impl_ParseInverse.j1 k s (splA s) ((rdOf ByteArray.empty (splA s) 1).toList != ([] : List UInt8)) [] t542 (rdOf ByteArray.empty t534 (wrap64 ((t534.length : Int) - 1))) (⟨#[]⟩ : ByteArray)) else (none)) else (impl_ParseInverse.j1 k s (splA s) false [] t542 (rdOf ByteArray.empty t534 (wrap64 ((t534.length : Int) - 1))) (⟨#[]⟩ : ByteArray)))) else (none)) else (none)) else (none))) (fun k => ?_) (ev_bind0 (show strings_Split.f (prt (splA s) 0) (⟨#[32]⟩ : ByteArray) = some (wordsOf (prt (splA s) 0)) from split_sp (prt (splA s) 0) 32 (by omega)) ?_)
    · simp only [impl_ParseInverse.j0]
      rw [if_neg (by simp)]
      simp only [Option.bind_some]
      rw [if_pos (by omega), r0]
    · rw [hw]
      refine ev_pos (by omega) (ev_pos (by omega) (ev_pos (by omega) ?_))
      rw [Int.toNat_natCast]
      refine ev_bind0 (impl_par _ s0) ?_
      rw [fam_rd]
      by_cases c : 1 < (splA s).length
      · have r1 : rdOf ByteArray.empty (splA s) 1 = prt (splA s) 1 := rd_prt _ 1 c
        rw [r1]
        refine ev_pos (by omega) (ev_pos (by omega) (impl_j1 s _ hp _ ?_ _ _ (by omega)))
        by_cases e : (prt (splA s) 1).size = 0
        · rw [(nil_iff _).2 e, decide_eq_false (fun x => x.2 e)]; rfl
        · rw [decide_eq_true ⟨c, e⟩]; exact bne_iff_ne.2 (fun x => e ((nil_iff _).1 x))
      · exact ev_neg (by omega) (impl_j1 s _ hp _ (by rw [decide_eq_false (fun x => c x.1)]) _ _ (by omega))
  unfold impl_ParseInverse.f implR
  refine ev_bind0 (impl_split2 s hs) ?_
  by_cases c1 : 3 < (splA s).length
  · exact ev_pos (by omega) (ev_eq jt (if_pos (Or.inl c1)).symm)
  · refine ev_neg (by omega) ?_
    by_cases c2 : 200 < s.size
    · rw [decide_eq_true (show (s.size : Int) > 200 by omega)]
      exact ev_eq jt (if_pos (Or.inr c2)).symm
    · rw [decide_eq_false (show ¬ (s.size : Int) > 200 by omega)]
      exact ev_eq jf (if_neg (fun x => x.elim c1 c2)).symm
end impl
section spec
variable (s : ByteArray)
end spec
theorem le_rng2 {c : Int} (h : leD c = true) : 65 ≤ c ∧ c ≤ 122 := by
  unfold leD upD loD at h
  simp only [Bool.or_eq_true, Bool.and_eq_true, decide_eq_true_eq] at h
  omega
theorem wl_at2 (s : ByteArray) (d : Nat) : ∀ i j : Nat, wlD s d i = true → i ≤ j → j < i + d → okD s j = true := by
  induction d with
  | zero => intro i j h h1 h2; omega
  | succ d ih =>
    intro i j h h1 h2
    unfold wlD at h
    rw [Bool.and_eq_true] at h
    by_cases e : j = i
    · rw [e]; exact h.1
    · exact ih (i + 1) j h.2 (by omega) (by omega)
theorem word_bytes {w : ByteArray} (h : wordD w = true) : ∀ x ∈ L w, x ≠ 44 ∧ x ≠ 32 := by
  intro x hx
  obtain ⟨j, hj, rfl⟩ := List.getElem_of_mem hx
  have hj' : j < w.size := by rw [← L_len]; exact hj
  have hb := bt_get w j hj'
  have key : 65 ≤ bt w (j : Int) ∨ bt w (j : Int) = 45 ∨ bt w (j : Int) = 39 := by
    unfold wordD at h
    simp only [Bool.and_eq_true] at h
    obtain ⟨_, ⟨h1, _⟩, h3⟩ := h
    by_cases c : j = 0
    · subst c; exact Or.inl (le_rng2 h1).1
    · have := wl_at2 w _ 1 j h3 (by omega) (by omega)
      unfold okD at this
      simp only [Bool.or_eq_true, Bool.and_eq_true, decide_eq_true_eq] at this
      rcases this with h | ⟨h, _⟩
      · exact Or.inl (le_rng2 h).1
      · exact Or.inr h
  have e44 : (44 : UInt8).toNat = 44 := rfl
  have e32 : (32 : UInt8).toNat = 32 := rfl
  constructor
  · intro e
    have := congrArg UInt8.toNat e
    omega
  · intro e
    have := congrArg UInt8.toNat e
    omega
theorem spl_mem2 (b : UInt8) (q : UInt8 → Prop) (l : List UInt8) : (∀ p ∈ spl b l, ∀ x ∈ p, q x) → ∀ x ∈ l, q x ∨ x = b := by
  induction l with
  | nil => intro _ x hx; cases hx
  | cons c cs ih =>
    intro h x hx
    rw [spl_cons] at h
    by_cases e : c = b
    · rw [if_pos e] at h
      rcases List.mem_cons.1 hx with rfl | hx
      · exact Or.inr e
      · exact ih (fun p hp => h p (List.mem_cons_of_mem _ hp)) x hx
    · rw [if_neg e] at h
      cases hs : spl b cs with
      | nil => exact absurd hs (spl_ne b cs)
      | cons p ps =>
        rw [hs] at h ih
        have h1 := h ([c] ++ p) (List.mem_cons_self)
        rcases List.mem_cons.1 hx with rfl | hx
        · exact Or.inl (h1 _ (by simp))
        · refine ih (fun r hr => ?_) x hx
          rcases List.mem_cons.1 hr with rfl | hr
          · exact fun z hz => h1 z (by simp [hz])
          · exact h r (List.mem_cons_of_mem _ hr)
theorem part_words {P : ByteArray} (h : partD P = true) (h0 : P.size ≠ 0) : (∀ w ∈ wordsOf P, 1 ≤ w.size) ∧ ∀ x ∈ L P, x ≠ 44 := by
  unfold partD at h
  rw [Bool.or_eq_true, decide_eq_true_eq] at h
  rcases h with h | h
  · exact absurd h h0
  · rw [Bool.and_eq_true] at h
    refine ⟨fun w hw => ?_, fun x hx => ?_⟩
    · have h1 := List.all_eq_true.1 h.1 w hw
      rw [Bool.and_eq_true] at h1
      exact (inD_iff.1 h1.1).1
    · have hall := spl_mem2 32 (fun x => loD (x.toNat : Int) = true) (L P) (fun p hp x hx => by
        have h1 := List.all_eq_true.1 h.1 (mkB p) (List.mem_map.2 ⟨p, hp, rfl⟩)
        rw [Bool.and_eq_true] at h1
        exact List.all_eq_true.1 h1.2 x (by rw [List.drop_zero, L_mk]; exact hx)) x hx
      rcases hall with h2 | h2
      · intro e; subst e; revert h2; decide
      · subst h2; decide
theorem joinD_L (l : List ByteArray) (h : ∀ x ∈ l, 1 ≤ x.size) : L (joinD l) = Lib.join (l.map L) [32] := by
  have := join_filter l
  rw [filter_all h] at this
  exact this.symm
theorem L_two (P F : ByteArray) (hF : 1 ≤ F.size) : L (joinD [P, F]) = if P.size = 0 then L F else L P ++ 32 :: L F := by
  have e : joinD [P, F] = glu (glu ByteArray.empty P) F := rfl
  have e0 : glu ByteArray.empty P = P := L_inj (by rw [L_glu, if_neg (fun x => x.1 rfl)]; rfl)
  rw [e, e0, L_glu]
  by_cases h : P.size = 0
  · rw [if_neg (fun x => x.1 h), if_pos h, L_nil h]; rfl
  · rw [if_pos ⟨h, by omega⟩, if_neg h]
section full
variable {G : List ByteArray} {P F S : ByteArray} (g : Gd G P F S)
include g
theorem A_free : ∀ x ∈ L (joinD [P, F]), x ≠ 44 := by
  have hF := word_in g.f
  intro x hx
  rw [L_two P F hF.1] at hx
  by_cases h : P.size = 0
  · rw [if_pos h] at hx; exact (word_bytes g.f x hx).1
  · rw [if_neg h] at hx
    rcases List.mem_append.1 hx with hx | hx
    · exact (part_words g.p h).2 x hx
    · rcases List.mem_cons.1 hx with rfl | hx
      · decide
      · exact (word_bytes g.f x hx).1
theorem A_words : wordsOf (joinD [P, F]) = (if P.size = 0 then [] else wordsOf P) ++ [F] := by
  have hF := word_in g.f
  have hf := spl_free 32 (L F) (fun x hx => (word_bytes g.f x hx).2)
  unfold wordsOf
  rw [L_two P F hF.1]
  by_cases h : P.size = 0
  · rw [if_pos h, if_pos h, hf]; simp [mk_L]
  · rw [if_neg h, if_neg h, spl_app, hf, List.map_append]; simp [mk_L]
theorem A_fam : famW (joinD [P, F]) = F := by
  unfold famW; rw [A_words g]; simp
theorem A_par : parW (joinD [P, F]) = P := by
  unfold parW
  rw [A_words g, List.dropLast_concat]
  by_cases h : P.size = 0
  · rw [if_pos h]
    apply L_inj
    rw [L_mk, L_nil h]; rfl
  · rw [if_neg h, wordsOf_L, join_spl, mk_L]
theorem G_pos : ∀ x ∈ G, 1 ≤ x.size := fun x hx => (word_in (g.gw x hx)).1
theorem B_L : L (joinD G) = Lib.join (G.map L) [32] := joinD_L G (G_pos g)
theorem B_free : ∀ x ∈ L (joinD G), x ≠ 44 := by
  rw [B_L g]
  have hw := g.gw
  clear g
  revert hw
  induction G with
  | nil => intro _ x hx; simp [Lib.join_nil] at hx
  | cons a G ih =>
    intro hw x hx
    cases G with
    | nil => rw [List.map_cons, List.map_nil, Lib.join_one] at hx; exact (word_bytes (hw a (by simp)) x hx).1
    | cons b G =>
      rw [List.map_cons, List.map_cons, join_two] at hx
      rcases List.mem_append.1 hx with hx | hx
      · exact (word_bytes (hw a (by simp)) x hx).1
      · rcases List.mem_cons.1 hx with rfl | hx
        · decide
        · exact ih (fun y hy => hw y (by simp [hy])) x (by rw [List.map_cons]; exact hx)
theorem B_words (h : G ≠ []) : wordsOf (joinD G) = G := by
  unfold wordsOf
  rw [B_L g]
  cases G with
  | nil => exact absurd rfl h
  | cons a G =>
    rw [List.map_cons, spl_join 32 (G.map L) (L a) (fun y hy => (word_bytes (g.gw a (by simp)) y hy).2) (fun l hl y hy => by
      obtain ⟨w, hw, rfl⟩ := List.mem_map.1 hl
      exact (word_bytes (g.gw w (by simp [hw])) y hy).2), ← List.map_cons, List.map_map]
    have : (mkB ∘ L) = id := by funext x; exact mk_L x
    rw [this, List.map_id]
theorem B_nil : (joinD G).size = 0 ↔ G = [] := by
  constructor
  · intro h
    cases G with
    | nil => rfl
    | cons a G =>
      have h1 := B_L g
      rw [L_nil h, List.map_cons, Lib.join_cons] at h1
      have h2 := congrArg List.length h1
      rw [List.length_append, L_len] at h2
      have := G_pos g a (by simp)
      simp at h2; omega
  · intro h; subst h; rfl
omit g in
theorem inv_L : L (invD G P F S) = if G = [] ∧ S.size = 0 then L (joinD [P, F]) else if S.size = 0 then L (joinD [P, F]) ++ 44 :: 32 :: L (joinD G) else L (joinD [P, F]) ++ 44 :: 32 :: (L (joinD G) ++ 44 :: 32 :: L S) := by
  unfold invD tailI
  have hg : G.length > 0 ↔ G ≠ [] := List.length_pos_iff
  by_cases c : G = [] ∧ S.size = 0
  · rw [if_pos c, if_neg (fun x => x.elim (fun y => hg.1 y c.1) (fun y => y c.2))]
  · have hc : G.length > 0 ∨ S.size ≠ 0 := by
      by_cases h : G = []
      · exact Or.inr (fun e => c ⟨h, e⟩)
      · exact Or.inl (hg.2 h)
    rw [if_neg c, if_pos hc]
    by_cases h : S.size = 0
    · rw [if_pos h, if_pos h]; simp only [L_append, List.append_assoc]; rfl
    · rw [if_neg h, if_neg h]; simp only [L_append, List.append_assoc]; rfl
theorem S_free : ∀ x ∈ L S, x ≠ 44 := by
  intro x hx
  rcases g.s with h | h
  · rw [L_nil h] at hx; cases hx
  · exact (word_bytes h x hx).1
theorem inv_size : (invD G P F S).size ≤ 200 := by
  have h1 := joinD_size [P, F]
  have h2 : sumB [P, F] = P.size + 1 + (F.size + 1 + 0) := rfl
  have h3 := joinD_size G
  have h4 := sumB_bulk G
  have h5 := bytes_le (G := G) (fun x hx => (word_in (g.gw x hx)).2)
  have h6 := part_size g.p
  have h7 := word_in g.f
  have h8 : S.size ≤ 12 := by rcases g.s with h | h
                              · omega
                              · exact (word_in h).2
  have h9 := g.g3
  unfold bulkS at h4
  have hl := congrArg List.length (inv_L (G := G) (P := P) (F := F) (S := S))
  rw [L_len] at hl
  rw [hl]
  split
  · rw [L_len]; omega
  · split
    · simp only [List.length_append, List.length_cons, L_len]; omega
    · simp only [List.length_append, List.length_cons, L_len]; omega
omit g in
theorem fin_yes (hg : goodN G P F S = true) : finP (invD G P F S) G P F S = (G, P, F, S, true) := by
  unfold finP; rw [if_pos hg, if_pos rfl]
theorem impl_yesP (hg : goodN G P F S = true) : implR (invD G P F S) = (G, P, F, S, true) := by
  have hz := inv_size g
  have hA := A_free g
  have hB := B_free g
  have hL := inv_L (G := G) (P := P) (F := F) (S := S)
  unfold implR
  by_cases c : G = [] ∧ S.size = 0
  · rw [if_pos c] at hL
    have e : invD G P F S = joinD [P, F] := L_inj hL
    have hs : splA (invD G P F S) = [joinD [P, F]] := by rw [e]; exact splA_none _ hA
    rw [hs, if_neg (fun x => x.elim (by simp) (by omega))]
    have e1 : implG [joinD [P, F]] = G := by rw [c.1]; exact if_neg (by simp)
    have e2 : implS [joinD [P, F]] = S := by unfold implS; rw [if_neg (by simp)]; apply L_inj; rw [L_nil c.2]
    rw [e1, e2, show prt [joinD [P, F]] 0 = joinD [P, F] from rfl, A_par g, A_fam g]
    exact fin_yes hg
  · rw [if_neg c] at hL
    by_cases h : S.size = 0
    · rw [if_pos h] at hL
      have hG : G ≠ [] := fun e => c ⟨e, h⟩
      have hs : splA (invD G P F S) = [joinD [P, F], joinD G] := by
        rw [splA_hit _ _ _ hA hL, mk_L, mk_L, splA_none _ hB]
      rw [hs, if_neg (fun x => x.elim (by simp) (by omega))]
      have e1 : implG [joinD [P, F], joinD G] = G := by
        unfold implG
        rw [if_pos ⟨by simp, fun e => hG ((B_nil g).1 e)⟩]
        exact B_words g hG
      have e2 : implS [joinD [P, F], joinD G] = S := by unfold implS; rw [if_neg (by simp)]; apply L_inj; rw [L_nil h]
      rw [e1, e2, show prt [joinD [P, F], joinD G] 0 = joinD [P, F] from rfl, A_par g, A_fam g]
      exact fin_yes hg
    · rw [if_neg h] at hL
      have hs : splA (invD G P F S) = [joinD [P, F], joinD G, S] := by
        rw [splA_hit _ _ _ hA hL, mk_L, splA_hit _ _ _ hB (L_mk _), mk_L, mk_L, splA_none _ (S_free g)]
      rw [hs, if_neg (fun x => x.elim (by simp) (by omega))]
      have e1 : implG [joinD [P, F], joinD G, S] = G := by
        unfold implG
        by_cases e : G = []
        · rw [if_neg (fun x => x.2 ((B_nil g).2 e)), e]
        · rw [if_pos ⟨by simp, fun x => e ((B_nil g).1 x)⟩]; exact B_words g e
      have e2 : implS [joinD [P, F], joinD G, S] = S := by unfold implS; rw [if_pos (by simp)]; rfl
      rw [e1, e2, show prt [joinD [P, F], joinD G, S] 0 = joinD [P, F] from rfl, A_par g, A_fam g]
      exact fin_yes hg
end full
def hyp (c : Int) : ByteArray := mkB [45, UInt8.ofNat c.toNat, 46]
def upC (c : Int) : Int := if loD c = true then c - 32 else c
def hyD (w : ByteArray) : Nat → Nat → ByteArray → ByteArray
  | 0, _, a => a
  | d + 1, i, a => hyD w d (i + 1) (if bt w (i : Int) = 45 then a ++ hyp (upC (bt w ((i + 1 : Nat) : Int))) else a)
theorem hyD_back (w : ByteArray) (d : Nat) : ∀ (i : Nat) (a : ByteArray), bt w ((i + d : Nat) : Int) ≠ 45 → hyD w (d + 1) i a = hyD w d i a := by
  induction d with
  | zero => intro i a h; simp only [hyD]; rw [if_neg (show ¬ bt w (i : Int) = 45 from h)]
  | succ d ih =>
    intro i a h
    have e : i + (d + 1) = (i + 1) + d := by omega
    rw [e] at h
    show hyD w (d + 1) (i + 1) _ = hyD w d (i + 1) _
    exact ih (i + 1) _ h
theorem hyD_front (w : ByteArray) (d i : Nat) (a : ByteArray) (h : bt w (i : Int) ≠ 45) : hyD w (d + 1) i a = hyD w d (i + 1) a := by
  show hyD w d (i + 1) _ = _
  rw [if_neg h]
theorem hyp_size (c : Int) : (hyp c).size = 3 := by unfold hyp; rw [size_mk]; rfl
theorem hyD_size (w : ByteArray) (d : Nat) : ∀ (i : Nat) (a : ByteArray), a.size ≤ (hyD w d i a).size ∧ (hyD w d i a).size ≤ a.size + 3 * d := by
  induction d with
  | zero => intro i a; exact ⟨Nat.le_refl _, Nat.le_refl _⟩
  | succ d ih =>
    intro i a
    show a.size ≤ (hyD w d (i + 1) _).size ∧ (hyD w d (i + 1) _).size ≤ _
    have := ih (i + 1) (if bt w (i : Int) = 45 then a ++ hyp (upC (bt w ((i + 1 : Nat) : Int))) else a)
    have e : (if bt w (i : Int) = 45 then a ++ hyp (upC (bt w ((i + 1 : Nat) : Int))) else a).size ≤ a.size + 3 ∧ a.size ≤ (if bt w (i : Int) = 45 then a ++ hyp (upC (bt w ((i + 1 : Nat) : Int))) else a).size := by
      split
      · rw [size_append, hyp_size]; omega
      · omega
    omega
theorem le_rng {c : Int} (h : leD c = true) : 65 ≤ c ∧ c ≤ 122 := by
  unfold leD upD loD at h
  simp only [Bool.or_eq_true, Bool.and_eq_true, decide_eq_true_eq] at h
  omega
theorem wl_at (s : ByteArray) (d : Nat) : ∀ i j : Nat, wlD s d i = true → i ≤ j → j < i + d → okD s j = true := by
  induction d with
  | zero => intro i j h h1 h2; omega
  | succ d ih =>
    intro i j h h1 h2
    unfold wlD at h
    rw [Bool.and_eq_true] at h
    by_cases e : j = i
    · rw [e]; exact h.1
    · exact ih (i + 1) j h.2 (by omega) (by omega)
structure Wrd (w : ByteArray) : Prop where
  s1 : 1 ≤ w.size
  s2 : w.size ≤ 12
  h0 : bt w ((0 : Nat) : Int) ≠ 45
  hn : bt w ((w.size - 1 : Nat) : Int) ≠ 45
  asc : ∀ j : Nat, j < w.size → 0 ≤ bt w (j : Int) ∧ bt w (j : Int) < 128
theorem wrd_of {w : ByteArray} (h : wordD w = true) : Wrd w := by
  obtain ⟨s1, s2⟩ := word_in h
  unfold wordD at h
  simp only [Bool.and_eq_true] at h
  obtain ⟨_, ⟨h1, h2⟩, h3⟩ := h
  have r1 := le_rng h1
  have e : ((w.size : Int) - 1) = ((w.size - 1 : Nat) : Int) := by omega
  rw [e] at h2
  have r2 := le_rng h2
  refine ⟨s1, s2, fun e => by rw [show ((0 : Nat) : Int) = 0 from rfl] at e; omega, fun e => by omega, fun j hj => ?_⟩
  by_cases h0 : j = 0
  · subst h0; rw [show ((0 : Nat) : Int) = 0 from rfl]; omega
  · have := wl_at w _ 1 j h3 (by omega) (by omega)
    unfold okD at this
    simp only [Bool.or_eq_true, Bool.and_eq_true, decide_eq_true_eq] at this
    rcases this with h | ⟨h, _⟩
    · have := le_rng h; omega
    · omega
theorem great_wrd {w : ByteArray} (h : greatD w = true) : Wrd w := by
  unfold greatD at h; rw [Bool.and_eq_true] at h; exact wrd_of h.1
theorem up_rng {c : Int} (h : 0 ≤ c ∧ c < 128) : 0 ≤ upC c ∧ upC c < 128 := by
  unfold upC
  split
  · rename_i e
    unfold loD at e
    simp only [Bool.and_eq_true, decide_eq_true_eq] at e
    omega
  · exact h
theorem impl_upB (c : Int) (h : 0 ≤ c ∧ c < 128) : impl_upperByte.f c = some (upC c) := by
  unfold impl_upperByte.f upC
  rw [impl_lo]
  show (if loD c = true then _ else _) = _
  cases e : loD c with
  | false => rw [if_neg (by simp), if_neg (by simp)]
  | true =>
    unfold loD at e
    simp only [Bool.and_eq_true, decide_eq_true_eq] at e
    rw [if_pos rfl, if_pos rfl]
    congr 1; omega
theorem enc_one (c : Int) (h : 0 ≤ c ∧ c < 128) : Utf8.encode (wrap32 c) = mkB [UInt8.ofNat c.toNat] := by
  have e : wrap32 c = c := by unfold wrap32; omega
  have v : Utf8.valid c = true := by unfold Utf8.valid; simp; omega
  rw [e]
  unfold Utf8.encode
  simp only [v, if_true]
  rw [if_pos (by omega)]
  rfl
theorem hyp_impl (a : ByteArray) (u : Int) : a ++ (((⟨#[45]⟩ : ByteArray) ++ mkB [UInt8.ofNat u.toNat]) ++ (⟨#[46]⟩ : ByteArray)) = a ++ hyp u := by
  apply L_inj; simp only [L_append, L_mk, hyp]; rfl
theorem hyp_spec (a : ByteArray) (u : Int) : ((a ++ (⟨#[45]⟩ : ByteArray)) ++ strOfNums [u]) ++ (⟨#[46]⟩ : ByteArray) = a ++ hyp u := by
  apply L_inj
  have e : L (strOfNums [u]) = [UInt8.ofNat u.toNat] := rfl
  simp only [L_append, L_mk, hyp, e, List.append_assoc]; rfl
theorem str_one (u : Int) : (strOfNums [u]).size = 1 := rfl
theorem one_size (n : UInt8) : (⟨#[n]⟩ : ByteArray).size = 1 := rfl
theorem spec_ini_l1 (parts : List ByteArray) (x4 : Int) (w : ByteArray) (hW : Wrd w) (G : List ByteArray) (P F S v : ByteArray) (hp : parts.length < 8796093022208) (d : Nat) : ∀ (i : Nat) (a : ByteArray), i + 1 ≤ w.size → w.size - (i + 1) = d → a.size + 3 * d ≤ 1000 →
    Ev (fun k => spec_l2Initials.l0 k (parts ++ [hyD w d i a]) (wrap64 (x4 + 1)) G P F S) v → Ev (fun k => spec_l2Initials.l1 k parts x4 w a ((i + 1 : Nat) : Int) G P F S) v := by
  induction d with
  | zero =>
    intro i a h1 h2 h3 hv
    refine Ev.step (fun k => ?_) hv
    simp only [spec_l2Initials.l1]
    rw [if_neg (by omega), if_pos hp]
    rfl
  | succ d ih =>
    intro i a h1 h2 h3 hv
    have hs := hW.s2
    have hw1 : wrap64 (((i + 1 : Nat) : Int) - 1) = (i : Int) := by rw [w64 (by omega) (by omega)]; omega
    have hw2 : wrap64 (((i + 1 : Nat) : Int) + 1) = ((i + 1 + 1 : Nat) : Int) := by rw [w64 (by omega) (by omega)]; rfl
    have b := hW.asc (i + 1) (by omega)
    have a1 : ((i + 1 : Nat) : Int) < (w.size : Int) := by omega
    have a2 : (0 : Int) ≤ (i : Int) := by omega
    have a3 : (i : Int) < (w.size : Int) := by omega
    have a4 : (0 : Int) ≤ ((i + 1 : Nat) : Int) := by omega
    have a5 : a.size + 1 ≤ 9223372036854775807 := by omega
    have hv' : Ev (fun k => spec_l2Initials.l0 k (parts ++ [hyD w d (i + 1) (if bt w (i : Int) = 45 then a ++ hyp (upC (bt w ((i + 1 : Nat) : Int))) else a)]) (wrap64 (x4 + 1)) G P F S) v := hv
    by_cases c : bt w (i : Int) = 45
    · rw [if_pos c] at hv'
      have := ih (i + 1) (a ++ hyp (upC (bt w ((i + 1 : Nat) : Int)))) (by omega) (by omega) (by rw [size_append, hyp_size]; omega) hv'
      refine Ev.step (fun k => ?_) this
      simp only [spec_l2Initials.l1]
      rw [if_pos a1, hw1, if_pos a2, if_pos a3, if_pos c, if_pos a4, spec_lo, hw2]
      simp only [Option.bind_some]
      have a6 : ∀ u : Int, (a ++ (⟨#[45]⟩ : ByteArray)).size + (strOfNums [u]).size ≤ 9223372036854775807 := fun u => by rw [size_append, str_one, one_size]; omega
      have a7 : ∀ u : Int, ((a ++ (⟨#[45]⟩ : ByteArray)) ++ strOfNums [u]).size + 1 ≤ 9223372036854775807 := fun u => by rw [size_append, size_append, str_one, one_size]; omega
      cases e : loD (bt w ((i + 1 : Nat) : Int)) with
      | false =>
        have eu : upC (bt w ((i + 1 : Nat) : Int)) = bt w ((i + 1 : Nat) : Int) := by unfold upC; rw [if_neg (by rw [e]; exact Bool.false_ne_true)]
        rw [if_neg (by simp), if_pos a5, if_pos (a6 _), if_pos (a7 _), hyp_spec, eu]
      | true =>
        have eu : upC (bt w ((i + 1 : Nat) : Int)) = bt w ((i + 1 : Nat) : Int) - 32 := by unfold upC; rw [if_pos e]
        have r := up_rng b
        rw [eu] at r
        have em : (bt w ((i + 1 : Nat) : Int) - 32) % 256 = bt w ((i + 1 : Nat) : Int) - 32 := by omega
        rw [if_pos rfl, if_pos a5, em, if_pos (a6 _), if_pos (a7 _), hyp_spec, eu]
    · rw [if_neg c] at hv'
      have := ih (i + 1) a (by omega) (by omega) (by omega) hv'
      refine Ev.step (fun k => ?_) this
      simp only [spec_l2Initials.l1]
      rw [if_pos a1, hw1, if_pos a2, if_pos a3, if_neg c, hw2]
theorem impl_ini_l1 (parts : List ByteArray) (w : ByteArray) (hW : Wrd w) (G : List ByteArray) (x11 x12 : Int) (v : ByteArray) (hp : parts.length < 8796093022208) (d : Nat) : ∀ (i : Nat) (a : ByteArray), i ≤ w.size → w.size - i = d → a.size + 3 * d ≤ 1000 →
    Ev (fun k => impl_initialsOf.l0 k (parts ++ [hyD w d i a]) G x11 (wrap64 (x12 + 1))) v → Ev (fun k => impl_initialsOf.l1 k parts w a (i : Int) G x11 x12) v := by
  induction d with
  | zero =>
    intro i a h1 h2 h3 hv
    refine Ev.step (fun k => ?_) hv
    simp only [impl_initialsOf.l1]
    rw [if_neg (by omega), if_pos hp]
    rfl
  | succ d ih =>
    intro i a h1 h2 h3 hv
    have hs := hW.s2
    have hw2 : wrap64 ((i : Int) + 1) = ((i + 1 : Nat) : Int) := by rw [w64 (by omega) (by omega)]; rfl
    have a1 : (i : Int) < (w.size : Int) := by omega
    have a2 : (0 : Int) ≤ (i : Int) := by omega
    have a4 : (0 : Int) ≤ ((i + 1 : Nat) : Int) := by omega
    have hv' : Ev (fun k => impl_initialsOf.l0 k (parts ++ [hyD w d (i + 1) (if bt w (i : Int) = 45 then a ++ hyp (upC (bt w ((i + 1 : Nat) : Int))) else a)]) G x11 (wrap64 (x12 + 1))) v := hv
    by_cases c : bt w (i : Int) = 45
    · rw [if_pos c] at hv'
      have hne : i ≠ w.size - 1 := fun e => hW.hn (by rw [← e]; exact c)
      have b := hW.asc (i + 1) (by omega)
      have a3 : ((i + 1 : Nat) : Int) < (w.size : Int) := by omega
      have := ih (i + 1) (a ++ hyp (upC (bt w ((i + 1 : Nat) : Int)))) (by omega) (by omega) (by rw [size_append, hyp_size]; omega) hv'
      refine Ev.step (fun k => ?_) this
      simp only [impl_initialsOf.l1]
      rw [if_pos a1, if_pos a2, if_pos c, hw2, if_pos a4, if_pos a3, impl_upB _ b]
      simp only [Option.bind_some]
      have s1 : (mkB [UInt8.ofNat (upC (bt w ((i + 1 : Nat) : Int))).toNat]).size = 1 := by rw [size_mk]; rfl
      rw [enc_one _ (up_rng b), s1, if_pos (by omega), if_pos (by rw [size_append, s1, one_size]; omega), if_pos (by rw [size_append, size_append, s1, one_size, one_size]; omega), hyp_impl]
    · rw [if_neg c] at hv'
      have := ih (i + 1) a (by omega) (by omega) (by omega) hv'
      refine Ev.step (fun k => ?_) this
      simp only [impl_initialsOf.l1]
      rw [if_pos a1, if_pos a2, if_neg c, hw2]
def iniD (w : ByteArray) : ByteArray := hyD w (w.size - 1) 1 (w.extract 0 1 ++ (⟨#[46]⟩ : ByteArray))
theorem head_size (w : ByteArray) (h : 1 ≤ w.size) : (w.extract 0 1 ++ (⟨#[46]⟩ : ByteArray)).size = 2 := by
  rw [size_append, ByteArray.size_extract, one_size]; omega
theorem ini_alt {w : ByteArray} (hW : Wrd w) : hyD w (w.size - 1) 0 (w.extract 0 1 ++ (⟨#[46]⟩ : ByteArray)) = iniD w := by
  unfold iniD
  rw [← hyD_front w (w.size - 1) 0 _ hW.h0]
  exact (hyD_back w (w.size - 1) 0 _ (by rw [Nat.zero_add]; exact hW.hn)).symm
theorem ini_size {w : ByteArray} (hW : Wrd w) : 1 ≤ (iniD w).size ∧ (iniD w).size ≤ 40 := by
  have h1 := hyD_size w (w.size - 1) 1 (w.extract 0 1 ++ (⟨#[46]⟩ : ByteArray))
  have h2 := head_size w hW.s1
  have h3 := hW.s2
  unfold iniD
  omega
theorem parts_sum (l : List ByteArray) (h : ∀ x ∈ l, 1 ≤ x.size ∧ x.size ≤ 40) : sumB l ≤ 41 * l.length := by
  induction l with
  | nil => exact Nat.le_refl _
  | cons a l ih =>
    have := ih (fun x hx => h x (List.mem_cons_of_mem _ hx))
    have := (h a (List.mem_cons_self)).2
    rw [sumB_cons, List.length_cons]; omega
theorem spec_ini_l0 (G : List ByteArray) (P F S : ByteArray) (hG : G.length ≤ 3) (hW : ∀ w ∈ G, Wrd w) (d : Nat) : ∀ (i : Nat) (parts : List ByteArray), i ≤ G.length → G.length - i = d → parts.length = i → (∀ x ∈ parts, 1 ≤ x.size ∧ x.size ≤ 40) →
    Ev (fun k => spec_l2Initials.l0 k parts (i : Int) G P F S) (joinD (parts ++ (G.drop i).map iniD)) := by
  induction d with
  | zero =>
    intro i parts h1 h2 h3 h4
    have hb := parts_sum parts h4
    refine Ev.step (f := fun k => (spec_l2Join.f k parts).bind fun t => some t) (fun k => ?_) (Ev.bind (spec_join parts (by omega) (by omega)) (ev_eq (Ev.now _) ?_))
    · simp only [spec_l2Initials.l0]; rw [if_neg (by omega)]
    · rw [List.drop_of_length_le (by omega), List.map_nil, List.append_nil]
  | succ d ih =>
    intro i parts h1 h2 h3 h4
    have hi : i < G.length := by omega
    have w1 := hW G[i] (List.getElem_mem hi)
    have hs := head_size G[i] w1.s1
    have hw : wrap64 ((i : Int) + 1) = ((i + 1 : Nat) : Int) := by rw [w64 (by omega) (by omega)]; rfl
    have hn := ih (i + 1) (parts ++ [iniD G[i]]) (by omega) (by omega) (by simp [h3]) (fun x hx => by
      rcases List.mem_append.1 hx with h | h
      · exact h4 x h
      · rw [List.mem_singleton.1 h]; exact ini_size w1)
    rw [← ini_alt w1, ← hw] at hn
    have h5 := w1.s1
    have h6 := w1.s2
    have h7 := spec_ini_l1 parts (i : Int) G[i] w1 G P F S _ (by omega) (G[i].size - 1) 0 _ (by omega) (by omega) (by omega) hn
    rw [List.drop_eq_getElem_cons hi, List.map_cons]
    refine Ev.step (fun k => ?_) (ev_eq h7 (by rw [ini_alt w1, List.append_assoc]; rfl))
    simp only [spec_l2Initials.l0, rd_get G i hi]
    have a0 : (0 : Nat) ≤ 1 := by omega
    rw [if_pos (by omega), if_pos (by omega), if_pos a0, if_pos (by omega), if_pos (by rw [ByteArray.size_extract]; omega)]
    rfl
theorem impl_ini_l0 (G : List ByteArray) (hG : G.length ≤ 3) (hW : ∀ w ∈ G, Wrd w) (d : Nat) : ∀ (i : Nat) (parts : List ByteArray), i ≤ G.length → G.length - i = d → parts.length = i → (∀ x ∈ parts, 1 ≤ x.size ∧ x.size ≤ 40) →
    Ev (fun k => impl_initialsOf.l0 k parts G (G.length : Int) (i : Int)) (joinD (parts ++ (G.drop i).map iniD)) := by
  induction d with
  | zero =>
    intro i parts h1 h2 h3 h4
    have hb := parts_sum parts h4
    refine Ev.step (f := fun k => (strings_Join.f parts (⟨#[32]⟩ : ByteArray)).bind fun t => some t) (fun k => ?_) (ev_bind0 (libJoin_all parts (fun x hx => (h4 x hx).1) (by omega) (by omega)) (ev_eq (Ev.now _) ?_))
    · simp only [impl_initialsOf.l0]; rw [if_neg (by omega)]
    · rw [List.drop_of_length_le (by omega), List.map_nil, List.append_nil]
  | succ d ih =>
    intro i parts h1 h2 h3 h4
    have hi : i < G.length := by omega
    have w1 := hW G[i] (List.getElem_mem hi)
    have hs := head_size G[i] w1.s1
    have hw : wrap64 ((i : Int) + 1) = ((i + 1 : Nat) : Int) := by rw [w64 (by omega) (by omega)]; rfl
    have hn := ih (i + 1) (parts ++ [iniD G[i]]) (by omega) (by omega) (by simp [h3]) (fun x hx => by
      rcases List.mem_append.1 hx with h | h
      · exact h4 x h
      · rw [List.mem_singleton.1 h]; exact ini_size w1)
    rw [← hw] at hn
    have h5 := w1.s1
    have h6 := w1.s2
    have h7 := impl_ini_l1 parts G[i] w1 G (G.length : Int) (i : Int) _ (by omega) (G[i].size - 1) 1 _ (by omega) (by omega) (by omega) hn
    rw [List.drop_eq_getElem_cons hi, List.map_cons]
    refine Ev.step (fun k => ?_) (ev_eq h7 (by rw [List.append_assoc]; rfl))
    simp only [impl_initialsOf.l0, rd_get G i hi]
    have a0 : (0 : Nat) ≤ 1 := by omega
    rw [if_pos (by omega), if_pos (by omega), if_pos (by omega), if_pos a0, if_pos (by omega), if_pos (by rw [ByteArray.size_extract]; omega)]
    rfl
def initD (G : List ByteArray) : ByteArray := joinD (G.map iniD)
theorem good_wrd {G : List ByteArray} {P F S : ByteArray} (h : goodN G P F S = true) : G.length ≤ 3 ∧ ∀ w ∈ G, Wrd w := by
  unfold goodN at h
  simp only [Bool.and_eq_true, decide_eq_true_eq] at h
  exact ⟨h.2.1, fun x hx => great_wrd (List.all_eq_true.1 h.1 x hx)⟩
theorem spec_ini (G : List ByteArray) (P F S : ByteArray) (hg : goodN G P F S = true) : Ev (fun k => spec_l2Initials.f k G P F S) (initD G) := by
  obtain ⟨h1, h2⟩ := good_wrd hg
  have := spec_ini_l0 G P F S h1 h2 _ 0 [] (by omega) rfl rfl (fun x hx => by cases hx)
  unfold spec_l2Initials.f
  exact this
theorem impl_ini (G : List ByteArray) (P F S : ByteArray) (hg : goodN G P F S = true) : Ev (fun k => impl_initialsOf.f k G P F S) (initD G) := by
  obtain ⟨h1, h2⟩ := good_wrd hg
  have := impl_ini_l0 G h1 h2 _ 0 [] (by omega) rfl rfl (fun x hx => by cases hx)
  unfold impl_initialsOf.f
  exact this
theorem init_size {G : List ByteArray} {P F S : ByteArray} (hg : goodN G P F S = true) : (initD G).size ≤ 123 := by
  obtain ⟨h1, h2⟩ := good_wrd hg
  have h3 := parts_sum (G.map iniD) (fun x hx => by obtain ⟨y, hy, rfl⟩ := List.mem_map.1 hx; exact ini_size (h2 y hy))
  have h4 := joinD_size (G.map iniD)
  rw [List.length_map] at h3
  unfold initD; omega
def shortD (G : List ByteArray) (P F : ByteArray) : ByteArray := joinD [initD G, P, F]
theorem short_sum {G : List ByteArray} {P F S : ByteArray} (hg : goodN G P F S = true) (h : bulkN G P F S ≤ 1048576) : sumB [initD G, P, F] ≤ 1048760 := by
  have h1 := init_size hg
  unfold bulkN at h
  have h4 : sumB [initD G, P, F] = (initD G).size + 1 + (P.size + 1 + (F.size + 1 + 0)) := rfl
  omega
theorem spec_short (G : List ByteArray) (P F S : ByteArray) (hg : goodN G P F S = true) (h : bulkN G P F S ≤ 1048576) : Ev (fun k => spec_l2Short.f k G P F S) (shortD G P F) := by
  have h1 := short_sum hg h
  unfold spec_l2Short.f
  exact Ev.bind (spec_ini G P F S hg) (Ev.bind (spec_join _ (by simp) (by omega)) (Ev.now _))
theorem impl_short (G : List ByteArray) (P F S : ByteArray) (hg : goodN G P F S = true) (h : bulkN G P F S ≤ 1048576) : Ev (fun k => impl_shortForm.f k G P F S) (shortD G P F) := by
  have h1 := short_sum hg h
  unfold impl_shortForm.f
  exact Ev.bind (impl_ini G P F S hg) (ev_bind0 (spaced_eq _ (by simp) (by simp) (by omega)) (Ev.now _))
end Go.Proofs.YtgingnbfihaopaaDoor.G

namespace Go.Proofs.YtgingnbfihaopaaDoor.Pure
open Go.RowKit Go.Proofs.YtgingnbfihaopaaDoor.G Go.Proofs.YtgingnbfihaopaaDoorW.PrintWords Go.Proofs.YtgingnbfihaopaaDoorW.PrintLast Go.Proofs.YtgingnbfihaopaaDoor.B Go.Proofs.YtgingnbfihaopaaDoor.Opn
set_option linter.unusedVariables false
set_option linter.unusedSimpArgs false
theorem ev_shift {α : Type} {f : Nat → Option α} {v : α} (h : Ev (fun k => f (k + 1)) v) : Ev f v := Ev.step (f := fun k => f (k + 1)) (fun _ => rfl) h
def invR (G : List ByteArray) (P F S : ByteArray) : ByteArray × Bool := if goodN G P F S = true then (invD G P F S, true) else ((⟨#[]⟩ : ByteArray), false)
theorem impl_f (G : List ByteArray) (P F S : ByteArray) (h : bulkN G P F S ≤ 1048576) : Ev (fun k => impl_InverseForm.f k G P F S) (invR G P F S) := by
  have hn : G.length ≤ bulkN G P F S ∧ P.size ≤ bulkN G P F S := by unfold bulkN bulkS; omega
  unfold impl_InverseForm.f invR
  exact Ev.bind (impl_valid G P F S (by omega) (by omega)) (ev_ite (fun hg => Ev.bind (impl_inv G P F S hg h) (Ev.now _)) (fun _ => Ev.now _))
def fullR (G : List ByteArray) (P F S : ByteArray) : ByteArray × Bool := if goodN G P F S = true then (fullD G P F S, true) else ((⟨#[]⟩ : ByteArray), false)
theorem impl_fu (G : List ByteArray) (P F S : ByteArray) (h : bulkN G P F S ≤ 1048576) : Ev (fun k => impl_FullForm.f k G P F S) (fullR G P F S) := by
  have hn : G.length ≤ bulkN G P F S ∧ P.size ≤ bulkN G P F S := by unfold bulkN bulkS; omega
  unfold impl_FullForm.f fullR
  exact Ev.bind (impl_valid G P F S (by omega) (by omega)) (ev_ite (fun hg => ev_bind0 (impl_full G P F S hg h) (Ev.now _)) (fun _ => Ev.now _))
def frmR (G : List ByteArray) (P F S : ByteArray) : ByteArray × Bool := if goodN G P F S = true then (shortD G P F, true) else ((⟨#[]⟩ : ByteArray), false)
theorem spec_sf (G : List ByteArray) (P F S : ByteArray) (h : bulkN G P F S ≤ 1048576) : Ev (fun k => spec_ShortForm.f k G P F S) (frmR G P F S) := by
  have hn : G.length ≤ bulkN G P F S ∧ P.size ≤ bulkN G P F S := by unfold bulkN bulkS; omega
  unfold spec_ShortForm.f frmR
  exact Ev.bind (spec_name G P F S (by omega) (by omega)) (ev_ite (fun hg => Ev.bind (spec_short G P F S hg h) (Ev.now _)) (fun _ => Ev.now _))
theorem impl_sf (G : List ByteArray) (P F S : ByteArray) (h : bulkN G P F S ≤ 1048576) : Ev (fun k => impl_ShortForm.f k G P F S) (frmR G P F S) := by
  have hn : G.length ≤ bulkN G P F S ∧ P.size ≤ bulkN G P F S := by unfold bulkN bulkS; omega
  unfold impl_ShortForm.f frmR
  exact Ev.bind (impl_valid G P F S (by omega) (by omega)) (ev_ite (fun hg => Ev.bind (impl_short G P F S hg h) (Ev.now _)) (fun _ => Ev.now _))
theorem vT_loop (d : Nat) : ∀ (a : List ByteArray) (i : Nat), a.length < 4611686018427387904 → a.length - i = d → i ≤ a.length → Ev (fun k => laws_vTexts.l0 k a a i) true := by
  induction d with
  | zero =>
    intro a i hm hd hi
    refine Ev.step (f := fun _ => some true) (fun k => ?_) (Ev.now _)
    simp only [laws_vTexts.l0]
    rw [if_neg (by omega)]
  | succ d ih =>
    intro a i hm hd hi
    have hlt : i < a.length := by omega
    have hw : wrap64 ((i : Int) + 1) = ((i + 1 : Nat) : Int) := by rw [w64 (by omega) (by omega)]; rfl
    refine Ev.step (f := fun k => laws_vTexts.l0 k a a ((i + 1 : Nat) : Int)) (fun k => ?_) (ih a (i + 1) hm (by omega) (by omega))
    simp only [laws_vTexts.l0]
    rw [if_pos (by omega), if_pos (by omega), if_pos (by omega), if_pos trivial, hw]
theorem vN_same (G : List ByteArray) (P F S : ByteArray) (h : G.length < 4611686018427387904) : Ev (fun k => laws_vName.f k G P F S G P F S) true := by
  unfold laws_vName.f laws_vTexts.f
  exact Ev.bind (ev_pos rfl (vT_loop G.length G 0 h rfl (by omega))) (ev_pos rfl (ev_pos rfl (ev_pos rfl (ev_eq (Ev.now _) (by simp)))))
theorem implR_cases (s : ByteArray) : implR s = none5 ∨ ∃ G P F S, implR s = (G, P, F, S, true) ∧ goodN G P F S = true ∧ (invD G P F S).toList = s.toList := by
  unfold implR
  by_cases c : 3 < (splA s).length ∨ 200 < s.size
  · exact Or.inl (if_pos c)
  · rw [if_neg c]
    generalize implG (splA s) = g
    generalize parW (prt (splA s) 0) = p
    generalize famW (prt (splA s) 0) = f
    generalize implS (splA s) = x
    by_cases hg : goodN g p f x = true
    · by_cases e : (invD g p f x).toList = s.toList
      · exact Or.inr ⟨g, p, f, x, by unfold finP; rw [if_pos hg, if_pos e], hg, e⟩
      · exact Or.inl (by unfold finP; rw [if_pos hg, if_neg e])
    · exact Or.inl (by unfold finP; rw [if_neg hg])
theorem glu_tail (s p : ByteArray) : ∃ X, L (glu s p) = X ++ L p := by
  rw [L_glu]
  by_cases c : s.size ≠ 0 ∧ p.size ≠ 0
  · rw [if_pos c]; exact ⟨L s ++ [32], by simp⟩
  · rw [if_neg c]; exact ⟨L s, rfl⟩
theorem full_tail (G : List ByteArray) (P F S : ByteArray) : ∃ X, L (fullD G P F S) = X ++ L (if S.size = 0 then F else S) := by
  show ∃ X, L (glu (glu (glu (glu ByteArray.empty (joinD G)) P) F) S) = _
  by_cases c : S.size = 0
  · rw [if_pos c, L_glu, if_neg (fun h => h.2 c), L_nil c, List.append_nil]
    exact glu_tail _ F
  · rw [if_neg c]; exact glu_tail _ S
theorem tail_ev {s t : ByteArray} {X : List UInt8} (e : L s = X ++ L t) (hs : s.size ≤ 9000000000) :
    (s.size : Int) ≥ (t.size : Int) ∧ wrap64 ((s.size : Int) - (t.size : Int)) = ((s.size - t.size : Nat) : Int) ∧ (s.extract (s.size - t.size) s.size).toList = t.toList := by
  have hl : s.size = X.length + t.size := by rw [← L_len, e, List.length_append, L_len]
  refine ⟨by omega, by rw [w64 (by omega) (by omega)]; omega, ?_⟩
  rw [toList_L, toList_L, L_extract, e, show s.size - t.size = X.length by omega, List.drop_left, List.take_of_length_le]
  rw [L_len]; omega
theorem drawI {c : List Int} (h : BtL c) : ∃ G P F S, Ev (fun k => spec_DrawInverseForm.f k c) (G, P, F, S) ∧ bulkN G P F S ≤ 200 := by
  unfold spec_DrawInverseForm.f spec_DrawIsValidName.f
  obtain ⟨G, P, F, S, a, s, hE, hB, b, c'⟩ := any_ex h 0 0 (by omega) (by omega)
  exact ⟨G, P, F, S, Ev.bind (Ev.bind hE (Ev.now _)) (Ev.now _), hB⟩
theorem inv_len (G : List ByteArray) (P F S : ByteArray) (h : bulkN G P F S ≤ 100) : (invD G P F S).size ≤ 300 := by
  have h1 := joinD_size G
  have h2 := joinD_size [P, F]
  have h3 : sumB [P, F] = P.size + 1 + (F.size + 1 + 0) := rfl
  rw [sumB_bulk] at h1
  unfold bulkN at h
  have hc : cmB.size = 2 := rfl
  unfold invD tailI
  split
  · split
    · rw [size_append, size_append]; omega
    · rw [size_append, size_append, size_append, size_append]; omega
  · omega
theorem drawP {c : List Int} (h : BtL c) : ∃ t, Ev (fun k => spec_DrawParseInverse.f k c) t ∧ t.size ≤ 1000 := by
  unfold spec_DrawParseInverse.f
  obtain ⟨G, P, F, S, a, s, hE, hB, b, c'⟩ := name_ex h 0 0 (by omega) (by omega)
  have hl := inv_len G P F S hB
  obtain ⟨q, a2, s2, e2, b2, c2⟩ := one_ex h a s 3 (by omega) (by omega) (by omega)
  cases q with
  | true =>
    obtain ⟨x, a3, s3, e3, hx, b3, c3⟩ := spoilt_ex h a2 s2 (invD G P F S) (⟨#[97, 44, 32, 66, 74, 45, 39]⟩ : ByteArray) (by omega) (by omega) (by omega) (by decide) (by decide)
    exact ⟨x, Ev.bind hE (Ev.bind (spec_inv G P F S (by omega)) (ev_bind0 e2 (ev_pos rfl (ev_bind0 e3 (Ev.now _))))), by omega⟩
  | false => exact ⟨_, Ev.bind hE (Ev.bind (spec_inv G P F S (by omega)) (ev_bind0 e2 (ev_neg (by simp) (Ev.now _)))), by omega⟩
theorem last_ev (full : ByteArray × Bool) (shr : ByteArray × Bool) (x5 : Bool) (t : ByteArray) (e : full.2 = x5) (ht : x5 = true → ∃ X, L full.1 = X ++ L t) (hs : full.1.size ≤ 9000000000) :
    Ev (fun _ => (if (full.2 == x5) = true then (if (shr.2 == shr.2) = true then (if shr.1.toList = shr.1.toList then (if x5 = true then (if (full.1.size : Int) ≥ (t.size : Int) then (if 0 ≤ (wrap64 ((full.1.size : Int) - (t.size : Int))) then (if (wrap64 ((full.1.size : Int) - (t.size : Int))) ≤ (full.1.size : Int) then (some ((full.1.extract ((wrap64 ((full.1.size : Int) - (t.size : Int))) : Int).toNat full.1.size).toList == t.toList)) else (none)) else (none)) else (some false)) else (some true)) else (some false)) else (some false)) else (some false))) true := by
  refine ev_pos (by simp [e]) (ev_pos (by simp) (ev_pos rfl ?_))
  by_cases c : x5 = true
  · obtain ⟨X, hX⟩ := ht c
    obtain ⟨h1, h2, h3⟩ := tail_ev hX hs
    rw [h2, Int.toNat_natCast, h3]
    exact ev_pos c (ev_pos h1 (ev_pos (by omega) (ev_pos (by omega) (ev_eq (Ev.now _) (by simp)))))
  · exact ev_neg c (Ev.now _)
theorem j1_ev (G : List ByteArray) (P F S : ByteArray) (h : bulkN G P F S ≤ 1048576) : Ev (fun k => laws_FnNameForms.j1 k (goodN G P F S) false G P F S) true := by
  apply ev_shift
  simp only [laws_FnNameForms.j1]
  have hf2 : (fullR G P F S).2 = goodN G P F S := by unfold fullR; cases goodN G P F S <;> rfl
  have hfs : (fullR G P F S).1.size ≤ 9000000000 := by
    unfold fullR
    split
    · have := joinD_size [joinD G, P, F, S]
      have h4 := (full_sum G P F S h).2
      show (joinD [joinD G, P, F, S]).size ≤ _
      omega
    · show 0 ≤ _; omega
  have ht : goodN G P F S = true → ∃ X, L (fullR G P F S).1 = X ++ L (if S.size = 0 then F else S) := fun g => by
    unfold fullR; rw [if_pos g]; exact full_tail G P F S
  refine ev_neg (by decide) (Ev.bind (impl_fu G P F S h) (Ev.bind (impl_sf G P F S h) (Ev.bind (spec_sf G P F S h) ?_)))
  by_cases z : S.size = 0
  · rw [if_pos z] at ht
    exact ev_pos ((nil_iff S).2 z) (last_ev _ _ _ F hf2 ht hfs)
  · rw [if_neg z] at ht
    exact ev_neg (fun e => z ((nil_iff S).1 e)) (last_ev _ _ _ S hf2 ht hfs)
theorem j0_ev {c : List Int} (hc : BtL c) (G : List ByteArray) (P F S : ByteArray) (h : bulkN G P F S ≤ 1048576) : Ev (fun k => laws_FnNameForms.j0 k c (goodN G P F S) false G P F S) true := by
  apply ev_shift
  simp only [laws_FnNameForms.j0]
  obtain ⟨t, hd, ht⟩ := drawP hc
  have hj := j1_ev G P F S h
  refine ev_neg (by decide) (Ev.bind hd (Ev.bind (impl_parse t (by omega)) ?_))
  rcases implR_cases t with e | ⟨G', P', F', S', e, hg, hi⟩
  · rw [e]
    exact Ev.bind (impl_f [] (⟨#[]⟩ : ByteArray) (⟨#[]⟩ : ByteArray) (⟨#[]⟩ : ByteArray) (by decide)) (ev_neg (by decide) hj)
  · rw [e]
    have hb := good_bulk hg
    have hr : invR G' P' F' S' = (invD G' P' F' S', true) := by unfold invR; rw [if_pos hg]
    have := impl_f G' P' F' S' (by omega)
    rw [hr] at this
    refine Ev.bind this (ev_pos rfl (ev_pos rfl ?_))
    have e2 : ((invD G' P' F' S').toList != t.toList) = false := by rw [hi]; simp
    show Ev (fun k => laws_FnNameForms.j1 k (goodN G P F S) ((invD G' P' F' S').toList != t.toList) G P F S) true
    rw [e2]
    exact hj
theorem FnNameForms : laws_FnNameForms.Pur := by
  intro l0 hl
  apply Ev.rounds
  unfold laws_FnNameForms.f laws_vBig.f
  refine ev_bind0 (a := decide ((l0.length : Int) > 65536)) rfl ?_
  by_cases c : (l0.length : Int) > 65536
  · exact ev_pos (by simpa using c) (Ev.now _)
  refine ev_neg (by simpa using c) ?_
  have hb := bt_of hl (by omega)
  obtain ⟨G, P, F, S, hd, hB⟩ := drawI hb
  have hn : G.length ≤ bulkN G P F S ∧ P.size ≤ bulkN G P F S := by unfold bulkN bulkS; omega
  have hj := j0_ev hb G P F S (by omega)
  have hi := impl_f G P F S (by omega)
  have hv : Ev (fun k => spec_IsValidName.f k G P F S) (goodN G P F S) := by
    unfold spec_IsValidName.f
    exact Ev.bind (spec_name G P F S (by omega) (by omega)) (Ev.now _)
  have hv' := impl_valid G P F S (by omega) (by omega)
  by_cases g : goodN G P F S = true
  · have hr : invR G P F S = (invD G P F S, true) := by unfold invR; rw [if_pos g]
    have hz := inv_size (gd_of g)
    rw [hr] at hi
    rw [g] at hj hv hv'
    have hp := impl_parse (invD G P F S) (by omega)
    rw [impl_yesP (gd_of g) g] at hp
    refine Ev.bind hd (Ev.bind hi (Ev.bind hp (Ev.bind hv (ev_neg (by simp) (Ev.bind hv' (ev_neg (by simp) (ev_pos rfl (ev_pos rfl (Ev.bind (vN_same G P F S (by omega)) ?_)))))))))
    exact hj
  · have hr : invR G P F S = ((⟨#[]⟩ : ByteArray), false) := by unfold invR; rw [if_neg g]
    have g' : goodN G P F S = false := Bool.eq_false_iff.2 g
    rw [hr] at hi
    rw [g'] at hj hv hv'
    have hp := impl_parse (⟨#[]⟩ : ByteArray) (by decide)
    exact Ev.bind hd (Ev.bind hi (Ev.bind hp (Ev.bind hv (ev_neg (by simp) (Ev.bind hv' (ev_neg (by simp) (ev_neg (by simp) hj)))))))
end Go.Proofs.YtgingnbfihaopaaDoor.Pure
